/- Several texts in one. -/
import Derived.Test.YtilfphdeacogmaaZ4
import Derived.Test.YtilfphdeacogmaaZ2
import Derived.Test.YtilfphdeacogmaaZ1

set_option linter.unusedSimpArgs false
set_option linter.unusedVariables false
set_option linter.unusedSectionVars false
/- Functions of the program in plain Lean, joined to the program by evaluation; printed by a program. -/
namespace Go.Proofs.Ytilfphdeacogmaa.En
open Go Go.Proofs
set_option maxRecDepth 100000
set_option maxHeartbeats 8000000
set_option linter.unusedVariables false
noncomputable def e_clone {R : Type} (s : List UInt8 -> Option (List UInt8)) (ds : List D) (K : List D -> Option R) : Option R :=
  match ds with
  | [.v (.bytes x0) .no] => bnd1 (s x0) fun r0 => K [dY r0]
  | _ => none
abbrev Q_clone (s : List UInt8 -> Option (List UInt8)) : Prop := ∀ x0 r0, s x0 = some r0 -> PureRet Try.prog T 60 [dY x0] [dY r0]
theorem eo_clone (s : List UInt8 -> Option (List UInt8)) (hs : Q_clone s) : EntOK Try.prog T ⟨60, e_clone s⟩ := by
  refine ⟨goes_of Try.func60 (by kernel_rfl) (c := bodyOf Try.f60) (by kernel_rfl), fun R ds K r h => ?_, fun R ds K => ?_⟩
  . simp only [e_clone] at h
    split at h
    . obtain ⟨r0, h1, h2⟩ := bnd1_some h
      exact ⟨_, h2, hs _ _ h1⟩
    . cases h
  . simp only [e_clone]
    split
    . rw [bnd1_b]; rfl
    . rfl
abbrev Ty0 := Int -> Int -> Int -> Bool -> Int -> Bool -> List UInt8 -> Int -> Option (List UInt8 × Int)
noncomputable def e_bEncode {R : Type} (s : Ty0) (ds : List D) (K : List D -> Option R) : Option R :=
  match ds with
  | [.agg [.v (.int .i64 x0) .no, .v (.int .i64 x1) .no, .v (.int .i64 x2) .no, .v (.bool x3) .no, .v (.int .i64 x4) .no, .v (.bool x5) .no, .v (.bytes x6) .no], .v (.int .i64 x7) .no] => bnd2 (s x0 x1 x2 x3 x4 x5 x6 x7) fun r0 r1 => K [dY r0, dI r1]
  | _ => none
abbrev Q_bEncode (s : Ty0) : Prop := ∀ x0 x1 x2 x3 x4 x5 x6 x7 r0 r1, s x0 x1 x2 x3 x4 x5 x6 x7 = some (r0, r1) -> PureRet Try.prog T 95 [g0a x0 x1 x2 x3 x4 x5 x6, dI x7] [dY r0, dI r1]
theorem eo_bEncode (s : Ty0) (hs : Q_bEncode s) : EntOK Try.prog T ⟨95, e_bEncode s⟩ := by
  refine ⟨goes_of Try.func95 (by kernel_rfl) (c := bodyOf Try.f95) (by kernel_rfl), fun R ds K r h => ?_, fun R ds K => ?_⟩
  . simp only [e_bEncode] at h
    split at h
    . obtain ⟨r0, r1, h1, h2⟩ := bnd2_some h
      exact ⟨_, h2, hs _ _ _ _ _ _ _ _ _ _ h1⟩
    . cases h
  . simp only [e_bEncode]
    split
    . rw [bnd2_b]; rfl
    . rfl
abbrev Ty1 := List UInt8 -> Int -> Option (Int × Int × Int × Bool × Int × Bool × List UInt8 × Int)
noncomputable def e_bDecode {R : Type} (s : Ty1) (ds : List D) (K : List D -> Option R) : Option R :=
  match ds with
  | [.v (.bytes x0) .no, .v (.int .i64 x1) .no] => bnd8 (s x0 x1) fun r0 r1 r2 r3 r4 r5 r6 r7 => K [.agg [dI r0, dI r1, dI r2, dB r3, dI r4, dB r5, dY r6], dI r7]
  | _ => none
abbrev Q_bDecode (s : Ty1) : Prop := ∀ x0 x1 r0 r1 r2 r3 r4 r5 r6 r7, s x0 x1 = some (r0, r1, r2, r3, r4, r5, r6, r7) -> PureRet Try.prog T 79 [dY x0, dI x1] [g0a r0 r1 r2 r3 r4 r5 r6, dI r7]
theorem eo_bDecode (s : Ty1) (hs : Q_bDecode s) : EntOK Try.prog T ⟨79, e_bDecode s⟩ := by
  refine ⟨goes_of Try.func79 (by kernel_rfl) (c := bodyOf Try.f79) (by kernel_rfl), fun R ds K r h => ?_, fun R ds K => ?_⟩
  . simp only [e_bDecode] at h
    split at h
    . obtain ⟨r0, r1, r2, r3, r4, r5, r6, r7, h1, h2⟩ := bnd8_some h
      exact ⟨_, h2, hs _ _ _ _ _ _ _ _ _ _ h1⟩
    . cases h
  . simp only [e_bDecode]
    split
    . rw [bnd8_b]; rfl
    . rfl
abbrev Ty2 := Int -> Int -> Int -> Bool -> Int -> Bool -> List UInt8 -> Int -> Int -> Int -> Bool -> Int -> Bool -> List UInt8 -> Option (Bool)
noncomputable def e_bSame {R : Type} (s : Ty2) (ds : List D) (K : List D -> Option R) : Option R :=
  match ds with
  | [.agg [.v (.int .i64 x0) .no, .v (.int .i64 x1) .no, .v (.int .i64 x2) .no, .v (.bool x3) .no, .v (.int .i64 x4) .no, .v (.bool x5) .no, .v (.bytes x6) .no], .agg [.v (.int .i64 x7) .no, .v (.int .i64 x8) .no, .v (.int .i64 x9) .no, .v (.bool x10) .no, .v (.int .i64 x11) .no, .v (.bool x12) .no, .v (.bytes x13) .no]] => bnd1 (s x0 x1 x2 x3 x4 x5 x6 x7 x8 x9 x10 x11 x12 x13) fun r0 => K [dB r0]
  | _ => none
abbrev Q_bSame (s : Ty2) : Prop := ∀ x0 x1 x2 x3 x4 x5 x6 x7 x8 x9 x10 x11 x12 x13 r0, s x0 x1 x2 x3 x4 x5 x6 x7 x8 x9 x10 x11 x12 x13 = some r0 -> PureRet Try.prog T 45 [g0a x0 x1 x2 x3 x4 x5 x6, g0a x7 x8 x9 x10 x11 x12 x13] [dB r0]
theorem eo_bSame (s : Ty2) (hs : Q_bSame s) : EntOK Try.prog T ⟨45, e_bSame s⟩ := by
  refine ⟨goes_of Try.func45 (by kernel_rfl) (c := bodyOf Try.f45) (by kernel_rfl), fun R ds K r h => ?_, fun R ds K => ?_⟩
  . simp only [e_bSame] at h
    split at h
    . obtain ⟨r0, h1, h2⟩ := bnd1_some h
      exact ⟨_, h2, hs _ _ _ _ _ _ _ _ _ _ _ _ _ _ _ h1⟩
    . cases h
  . simp only [e_bSame]
    split
    . rw [bnd1_b]; rfl
    . rfl
noncomputable def e_cSize {R : Type} (s : Int -> Option (Int)) (ds : List D) (K : List D -> Option R) : Option R :=
  match ds with
  | [.v (.int .i64 x0) .no] => bnd1 (s x0) fun r0 => K [dI r0]
  | _ => none
noncomputable def r_cSize (rs : List D) (_ : Mem) : Option (Int) :=
  match rs with
  | [.v (.int .i64 r0) _] => some (r0)
  | _ => none
noncomputable def s_cSize (N : Nat) (x0 : Int) : Option (Int) := br (decide (x0 = 0)) (some 1) (br (decide (x0 = 1)) (some 2) (some 0))
noncomputable def cx_cSize (N : Nat) : Cx := cxO [] []
theorem s_cSize_ok (N : Nat) (x0 : _) : bodyK (cx_cSize N) Try.f78 [dI x0] [] r_cSize = s_cSize N x0 := by
  kernel_rfl
abbrev Q_cSize (s : Int -> Option (Int)) : Prop := ∀ x0 r0, s x0 = some r0 -> PureRet Try.prog T 78 [dI x0] [dI r0]
theorem eo_cSize (s : Int -> Option (Int)) (hs : Q_cSize s) : EntOK Try.prog T ⟨78, e_cSize s⟩ := by
  refine ⟨goes_of Try.func78 (by kernel_rfl) (c := bodyOf Try.f78) (by kernel_rfl), fun R ds K r h => ?_, fun R ds K => ?_⟩
  . simp only [e_cSize] at h
    split at h
    . obtain ⟨r0, h1, h2⟩ := bnd1_some h
      exact ⟨_, h2, hs _ _ h1⟩
    . cases h
  . simp only [e_cSize]
    split
    . rw [bnd1_b]; rfl
    . rfl
theorem p_cSize (N : Nat) : Q_cSize (s_cSize N) := fun x0 r0 h => pure_of (cx := cx_cSize N) (by kernel_rfl) (cxO_ok trivial trivial) Try.func78 (by kernel_rfl) (by kernel_rfl) (loopsOK_of (k := 0) (by kernel_rfl) trivial) (by rfl) (by rfl) (by rfl) (rf := r_cSize) ((s_cSize_ok ..).trans h) (fun rs' m h => by
    unfold r_cSize at h
    split at h
    . cases h; exact ⟨rfl, rfl⟩
    . cases h)
noncomputable def e_oSplit {R : Type} (s : List UInt8 -> Int -> Option (List V × Int)) (ds : List D) (K : List D -> Option R) : Option R :=
  match ds with
  | [.v (.bytes x0) .no, .v (.int .i64 x1) .no] => bnd2 (s x0 x1) fun r0 r1 => K [.v (.sl 27 r0) .no, dI r1]
  | _ => none
noncomputable def r_oSplit (rs : List D) (_ : Mem) : Option (List V × Int) :=
  match rs with
  | [.v (.sl 27 r0) _, .v (.int .i64 r1) _] => some (r0, r1)
  | _ => none
noncomputable def F_oSplit_5 {R : Type} (N : Nat) (n0 : Int) (Lq : List V -> List UInt8 -> Option R) (K0 : List V -> Option R) (vs1 : List V) (l2 : List UInt8) : Option R := br (decide (0 < (l2.length : Int))) (br (decide (0 <= match false with | true => max n0 (l2.length : Int) | false => min n0 (l2.length : Int)) && decide ((match false with | true => max n0 (l2.length : Int) | false => min n0 (l2.length : Int)) <= (l2.length : Int))) (bnd1 (s_clone N (List.take (match false with | true => max n0 (l2.length : Int) | false => min n0 (l2.length : Int)).toNat l2)) fun l0 => br (decide ((vs1.length + [V.bytes l0].length) * 24 <= 140737488355328)) (br (decide (0 <= match false with | true => max n0 (l2.length : Int) | false => min n0 (l2.length : Int)) && decide ((match false with | true => max n0 (l2.length : Int) | false => min n0 (l2.length : Int)) <= (l2.length : Int))) (Lq (vs1 ++ [V.bytes l0]) (List.drop (match false with | true => max n0 (l2.length : Int) | false => min n0 (l2.length : Int)).toNat l2)) none) none) none) (K0 vs1)
noncomputable def S_oSplit_5 {R : Type} (N : Nat) (n0 : Int) : Nat -> List V -> List UInt8 -> (List V -> Option R) -> Option R | 0, _, _, _ => none | t + 1, vs1, l2, K0 => F_oSplit_5 N n0 (fun vs1 l2 => S_oSplit_5 N n0 t vs1 l2 K0) K0 vs1 l2
noncomputable def l_oSplit_5 {R : Type} (N : Nat) (ds : List D) (m : Mem) (K : Ex -> List D -> Mem -> Option R) : Option R :=
  match ds, m with
  | [(.v (.int .i64 n0) .no), (.v (.sl 27 vs1) (.own (.slot 6) 27)), (.v (.bytes l2) .no)], [[]] => S_oSplit_5 N n0 N vs1 l2 (fun a0 => K (.exit 0) [(.v (.sl 27 a0) (.own (.slot 6) 27))] [[]])
  | _, _ => none
noncomputable def s_oSplit (N : Nat) (x0 : List UInt8) (x1 : Int) : Option (List V × Int) := br (decide (x1 < 1)) (some ([], 1)) (S_oSplit_5 N x1 N [] x0 fun l0 => some (l0, 0))
noncomputable def cx_oSplit (N : Nat) : Cx := { T := T, isPure := tabP [⟨60, e_clone (s_clone N)⟩], pureK := fun g ds K => tabK [⟨60, e_clone (s_clone N)⟩] g ds K, memK := fun g dst ds m K => tabMK [] g dst ds m K, meth := tabM [], keep := fun r => match r with | 5 => [1, 6, 7] | _ => [], keepX := fun r => match r with | 5 => [6] | _ => [], loopT := fun r ds m K => match r with | 5 => l_oSplit_5 N ds m K | _ => none, jumps := 9 }
theorem F_oSplit_5_ok {R : Type} (N : Nat) (n0 : Int) (vs1 : List V) (l2 : List UInt8) (L : List D -> Mem -> Option R) (K : Ex -> List D -> Mem -> Option R) :
    roundK (fun st K => codeK (cx_oSplit N) (loopN Try.f85 0) st K) 30 [1, 6, 7] [6] L [(dI n0), (.v (.sl 27 vs1) (.own (.slot 6) 27)), (dY l2)] [[]] K = F_oSplit_5 N n0 (fun vs1 l2 => L [(dI n0), (.v (.sl 27 vs1) (.own (.slot 6) 27)), (dY l2)] [[]]) (fun a0 => K (.exit 0) [(.v (.sl 27 a0) (.own (.slot 6) 27))] [[]]) vs1 l2 := by
  kernel_rfl
theorem S_oSplit_5_ok {R : Type} (N : Nat) (n0 : Int) (K : Ex -> List D -> Mem -> Option R) : ∀ (t : Nat) (vs1 : List V) (l2 : List UInt8),
    loopK (fun st K => codeK (cx_oSplit N) (loopN Try.f85 0) st K) 30 [1, 6, 7] [6] t [(dI n0), (.v (.sl 27 vs1) (.own (.slot 6) 27)), (dY l2)] [[]] K = S_oSplit_5 N n0 t vs1 l2 (fun a0 => K (.exit 0) [(.v (.sl 27 a0) (.own (.slot 6) 27))] [[]])
  | 0, vs1, l2 => rfl
  | t + 1, vs1, l2 => (F_oSplit_5_ok N n0 vs1 l2 _ K).trans (congrArg (fun L => F_oSplit_5 N n0 L (fun a0 => K (.exit 0) [(.v (.sl 27 a0) (.own (.slot 6) 27))] [[]]) vs1 l2) (funext fun vs1 => funext fun l2 => S_oSplit_5_ok N n0 K t vs1 l2))
theorem s_oSplit_ok (N : Nat) (x0 x1 : _) : bodyK (cx_oSplit N) Try.f85 [dY x0, dI x1] [] r_oSplit = s_oSplit N x0 x1 := by
  kernel_rfl
abbrev Q_oSplit (s : List UInt8 -> Int -> Option (List V × Int)) : Prop := ∀ x0 x1 r0 r1, s x0 x1 = some (r0, r1) -> PureRet Try.prog T 85 [dY x0, dI x1] [.v (.sl 27 r0) .no, dI r1]
theorem eo_oSplit (s : List UInt8 -> Int -> Option (List V × Int)) (hs : Q_oSplit s) : EntOK Try.prog T ⟨85, e_oSplit s⟩ := by
  refine ⟨goes_of Try.func85 (by kernel_rfl) (c := bodyOf Try.f85) (by kernel_rfl), fun R ds K r h => ?_, fun R ds K => ?_⟩
  . simp only [e_oSplit] at h
    split at h
    . obtain ⟨r0, r1, h1, h2⟩ := bnd2_some h
      exact ⟨_, h2, hs _ _ _ _ h1⟩
    . cases h
  . simp only [e_oSplit]
    split
    . rw [bnd2_b]; rfl
    . rfl
theorem co_oSplit (N : Nat) : CxOK Try.prog (cx_oSplit N) :=
  cxOK_of2 (es := [⟨60, e_clone (s_clone N)⟩]) (me := []) (ms := []) T_ok ⟨eo_clone _ (p_clone N), trivial⟩ trivial trivial rfl (fun _ _ _ _ => rfl) (fun _ _ _ _ _ _ => rfl) rfl
theorem lk_oSplit_5 (N : Nat) : LoopOK (cx_oSplit N) 30 (loopN Try.f85 0) := by
  refine loopOK_of (rid := 5) (by kernel_rfl) rfl rfl fun R ds m K r h => ?_
  have h : l_oSplit_5 N ds m K = some r := h
  unfold l_oSplit_5 at h
  split at h
  . exact ⟨N, Eq.trans (S_oSplit_5_ok ..) h⟩
  . cases h
theorem lo_oSplit (N : Nat) : LoopsOK (cx_oSplit N) Try.f85.ntmps (bodyOf Try.f85) :=
  loopsOK_of (k := 1) (by kernel_rfl) ⟨trivial, lk_oSplit_5 N⟩
theorem p_oSplit (N : Nat) : Q_oSplit (s_oSplit N) := fun x0 x1 r0 r1 h => pure_of (cx := cx_oSplit N) (by kernel_rfl) (co_oSplit N) Try.func85 (by kernel_rfl) (by kernel_rfl) (lo_oSplit N) (by rfl) (by rfl) (by rfl) (rf := r_oSplit) ((s_oSplit_ok ..).trans h) (fun rs' m h => by
    unfold r_oSplit at h
    split at h
    . cases h; exact ⟨rfl, rfl⟩
    . cases h)
noncomputable def e_valid {R : Type} (s : Int -> Int -> Option (Bool)) (ds : List D) (K : List D -> Option R) : Option R :=
  match ds with
  | [.v (.int .i64 x0) .no, .v (.int .i64 x1) .no] => bnd1 (s x0 x1) fun r0 => K [dB r0]
  | _ => none
noncomputable def r_valid (rs : List D) (_ : Mem) : Option (Bool) :=
  match rs with
  | [.v (.bool r0) _] => some (r0)
  | _ => none
noncomputable def s_valid (N : Nat) (x0 x1 : Int) : Option (Bool) := br (decide (1 <= x0)) (br (decide (x0 <= 254)) (bnd1 (s_cSize N x1) fun n0 => some (decide (0 < n0))) (some false)) (some false)
noncomputable def cx_valid (N : Nat) : Cx := cxO [⟨78, e_cSize (s_cSize N)⟩] []
theorem s_valid_ok (N : Nat) (x0 x1 : _) : bodyK (cx_valid N) Try.f41 [dI x0, dI x1] [] r_valid = s_valid N x0 x1 := by
  kernel_rfl
abbrev Q_valid (s : Int -> Int -> Option (Bool)) : Prop := ∀ x0 x1 r0, s x0 x1 = some r0 -> PureRet Try.prog T 41 [dI x0, dI x1] [dB r0]
theorem eo_valid (s : Int -> Int -> Option (Bool)) (hs : Q_valid s) : EntOK Try.prog T ⟨41, e_valid s⟩ := by
  refine ⟨goes_of Try.func41 (by kernel_rfl) (c := bodyOf Try.f41) (by kernel_rfl), fun R ds K r h => ?_, fun R ds K => ?_⟩
  . simp only [e_valid] at h
    split at h
    . obtain ⟨r0, h1, h2⟩ := bnd1_some h
      exact ⟨_, h2, hs _ _ _ h1⟩
    . cases h
  . simp only [e_valid]
    split
    . rw [bnd1_b]; rfl
    . rfl
theorem p_valid (N : Nat) : Q_valid (s_valid N) := fun x0 x1 r0 h => pure_of (cx := cx_valid N) (by kernel_rfl) (cxO_ok ⟨eo_cSize _ (p_cSize N), trivial⟩ trivial) Try.func41 (by kernel_rfl) (by kernel_rfl) (loopsOK_of (k := 0) (by kernel_rfl) trivial) (by rfl) (by rfl) (by rfl) (rf := r_valid) ((s_valid_ok ..).trans h) (fun rs' m h => by
    unfold r_valid at h
    split at h
    . cases h; exact ⟨rfl, rfl⟩
    . cases h)
abbrev Ty3 := Int -> Int -> Int -> Bool -> Int -> Bool -> List UInt8 -> Option (Int)
noncomputable def e_tsize {R : Type} (s : Ty3) (ds : List D) (K : List D -> Option R) : Option R :=
  match ds with
  | [.agg [.v (.int .i64 x0) .no, .v (.int .i64 x1) .no, .v (.int .i64 x2) .no, .v (.bool x3) .no, .v (.int .i64 x4) .no, .v (.bool x5) .no, .v (.bytes x6) .no]] => bnd1 (s x0 x1 x2 x3 x4 x5 x6) fun r0 => K [dI r0]
  | _ => none
noncomputable def s_tsize (N : Nat) (x0 x1 x2 : Int) (x3 : Bool) (x4 : Int) (x5 : Bool) (x6 : List UInt8) : Option (Int) := br (!decide ((x6.length : Int) = 1)) (some 0) (br (decide (0 < (x6.length : Int))) (at? x6 0 fun u0 => br (decide (254 < IntKind.i64.wrap (u0.toNat : Int))) (some 0) (br (decide (0 < (x6.length : Int))) (at? x6 0 fun u1 => some (IntKind.i64.wrap (u1.toNat : Int))) none)) none)
noncomputable def cx_tsize (N : Nat) : Cx := cxO [] []
theorem s_tsize_ok (N : Nat) (x0 x1 x2 x3 x4 x5 x6 : _) : bodyK (cx_tsize N) Try.f83 [g0a x0 x1 x2 x3 x4 x5 x6] [] r_cSize = s_tsize N x0 x1 x2 x3 x4 x5 x6 := by
  kernel_rfl
abbrev Q_tsize (s : Ty3) : Prop := ∀ x0 x1 x2 x3 x4 x5 x6 r0, s x0 x1 x2 x3 x4 x5 x6 = some r0 -> PureRet Try.prog T 83 [g0a x0 x1 x2 x3 x4 x5 x6] [dI r0]
theorem eo_tsize (s : Ty3) (hs : Q_tsize s) : EntOK Try.prog T ⟨83, e_tsize s⟩ := by
  refine ⟨goes_of Try.func83 (by kernel_rfl) (c := bodyOf Try.f83) (by kernel_rfl), fun R ds K r h => ?_, fun R ds K => ?_⟩
  . simp only [e_tsize] at h
    split at h
    . obtain ⟨r0, h1, h2⟩ := bnd1_some h
      exact ⟨_, h2, hs _ _ _ _ _ _ _ _ h1⟩
    . cases h
  . simp only [e_tsize]
    split
    . rw [bnd1_b]; rfl
    . rfl
theorem p_tsize (N : Nat) : Q_tsize (s_tsize N) := fun x0 x1 x2 x3 x4 x5 x6 r0 h => pure_of (cx := cx_tsize N) (by kernel_rfl) (cxO_ok trivial trivial) Try.func83 (by kernel_rfl) (by kernel_rfl) (loopsOK_of (k := 0) (by kernel_rfl) trivial) (by rfl) (by rfl) (by rfl) (rf := r_cSize) ((s_tsize_ok ..).trans h) (fun rs' m h => by
    unfold r_cSize at h
    split at h
    . cases h; exact ⟨rfl, rfl⟩
    . cases h)
abbrev Ty4 := Int -> Int -> Int -> Int -> Int -> List UInt8 -> Int -> List V -> List UInt8 -> Int -> List UInt8 -> Option (Bool)
noncomputable def e_cMade {R : Type} (s : Ty4) (dst : Nat) (ds : List D) (m : Mem) (K : List D -> Mem -> Option R) : Option R :=
  match ds with
  | [.ptr (kv0 + 1) sv0 0] => viewK [(kv0, sv0)] m fun Bs => (match Bs with
    | [⟨77, [.v (.int .i64 y0) .no, .v (.int .i64 y1) .no, .v (.int .i64 y2) .no, .v (.int .i64 y3) .no, .v (.int .i64 y4) .no, .v (.bytes y5) _, .v (.int .i64 y6) .no, .v (.sl 27 y7) _, .v (.bytes y8) (.own (.slot 0) 5), .v (.int .i64 y9) .no, .v (.bytes y10) _]⟩] => bnd1 (s y0 y1 y2 y3 y4 y5 y6 y7 y8 y9 y10) fun r0 => putAllK [(kv0, sv0)] [⟨77, [.v (.int .i64 y0) .no, .v (.int .i64 y1) .no, .v (.int .i64 y2) .no, .v (.int .i64 y3) .no, .v (.int .i64 y4) .no, .v (.bytes y5) .no, .v (.int .i64 y6) .no, .v (.sl 27 y7) .no, .v (.bytes y8) (.own (.slot 0) 5), .v (.int .i64 y9) .no, .v (.bytes y10) .no]⟩] m fun m' => K [.v (.bool r0) .no] m'
    | _ => none)
  | _ => none
noncomputable def r_cMade {α : Type} (K : Bool -> Int -> Int -> Int -> Int -> Int -> List UInt8 -> Int -> List V -> List UInt8 -> Int -> List UInt8 -> Option α) (rs : List D) (m : Mem) : Option α :=
  match rs, m with
  | [.v (.bool r0) _], [_, [(0, ⟨77, [.v (.int .i64 z0) .no, .v (.int .i64 z1) .no, .v (.int .i64 z2) .no, .v (.int .i64 z3) .no, .v (.int .i64 z4) .no, .v (.bytes z5) _, .v (.int .i64 z6) .no, .v (.sl 27 z7) _, .v (.bytes z8) (.own (.slot 0) 5), .v (.int .i64 z9) .no, .v (.bytes z10) _]⟩)]] => K r0 z0 z1 z2 z3 z4 z5 z6 z7 z8 z9 z10
  | _, _ => none
noncomputable def C_cMade {R : Type} (N : Nat) (y0 y1 y2 y3 y4 : Int) (y5 : List UInt8) (y6 : Int) (y7 : List V) (y8 : List UInt8) (y9 : Int) (y10 : List UInt8) (K0 : Bool -> Option R) : Option R := K0 (decide (0 < y1))
noncomputable def s_cMade (N : Nat) (y0 y1 y2 y3 y4 : Int) (y5 : List UInt8) (y6 : Int) (y7 : List V) (y8 : List UInt8) (y9 : Int) (y10 : List UInt8) : Option (Bool) := C_cMade N y0 y1 y2 y3 y4 y5 y6 y7 y8 y9 y10 (fun r0 => some r0)
noncomputable def cx_cMade (N : Nat) : Cx := cxO [] []
abbrev g1a (a0 a1 a2 a3 a4 : Int) (a5 : List UInt8) (a6 : Int) (a7 : List V) (a8 : List UInt8) (a9 : Int) (a10 : List UInt8) : Bx := ⟨77, [dI a0, dI a1, dI a2, dI a3, dI a4, dY a5, dI a6, .v (.sl 27 a7) .no, .v (.bytes a8) (.own (.slot 0) 5), dI a9, dY a10]⟩
theorem C_cMade_ok {R : Type} (N : Nat) (y0 y1 y2 y3 y4 y5 y6 y7 y8 y9 y10 K : _) : bodyK (R := R) (cx_cMade N) Try.f43 [.ptr 1 0 0] [frOf 0 [g1a y0 y1 y2 y3 y4 y5 y6 y7 y8 y9 y10]] (r_cMade K) = C_cMade N y0 y1 y2 y3 y4 y5 y6 y7 y8 y9 y10 (fun r0 => K r0 y0 y1 y2 y3 y4 y5 y6 y7 y8 y9 y10) := by
  kernel_rfl
abbrev Q_cMade (s : Ty4) : Prop := ∀ y0 y1 y2 y3 y4 y5 y6 y7 y8 y9 y10 r0, s y0 y1 y2 y3 y4 y5 y6 y7 y8 y9 y10 = some r0 -> ViewRet Try.prog T 43 [.ptr 1 0 0] [g1a y0 y1 y2 y3 y4 y5 y6 y7 y8 y9 y10] [dB r0] [g1a y0 y1 y2 y3 y4 y5 y6 y7 y8 y9 y10]
theorem eo_cMade (s : Ty4) (hs : Q_cMade s) : MEntOK Try.prog T ⟨43, e_cMade s⟩ := by
  refine ⟨goes_of Try.func43 (by kernel_rfl) (c := bodyOf Try.f43) (by kernel_rfl), fun R dst ds m K r h => ?_⟩
  simp only [e_cMade] at h
  split at h
  . obtain ⟨Bs, a1, a2, a3, h⟩ := viewK_some h
    split at h
    . obtain ⟨r0, h1, h2⟩ := bnd1_some h
      rw [putAllK_eq] at h2
      exact ⟨_, _, h2, ViewRet.weakIn (hs _ _ _ _ _ _ _ _ _ _ _ _ h1) (by exact ⟨⟨rfl, .inl rfl, .inl rfl, .inl rfl, .inl rfl, .inl rfl, .inr ⟨_, _, rfl, rfl⟩, .inl rfl, .inr ⟨_, _, rfl, rfl⟩, .inl rfl, .inl rfl, .inr ⟨_, _, rfl, rfl⟩, trivial⟩, trivial⟩) rfl _ _ m dst a1 a2 a3 ⟨aren_ptr _ rfl, trivial⟩⟩
    . cases h
  . cases h
open Classical in
theorem p_cMade (N : Nat) : Q_cMade (s_cMade N) := fun y0 y1 y2 y3 y4 y5 y6 y7 y8 y9 y10 r0 h => by
  refine view_ofW (cx := cx_cMade N) (by kernel_rfl) (cxO_ok trivial trivial) Try.func43 (by kernel_rfl) (by kernel_rfl) (loopsOK_of (k := 0) (by kernel_rfl) trivial) (by rfl) (by rfl) (by rfl) (rf := r_cMade (fun r0' z'0 z'1 z'2 z'3 z'4 z'5 z'6 z'7 z'8 z'9 z'10 => if z'0 = y0 /\ z'1 = y1 /\ z'2 = y2 /\ z'3 = y3 /\ z'4 = y4 /\ z'5 = y5 /\ z'6 = y6 /\ z'7 = y7 /\ z'8 = y8 /\ z'9 = y9 /\ z'10 = y10 then some r0' else none)) (r := r0) ?_ ?_
  . exact (C_cMade_ok ..).trans ((congrArg (fun K => C_cMade N y0 y1 y2 y3 y4 y5 y6 y7 y8 y9 y10 K) (funext fun r0' => if_pos ⟨rfl, rfl, rfl, rfl, rfl, rfl, rfl, rfl, rfl, rfl, rfl⟩)).trans h)
  . intro rs' m' hx
    unfold r_cMade at hx
    split at hx
    . dsimp only at hx
      split at hx
      . rename_i hk
        obtain ⟨rfl, rfl, rfl, rfl, rfl, rfl, rfl, rfl, rfl, rfl, rfl⟩ := hk
        cases hx; exact ⟨rfl, rfl, _, [⟨77, [_, _, _, _, _, _, _, _, _, _, _]⟩], rfl, rfl, ⟨⟨rfl, .inl rfl, .inl rfl, .inl rfl, .inl rfl, .inl rfl, .inr ⟨_, _, rfl, rfl⟩, .inl rfl, .inr ⟨_, _, rfl, rfl⟩, .inl rfl, .inl rfl, .inr ⟨_, _, rfl, rfl⟩, trivial⟩, trivial⟩⟩
      . cases hx
    . cases hx
abbrev Ty5 := Int -> Int -> Int -> Bool -> Int -> Bool -> List UInt8 -> Int -> Int -> Int -> Int -> Int -> List UInt8 -> Int -> List V -> List UInt8 -> Int -> List UInt8 -> Option (List UInt8)
noncomputable def e_cEnc {R : Type} (s : Ty5) (dst : Nat) (ds : List D) (m : Mem) (K : List D -> Mem -> Option R) : Option R :=
  match ds with
  | [.ptr (kv0 + 1) sv0 0, .agg [.v (.int .i64 x0) .no, .v (.int .i64 x1) .no, .v (.int .i64 x2) .no, .v (.bool x3) .no, .v (.int .i64 x4) .no, .v (.bool x5) .no, .v (.bytes x6) .no]] => viewK [(kv0, sv0)] m fun Bs => (match Bs with
    | [⟨77, [.v (.int .i64 y0) .no, .v (.int .i64 y1) .no, .v (.int .i64 y2) .no, .v (.int .i64 y3) .no, .v (.int .i64 y4) .no, .v (.bytes y5) _, .v (.int .i64 y6) .no, .v (.sl 27 y7) _, .v (.bytes y8) (.own (.slot 0) 5), .v (.int .i64 y9) .no, .v (.bytes y10) _]⟩] => bnd1 (s x0 x1 x2 x3 x4 x5 x6 y0 y1 y2 y3 y4 y5 y6 y7 y8 y9 y10) fun r0 => putAllK [(kv0, sv0)] [⟨77, [.v (.int .i64 y0) .no, .v (.int .i64 y1) .no, .v (.int .i64 y2) .no, .v (.int .i64 y3) .no, .v (.int .i64 y4) .no, .v (.bytes y5) .no, .v (.int .i64 y6) .no, .v (.sl 27 y7) .no, .v (.bytes y8) (.own (.slot 0) 5), .v (.int .i64 y9) .no, .v (.bytes y10) .no]⟩] m fun m' => K [.v (.bytes r0) .no] m'
    | _ => none)
  | _ => none
noncomputable def r_cEnc {α : Type} (K : List UInt8 -> Int -> Int -> Int -> Int -> Int -> List UInt8 -> Int -> List V -> List UInt8 -> Int -> List UInt8 -> Option α) (rs : List D) (m : Mem) : Option α :=
  match rs, m with
  | [.v (.bytes r0) _], [_, [(0, ⟨77, [.v (.int .i64 z0) .no, .v (.int .i64 z1) .no, .v (.int .i64 z2) .no, .v (.int .i64 z3) .no, .v (.int .i64 z4) .no, .v (.bytes z5) _, .v (.int .i64 z6) .no, .v (.sl 27 z7) _, .v (.bytes z8) (.own (.slot 0) 5), .v (.int .i64 z9) .no, .v (.bytes z10) _]⟩)]] => K r0 z0 z1 z2 z3 z4 z5 z6 z7 z8 z9 z10
  | _, _ => none
noncomputable def C_cEnc {R : Type} (N : Nat) (x0 x1 x2 : Int) (x3 : Bool) (x4 : Int) (x5 : Bool) (x6 : List UInt8) (y0 y1 y2 y3 y4 : Int) (y5 : List UInt8) (y6 : Int) (y7 : List V) (y8 : List UInt8) (y9 : Int) (y10 : List UInt8) (K0 : List UInt8 -> Option R) : Option R := bnd2 (s_bEncode N x0 x1 x2 x3 x4 x5 x6 y0) fun l0 n1 => K0 l0
noncomputable def s_cEnc (N : Nat) (x0 x1 x2 : Int) (x3 : Bool) (x4 : Int) (x5 : Bool) (x6 : List UInt8) (y0 y1 y2 y3 y4 : Int) (y5 : List UInt8) (y6 : Int) (y7 : List V) (y8 : List UInt8) (y9 : Int) (y10 : List UInt8) : Option (List UInt8) := C_cEnc N x0 x1 x2 x3 x4 x5 x6 y0 y1 y2 y3 y4 y5 y6 y7 y8 y9 y10 (fun r0 => some r0)
noncomputable def cx_cEnc (N : Nat) : Cx := cxO [⟨95, e_bEncode (s_bEncode N)⟩] []
theorem C_cEnc_ok {R : Type} (N : Nat) (x0 x1 x2 x3 x4 x5 x6 y0 y1 y2 y3 y4 y5 y6 y7 y8 y9 y10 K : _) : bodyK (R := R) (cx_cEnc N) Try.f81 [.ptr 1 0 0, g0a x0 x1 x2 x3 x4 x5 x6] [frOf 0 [g1a y0 y1 y2 y3 y4 y5 y6 y7 y8 y9 y10]] (r_cEnc K) = C_cEnc N x0 x1 x2 x3 x4 x5 x6 y0 y1 y2 y3 y4 y5 y6 y7 y8 y9 y10 (fun r0 => K r0 y0 y1 y2 y3 y4 y5 y6 y7 y8 y9 y10) := by
  kernel_rfl
abbrev Q_cEnc (s : Ty5) : Prop := ∀ x0 x1 x2 x3 x4 x5 x6 y0 y1 y2 y3 y4 y5 y6 y7 y8 y9 y10 r0, s x0 x1 x2 x3 x4 x5 x6 y0 y1 y2 y3 y4 y5 y6 y7 y8 y9 y10 = some r0 -> ViewRet Try.prog T 81 [.ptr 1 0 0, g0a x0 x1 x2 x3 x4 x5 x6] [g1a y0 y1 y2 y3 y4 y5 y6 y7 y8 y9 y10] [dY r0] [g1a y0 y1 y2 y3 y4 y5 y6 y7 y8 y9 y10]
theorem eo_cEnc (s : Ty5) (hs : Q_cEnc s) : MEntOK Try.prog T ⟨81, e_cEnc s⟩ := by
  refine ⟨goes_of Try.func81 (by kernel_rfl) (c := bodyOf Try.f81) (by kernel_rfl), fun R dst ds m K r h => ?_⟩
  simp only [e_cEnc] at h
  split at h
  . obtain ⟨Bs, a1, a2, a3, h⟩ := viewK_some h
    split at h
    . obtain ⟨r0, h1, h2⟩ := bnd1_some h
      rw [putAllK_eq] at h2
      exact ⟨_, _, h2, ViewRet.weakIn (hs _ _ _ _ _ _ _ _ _ _ _ _ _ _ _ _ _ _ _ h1) (by exact ⟨⟨rfl, .inl rfl, .inl rfl, .inl rfl, .inl rfl, .inl rfl, .inr ⟨_, _, rfl, rfl⟩, .inl rfl, .inr ⟨_, _, rfl, rfl⟩, .inl rfl, .inl rfl, .inr ⟨_, _, rfl, rfl⟩, trivial⟩, trivial⟩) rfl _ _ m dst a1 a2 a3 ⟨aren_ptr _ rfl, aren_agg ⟨aren_v _, aren_v _, aren_v _, aren_v _, aren_v _, aren_v _, aren_v _, trivial⟩, trivial⟩⟩
    . cases h
  . cases h
open Classical in
theorem p_cEnc (N : Nat) : Q_cEnc (s_cEnc N) := fun x0 x1 x2 x3 x4 x5 x6 y0 y1 y2 y3 y4 y5 y6 y7 y8 y9 y10 r0 h => by
  refine view_ofW (cx := cx_cEnc N) (by kernel_rfl) (cxO_ok ⟨eo_bEncode _ (p_bEncode N), trivial⟩ trivial) Try.func81 (by kernel_rfl) (by kernel_rfl) (loopsOK_of (k := 0) (by kernel_rfl) trivial) (by rfl) (by rfl) (by rfl) (rf := r_cEnc (fun r0' z'0 z'1 z'2 z'3 z'4 z'5 z'6 z'7 z'8 z'9 z'10 => if z'0 = y0 /\ z'1 = y1 /\ z'2 = y2 /\ z'3 = y3 /\ z'4 = y4 /\ z'5 = y5 /\ z'6 = y6 /\ z'7 = y7 /\ z'8 = y8 /\ z'9 = y9 /\ z'10 = y10 then some r0' else none)) (r := r0) ?_ ?_
  . exact (C_cEnc_ok ..).trans ((congrArg (fun K => C_cEnc N x0 x1 x2 x3 x4 x5 x6 y0 y1 y2 y3 y4 y5 y6 y7 y8 y9 y10 K) (funext fun r0' => if_pos ⟨rfl, rfl, rfl, rfl, rfl, rfl, rfl, rfl, rfl, rfl, rfl⟩)).trans h)
  . intro rs' m' hx
    unfold r_cEnc at hx
    split at hx
    . dsimp only at hx
      split at hx
      . rename_i hk
        obtain ⟨rfl, rfl, rfl, rfl, rfl, rfl, rfl, rfl, rfl, rfl, rfl⟩ := hk
        cases hx; exact ⟨rfl, rfl, _, [⟨77, [_, _, _, _, _, _, _, _, _, _, _]⟩], rfl, rfl, ⟨⟨rfl, .inl rfl, .inl rfl, .inl rfl, .inl rfl, .inl rfl, .inr ⟨_, _, rfl, rfl⟩, .inl rfl, .inr ⟨_, _, rfl, rfl⟩, .inl rfl, .inl rfl, .inr ⟨_, _, rfl, rfl⟩, trivial⟩, trivial⟩⟩
      . cases hx
    . cases hx
abbrev Ty6 := List UInt8 -> Int -> Int -> Int -> Int -> Int -> List UInt8 -> Int -> List V -> List UInt8 -> Int -> List UInt8 -> Option (Int × Int × Int × Bool × Int × Bool × List UInt8 × Int)
noncomputable def e_cDecode {R : Type} (s : Ty6) (dst : Nat) (ds : List D) (m : Mem) (K : List D -> Mem -> Option R) : Option R :=
  match ds with
  | [.ptr (kv0 + 1) sv0 0, .v (.bytes x0) .no] => viewK [(kv0, sv0)] m fun Bs => (match Bs with
    | [⟨77, [.v (.int .i64 y0) .no, .v (.int .i64 y1) .no, .v (.int .i64 y2) .no, .v (.int .i64 y3) .no, .v (.int .i64 y4) .no, .v (.bytes y5) _, .v (.int .i64 y6) .no, .v (.sl 27 y7) _, .v (.bytes y8) (.own (.slot 0) 5), .v (.int .i64 y9) .no, .v (.bytes y10) _]⟩] => bnd8 (s x0 y0 y1 y2 y3 y4 y5 y6 y7 y8 y9 y10) fun r0 r1 r2 r3 r4 r5 r6 r7 => putAllK [(kv0, sv0)] [⟨77, [.v (.int .i64 y0) .no, .v (.int .i64 y1) .no, .v (.int .i64 y2) .no, .v (.int .i64 y3) .no, .v (.int .i64 y4) .no, .v (.bytes y5) .no, .v (.int .i64 y6) .no, .v (.sl 27 y7) .no, .v (.bytes y8) (.own (.slot 0) 5), .v (.int .i64 y9) .no, .v (.bytes y10) .no]⟩] m fun m' => K [.agg [.v (.int .i64 r0) .no, .v (.int .i64 r1) .no, .v (.int .i64 r2) .no, .v (.bool r3) .no, .v (.int .i64 r4) .no, .v (.bool r5) .no, .v (.bytes r6) .no], .v (.int .i64 r7) .no] m'
    | _ => none)
  | _ => none
noncomputable def r_cDecode {α : Type} (K : Int -> Int -> Int -> Bool -> Int -> Bool -> List UInt8 -> Int -> Int -> Int -> Int -> Int -> Int -> List UInt8 -> Int -> List V -> List UInt8 -> Int -> List UInt8 -> Option α) (rs : List D) (m : Mem) : Option α :=
  match rs, m with
  | [.agg [.v (.int .i64 r0) _, .v (.int .i64 r1) _, .v (.int .i64 r2) _, .v (.bool r3) _, .v (.int .i64 r4) _, .v (.bool r5) _, .v (.bytes r6) _], .v (.int .i64 r7) _], [_, [(0, ⟨77, [.v (.int .i64 z0) .no, .v (.int .i64 z1) .no, .v (.int .i64 z2) .no, .v (.int .i64 z3) .no, .v (.int .i64 z4) .no, .v (.bytes z5) _, .v (.int .i64 z6) .no, .v (.sl 27 z7) _, .v (.bytes z8) (.own (.slot 0) 5), .v (.int .i64 z9) .no, .v (.bytes z10) _]⟩)]] => K r0 r1 r2 r3 r4 r5 r6 r7 z0 z1 z2 z3 z4 z5 z6 z7 z8 z9 z10
  | _, _ => none
noncomputable def C_cDecode {R : Type} (N : Nat) (x0 : List UInt8) (y0 y1 y2 y3 y4 : Int) (y5 : List UInt8) (y6 : Int) (y7 : List V) (y8 : List UInt8) (y9 : Int) (y10 : List UInt8) (K0 : Int -> Int -> Int -> Bool -> Int -> Bool -> List UInt8 -> Int -> Option R) : Option R := bnd8 (s_bDecode N x0 y0) fun n0 n1 n2 b3 n4 b5 l6 n7 => br (decide (n7 = 6)) (K0 n0 n1 n2 b3 n4 b5 l6 1) (br (!decide (n7 = 0)) (K0 n0 n1 n2 b3 n4 b5 l6 2) (br (!decide (n0 = 0)) (K0 n0 n1 n2 b3 n4 b5 l6 2) (br (decide (n1 = 0)) (br (decide (y1 < (l6.length : Int))) (K0 n0 n1 n2 b3 n4 b5 l6 2) (K0 n0 n1 n2 b3 n4 b5 l6 0)) (K0 n0 n1 n2 b3 n4 b5 l6 0))))
noncomputable def s_cDecode (N : Nat) (x0 : List UInt8) (y0 y1 y2 y3 y4 : Int) (y5 : List UInt8) (y6 : Int) (y7 : List V) (y8 : List UInt8) (y9 : Int) (y10 : List UInt8) : Option (Int × Int × Int × Bool × Int × Bool × List UInt8 × Int) := C_cDecode N x0 y0 y1 y2 y3 y4 y5 y6 y7 y8 y9 y10 (fun r0 r1 r2 r3 r4 r5 r6 r7 => some (r0, r1, r2, r3, r4, r5, r6, r7))
noncomputable def cx_cDecode (N : Nat) : Cx := cxO [⟨79, e_bDecode (s_bDecode N)⟩] []
theorem C_cDecode_ok {R : Type} (N : Nat) (x0 y0 y1 y2 y3 y4 y5 y6 y7 y8 y9 y10 K : _) : bodyK (R := R) (cx_cDecode N) Try.f44 [.ptr 1 0 0, dY x0] [frOf 0 [g1a y0 y1 y2 y3 y4 y5 y6 y7 y8 y9 y10]] (r_cDecode K) = C_cDecode N x0 y0 y1 y2 y3 y4 y5 y6 y7 y8 y9 y10 (fun r0 r1 r2 r3 r4 r5 r6 r7 => K r0 r1 r2 r3 r4 r5 r6 r7 y0 y1 y2 y3 y4 y5 y6 y7 y8 y9 y10) := by
  kernel_rfl
abbrev Q_cDecode (s : Ty6) : Prop := ∀ x0 y0 y1 y2 y3 y4 y5 y6 y7 y8 y9 y10 r0 r1 r2 r3 r4 r5 r6 r7, s x0 y0 y1 y2 y3 y4 y5 y6 y7 y8 y9 y10 = some (r0, r1, r2, r3, r4, r5, r6, r7) -> ViewRet Try.prog T 44 [.ptr 1 0 0, dY x0] [g1a y0 y1 y2 y3 y4 y5 y6 y7 y8 y9 y10] [g0a r0 r1 r2 r3 r4 r5 r6, dI r7] [g1a y0 y1 y2 y3 y4 y5 y6 y7 y8 y9 y10]
theorem eo_cDecode (s : Ty6) (hs : Q_cDecode s) : MEntOK Try.prog T ⟨44, e_cDecode s⟩ := by
  refine ⟨goes_of Try.func44 (by kernel_rfl) (c := bodyOf Try.f44) (by kernel_rfl), fun R dst ds m K r h => ?_⟩
  simp only [e_cDecode] at h
  split at h
  . obtain ⟨Bs, a1, a2, a3, h⟩ := viewK_some h
    split at h
    . obtain ⟨r0, r1, r2, r3, r4, r5, r6, r7, h1, h2⟩ := bnd8_some h
      rw [putAllK_eq] at h2
      exact ⟨_, _, h2, ViewRet.weakIn (hs _ _ _ _ _ _ _ _ _ _ _ _ _ _ _ _ _ _ _ _ h1) (by exact ⟨⟨rfl, .inl rfl, .inl rfl, .inl rfl, .inl rfl, .inl rfl, .inr ⟨_, _, rfl, rfl⟩, .inl rfl, .inr ⟨_, _, rfl, rfl⟩, .inl rfl, .inl rfl, .inr ⟨_, _, rfl, rfl⟩, trivial⟩, trivial⟩) rfl _ _ m dst a1 a2 a3 ⟨aren_ptr _ rfl, aren_v _, trivial⟩⟩
    . cases h
  . cases h
open Classical in
theorem p_cDecode (N : Nat) : Q_cDecode (s_cDecode N) := fun x0 y0 y1 y2 y3 y4 y5 y6 y7 y8 y9 y10 r0 r1 r2 r3 r4 r5 r6 r7 h => by
  refine view_ofW (cx := cx_cDecode N) (by kernel_rfl) (cxO_ok ⟨eo_bDecode _ (p_bDecode N), trivial⟩ trivial) Try.func44 (by kernel_rfl) (by kernel_rfl) (loopsOK_of (k := 0) (by kernel_rfl) trivial) (by rfl) (by rfl) (by rfl) (rf := r_cDecode (fun r0' r1' r2' r3' r4' r5' r6' r7' z'0 z'1 z'2 z'3 z'4 z'5 z'6 z'7 z'8 z'9 z'10 => if z'0 = y0 /\ z'1 = y1 /\ z'2 = y2 /\ z'3 = y3 /\ z'4 = y4 /\ z'5 = y5 /\ z'6 = y6 /\ z'7 = y7 /\ z'8 = y8 /\ z'9 = y9 /\ z'10 = y10 then some (r0', r1', r2', r3', r4', r5', r6', r7') else none)) (r := (r0, r1, r2, r3, r4, r5, r6, r7)) ?_ ?_
  . exact (C_cDecode_ok ..).trans ((congrArg (fun K => C_cDecode N x0 y0 y1 y2 y3 y4 y5 y6 y7 y8 y9 y10 K) (funext fun r0' => funext fun r1' => funext fun r2' => funext fun r3' => funext fun r4' => funext fun r5' => funext fun r6' => funext fun r7' => if_pos ⟨rfl, rfl, rfl, rfl, rfl, rfl, rfl, rfl, rfl, rfl, rfl⟩)).trans h)
  . intro rs' m' hx
    unfold r_cDecode at hx
    split at hx
    . dsimp only at hx
      split at hx
      . rename_i hk
        obtain ⟨rfl, rfl, rfl, rfl, rfl, rfl, rfl, rfl, rfl, rfl, rfl⟩ := hk
        cases hx; exact ⟨rfl, rfl, _, [⟨77, [_, _, _, _, _, _, _, _, _, _, _]⟩], rfl, rfl, ⟨⟨rfl, .inl rfl, .inl rfl, .inl rfl, .inl rfl, .inl rfl, .inr ⟨_, _, rfl, rfl⟩, .inl rfl, .inr ⟨_, _, rfl, rfl⟩, .inl rfl, .inl rfl, .inr ⟨_, _, rfl, rfl⟩, trivial⟩, trivial⟩⟩
      . cases hx
    . cases hx
abbrev Ty7 := Int -> Int -> Int -> Int -> Int -> Int -> List UInt8 -> Int -> List V -> List UInt8 -> Int -> List UInt8 -> Option (List UInt8)
noncomputable def e_cReady {R : Type} (s : Ty7) (dst : Nat) (ds : List D) (m : Mem) (K : List D -> Mem -> Option R) : Option R :=
  match ds with
  | [.ptr (kv0 + 1) sv0 0, .v (.int .i64 x0) .no] => viewK [(kv0, sv0)] m fun Bs => (match Bs with
    | [⟨77, [.v (.int .i64 y0) .no, .v (.int .i64 y1) .no, .v (.int .i64 y2) .no, .v (.int .i64 y3) .no, .v (.int .i64 y4) .no, .v (.bytes y5) _, .v (.int .i64 y6) .no, .v (.sl 27 y7) _, .v (.bytes y8) (.own (.slot 0) 5), .v (.int .i64 y9) .no, .v (.bytes y10) _]⟩] => bnd1 (s x0 y0 y1 y2 y3 y4 y5 y6 y7 y8 y9 y10) fun r0 => putAllK [(kv0, sv0)] [⟨77, [.v (.int .i64 y0) .no, .v (.int .i64 y1) .no, .v (.int .i64 y2) .no, .v (.int .i64 y3) .no, .v (.int .i64 y4) .no, .v (.bytes y5) .no, .v (.int .i64 y6) .no, .v (.sl 27 y7) .no, .v (.bytes y8) (.own (.slot 0) 5), .v (.int .i64 y9) .no, .v (.bytes y10) .no]⟩] m fun m' => K [.v (.bytes r0) .no] m'
    | _ => none)
  | _ => none
noncomputable def C_cReady {R : Type} (N : Nat) (x0 y0 y1 y2 y3 y4 : Int) (y5 : List UInt8) (y6 : Int) (y7 : List V) (y8 : List UInt8) (y9 : Int) (y10 : List UInt8) (K0 : List UInt8 -> Option R) : Option R := bnd1 (s_cEnc N 0 1 y3 false x0 false [] y0 y1 y2 y3 y4 y5 y6 y7 y8 y9 y10) fun l0 => K0 l0
noncomputable def s_cReady (N : Nat) (x0 y0 y1 y2 y3 y4 : Int) (y5 : List UInt8) (y6 : Int) (y7 : List V) (y8 : List UInt8) (y9 : Int) (y10 : List UInt8) : Option (List UInt8) := C_cReady N x0 y0 y1 y2 y3 y4 y5 y6 y7 y8 y9 y10 (fun r0 => some r0)
noncomputable def cx_cReady (N : Nat) : Cx := cxO [] [⟨81, e_cEnc (s_cEnc N)⟩]
theorem C_cReady_ok {R : Type} (N : Nat) (x0 y0 y1 y2 y3 y4 y5 y6 y7 y8 y9 y10 K : _) : bodyK (R := R) (cx_cReady N) Try.f47 [.ptr 1 0 0, dI x0] [frOf 0 [g1a y0 y1 y2 y3 y4 y5 y6 y7 y8 y9 y10]] (r_cEnc K) = C_cReady N x0 y0 y1 y2 y3 y4 y5 y6 y7 y8 y9 y10 (fun r0 => K r0 y0 y1 y2 y3 y4 y5 y6 y7 y8 y9 y10) := by
  kernel_rfl
abbrev Q_cReady (s : Ty7) : Prop := ∀ x0 y0 y1 y2 y3 y4 y5 y6 y7 y8 y9 y10 r0, s x0 y0 y1 y2 y3 y4 y5 y6 y7 y8 y9 y10 = some r0 -> ViewRet Try.prog T 47 [.ptr 1 0 0, dI x0] [g1a y0 y1 y2 y3 y4 y5 y6 y7 y8 y9 y10] [dY r0] [g1a y0 y1 y2 y3 y4 y5 y6 y7 y8 y9 y10]
theorem eo_cReady (s : Ty7) (hs : Q_cReady s) : MEntOK Try.prog T ⟨47, e_cReady s⟩ := by
  refine ⟨goes_of Try.func47 (by kernel_rfl) (c := bodyOf Try.f47) (by kernel_rfl), fun R dst ds m K r h => ?_⟩
  simp only [e_cReady] at h
  split at h
  . obtain ⟨Bs, a1, a2, a3, h⟩ := viewK_some h
    split at h
    . obtain ⟨r0, h1, h2⟩ := bnd1_some h
      rw [putAllK_eq] at h2
      exact ⟨_, _, h2, ViewRet.weakIn (hs _ _ _ _ _ _ _ _ _ _ _ _ _ h1) (by exact ⟨⟨rfl, .inl rfl, .inl rfl, .inl rfl, .inl rfl, .inl rfl, .inr ⟨_, _, rfl, rfl⟩, .inl rfl, .inr ⟨_, _, rfl, rfl⟩, .inl rfl, .inl rfl, .inr ⟨_, _, rfl, rfl⟩, trivial⟩, trivial⟩) rfl _ _ m dst a1 a2 a3 ⟨aren_ptr _ rfl, aren_v _, trivial⟩⟩
    . cases h
  . cases h
open Classical in
theorem p_cReady (N : Nat) : Q_cReady (s_cReady N) := fun x0 y0 y1 y2 y3 y4 y5 y6 y7 y8 y9 y10 r0 h => by
  refine view_ofW (cx := cx_cReady N) (by kernel_rfl) (cxO_ok trivial ⟨eo_cEnc _ (p_cEnc N), trivial⟩) Try.func47 (by kernel_rfl) (by kernel_rfl) (loopsOK_of (k := 0) (by kernel_rfl) trivial) (by rfl) (by rfl) (by rfl) (rf := r_cEnc (fun r0' z'0 z'1 z'2 z'3 z'4 z'5 z'6 z'7 z'8 z'9 z'10 => if z'0 = y0 /\ z'1 = y1 /\ z'2 = y2 /\ z'3 = y3 /\ z'4 = y4 /\ z'5 = y5 /\ z'6 = y6 /\ z'7 = y7 /\ z'8 = y8 /\ z'9 = y9 /\ z'10 = y10 then some r0' else none)) (r := r0) ?_ ?_
  . exact (C_cReady_ok ..).trans ((congrArg (fun K => C_cReady N x0 y0 y1 y2 y3 y4 y5 y6 y7 y8 y9 y10 K) (funext fun r0' => if_pos ⟨rfl, rfl, rfl, rfl, rfl, rfl, rfl, rfl, rfl, rfl, rfl⟩)).trans h)
  . intro rs' m' hx
    unfold r_cEnc at hx
    split at hx
    . dsimp only at hx
      split at hx
      . rename_i hk
        obtain ⟨rfl, rfl, rfl, rfl, rfl, rfl, rfl, rfl, rfl, rfl, rfl⟩ := hk
        cases hx; exact ⟨rfl, rfl, _, [⟨77, [_, _, _, _, _, _, _, _, _, _, _]⟩], rfl, rfl, ⟨⟨rfl, .inl rfl, .inl rfl, .inl rfl, .inl rfl, .inl rfl, .inr ⟨_, _, rfl, rfl⟩, .inl rfl, .inr ⟨_, _, rfl, rfl⟩, .inl rfl, .inl rfl, .inr ⟨_, _, rfl, rfl⟩, trivial⟩, trivial⟩⟩
      . cases hx
    . cases hx
abbrev Ty8 := Int -> Bool -> List UInt8 -> Int -> Int -> Int -> Int -> Int -> List UInt8 -> Int -> List V -> List UInt8 -> Int -> List UInt8 -> Option (List UInt8)
noncomputable def e_cSpecial {R : Type} (s : Ty8) (dst : Nat) (ds : List D) (m : Mem) (K : List D -> Mem -> Option R) : Option R :=
  match ds with
  | [.ptr (kv0 + 1) sv0 0, .v (.int .i64 x0) .no, .v (.bool x1) .no, .v (.bytes x2) .no] => viewK [(kv0, sv0)] m fun Bs => (match Bs with
    | [⟨77, [.v (.int .i64 y0) .no, .v (.int .i64 y1) .no, .v (.int .i64 y2) .no, .v (.int .i64 y3) .no, .v (.int .i64 y4) .no, .v (.bytes y5) _, .v (.int .i64 y6) .no, .v (.sl 27 y7) _, .v (.bytes y8) (.own (.slot 0) 5), .v (.int .i64 y9) .no, .v (.bytes y10) _]⟩] => bnd1 (s x0 x1 x2 y0 y1 y2 y3 y4 y5 y6 y7 y8 y9 y10) fun r0 => putAllK [(kv0, sv0)] [⟨77, [.v (.int .i64 y0) .no, .v (.int .i64 y1) .no, .v (.int .i64 y2) .no, .v (.int .i64 y3) .no, .v (.int .i64 y4) .no, .v (.bytes y5) .no, .v (.int .i64 y6) .no, .v (.sl 27 y7) .no, .v (.bytes y8) (.own (.slot 0) 5), .v (.int .i64 y9) .no, .v (.bytes y10) .no]⟩] m fun m' => K [.v (.bytes r0) .no] m'
    | _ => none)
  | _ => none
noncomputable def C_cSpecial {R : Type} (N : Nat) (x0 : Int) (x1 : Bool) (x2 : List UInt8) (y0 y1 y2 y3 y4 : Int) (y5 : List UInt8) (y6 : Int) (y7 : List V) (y8 : List UInt8) (y9 : Int) (y10 : List UInt8) (K0 : List UInt8 -> Option R) : Option R := bnd1 (s_cEnc N 0 2 0 false x0 x1 x2 y0 y1 y2 y3 y4 y5 y6 y7 y8 y9 y10) fun l0 => K0 l0
noncomputable def s_cSpecial (N : Nat) (x0 : Int) (x1 : Bool) (x2 : List UInt8) (y0 y1 y2 y3 y4 : Int) (y5 : List UInt8) (y6 : Int) (y7 : List V) (y8 : List UInt8) (y9 : Int) (y10 : List UInt8) : Option (List UInt8) := C_cSpecial N x0 x1 x2 y0 y1 y2 y3 y4 y5 y6 y7 y8 y9 y10 (fun r0 => some r0)
noncomputable def cx_cSpecial (N : Nat) : Cx := cxO [] [⟨81, e_cEnc (s_cEnc N)⟩]
theorem C_cSpecial_ok {R : Type} (N : Nat) (x0 x1 x2 y0 y1 y2 y3 y4 y5 y6 y7 y8 y9 y10 K : _) : bodyK (R := R) (cx_cSpecial N) Try.f46 [.ptr 1 0 0, dI x0, dB x1, dY x2] [frOf 0 [g1a y0 y1 y2 y3 y4 y5 y6 y7 y8 y9 y10]] (r_cEnc K) = C_cSpecial N x0 x1 x2 y0 y1 y2 y3 y4 y5 y6 y7 y8 y9 y10 (fun r0 => K r0 y0 y1 y2 y3 y4 y5 y6 y7 y8 y9 y10) := by
  kernel_rfl
abbrev Q_cSpecial (s : Ty8) : Prop := ∀ x0 x1 x2 y0 y1 y2 y3 y4 y5 y6 y7 y8 y9 y10 r0, s x0 x1 x2 y0 y1 y2 y3 y4 y5 y6 y7 y8 y9 y10 = some r0 -> ViewRet Try.prog T 46 [.ptr 1 0 0, dI x0, dB x1, dY x2] [g1a y0 y1 y2 y3 y4 y5 y6 y7 y8 y9 y10] [dY r0] [g1a y0 y1 y2 y3 y4 y5 y6 y7 y8 y9 y10]
theorem eo_cSpecial (s : Ty8) (hs : Q_cSpecial s) : MEntOK Try.prog T ⟨46, e_cSpecial s⟩ := by
  refine ⟨goes_of Try.func46 (by kernel_rfl) (c := bodyOf Try.f46) (by kernel_rfl), fun R dst ds m K r h => ?_⟩
  simp only [e_cSpecial] at h
  split at h
  . obtain ⟨Bs, a1, a2, a3, h⟩ := viewK_some h
    split at h
    . obtain ⟨r0, h1, h2⟩ := bnd1_some h
      rw [putAllK_eq] at h2
      exact ⟨_, _, h2, ViewRet.weakIn (hs _ _ _ _ _ _ _ _ _ _ _ _ _ _ _ h1) (by exact ⟨⟨rfl, .inl rfl, .inl rfl, .inl rfl, .inl rfl, .inl rfl, .inr ⟨_, _, rfl, rfl⟩, .inl rfl, .inr ⟨_, _, rfl, rfl⟩, .inl rfl, .inl rfl, .inr ⟨_, _, rfl, rfl⟩, trivial⟩, trivial⟩) rfl _ _ m dst a1 a2 a3 ⟨aren_ptr _ rfl, aren_v _, aren_v _, aren_v _, trivial⟩⟩
    . cases h
  . cases h
open Classical in
theorem p_cSpecial (N : Nat) : Q_cSpecial (s_cSpecial N) := fun x0 x1 x2 y0 y1 y2 y3 y4 y5 y6 y7 y8 y9 y10 r0 h => by
  refine view_ofW (cx := cx_cSpecial N) (by kernel_rfl) (cxO_ok trivial ⟨eo_cEnc _ (p_cEnc N), trivial⟩) Try.func46 (by kernel_rfl) (by kernel_rfl) (loopsOK_of (k := 0) (by kernel_rfl) trivial) (by rfl) (by rfl) (by rfl) (rf := r_cEnc (fun r0' z'0 z'1 z'2 z'3 z'4 z'5 z'6 z'7 z'8 z'9 z'10 => if z'0 = y0 /\ z'1 = y1 /\ z'2 = y2 /\ z'3 = y3 /\ z'4 = y4 /\ z'5 = y5 /\ z'6 = y6 /\ z'7 = y7 /\ z'8 = y8 /\ z'9 = y9 /\ z'10 = y10 then some r0' else none)) (r := r0) ?_ ?_
  . exact (C_cSpecial_ok ..).trans ((congrArg (fun K => C_cSpecial N x0 x1 x2 y0 y1 y2 y3 y4 y5 y6 y7 y8 y9 y10 K) (funext fun r0' => if_pos ⟨rfl, rfl, rfl, rfl, rfl, rfl, rfl, rfl, rfl, rfl, rfl⟩)).trans h)
  . intro rs' m' hx
    unfold r_cEnc at hx
    split at hx
    . dsimp only at hx
      split at hx
      . rename_i hk
        obtain ⟨rfl, rfl, rfl, rfl, rfl, rfl, rfl, rfl, rfl, rfl, rfl⟩ := hk
        cases hx; exact ⟨rfl, rfl, _, [⟨77, [_, _, _, _, _, _, _, _, _, _, _]⟩], rfl, rfl, ⟨⟨rfl, .inl rfl, .inl rfl, .inl rfl, .inl rfl, .inl rfl, .inr ⟨_, _, rfl, rfl⟩, .inl rfl, .inr ⟨_, _, rfl, rfl⟩, .inl rfl, .inl rfl, .inr ⟨_, _, rfl, rfl⟩, trivial⟩, trivial⟩⟩
      . cases hx
    . cases hx
abbrev Ty9 := Int -> Int -> Int -> Int -> Int -> List UInt8 -> Int -> List V -> List UInt8 -> Int -> List UInt8 -> Option (List UInt8 × Int × List UInt8 × Int × List V)
noncomputable def e_cPiece {R : Type} (s : Ty9) (dst : Nat) (ds : List D) (m : Mem) (K : List D -> Mem -> Option R) : Option R :=
  match ds with
  | [.ptr (kv0 + 1) sv0 0] => viewK [(kv0, sv0)] m fun Bs => (match Bs with
    | [⟨77, [.v (.int .i64 y0) .no, .v (.int .i64 y1) .no, .v (.int .i64 y2) .no, .v (.int .i64 y3) .no, .v (.int .i64 y4) .no, .v (.bytes y5) _, .v (.int .i64 y6) .no, .v (.sl 27 y7) _, .v (.bytes y8) (.own (.slot 0) 5), .v (.int .i64 y9) .no, .v (.bytes y10) _]⟩] => bnd5 (s y0 y1 y2 y3 y4 y5 y6 y7 y8 y9 y10) fun r0 z4 z5 z6 z7 => putAllK [(kv0, sv0)] [⟨77, [.v (.int .i64 y0) .no, .v (.int .i64 y1) .no, .v (.int .i64 y2) .no, .v (.int .i64 y3) .no, .v (.int .i64 z4) .no, .v (.bytes z5) .no, .v (.int .i64 z6) .no, .v (.sl 27 z7) .no, .v (.bytes y8) (.own (.slot 0) 5), .v (.int .i64 y9) .no, .v (.bytes y10) .no]⟩] m fun m' => K [.v (.bytes r0) .no] m'
    | _ => none)
  | _ => none
noncomputable def C_cPiece {R : Type} (N : Nat) (y0 y1 y2 y3 y4 : Int) (y5 : List UInt8) (y6 : Int) (y7 : List V) (y8 : List UInt8) (y9 : Int) (y10 : List UInt8) (K0 : List UInt8 -> Int -> List UInt8 -> Int -> List V -> Option R) : Option R := br (decide (0 < (y7.length : Int))) (at? y7 0 fun x0 => x0.unBytes fun l1 => br (decide (1 <= (y7.length : Int))) (bnd1 (s_cEnc N 0 0 y4 (decide (0 < ((List.drop 1 y7).length : Int))) 0 false l1 y0 y1 y2 y3 y4 y5 y6 (List.drop 1 y7) y8 y9 y10) fun l2 => bnd1 (s_clone N l2) fun l3 => K0 l3 (IntKind.i64.wrap (1 - y4)) l2 y4 (List.drop 1 y7)) none) none
noncomputable def s_cPiece (N : Nat) (y0 y1 y2 y3 y4 : Int) (y5 : List UInt8) (y6 : Int) (y7 : List V) (y8 : List UInt8) (y9 : Int) (y10 : List UInt8) : Option (List UInt8 × Int × List UInt8 × Int × List V) := C_cPiece N y0 y1 y2 y3 y4 y5 y6 y7 y8 y9 y10 (fun r0 z4 z5 z6 z7 => some (r0, z4, z5, z6, z7))
noncomputable def cx_cPiece (N : Nat) : Cx := cxO [⟨60, e_clone (s_clone N)⟩] [⟨81, e_cEnc (s_cEnc N)⟩]
theorem C_cPiece_ok {R : Type} (N : Nat) (y0 y1 y2 y3 y4 y5 y6 y7 y8 y9 y10 K : _) : bodyK (R := R) (cx_cPiece N) Try.f82 [.ptr 1 0 0] [frOf 0 [g1a y0 y1 y2 y3 y4 y5 y6 y7 y8 y9 y10]] (r_cEnc K) = C_cPiece N y0 y1 y2 y3 y4 y5 y6 y7 y8 y9 y10 (fun r0 z4 z5 z6 z7 => K r0 y0 y1 y2 y3 z4 z5 z6 z7 y8 y9 y10) := by
  kernel_rfl
abbrev Q_cPiece (s : Ty9) : Prop := ∀ y0 y1 y2 y3 y4 y5 y6 y7 y8 y9 y10 r0 z4 z5 z6 z7, s y0 y1 y2 y3 y4 y5 y6 y7 y8 y9 y10 = some (r0, z4, z5, z6, z7) -> ViewRet Try.prog T 82 [.ptr 1 0 0] [g1a y0 y1 y2 y3 y4 y5 y6 y7 y8 y9 y10] [dY r0] [g1a y0 y1 y2 y3 z4 z5 z6 z7 y8 y9 y10]
theorem eo_cPiece (s : Ty9) (hs : Q_cPiece s) : MEntOK Try.prog T ⟨82, e_cPiece s⟩ := by
  refine ⟨goes_of Try.func82 (by kernel_rfl) (c := bodyOf Try.f82) (by kernel_rfl), fun R dst ds m K r h => ?_⟩
  simp only [e_cPiece] at h
  split at h
  . obtain ⟨Bs, a1, a2, a3, h⟩ := viewK_some h
    split at h
    . obtain ⟨r0, z4, z5, z6, z7, h1, h2⟩ := bnd5_some h
      rw [putAllK_eq] at h2
      exact ⟨_, _, h2, ViewRet.weakIn (hs _ _ _ _ _ _ _ _ _ _ _ _ _ _ _ _ h1) (by exact ⟨⟨rfl, .inl rfl, .inl rfl, .inl rfl, .inl rfl, .inl rfl, .inr ⟨_, _, rfl, rfl⟩, .inl rfl, .inr ⟨_, _, rfl, rfl⟩, .inl rfl, .inl rfl, .inr ⟨_, _, rfl, rfl⟩, trivial⟩, trivial⟩) rfl _ _ m dst a1 a2 a3 ⟨aren_ptr _ rfl, trivial⟩⟩
    . cases h
  . cases h
open Classical in
theorem p_cPiece (N : Nat) : Q_cPiece (s_cPiece N) := fun y0 y1 y2 y3 y4 y5 y6 y7 y8 y9 y10 r0 z4 z5 z6 z7 h => by
  refine view_ofW (cx := cx_cPiece N) (by kernel_rfl) (cxO_ok ⟨eo_clone _ (p_clone N), trivial⟩ ⟨eo_cEnc _ (p_cEnc N), trivial⟩) Try.func82 (by kernel_rfl) (by kernel_rfl) (loopsOK_of (k := 0) (by kernel_rfl) trivial) (by rfl) (by rfl) (by rfl) (rf := r_cEnc (fun r0' z'0 z'1 z'2 z'3 z'4 z'5 z'6 z'7 z'8 z'9 z'10 => if z'0 = y0 /\ z'1 = y1 /\ z'2 = y2 /\ z'3 = y3 /\ z'8 = y8 /\ z'9 = y9 /\ z'10 = y10 then some (r0', z'4, z'5, z'6, z'7) else none)) (r := (r0, z4, z5, z6, z7)) ?_ ?_
  . exact (C_cPiece_ok ..).trans ((congrArg (fun K => C_cPiece N y0 y1 y2 y3 y4 y5 y6 y7 y8 y9 y10 K) (funext fun r0' => funext fun z'4 => funext fun z'5 => funext fun z'6 => funext fun z'7 => if_pos ⟨rfl, rfl, rfl, rfl, rfl, rfl, rfl⟩)).trans h)
  . intro rs' m' hx
    unfold r_cEnc at hx
    split at hx
    . dsimp only at hx
      split at hx
      . rename_i hk
        obtain ⟨rfl, rfl, rfl, rfl, rfl, rfl, rfl⟩ := hk
        cases hx; exact ⟨rfl, rfl, _, [⟨77, [_, _, _, _, _, _, _, _, _, _, _]⟩], rfl, rfl, ⟨⟨rfl, .inl rfl, .inl rfl, .inl rfl, .inl rfl, .inl rfl, .inr ⟨_, _, rfl, rfl⟩, .inl rfl, .inr ⟨_, _, rfl, rfl⟩, .inl rfl, .inl rfl, .inr ⟨_, _, rfl, rfl⟩, trivial⟩, trivial⟩⟩
      . cases hx
    . cases hx
abbrev Ty10 := List UInt8 -> Int -> Int -> Int -> Int -> Int -> List UInt8 -> Int -> List V -> List UInt8 -> Int -> List UInt8 -> Option (List UInt8 × Int × List UInt8 × Int × List V)
noncomputable def e_cSend {R : Type} (s : Ty10) (dst : Nat) (ds : List D) (m : Mem) (K : List D -> Mem -> Option R) : Option R :=
  match ds with
  | [.ptr (kv0 + 1) sv0 0, .v (.bytes x0) .no] => viewK [(kv0, sv0)] m fun Bs => (match Bs with
    | [⟨77, [.v (.int .i64 y0) .no, .v (.int .i64 y1) .no, .v (.int .i64 y2) .no, .v (.int .i64 y3) .no, .v (.int .i64 y4) .no, .v (.bytes y5) _, .v (.int .i64 y6) .no, .v (.sl 27 y7) _, .v (.bytes y8) (.own (.slot 0) 5), .v (.int .i64 y9) .no, .v (.bytes y10) _]⟩] => bnd5 (s x0 y0 y1 y2 y3 y4 y5 y6 y7 y8 y9 y10) fun r0 z4 z5 z6 z7 => putAllK [(kv0, sv0)] [⟨77, [.v (.int .i64 y0) .no, .v (.int .i64 y1) .no, .v (.int .i64 y2) .no, .v (.int .i64 y3) .no, .v (.int .i64 z4) .no, .v (.bytes z5) .no, .v (.int .i64 z6) .no, .v (.sl 27 z7) .no, .v (.bytes y8) (.own (.slot 0) 5), .v (.int .i64 y9) .no, .v (.bytes y10) .no]⟩] m fun m' => K [.v (.bytes r0) .no] m'
    | _ => none)
  | _ => none
noncomputable def C_cSend {R : Type} (N : Nat) (x0 : List UInt8) (y0 y1 y2 y3 y4 : Int) (y5 : List UInt8) (y6 : Int) (y7 : List V) (y8 : List UInt8) (y9 : Int) (y10 : List UInt8) (K0 : List UInt8 -> Int -> List UInt8 -> Int -> List V -> Option R) : Option R := bnd2 (s_oSplit N x0 y2) fun l0 n1 => br (decide ((x0.length : Int) = 0)) (bnd5 (s_cPiece N y0 y1 y2 y3 y4 y5 y6 [V.bytes []] y8 y9 y10) fun l2 n3 l4 n5 l6 => K0 l2 n3 l4 n5 l6) (bnd5 (s_cPiece N y0 y1 y2 y3 y4 y5 y6 l0 y8 y9 y10) fun l7 n8 l9 n10 l11 => K0 l7 n8 l9 n10 l11)
noncomputable def s_cSend (N : Nat) (x0 : List UInt8) (y0 y1 y2 y3 y4 : Int) (y5 : List UInt8) (y6 : Int) (y7 : List V) (y8 : List UInt8) (y9 : Int) (y10 : List UInt8) : Option (List UInt8 × Int × List UInt8 × Int × List V) := C_cSend N x0 y0 y1 y2 y3 y4 y5 y6 y7 y8 y9 y10 (fun r0 z4 z5 z6 z7 => some (r0, z4, z5, z6, z7))
noncomputable def cx_cSend (N : Nat) : Cx := cxO [⟨85, e_oSplit (s_oSplit N)⟩] [⟨82, e_cPiece (s_cPiece N)⟩]
theorem C_cSend_ok {R : Type} (N : Nat) (x0 y0 y1 y2 y3 y4 y5 y6 y7 y8 y9 y10 K : _) : bodyK (R := R) (cx_cSend N) Try.f58 [.ptr 1 0 0, dY x0] [frOf 0 [g1a y0 y1 y2 y3 y4 y5 y6 y7 y8 y9 y10]] (r_cEnc K) = C_cSend N x0 y0 y1 y2 y3 y4 y5 y6 y7 y8 y9 y10 (fun r0 z4 z5 z6 z7 => K r0 y0 y1 y2 y3 z4 z5 z6 z7 y8 y9 y10) := by
  kernel_rfl
abbrev Q_cSend (s : Ty10) : Prop := ∀ x0 y0 y1 y2 y3 y4 y5 y6 y7 y8 y9 y10 r0 z4 z5 z6 z7, s x0 y0 y1 y2 y3 y4 y5 y6 y7 y8 y9 y10 = some (r0, z4, z5, z6, z7) -> ViewRet Try.prog T 58 [.ptr 1 0 0, dY x0] [g1a y0 y1 y2 y3 y4 y5 y6 y7 y8 y9 y10] [dY r0] [g1a y0 y1 y2 y3 z4 z5 z6 z7 y8 y9 y10]
theorem eo_cSend (s : Ty10) (hs : Q_cSend s) : MEntOK Try.prog T ⟨58, e_cSend s⟩ := by
  refine ⟨goes_of Try.func58 (by kernel_rfl) (c := bodyOf Try.f58) (by kernel_rfl), fun R dst ds m K r h => ?_⟩
  simp only [e_cSend] at h
  split at h
  . obtain ⟨Bs, a1, a2, a3, h⟩ := viewK_some h
    split at h
    . obtain ⟨r0, z4, z5, z6, z7, h1, h2⟩ := bnd5_some h
      rw [putAllK_eq] at h2
      exact ⟨_, _, h2, ViewRet.weakIn (hs _ _ _ _ _ _ _ _ _ _ _ _ _ _ _ _ _ h1) (by exact ⟨⟨rfl, .inl rfl, .inl rfl, .inl rfl, .inl rfl, .inl rfl, .inr ⟨_, _, rfl, rfl⟩, .inl rfl, .inr ⟨_, _, rfl, rfl⟩, .inl rfl, .inl rfl, .inr ⟨_, _, rfl, rfl⟩, trivial⟩, trivial⟩) rfl _ _ m dst a1 a2 a3 ⟨aren_ptr _ rfl, aren_v _, trivial⟩⟩
    . cases h
  . cases h
open Classical in
theorem p_cSend (N : Nat) : Q_cSend (s_cSend N) := fun x0 y0 y1 y2 y3 y4 y5 y6 y7 y8 y9 y10 r0 z4 z5 z6 z7 h => by
  refine view_ofW (cx := cx_cSend N) (by kernel_rfl) (cxO_ok ⟨eo_oSplit _ (p_oSplit N), trivial⟩ ⟨eo_cPiece _ (p_cPiece N), trivial⟩) Try.func58 (by kernel_rfl) (by kernel_rfl) (loopsOK_of (k := 0) (by kernel_rfl) trivial) (by rfl) (by rfl) (by rfl) (rf := r_cEnc (fun r0' z'0 z'1 z'2 z'3 z'4 z'5 z'6 z'7 z'8 z'9 z'10 => if z'0 = y0 /\ z'1 = y1 /\ z'2 = y2 /\ z'3 = y3 /\ z'8 = y8 /\ z'9 = y9 /\ z'10 = y10 then some (r0', z'4, z'5, z'6, z'7) else none)) (r := (r0, z4, z5, z6, z7)) ?_ ?_
  . exact (C_cSend_ok ..).trans ((congrArg (fun K => C_cSend N x0 y0 y1 y2 y3 y4 y5 y6 y7 y8 y9 y10 K) (funext fun r0' => funext fun z'4 => funext fun z'5 => funext fun z'6 => funext fun z'7 => if_pos ⟨rfl, rfl, rfl, rfl, rfl, rfl, rfl⟩)).trans h)
  . intro rs' m' hx
    unfold r_cEnc at hx
    split at hx
    . dsimp only at hx
      split at hx
      . rename_i hk
        obtain ⟨rfl, rfl, rfl, rfl, rfl, rfl, rfl⟩ := hk
        cases hx; exact ⟨rfl, rfl, _, [⟨77, [_, _, _, _, _, _, _, _, _, _, _]⟩], rfl, rfl, ⟨⟨rfl, .inl rfl, .inl rfl, .inl rfl, .inl rfl, .inl rfl, .inr ⟨_, _, rfl, rfl⟩, .inl rfl, .inr ⟨_, _, rfl, rfl⟩, .inl rfl, .inl rfl, .inr ⟨_, _, rfl, rfl⟩, trivial⟩, trivial⟩⟩
      . cases hx
    . cases hx
abbrev Ty11 := Int -> Int -> Int -> Bool -> Int -> Bool -> List UInt8 -> Int -> Int -> Int -> Int -> Int -> List UInt8 -> Int -> List V -> List UInt8 -> Int -> List UInt8 -> Option (List UInt8 × Int × List UInt8 × Int)
noncomputable def e_cInfo {R : Type} (s : Ty11) (dst : Nat) (ds : List D) (m : Mem) (K : List D -> Mem -> Option R) : Option R :=
  match ds with
  | [.ptr (kv0 + 1) sv0 0, .agg [.v (.int .i64 x0) .no, .v (.int .i64 x1) .no, .v (.int .i64 x2) .no, .v (.bool x3) .no, .v (.int .i64 x4) .no, .v (.bool x5) .no, .v (.bytes x6) .no]] => viewK [(kv0, sv0)] m fun Bs => (match Bs with
    | [⟨77, [.v (.int .i64 y0) .no, .v (.int .i64 y1) .no, .v (.int .i64 y2) .no, .v (.int .i64 y3) .no, .v (.int .i64 y4) .no, .v (.bytes y5) _, .v (.int .i64 y6) .no, .v (.sl 27 y7) _, .v (.bytes y8) (.own (.slot 0) 5), .v (.int .i64 y9) .no, .v (.bytes y10) _]⟩] => bnd4 (s x0 x1 x2 x3 x4 x5 x6 y0 y1 y2 y3 y4 y5 y6 y7 y8 y9 y10) fun r0 z3 z8 z9 => putAllK [(kv0, sv0)] [⟨77, [.v (.int .i64 y0) .no, .v (.int .i64 y1) .no, .v (.int .i64 y2) .no, .v (.int .i64 z3) .no, .v (.int .i64 y4) .no, .v (.bytes y5) .no, .v (.int .i64 y6) .no, .v (.sl 27 y7) .no, .v (.bytes z8) (.own (.slot 0) 5), .v (.int .i64 z9) .no, .v (.bytes y10) .no]⟩] m fun m' => K [.v (.bytes r0) .no] m'
    | _ => none)
  | _ => none
noncomputable def C_cInfo {R : Type} (N : Nat) (x0 x1 x2 : Int) (x3 : Bool) (x4 : Int) (x5 : Bool) (x6 : List UInt8) (y0 y1 y2 y3 y4 : Int) (y5 : List UInt8) (y6 : Int) (y7 : List V) (y8 : List UInt8) (y9 : Int) (y10 : List UInt8) (K0 : List UInt8 -> Int -> List UInt8 -> Int -> Option R) : Option R := br (!decide (x2 = y3)) (bnd1 (s_cReady N 2 y0 y1 y2 y3 y4 y5 y6 y7 y8 y9 y10) fun l0 => K0 l0 y3 y8 y9) (br (decide (y9 = 4)) (br (decide (0 < (y7.length : Int))) (bnd1 (s_cReady N 2 y0 y1 y2 y3 y4 y5 y6 y7 y8 y9 y10) fun l1 => K0 l1 y3 y8 y9) (br (!decide (y9 = 1)) (br (decide ((0 + x6.length) * 1 <= 140737488355328)) (br (decide (65552 < (([] ++ x6).length : Int))) (bnd1 (s_cReady N 2 y0 y1 y2 (IntKind.i64.wrap (1 - y3)) y4 y5 y6 y7 [] 0 y10) fun l2 => K0 l2 (IntKind.i64.wrap (1 - y3)) [] 0) (br x3 (bnd1 (s_cReady N 0 y0 y1 y2 (IntKind.i64.wrap (1 - y3)) y4 y5 y6 y7 ([] ++ x6) 1 y10) fun l3 => K0 l3 (IntKind.i64.wrap (1 - y3)) ([] ++ x6) 1) (K0 [] (IntKind.i64.wrap (1 - y3)) ([] ++ x6) 2))) none) (br (decide ((y8.length + x6.length) * 1 <= 140737488355328)) (br (decide (65552 < ((y8 ++ x6).length : Int))) (bnd1 (s_cReady N 2 y0 y1 y2 (IntKind.i64.wrap (1 - y3)) y4 y5 y6 y7 [] 0 y10) fun l4 => K0 l4 (IntKind.i64.wrap (1 - y3)) [] 0) (br x3 (bnd1 (s_cReady N 0 y0 y1 y2 (IntKind.i64.wrap (1 - y3)) y4 y5 y6 y7 (y8 ++ x6) 1 y10) fun l5 => K0 l5 (IntKind.i64.wrap (1 - y3)) (y8 ++ x6) 1) (K0 [] (IntKind.i64.wrap (1 - y3)) (y8 ++ x6) 2))) none))) (br (!decide (y9 = 1)) (br (decide ((0 + x6.length) * 1 <= 140737488355328)) (br (decide (65552 < (([] ++ x6).length : Int))) (bnd1 (s_cReady N 2 y0 y1 y2 (IntKind.i64.wrap (1 - y3)) y4 y5 y6 y7 [] 0 y10) fun l6 => K0 l6 (IntKind.i64.wrap (1 - y3)) [] 0) (br x3 (bnd1 (s_cReady N 0 y0 y1 y2 (IntKind.i64.wrap (1 - y3)) y4 y5 y6 y7 ([] ++ x6) 1 y10) fun l7 => K0 l7 (IntKind.i64.wrap (1 - y3)) ([] ++ x6) 1) (K0 [] (IntKind.i64.wrap (1 - y3)) ([] ++ x6) 2))) none) (br (decide ((y8.length + x6.length) * 1 <= 140737488355328)) (br (decide (65552 < ((y8 ++ x6).length : Int))) (bnd1 (s_cReady N 2 y0 y1 y2 (IntKind.i64.wrap (1 - y3)) y4 y5 y6 y7 [] 0 y10) fun l8 => K0 l8 (IntKind.i64.wrap (1 - y3)) [] 0) (br x3 (bnd1 (s_cReady N 0 y0 y1 y2 (IntKind.i64.wrap (1 - y3)) y4 y5 y6 y7 (y8 ++ x6) 1 y10) fun l9 => K0 l9 (IntKind.i64.wrap (1 - y3)) (y8 ++ x6) 1) (K0 [] (IntKind.i64.wrap (1 - y3)) (y8 ++ x6) 2))) none)))
noncomputable def s_cInfo (N : Nat) (x0 x1 x2 : Int) (x3 : Bool) (x4 : Int) (x5 : Bool) (x6 : List UInt8) (y0 y1 y2 y3 y4 : Int) (y5 : List UInt8) (y6 : Int) (y7 : List V) (y8 : List UInt8) (y9 : Int) (y10 : List UInt8) : Option (List UInt8 × Int × List UInt8 × Int) := C_cInfo N x0 x1 x2 x3 x4 x5 x6 y0 y1 y2 y3 y4 y5 y6 y7 y8 y9 y10 (fun r0 z3 z8 z9 => some (r0, z3, z8, z9))
noncomputable def cx_cInfo (N : Nat) : Cx := cxO [] [⟨47, e_cReady (s_cReady N)⟩]
theorem C_cInfo_ok {R : Type} (N : Nat) (x0 x1 x2 x3 x4 x5 x6 y0 y1 y2 y3 y4 y5 y6 y7 y8 y9 y10 K : _) : bodyK (R := R) (cx_cInfo N) Try.f48 [.ptr 1 0 0, g0a x0 x1 x2 x3 x4 x5 x6] [frOf 0 [g1a y0 y1 y2 y3 y4 y5 y6 y7 y8 y9 y10]] (r_cEnc K) = C_cInfo N x0 x1 x2 x3 x4 x5 x6 y0 y1 y2 y3 y4 y5 y6 y7 y8 y9 y10 (fun r0 z3 z8 z9 => K r0 y0 y1 y2 z3 y4 y5 y6 y7 z8 z9 y10) := by
  kernel_rfl
abbrev Q_cInfo (s : Ty11) : Prop := ∀ x0 x1 x2 x3 x4 x5 x6 y0 y1 y2 y3 y4 y5 y6 y7 y8 y9 y10 r0 z3 z8 z9, s x0 x1 x2 x3 x4 x5 x6 y0 y1 y2 y3 y4 y5 y6 y7 y8 y9 y10 = some (r0, z3, z8, z9) -> ViewRet Try.prog T 48 [.ptr 1 0 0, g0a x0 x1 x2 x3 x4 x5 x6] [g1a y0 y1 y2 y3 y4 y5 y6 y7 y8 y9 y10] [dY r0] [g1a y0 y1 y2 z3 y4 y5 y6 y7 z8 z9 y10]
theorem eo_cInfo (s : Ty11) (hs : Q_cInfo s) : MEntOK Try.prog T ⟨48, e_cInfo s⟩ := by
  refine ⟨goes_of Try.func48 (by kernel_rfl) (c := bodyOf Try.f48) (by kernel_rfl), fun R dst ds m K r h => ?_⟩
  simp only [e_cInfo] at h
  split at h
  . obtain ⟨Bs, a1, a2, a3, h⟩ := viewK_some h
    split at h
    . obtain ⟨r0, z3, z8, z9, h1, h2⟩ := bnd4_some h
      rw [putAllK_eq] at h2
      exact ⟨_, _, h2, ViewRet.weakIn (hs _ _ _ _ _ _ _ _ _ _ _ _ _ _ _ _ _ _ _ _ _ _ h1) (by exact ⟨⟨rfl, .inl rfl, .inl rfl, .inl rfl, .inl rfl, .inl rfl, .inr ⟨_, _, rfl, rfl⟩, .inl rfl, .inr ⟨_, _, rfl, rfl⟩, .inl rfl, .inl rfl, .inr ⟨_, _, rfl, rfl⟩, trivial⟩, trivial⟩) rfl _ _ m dst a1 a2 a3 ⟨aren_ptr _ rfl, aren_agg ⟨aren_v _, aren_v _, aren_v _, aren_v _, aren_v _, aren_v _, aren_v _, trivial⟩, trivial⟩⟩
    . cases h
  . cases h
open Classical in
theorem p_cInfo (N : Nat) : Q_cInfo (s_cInfo N) := fun x0 x1 x2 x3 x4 x5 x6 y0 y1 y2 y3 y4 y5 y6 y7 y8 y9 y10 r0 z3 z8 z9 h => by
  refine view_ofW (cx := cx_cInfo N) (by kernel_rfl) (cxO_ok trivial ⟨eo_cReady _ (p_cReady N), trivial⟩) Try.func48 (by kernel_rfl) (by kernel_rfl) (loopsOK_of (k := 0) (by kernel_rfl) trivial) (by rfl) (by rfl) (by rfl) (rf := r_cEnc (fun r0' z'0 z'1 z'2 z'3 z'4 z'5 z'6 z'7 z'8 z'9 z'10 => if z'0 = y0 /\ z'1 = y1 /\ z'2 = y2 /\ z'4 = y4 /\ z'5 = y5 /\ z'6 = y6 /\ z'7 = y7 /\ z'10 = y10 then some (r0', z'3, z'8, z'9) else none)) (r := (r0, z3, z8, z9)) ?_ ?_
  . exact (C_cInfo_ok ..).trans ((congrArg (fun K => C_cInfo N x0 x1 x2 x3 x4 x5 x6 y0 y1 y2 y3 y4 y5 y6 y7 y8 y9 y10 K) (funext fun r0' => funext fun z'3 => funext fun z'8 => funext fun z'9 => if_pos ⟨rfl, rfl, rfl, rfl, rfl, rfl, rfl, rfl⟩)).trans h)
  . intro rs' m' hx
    unfold r_cEnc at hx
    split at hx
    . dsimp only at hx
      split at hx
      . rename_i hk
        obtain ⟨rfl, rfl, rfl, rfl, rfl, rfl, rfl, rfl⟩ := hk
        cases hx; exact ⟨rfl, rfl, _, [⟨77, [_, _, _, _, _, _, _, _, _, _, _]⟩], rfl, rfl, ⟨⟨rfl, .inl rfl, .inl rfl, .inl rfl, .inl rfl, .inl rfl, .inr ⟨_, _, rfl, rfl⟩, .inl rfl, .inr ⟨_, _, rfl, rfl⟩, .inl rfl, .inl rfl, .inr ⟨_, _, rfl, rfl⟩, trivial⟩, trivial⟩⟩
      . cases hx
    . cases hx
abbrev Ty12 := Int -> Int -> Int -> Bool -> Int -> Bool -> List UInt8 -> Int -> Int -> Int -> Int -> Int -> List UInt8 -> Int -> List V -> List UInt8 -> Int -> List UInt8 -> Option (List UInt8 × Int × List UInt8 × Int × List V)
noncomputable def e_cAgain {R : Type} (s : Ty12) (dst : Nat) (ds : List D) (m : Mem) (K : List D -> Mem -> Option R) : Option R :=
  match ds with
  | [.ptr (kv0 + 1) sv0 0, .agg [.v (.int .i64 x0) .no, .v (.int .i64 x1) .no, .v (.int .i64 x2) .no, .v (.bool x3) .no, .v (.int .i64 x4) .no, .v (.bool x5) .no, .v (.bytes x6) .no]] => viewK [(kv0, sv0)] m fun Bs => (match Bs with
    | [⟨77, [.v (.int .i64 y0) .no, .v (.int .i64 y1) .no, .v (.int .i64 y2) .no, .v (.int .i64 y3) .no, .v (.int .i64 y4) .no, .v (.bytes y5) _, .v (.int .i64 y6) .no, .v (.sl 27 y7) _, .v (.bytes y8) (.own (.slot 0) 5), .v (.int .i64 y9) .no, .v (.bytes y10) _]⟩] => bnd5 (s x0 x1 x2 x3 x4 x5 x6 y0 y1 y2 y3 y4 y5 y6 y7 y8 y9 y10) fun r0 z4 z5 z6 z7 => putAllK [(kv0, sv0)] [⟨77, [.v (.int .i64 y0) .no, .v (.int .i64 y1) .no, .v (.int .i64 y2) .no, .v (.int .i64 y3) .no, .v (.int .i64 z4) .no, .v (.bytes z5) .no, .v (.int .i64 z6) .no, .v (.sl 27 z7) .no, .v (.bytes y8) (.own (.slot 0) 5), .v (.int .i64 y9) .no, .v (.bytes y10) .no]⟩] m fun m' => K [.v (.bytes r0) .no] m'
    | _ => none)
  | _ => none
noncomputable def C_cAgain {R : Type} (N : Nat) (x0 x1 x2 : Int) (x3 : Bool) (x4 : Int) (x5 : Bool) (x6 : List UInt8) (y0 y1 y2 y3 y4 : Int) (y5 : List UInt8) (y6 : Int) (y7 : List V) (y8 : List UInt8) (y9 : Int) (y10 : List UInt8) (K0 : List UInt8 -> Int -> List UInt8 -> Int -> List V -> Option R) : Option R := br (decide (y9 = 4)) (br (decide (x2 = y6)) (bnd1 (s_clone N y5) fun l0 => K0 l0 y4 y5 y6 y7) (br (decide (y9 = 4)) (br (decide (0 < (y7.length : Int))) (bnd5 (s_cPiece N y0 y1 y2 y3 y4 y5 y6 y7 y8 y9 y10) fun l1 n2 l3 n4 l5 => K0 l1 n2 l3 n4 l5) (bnd1 (s_cReady N 0 y0 y1 y2 y3 y4 y5 y6 y7 y8 y9 y10) fun l6 => K0 l6 y4 y5 y6 y7)) (bnd1 (s_cReady N 0 y0 y1 y2 y3 y4 y5 y6 y7 y8 y9 y10) fun l7 => K0 l7 y4 y5 y6 y7))) (br (decide (y9 = 4)) (br (decide (0 < (y7.length : Int))) (bnd5 (s_cPiece N y0 y1 y2 y3 y4 y5 y6 y7 y8 y9 y10) fun l8 n9 l10 n11 l12 => K0 l8 n9 l10 n11 l12) (bnd1 (s_cReady N 0 y0 y1 y2 y3 y4 y5 y6 y7 y8 y9 y10) fun l13 => K0 l13 y4 y5 y6 y7)) (bnd1 (s_cReady N 0 y0 y1 y2 y3 y4 y5 y6 y7 y8 y9 y10) fun l14 => K0 l14 y4 y5 y6 y7))
noncomputable def s_cAgain (N : Nat) (x0 x1 x2 : Int) (x3 : Bool) (x4 : Int) (x5 : Bool) (x6 : List UInt8) (y0 y1 y2 y3 y4 : Int) (y5 : List UInt8) (y6 : Int) (y7 : List V) (y8 : List UInt8) (y9 : Int) (y10 : List UInt8) : Option (List UInt8 × Int × List UInt8 × Int × List V) := C_cAgain N x0 x1 x2 x3 x4 x5 x6 y0 y1 y2 y3 y4 y5 y6 y7 y8 y9 y10 (fun r0 z4 z5 z6 z7 => some (r0, z4, z5, z6, z7))
noncomputable def cx_cAgain (N : Nat) : Cx := cxO [⟨60, e_clone (s_clone N)⟩] [⟨47, e_cReady (s_cReady N)⟩, ⟨82, e_cPiece (s_cPiece N)⟩]
theorem C_cAgain_ok {R : Type} (N : Nat) (x0 x1 x2 x3 x4 x5 x6 y0 y1 y2 y3 y4 y5 y6 y7 y8 y9 y10 K : _) : bodyK (R := R) (cx_cAgain N) Try.f49 [.ptr 1 0 0, g0a x0 x1 x2 x3 x4 x5 x6] [frOf 0 [g1a y0 y1 y2 y3 y4 y5 y6 y7 y8 y9 y10]] (r_cEnc K) = C_cAgain N x0 x1 x2 x3 x4 x5 x6 y0 y1 y2 y3 y4 y5 y6 y7 y8 y9 y10 (fun r0 z4 z5 z6 z7 => K r0 y0 y1 y2 y3 z4 z5 z6 z7 y8 y9 y10) := by
  kernel_rfl
abbrev Q_cAgain (s : Ty12) : Prop := ∀ x0 x1 x2 x3 x4 x5 x6 y0 y1 y2 y3 y4 y5 y6 y7 y8 y9 y10 r0 z4 z5 z6 z7, s x0 x1 x2 x3 x4 x5 x6 y0 y1 y2 y3 y4 y5 y6 y7 y8 y9 y10 = some (r0, z4, z5, z6, z7) -> ViewRet Try.prog T 49 [.ptr 1 0 0, g0a x0 x1 x2 x3 x4 x5 x6] [g1a y0 y1 y2 y3 y4 y5 y6 y7 y8 y9 y10] [dY r0] [g1a y0 y1 y2 y3 z4 z5 z6 z7 y8 y9 y10]
theorem eo_cAgain (s : Ty12) (hs : Q_cAgain s) : MEntOK Try.prog T ⟨49, e_cAgain s⟩ := by
  refine ⟨goes_of Try.func49 (by kernel_rfl) (c := bodyOf Try.f49) (by kernel_rfl), fun R dst ds m K r h => ?_⟩
  simp only [e_cAgain] at h
  split at h
  . obtain ⟨Bs, a1, a2, a3, h⟩ := viewK_some h
    split at h
    . obtain ⟨r0, z4, z5, z6, z7, h1, h2⟩ := bnd5_some h
      rw [putAllK_eq] at h2
      exact ⟨_, _, h2, ViewRet.weakIn (hs _ _ _ _ _ _ _ _ _ _ _ _ _ _ _ _ _ _ _ _ _ _ _ h1) (by exact ⟨⟨rfl, .inl rfl, .inl rfl, .inl rfl, .inl rfl, .inl rfl, .inr ⟨_, _, rfl, rfl⟩, .inl rfl, .inr ⟨_, _, rfl, rfl⟩, .inl rfl, .inl rfl, .inr ⟨_, _, rfl, rfl⟩, trivial⟩, trivial⟩) rfl _ _ m dst a1 a2 a3 ⟨aren_ptr _ rfl, aren_agg ⟨aren_v _, aren_v _, aren_v _, aren_v _, aren_v _, aren_v _, aren_v _, trivial⟩, trivial⟩⟩
    . cases h
  . cases h
open Classical in
theorem p_cAgain (N : Nat) : Q_cAgain (s_cAgain N) := fun x0 x1 x2 x3 x4 x5 x6 y0 y1 y2 y3 y4 y5 y6 y7 y8 y9 y10 r0 z4 z5 z6 z7 h => by
  refine view_ofW (cx := cx_cAgain N) (by kernel_rfl) (cxO_ok ⟨eo_clone _ (p_clone N), trivial⟩ ⟨eo_cReady _ (p_cReady N), eo_cPiece _ (p_cPiece N), trivial⟩) Try.func49 (by kernel_rfl) (by kernel_rfl) (loopsOK_of (k := 0) (by kernel_rfl) trivial) (by rfl) (by rfl) (by rfl) (rf := r_cEnc (fun r0' z'0 z'1 z'2 z'3 z'4 z'5 z'6 z'7 z'8 z'9 z'10 => if z'0 = y0 /\ z'1 = y1 /\ z'2 = y2 /\ z'3 = y3 /\ z'8 = y8 /\ z'9 = y9 /\ z'10 = y10 then some (r0', z'4, z'5, z'6, z'7) else none)) (r := (r0, z4, z5, z6, z7)) ?_ ?_
  . exact (C_cAgain_ok ..).trans ((congrArg (fun K => C_cAgain N x0 x1 x2 x3 x4 x5 x6 y0 y1 y2 y3 y4 y5 y6 y7 y8 y9 y10 K) (funext fun r0' => funext fun z'4 => funext fun z'5 => funext fun z'6 => funext fun z'7 => if_pos ⟨rfl, rfl, rfl, rfl, rfl, rfl, rfl⟩)).trans h)
  . intro rs' m' hx
    unfold r_cEnc at hx
    split at hx
    . dsimp only at hx
      split at hx
      . rename_i hk
        obtain ⟨rfl, rfl, rfl, rfl, rfl, rfl, rfl⟩ := hk
        cases hx; exact ⟨rfl, rfl, _, [⟨77, [_, _, _, _, _, _, _, _, _, _, _]⟩], rfl, rfl, ⟨⟨rfl, .inl rfl, .inl rfl, .inl rfl, .inl rfl, .inl rfl, .inr ⟨_, _, rfl, rfl⟩, .inl rfl, .inr ⟨_, _, rfl, rfl⟩, .inl rfl, .inl rfl, .inr ⟨_, _, rfl, rfl⟩, trivial⟩, trivial⟩⟩
      . cases hx
    . cases hx
abbrev Ty13 := Int -> Int -> Int -> Bool -> Int -> Bool -> List UInt8 -> Int -> Int -> Int -> Int -> Int -> List UInt8 -> Int -> List V -> List UInt8 -> Int -> List UInt8 -> Option (List UInt8 × Int × Int × Int × List UInt8 × List V × List UInt8 × Int)
noncomputable def e_cSuper {R : Type} (s : Ty13) (dst : Nat) (ds : List D) (m : Mem) (K : List D -> Mem -> Option R) : Option R :=
  match ds with
  | [.ptr (kv0 + 1) sv0 0, .agg [.v (.int .i64 x0) .no, .v (.int .i64 x1) .no, .v (.int .i64 x2) .no, .v (.bool x3) .no, .v (.int .i64 x4) .no, .v (.bool x5) .no, .v (.bytes x6) .no]] => viewK [(kv0, sv0)] m fun Bs => (match Bs with
    | [⟨77, [.v (.int .i64 y0) .no, .v (.int .i64 y1) .no, .v (.int .i64 y2) .no, .v (.int .i64 y3) .no, .v (.int .i64 y4) .no, .v (.bytes y5) _, .v (.int .i64 y6) .no, .v (.sl 27 y7) _, .v (.bytes y8) (.own (.slot 0) 5), .v (.int .i64 y9) .no, .v (.bytes y10) _]⟩] => bnd8 (s x0 x1 x2 x3 x4 x5 x6 y0 y1 y2 y3 y4 y5 y6 y7 y8 y9 y10) fun r0 z2 z3 z4 z5 z7 z8 z9 => putAllK [(kv0, sv0)] [⟨77, [.v (.int .i64 y0) .no, .v (.int .i64 y1) .no, .v (.int .i64 z2) .no, .v (.int .i64 z3) .no, .v (.int .i64 z4) .no, .v (.bytes z5) .no, .v (.int .i64 y6) .no, .v (.sl 27 z7) .no, .v (.bytes z8) (.own (.slot 0) 5), .v (.int .i64 z9) .no, .v (.bytes y10) .no]⟩] m fun m' => K [.v (.bytes r0) .no] m'
    | _ => none)
  | _ => none
noncomputable def C_cSuper {R : Type} (N : Nat) (x0 x1 x2 : Int) (x3 : Bool) (x4 : Int) (x5 : Bool) (x6 : List UInt8) (y0 y1 y2 y3 y4 : Int) (y5 : List UInt8) (y6 : Int) (y7 : List V) (y8 : List UInt8) (y9 : Int) (y10 : List UInt8) (K0 : List UInt8 -> Int -> Int -> Int -> List UInt8 -> List V -> List UInt8 -> Int -> Option R) : Option R := br x5 (bnd1 (s_cReady N 2 y0 y1 y2 y3 y4 y5 y6 y7 y8 y9 y10) fun l0 => K0 l0 y2 y3 y4 y5 y7 y8 y9) (br (decide (x4 = 0)) (bnd1 (s_cSpecial N x4 true x6 y0 y1 y2 0 0 [] y6 [] [] 0 y10) fun l1 => K0 l1 y2 0 0 [] [] [] 0) (br (decide (x4 = 1)) (bnd1 (s_tsize N x0 x1 x2 x3 x4 x5 x6) fun n2 => br (decide (0 < n2)) (bnd1 (s_tsize N x0 x1 x2 x3 x4 x5 x6) fun n3 => bnd1 (s_cSpecial N x4 true x6 y0 y1 n3 y3 y4 y5 y6 y7 y8 y9 y10) fun l4 => K0 l4 n3 y3 y4 y5 y7 y8 y9) (br (decide (x4 = 2)) (bnd1 (s_cSpecial N x4 true x6 y0 y1 y2 y3 y4 y5 y6 [] [] 0 y10) fun l5 => K0 l5 y2 y3 y4 y5 [] [] 0) (bnd1 (s_cReady N 2 y0 y1 y2 y3 y4 y5 y6 y7 y8 y9 y10) fun l6 => K0 l6 y2 y3 y4 y5 y7 y8 y9))) (br (decide (x4 = 2)) (bnd1 (s_cSpecial N x4 true x6 y0 y1 y2 y3 y4 y5 y6 [] [] 0 y10) fun l7 => K0 l7 y2 y3 y4 y5 [] [] 0) (bnd1 (s_cReady N 2 y0 y1 y2 y3 y4 y5 y6 y7 y8 y9 y10) fun l8 => K0 l8 y2 y3 y4 y5 y7 y8 y9))))
noncomputable def s_cSuper (N : Nat) (x0 x1 x2 : Int) (x3 : Bool) (x4 : Int) (x5 : Bool) (x6 : List UInt8) (y0 y1 y2 y3 y4 : Int) (y5 : List UInt8) (y6 : Int) (y7 : List V) (y8 : List UInt8) (y9 : Int) (y10 : List UInt8) : Option (List UInt8 × Int × Int × Int × List UInt8 × List V × List UInt8 × Int) := C_cSuper N x0 x1 x2 x3 x4 x5 x6 y0 y1 y2 y3 y4 y5 y6 y7 y8 y9 y10 (fun r0 z2 z3 z4 z5 z7 z8 z9 => some (r0, z2, z3, z4, z5, z7, z8, z9))
noncomputable def cx_cSuper (N : Nat) : Cx := cxO [⟨83, e_tsize (s_tsize N)⟩] [⟨47, e_cReady (s_cReady N)⟩, ⟨46, e_cSpecial (s_cSpecial N)⟩]
theorem C_cSuper_ok {R : Type} (N : Nat) (x0 x1 x2 x3 x4 x5 x6 y0 y1 y2 y3 y4 y5 y6 y7 y8 y9 y10 K : _) : bodyK (R := R) (cx_cSuper N) Try.f50 [.ptr 1 0 0, g0a x0 x1 x2 x3 x4 x5 x6] [frOf 0 [g1a y0 y1 y2 y3 y4 y5 y6 y7 y8 y9 y10]] (r_cEnc K) = C_cSuper N x0 x1 x2 x3 x4 x5 x6 y0 y1 y2 y3 y4 y5 y6 y7 y8 y9 y10 (fun r0 z2 z3 z4 z5 z7 z8 z9 => K r0 y0 y1 z2 z3 z4 z5 y6 z7 z8 z9 y10) := by
  kernel_rfl
abbrev Q_cSuper (s : Ty13) : Prop := ∀ x0 x1 x2 x3 x4 x5 x6 y0 y1 y2 y3 y4 y5 y6 y7 y8 y9 y10 r0 z2 z3 z4 z5 z7 z8 z9, s x0 x1 x2 x3 x4 x5 x6 y0 y1 y2 y3 y4 y5 y6 y7 y8 y9 y10 = some (r0, z2, z3, z4, z5, z7, z8, z9) -> ViewRet Try.prog T 50 [.ptr 1 0 0, g0a x0 x1 x2 x3 x4 x5 x6] [g1a y0 y1 y2 y3 y4 y5 y6 y7 y8 y9 y10] [dY r0] [g1a y0 y1 z2 z3 z4 z5 y6 z7 z8 z9 y10]
theorem eo_cSuper (s : Ty13) (hs : Q_cSuper s) : MEntOK Try.prog T ⟨50, e_cSuper s⟩ := by
  refine ⟨goes_of Try.func50 (by kernel_rfl) (c := bodyOf Try.f50) (by kernel_rfl), fun R dst ds m K r h => ?_⟩
  simp only [e_cSuper] at h
  split at h
  . obtain ⟨Bs, a1, a2, a3, h⟩ := viewK_some h
    split at h
    . obtain ⟨r0, z2, z3, z4, z5, z7, z8, z9, h1, h2⟩ := bnd8_some h
      rw [putAllK_eq] at h2
      exact ⟨_, _, h2, ViewRet.weakIn (hs _ _ _ _ _ _ _ _ _ _ _ _ _ _ _ _ _ _ _ _ _ _ _ _ _ _ h1) (by exact ⟨⟨rfl, .inl rfl, .inl rfl, .inl rfl, .inl rfl, .inl rfl, .inr ⟨_, _, rfl, rfl⟩, .inl rfl, .inr ⟨_, _, rfl, rfl⟩, .inl rfl, .inl rfl, .inr ⟨_, _, rfl, rfl⟩, trivial⟩, trivial⟩) rfl _ _ m dst a1 a2 a3 ⟨aren_ptr _ rfl, aren_agg ⟨aren_v _, aren_v _, aren_v _, aren_v _, aren_v _, aren_v _, aren_v _, trivial⟩, trivial⟩⟩
    . cases h
  . cases h
open Classical in
theorem p_cSuper (N : Nat) : Q_cSuper (s_cSuper N) := fun x0 x1 x2 x3 x4 x5 x6 y0 y1 y2 y3 y4 y5 y6 y7 y8 y9 y10 r0 z2 z3 z4 z5 z7 z8 z9 h => by
  refine view_ofW (cx := cx_cSuper N) (by kernel_rfl) (cxO_ok ⟨eo_tsize _ (p_tsize N), trivial⟩ ⟨eo_cReady _ (p_cReady N), eo_cSpecial _ (p_cSpecial N), trivial⟩) Try.func50 (by kernel_rfl) (by kernel_rfl) (loopsOK_of (k := 0) (by kernel_rfl) trivial) (by rfl) (by rfl) (by rfl) (rf := r_cEnc (fun r0' z'0 z'1 z'2 z'3 z'4 z'5 z'6 z'7 z'8 z'9 z'10 => if z'0 = y0 /\ z'1 = y1 /\ z'6 = y6 /\ z'10 = y10 then some (r0', z'2, z'3, z'4, z'5, z'7, z'8, z'9) else none)) (r := (r0, z2, z3, z4, z5, z7, z8, z9)) ?_ ?_
  . exact (C_cSuper_ok ..).trans ((congrArg (fun K => C_cSuper N x0 x1 x2 x3 x4 x5 x6 y0 y1 y2 y3 y4 y5 y6 y7 y8 y9 y10 K) (funext fun r0' => funext fun z'2 => funext fun z'3 => funext fun z'4 => funext fun z'5 => funext fun z'7 => funext fun z'8 => funext fun z'9 => if_pos ⟨rfl, rfl, rfl, rfl⟩)).trans h)
  . intro rs' m' hx
    unfold r_cEnc at hx
    split at hx
    . dsimp only at hx
      split at hx
      . rename_i hk
        obtain ⟨rfl, rfl, rfl, rfl⟩ := hk
        cases hx; exact ⟨rfl, rfl, _, [⟨77, [_, _, _, _, _, _, _, _, _, _, _]⟩], rfl, rfl, ⟨⟨rfl, .inl rfl, .inl rfl, .inl rfl, .inl rfl, .inl rfl, .inr ⟨_, _, rfl, rfl⟩, .inl rfl, .inr ⟨_, _, rfl, rfl⟩, .inl rfl, .inl rfl, .inr ⟨_, _, rfl, rfl⟩, trivial⟩, trivial⟩⟩
      . cases hx
    . cases hx
abbrev Ty14 := List UInt8 -> Int -> Int -> Int -> Int -> Int -> List UInt8 -> Int -> List V -> List UInt8 -> Int -> List UInt8 -> Option (List UInt8 × Int × Int × Int × List UInt8 × Int × List V × List UInt8 × Int)
noncomputable def e_cReceive {R : Type} (s : Ty14) (dst : Nat) (ds : List D) (m : Mem) (K : List D -> Mem -> Option R) : Option R :=
  match ds with
  | [.ptr (kv0 + 1) sv0 0, .v (.bytes x0) .no] => viewK [(kv0, sv0)] m fun Bs => (match Bs with
    | [⟨77, [.v (.int .i64 y0) .no, .v (.int .i64 y1) .no, .v (.int .i64 y2) .no, .v (.int .i64 y3) .no, .v (.int .i64 y4) .no, .v (.bytes y5) _, .v (.int .i64 y6) .no, .v (.sl 27 y7) _, .v (.bytes y8) (.own (.slot 0) 5), .v (.int .i64 y9) .no, .v (.bytes y10) _]⟩] => bnd9 (s x0 y0 y1 y2 y3 y4 y5 y6 y7 y8 y9 y10) fun r0 z2 z3 z4 z5 z6 z7 z8 z9 => putAllK [(kv0, sv0)] [⟨77, [.v (.int .i64 y0) .no, .v (.int .i64 y1) .no, .v (.int .i64 z2) .no, .v (.int .i64 z3) .no, .v (.int .i64 z4) .no, .v (.bytes z5) .no, .v (.int .i64 z6) .no, .v (.sl 27 z7) .no, .v (.bytes z8) (.own (.slot 0) 5), .v (.int .i64 z9) .no, .v (.bytes y10) .no]⟩] m fun m' => K [.v (.bytes r0) .no] m'
    | _ => none)
  | _ => none
noncomputable def C_cReceive {R : Type} (N : Nat) (x0 : List UInt8) (y0 y1 y2 y3 y4 : Int) (y5 : List UInt8) (y6 : Int) (y7 : List V) (y8 : List UInt8) (y9 : Int) (y10 : List UInt8) (K0 : List UInt8 -> Int -> Int -> Int -> List UInt8 -> Int -> List V -> List UInt8 -> Int -> Option R) : Option R := bnd1 (s_cMade N y0 y1 y2 y3 y4 y5 y6 y7 y8 y9 y10) fun b0 => br (!b0) (K0 [] y2 y3 y4 y5 y6 y7 y8 y9) (br (decide (y9 = 2)) (K0 [] y2 y3 y4 y5 y6 y7 y8 y9) (bnd8 (s_cDecode N x0 y0 y1 y2 y3 y4 y5 y6 y7 y8 y9 y10) fun n1 n2 n3 b4 n5 b6 l7 n8 => br (decide (y9 = 3)) (br (decide (n8 = 0)) (bnd1 (s_bSame N n1 n2 n3 b4 n5 b6 l7 0 2 0 false 3 true y10) fun b9 => br b9 (K0 [] y2 y3 y4 y5 y6 y7 y8 2) (bnd1 (s_cSpecial N 3 false y10 y0 y1 y2 y3 y4 y5 y6 y7 y8 y9 y10) fun l10 => K0 l10 y2 y3 y4 y5 y6 y7 y8 y9)) (bnd1 (s_cSpecial N 3 false y10 y0 y1 y2 y3 y4 y5 y6 y7 y8 y9 y10) fun l11 => K0 l11 y2 y3 y4 y5 y6 y7 y8 y9)) (br (!decide (n8 = 0)) (bnd1 (s_cReady N n8 y0 y1 y2 y3 y4 y5 y6 y7 y8 y9 y10) fun l12 => K0 l12 y2 y3 y4 y5 y6 y7 y8 y9) (br (decide (n2 = 0)) (bnd4 (s_cInfo N n1 n2 n3 b4 n5 b6 l7 y0 y1 y2 y3 y4 y5 y6 y7 y8 y9 y10) fun l13 n14 l15 n16 => K0 l13 y2 n14 y4 y5 y6 y7 l15 n16) (br (decide (n2 = 1)) (bnd5 (s_cAgain N n1 n2 n3 b4 n5 b6 l7 y0 y1 y2 y3 y4 y5 y6 y7 y8 y9 y10) fun l17 n18 l19 n20 l21 => K0 l17 y2 y3 n18 l19 n20 l21 y8 y9) (bnd8 (s_cSuper N n1 n2 n3 b4 n5 b6 l7 y0 y1 y2 y3 y4 y5 y6 y7 y8 y9 y10) fun l22 n23 n24 n25 l26 l27 l28 n29 => K0 l22 n23 n24 n25 l26 y6 l27 l28 n29))))))
noncomputable def s_cReceive (N : Nat) (x0 : List UInt8) (y0 y1 y2 y3 y4 : Int) (y5 : List UInt8) (y6 : Int) (y7 : List V) (y8 : List UInt8) (y9 : Int) (y10 : List UInt8) : Option (List UInt8 × Int × Int × Int × List UInt8 × Int × List V × List UInt8 × Int) := C_cReceive N x0 y0 y1 y2 y3 y4 y5 y6 y7 y8 y9 y10 (fun r0 z2 z3 z4 z5 z6 z7 z8 z9 => some (r0, z2, z3, z4, z5, z6, z7, z8, z9))
noncomputable def cx_cReceive (N : Nat) : Cx := cxO [⟨45, e_bSame (s_bSame N)⟩] [⟨43, e_cMade (s_cMade N)⟩, ⟨44, e_cDecode (s_cDecode N)⟩, ⟨46, e_cSpecial (s_cSpecial N)⟩, ⟨47, e_cReady (s_cReady N)⟩, ⟨48, e_cInfo (s_cInfo N)⟩, ⟨49, e_cAgain (s_cAgain N)⟩, ⟨50, e_cSuper (s_cSuper N)⟩]
theorem C_cReceive_ok {R : Type} (N : Nat) (x0 y0 y1 y2 y3 y4 y5 y6 y7 y8 y9 y10 K : _) : bodyK (R := R) (cx_cReceive N) Try.f13 [.ptr 1 0 0, dY x0] [frOf 0 [g1a y0 y1 y2 y3 y4 y5 y6 y7 y8 y9 y10]] (r_cEnc K) = C_cReceive N x0 y0 y1 y2 y3 y4 y5 y6 y7 y8 y9 y10 (fun r0 z2 z3 z4 z5 z6 z7 z8 z9 => K r0 y0 y1 z2 z3 z4 z5 z6 z7 z8 z9 y10) := by
  kernel_rfl
abbrev Q_cReceive (s : Ty14) : Prop := ∀ x0 y0 y1 y2 y3 y4 y5 y6 y7 y8 y9 y10 r0 z2 z3 z4 z5 z6 z7 z8 z9, s x0 y0 y1 y2 y3 y4 y5 y6 y7 y8 y9 y10 = some (r0, z2, z3, z4, z5, z6, z7, z8, z9) -> ViewRet Try.prog T 13 [.ptr 1 0 0, dY x0] [g1a y0 y1 y2 y3 y4 y5 y6 y7 y8 y9 y10] [dY r0] [g1a y0 y1 z2 z3 z4 z5 z6 z7 z8 z9 y10]
theorem eo_cReceive (s : Ty14) (hs : Q_cReceive s) : MEntOK Try.prog T ⟨13, e_cReceive s⟩ := by
  refine ⟨goes_of Try.func13 (by kernel_rfl) (c := bodyOf Try.f13) (by kernel_rfl), fun R dst ds m K r h => ?_⟩
  simp only [e_cReceive] at h
  split at h
  . obtain ⟨Bs, a1, a2, a3, h⟩ := viewK_some h
    split at h
    . obtain ⟨r0, z2, z3, z4, z5, z6, z7, z8, z9, h1, h2⟩ := bnd9_some h
      rw [putAllK_eq] at h2
      exact ⟨_, _, h2, ViewRet.weakIn (hs _ _ _ _ _ _ _ _ _ _ _ _ _ _ _ _ _ _ _ _ _ h1) (by exact ⟨⟨rfl, .inl rfl, .inl rfl, .inl rfl, .inl rfl, .inl rfl, .inr ⟨_, _, rfl, rfl⟩, .inl rfl, .inr ⟨_, _, rfl, rfl⟩, .inl rfl, .inl rfl, .inr ⟨_, _, rfl, rfl⟩, trivial⟩, trivial⟩) rfl _ _ m dst a1 a2 a3 ⟨aren_ptr _ rfl, aren_v _, trivial⟩⟩
    . cases h
  . cases h
open Classical in
theorem p_cReceive (N : Nat) : Q_cReceive (s_cReceive N) := fun x0 y0 y1 y2 y3 y4 y5 y6 y7 y8 y9 y10 r0 z2 z3 z4 z5 z6 z7 z8 z9 h => by
  refine view_ofW (cx := cx_cReceive N) (by kernel_rfl) (cxO_ok ⟨eo_bSame _ (p_bSame N), trivial⟩ ⟨eo_cMade _ (p_cMade N), eo_cDecode _ (p_cDecode N), eo_cSpecial _ (p_cSpecial N), eo_cReady _ (p_cReady N), eo_cInfo _ (p_cInfo N), eo_cAgain _ (p_cAgain N), eo_cSuper _ (p_cSuper N), trivial⟩) Try.func13 (by kernel_rfl) (by kernel_rfl) (loopsOK_of (k := 0) (by kernel_rfl) trivial) (by rfl) (by rfl) (by rfl) (rf := r_cEnc (fun r0' z'0 z'1 z'2 z'3 z'4 z'5 z'6 z'7 z'8 z'9 z'10 => if z'0 = y0 /\ z'1 = y1 /\ z'10 = y10 then some (r0', z'2, z'3, z'4, z'5, z'6, z'7, z'8, z'9) else none)) (r := (r0, z2, z3, z4, z5, z6, z7, z8, z9)) ?_ ?_
  . exact (C_cReceive_ok ..).trans ((congrArg (fun K => C_cReceive N x0 y0 y1 y2 y3 y4 y5 y6 y7 y8 y9 y10 K) (funext fun r0' => funext fun z'2 => funext fun z'3 => funext fun z'4 => funext fun z'5 => funext fun z'6 => funext fun z'7 => funext fun z'8 => funext fun z'9 => if_pos ⟨rfl, rfl, rfl⟩)).trans h)
  . intro rs' m' hx
    unfold r_cEnc at hx
    split at hx
    . dsimp only at hx
      split at hx
      . rename_i hk
        obtain ⟨rfl, rfl, rfl⟩ := hk
        cases hx; exact ⟨rfl, rfl, _, [⟨77, [_, _, _, _, _, _, _, _, _, _, _]⟩], rfl, rfl, ⟨⟨rfl, .inl rfl, .inl rfl, .inl rfl, .inl rfl, .inl rfl, .inr ⟨_, _, rfl, rfl⟩, .inl rfl, .inr ⟨_, _, rfl, rfl⟩, .inl rfl, .inl rfl, .inr ⟨_, _, rfl, rfl⟩, trivial⟩, trivial⟩⟩
      . cases hx
    . cases hx
abbrev Ty15 := Int -> Int -> Int -> Int -> Int -> List UInt8 -> Int -> List V -> List UInt8 -> Int -> List UInt8 -> Option (List UInt8 × Bool)
noncomputable def e_cCommand {R : Type} (s : Ty15) (dst : Nat) (ds : List D) (m : Mem) (K : List D -> Mem -> Option R) : Option R :=
  match ds with
  | [.ptr (kv0 + 1) sv0 0] => viewK [(kv0, sv0)] m fun Bs => (match Bs with
    | [⟨77, [.v (.int .i64 y0) .no, .v (.int .i64 y1) .no, .v (.int .i64 y2) .no, .v (.int .i64 y3) .no, .v (.int .i64 y4) .no, .v (.bytes y5) _, .v (.int .i64 y6) .no, .v (.sl 27 y7) _, .v (.bytes y8) (.own (.slot 0) 5), .v (.int .i64 y9) .no, .v (.bytes y10) _]⟩] => bnd2 (s y0 y1 y2 y3 y4 y5 y6 y7 y8 y9 y10) fun r0 r1 => putAllK [(kv0, sv0)] [⟨77, [.v (.int .i64 y0) .no, .v (.int .i64 y1) .no, .v (.int .i64 y2) .no, .v (.int .i64 y3) .no, .v (.int .i64 y4) .no, .v (.bytes y5) .no, .v (.int .i64 y6) .no, .v (.sl 27 y7) .no, .v (.bytes y8) (.own (.slot 0) 5), .v (.int .i64 y9) .no, .v (.bytes y10) .no]⟩] m fun m' => K [.v (.bytes r0) .no, .v (.bool r1) .no] m'
    | _ => none)
  | _ => none
noncomputable def r_cCommand {α : Type} (K : List UInt8 -> Bool -> Int -> Int -> Int -> Int -> Int -> List UInt8 -> Int -> List V -> List UInt8 -> Int -> List UInt8 -> Option α) (rs : List D) (m : Mem) : Option α :=
  match rs, m with
  | [.v (.bytes r0) _, .v (.bool r1) _], [_, [(0, ⟨77, [.v (.int .i64 z0) .no, .v (.int .i64 z1) .no, .v (.int .i64 z2) .no, .v (.int .i64 z3) .no, .v (.int .i64 z4) .no, .v (.bytes z5) _, .v (.int .i64 z6) .no, .v (.sl 27 z7) _, .v (.bytes z8) (.own (.slot 0) 5), .v (.int .i64 z9) .no, .v (.bytes z10) _]⟩)]] => K r0 r1 z0 z1 z2 z3 z4 z5 z6 z7 z8 z9 z10
  | _, _ => none
noncomputable def C_cCommand {R : Type} (N : Nat) (y0 y1 y2 y3 y4 : Int) (y5 : List UInt8) (y6 : Int) (y7 : List V) (y8 : List UInt8) (y9 : Int) (y10 : List UInt8) (K0 : List UInt8 -> Bool -> Option R) : Option R := bnd1 (s_cMade N y0 y1 y2 y3 y4 y5 y6 y7 y8 y9 y10) fun b0 => br (!b0) (K0 [] false) (br (!decide (y9 = 2)) (br (!decide (y9 = 3)) (K0 [] false) (bnd1 (s_clone N y8) fun l1 => K0 l1 true)) (bnd1 (s_clone N y8) fun l2 => K0 l2 true))
noncomputable def s_cCommand (N : Nat) (y0 y1 y2 y3 y4 : Int) (y5 : List UInt8) (y6 : Int) (y7 : List V) (y8 : List UInt8) (y9 : Int) (y10 : List UInt8) : Option (List UInt8 × Bool) := C_cCommand N y0 y1 y2 y3 y4 y5 y6 y7 y8 y9 y10 (fun r0 r1 => some (r0, r1))
noncomputable def cx_cCommand (N : Nat) : Cx := cxO [⟨60, e_clone (s_clone N)⟩] [⟨43, e_cMade (s_cMade N)⟩]
theorem C_cCommand_ok {R : Type} (N : Nat) (y0 y1 y2 y3 y4 y5 y6 y7 y8 y9 y10 K : _) : bodyK (R := R) (cx_cCommand N) Try.f19 [.ptr 1 0 0] [frOf 0 [g1a y0 y1 y2 y3 y4 y5 y6 y7 y8 y9 y10]] (r_cCommand K) = C_cCommand N y0 y1 y2 y3 y4 y5 y6 y7 y8 y9 y10 (fun r0 r1 => K r0 r1 y0 y1 y2 y3 y4 y5 y6 y7 y8 y9 y10) := by
  kernel_rfl
abbrev Q_cCommand (s : Ty15) : Prop := ∀ y0 y1 y2 y3 y4 y5 y6 y7 y8 y9 y10 r0 r1, s y0 y1 y2 y3 y4 y5 y6 y7 y8 y9 y10 = some (r0, r1) -> ViewRet Try.prog T 19 [.ptr 1 0 0] [g1a y0 y1 y2 y3 y4 y5 y6 y7 y8 y9 y10] [dY r0, dB r1] [g1a y0 y1 y2 y3 y4 y5 y6 y7 y8 y9 y10]
theorem eo_cCommand (s : Ty15) (hs : Q_cCommand s) : MEntOK Try.prog T ⟨19, e_cCommand s⟩ := by
  refine ⟨goes_of Try.func19 (by kernel_rfl) (c := bodyOf Try.f19) (by kernel_rfl), fun R dst ds m K r h => ?_⟩
  simp only [e_cCommand] at h
  split at h
  . obtain ⟨Bs, a1, a2, a3, h⟩ := viewK_some h
    split at h
    . obtain ⟨r0, r1, h1, h2⟩ := bnd2_some h
      rw [putAllK_eq] at h2
      exact ⟨_, _, h2, ViewRet.weakIn (hs _ _ _ _ _ _ _ _ _ _ _ _ _ h1) (by exact ⟨⟨rfl, .inl rfl, .inl rfl, .inl rfl, .inl rfl, .inl rfl, .inr ⟨_, _, rfl, rfl⟩, .inl rfl, .inr ⟨_, _, rfl, rfl⟩, .inl rfl, .inl rfl, .inr ⟨_, _, rfl, rfl⟩, trivial⟩, trivial⟩) rfl _ _ m dst a1 a2 a3 ⟨aren_ptr _ rfl, trivial⟩⟩
    . cases h
  . cases h
open Classical in
theorem p_cCommand (N : Nat) : Q_cCommand (s_cCommand N) := fun y0 y1 y2 y3 y4 y5 y6 y7 y8 y9 y10 r0 r1 h => by
  refine view_ofW (cx := cx_cCommand N) (by kernel_rfl) (cxO_ok ⟨eo_clone _ (p_clone N), trivial⟩ ⟨eo_cMade _ (p_cMade N), trivial⟩) Try.func19 (by kernel_rfl) (by kernel_rfl) (loopsOK_of (k := 0) (by kernel_rfl) trivial) (by rfl) (by rfl) (by rfl) (rf := r_cCommand (fun r0' r1' z'0 z'1 z'2 z'3 z'4 z'5 z'6 z'7 z'8 z'9 z'10 => if z'0 = y0 /\ z'1 = y1 /\ z'2 = y2 /\ z'3 = y3 /\ z'4 = y4 /\ z'5 = y5 /\ z'6 = y6 /\ z'7 = y7 /\ z'8 = y8 /\ z'9 = y9 /\ z'10 = y10 then some (r0', r1') else none)) (r := (r0, r1)) ?_ ?_
  . exact (C_cCommand_ok ..).trans ((congrArg (fun K => C_cCommand N y0 y1 y2 y3 y4 y5 y6 y7 y8 y9 y10 K) (funext fun r0' => funext fun r1' => if_pos ⟨rfl, rfl, rfl, rfl, rfl, rfl, rfl, rfl, rfl, rfl, rfl⟩)).trans h)
  . intro rs' m' hx
    unfold r_cCommand at hx
    split at hx
    . dsimp only at hx
      split at hx
      . rename_i hk
        obtain ⟨rfl, rfl, rfl, rfl, rfl, rfl, rfl, rfl, rfl, rfl, rfl⟩ := hk
        cases hx; exact ⟨rfl, rfl, _, [⟨77, [_, _, _, _, _, _, _, _, _, _, _]⟩], rfl, rfl, ⟨⟨rfl, .inl rfl, .inl rfl, .inl rfl, .inl rfl, .inl rfl, .inr ⟨_, _, rfl, rfl⟩, .inl rfl, .inr ⟨_, _, rfl, rfl⟩, .inl rfl, .inl rfl, .inr ⟨_, _, rfl, rfl⟩, trivial⟩, trivial⟩⟩
      . cases hx
    . cases hx
abbrev Ty16 := List UInt8 -> Int -> Int -> Int -> Int -> Int -> List UInt8 -> Int -> List V -> List UInt8 -> Int -> List UInt8 -> Option (List UInt8 × Int × List UInt8 × Int × List V × Int)
noncomputable def e_cReply {R : Type} (s : Ty16) (dst : Nat) (ds : List D) (m : Mem) (K : List D -> Mem -> Option R) : Option R :=
  match ds with
  | [.ptr (kv0 + 1) sv0 0, .v (.bytes x0) .no] => viewK [(kv0, sv0)] m fun Bs => (match Bs with
    | [⟨77, [.v (.int .i64 y0) .no, .v (.int .i64 y1) .no, .v (.int .i64 y2) .no, .v (.int .i64 y3) .no, .v (.int .i64 y4) .no, .v (.bytes y5) _, .v (.int .i64 y6) .no, .v (.sl 27 y7) _, .v (.bytes y8) (.own (.slot 0) 5), .v (.int .i64 y9) .no, .v (.bytes y10) _]⟩] => bnd6 (s x0 y0 y1 y2 y3 y4 y5 y6 y7 y8 y9 y10) fun r0 z4 z5 z6 z7 z9 => putAllK [(kv0, sv0)] [⟨77, [.v (.int .i64 y0) .no, .v (.int .i64 y1) .no, .v (.int .i64 y2) .no, .v (.int .i64 y3) .no, .v (.int .i64 z4) .no, .v (.bytes z5) .no, .v (.int .i64 z6) .no, .v (.sl 27 z7) .no, .v (.bytes y8) (.own (.slot 0) 5), .v (.int .i64 z9) .no, .v (.bytes y10) .no]⟩] m fun m' => K [.v (.bytes r0) .no] m'
    | _ => none)
  | _ => none
noncomputable def C_cReply {R : Type} (N : Nat) (x0 : List UInt8) (y0 y1 y2 y3 y4 : Int) (y5 : List UInt8) (y6 : Int) (y7 : List V) (y8 : List UInt8) (y9 : Int) (y10 : List UInt8) (K0 : List UInt8 -> Int -> List UInt8 -> Int -> List V -> Int -> Option R) : Option R := bnd1 (s_cMade N y0 y1 y2 y3 y4 y5 y6 y7 y8 y9 y10) fun b0 => br (!b0) (K0 [] y4 y5 y6 y7 y9) (br (!decide (y9 = 2)) (K0 [] y4 y5 y6 y7 y9) (bnd5 (s_cSend N x0 y0 y1 y2 y3 y4 y5 y6 y7 y8 4 y10) fun l1 n2 l3 n4 l5 => K0 l1 n2 l3 n4 l5 4))
noncomputable def s_cReply (N : Nat) (x0 : List UInt8) (y0 y1 y2 y3 y4 : Int) (y5 : List UInt8) (y6 : Int) (y7 : List V) (y8 : List UInt8) (y9 : Int) (y10 : List UInt8) : Option (List UInt8 × Int × List UInt8 × Int × List V × Int) := C_cReply N x0 y0 y1 y2 y3 y4 y5 y6 y7 y8 y9 y10 (fun r0 z4 z5 z6 z7 z9 => some (r0, z4, z5, z6, z7, z9))
noncomputable def cx_cReply (N : Nat) : Cx := cxO [] [⟨43, e_cMade (s_cMade N)⟩, ⟨58, e_cSend (s_cSend N)⟩]
theorem C_cReply_ok {R : Type} (N : Nat) (x0 y0 y1 y2 y3 y4 y5 y6 y7 y8 y9 y10 K : _) : bodyK (R := R) (cx_cReply N) Try.f15 [.ptr 1 0 0, dY x0] [frOf 0 [g1a y0 y1 y2 y3 y4 y5 y6 y7 y8 y9 y10]] (r_cEnc K) = C_cReply N x0 y0 y1 y2 y3 y4 y5 y6 y7 y8 y9 y10 (fun r0 z4 z5 z6 z7 z9 => K r0 y0 y1 y2 y3 z4 z5 z6 z7 y8 z9 y10) := by
  kernel_rfl
abbrev Q_cReply (s : Ty16) : Prop := ∀ x0 y0 y1 y2 y3 y4 y5 y6 y7 y8 y9 y10 r0 z4 z5 z6 z7 z9, s x0 y0 y1 y2 y3 y4 y5 y6 y7 y8 y9 y10 = some (r0, z4, z5, z6, z7, z9) -> ViewRet Try.prog T 15 [.ptr 1 0 0, dY x0] [g1a y0 y1 y2 y3 y4 y5 y6 y7 y8 y9 y10] [dY r0] [g1a y0 y1 y2 y3 z4 z5 z6 z7 y8 z9 y10]
theorem eo_cReply (s : Ty16) (hs : Q_cReply s) : MEntOK Try.prog T ⟨15, e_cReply s⟩ := by
  refine ⟨goes_of Try.func15 (by kernel_rfl) (c := bodyOf Try.f15) (by kernel_rfl), fun R dst ds m K r h => ?_⟩
  simp only [e_cReply] at h
  split at h
  . obtain ⟨Bs, a1, a2, a3, h⟩ := viewK_some h
    split at h
    . obtain ⟨r0, z4, z5, z6, z7, z9, h1, h2⟩ := bnd6_some h
      rw [putAllK_eq] at h2
      exact ⟨_, _, h2, ViewRet.weakIn (hs _ _ _ _ _ _ _ _ _ _ _ _ _ _ _ _ _ _ h1) (by exact ⟨⟨rfl, .inl rfl, .inl rfl, .inl rfl, .inl rfl, .inl rfl, .inr ⟨_, _, rfl, rfl⟩, .inl rfl, .inr ⟨_, _, rfl, rfl⟩, .inl rfl, .inl rfl, .inr ⟨_, _, rfl, rfl⟩, trivial⟩, trivial⟩) rfl _ _ m dst a1 a2 a3 ⟨aren_ptr _ rfl, aren_v _, trivial⟩⟩
    . cases h
  . cases h
open Classical in
theorem p_cReply (N : Nat) : Q_cReply (s_cReply N) := fun x0 y0 y1 y2 y3 y4 y5 y6 y7 y8 y9 y10 r0 z4 z5 z6 z7 z9 h => by
  refine view_ofW (cx := cx_cReply N) (by kernel_rfl) (cxO_ok trivial ⟨eo_cMade _ (p_cMade N), eo_cSend _ (p_cSend N), trivial⟩) Try.func15 (by kernel_rfl) (by kernel_rfl) (loopsOK_of (k := 0) (by kernel_rfl) trivial) (by rfl) (by rfl) (by rfl) (rf := r_cEnc (fun r0' z'0 z'1 z'2 z'3 z'4 z'5 z'6 z'7 z'8 z'9 z'10 => if z'0 = y0 /\ z'1 = y1 /\ z'2 = y2 /\ z'3 = y3 /\ z'8 = y8 /\ z'10 = y10 then some (r0', z'4, z'5, z'6, z'7, z'9) else none)) (r := (r0, z4, z5, z6, z7, z9)) ?_ ?_
  . exact (C_cReply_ok ..).trans ((congrArg (fun K => C_cReply N x0 y0 y1 y2 y3 y4 y5 y6 y7 y8 y9 y10 K) (funext fun r0' => funext fun z'4 => funext fun z'5 => funext fun z'6 => funext fun z'7 => funext fun z'9 => if_pos ⟨rfl, rfl, rfl, rfl, rfl, rfl⟩)).trans h)
  . intro rs' m' hx
    unfold r_cEnc at hx
    split at hx
    . dsimp only at hx
      split at hx
      . rename_i hk
        obtain ⟨rfl, rfl, rfl, rfl, rfl, rfl⟩ := hk
        cases hx; exact ⟨rfl, rfl, _, [⟨77, [_, _, _, _, _, _, _, _, _, _, _]⟩], rfl, rfl, ⟨⟨rfl, .inl rfl, .inl rfl, .inl rfl, .inl rfl, .inl rfl, .inr ⟨_, _, rfl, rfl⟩, .inl rfl, .inr ⟨_, _, rfl, rfl⟩, .inl rfl, .inl rfl, .inr ⟨_, _, rfl, rfl⟩, trivial⟩, trivial⟩⟩
      . cases hx
    . cases hx
abbrev Ty17 := Int -> Int -> Int -> Int -> Int -> Int -> List UInt8 -> Int -> List V -> List UInt8 -> Int -> List UInt8 -> Option (List UInt8 × Int × List UInt8)
noncomputable def e_cExtend {R : Type} (s : Ty17) (dst : Nat) (ds : List D) (m : Mem) (K : List D -> Mem -> Option R) : Option R :=
  match ds with
  | [.ptr (kv0 + 1) sv0 0, .v (.int .i64 x0) .no] => viewK [(kv0, sv0)] m fun Bs => (match Bs with
    | [⟨77, [.v (.int .i64 y0) .no, .v (.int .i64 y1) .no, .v (.int .i64 y2) .no, .v (.int .i64 y3) .no, .v (.int .i64 y4) .no, .v (.bytes y5) _, .v (.int .i64 y6) .no, .v (.sl 27 y7) _, .v (.bytes y8) (.own (.slot 0) 5), .v (.int .i64 y9) .no, .v (.bytes y10) _]⟩] => bnd3 (s x0 y0 y1 y2 y3 y4 y5 y6 y7 y8 y9 y10) fun r0 z9 z10 => putAllK [(kv0, sv0)] [⟨77, [.v (.int .i64 y0) .no, .v (.int .i64 y1) .no, .v (.int .i64 y2) .no, .v (.int .i64 y3) .no, .v (.int .i64 y4) .no, .v (.bytes y5) .no, .v (.int .i64 y6) .no, .v (.sl 27 y7) .no, .v (.bytes y8) (.own (.slot 0) 5), .v (.int .i64 z9) .no, .v (.bytes z10) .no]⟩] m fun m' => K [.v (.bytes r0) .no] m'
    | _ => none)
  | _ => none
noncomputable def C_cExtend {R : Type} (N : Nat) (x0 y0 y1 y2 y3 y4 : Int) (y5 : List UInt8) (y6 : Int) (y7 : List V) (y8 : List UInt8) (y9 : Int) (y10 : List UInt8) (K0 : List UInt8 -> Int -> List UInt8 -> Option R) : Option R := bnd1 (s_cMade N y0 y1 y2 y3 y4 y5 y6 y7 y8 y9 y10) fun b0 => br (!b0) (K0 [] y9 y10) (br (!decide (y9 = 2)) (K0 [] y9 y10) (br (decide (x0 < 1)) (K0 [] y9 y10) (br (decide (255 < x0)) (K0 [] y9 y10) (bnd1 (s_cSpecial N 3 false [UInt8.ofNat (IntKind.u8.wrap x0).toNat] y0 y1 y2 y3 y4 y5 y6 y7 y8 3 [UInt8.ofNat (IntKind.u8.wrap x0).toNat]) fun l1 => K0 l1 3 [UInt8.ofNat (IntKind.u8.wrap x0).toNat]))))
noncomputable def s_cExtend (N : Nat) (x0 y0 y1 y2 y3 y4 : Int) (y5 : List UInt8) (y6 : Int) (y7 : List V) (y8 : List UInt8) (y9 : Int) (y10 : List UInt8) : Option (List UInt8 × Int × List UInt8) := C_cExtend N x0 y0 y1 y2 y3 y4 y5 y6 y7 y8 y9 y10 (fun r0 z9 z10 => some (r0, z9, z10))
noncomputable def cx_cExtend (N : Nat) : Cx := cxO [] [⟨43, e_cMade (s_cMade N)⟩, ⟨46, e_cSpecial (s_cSpecial N)⟩]
theorem C_cExtend_ok {R : Type} (N : Nat) (x0 y0 y1 y2 y3 y4 y5 y6 y7 y8 y9 y10 K : _) : bodyK (R := R) (cx_cExtend N) Try.f17 [.ptr 1 0 0, dI x0] [frOf 0 [g1a y0 y1 y2 y3 y4 y5 y6 y7 y8 y9 y10]] (r_cEnc K) = C_cExtend N x0 y0 y1 y2 y3 y4 y5 y6 y7 y8 y9 y10 (fun r0 z9 z10 => K r0 y0 y1 y2 y3 y4 y5 y6 y7 y8 z9 z10) := by
  kernel_rfl
abbrev Q_cExtend (s : Ty17) : Prop := ∀ x0 y0 y1 y2 y3 y4 y5 y6 y7 y8 y9 y10 r0 z9 z10, s x0 y0 y1 y2 y3 y4 y5 y6 y7 y8 y9 y10 = some (r0, z9, z10) -> ViewRet Try.prog T 17 [.ptr 1 0 0, dI x0] [g1a y0 y1 y2 y3 y4 y5 y6 y7 y8 y9 y10] [dY r0] [g1a y0 y1 y2 y3 y4 y5 y6 y7 y8 z9 z10]
theorem eo_cExtend (s : Ty17) (hs : Q_cExtend s) : MEntOK Try.prog T ⟨17, e_cExtend s⟩ := by
  refine ⟨goes_of Try.func17 (by kernel_rfl) (c := bodyOf Try.f17) (by kernel_rfl), fun R dst ds m K r h => ?_⟩
  simp only [e_cExtend] at h
  split at h
  . obtain ⟨Bs, a1, a2, a3, h⟩ := viewK_some h
    split at h
    . obtain ⟨r0, z9, z10, h1, h2⟩ := bnd3_some h
      rw [putAllK_eq] at h2
      exact ⟨_, _, h2, ViewRet.weakIn (hs _ _ _ _ _ _ _ _ _ _ _ _ _ _ _ h1) (by exact ⟨⟨rfl, .inl rfl, .inl rfl, .inl rfl, .inl rfl, .inl rfl, .inr ⟨_, _, rfl, rfl⟩, .inl rfl, .inr ⟨_, _, rfl, rfl⟩, .inl rfl, .inl rfl, .inr ⟨_, _, rfl, rfl⟩, trivial⟩, trivial⟩) rfl _ _ m dst a1 a2 a3 ⟨aren_ptr _ rfl, aren_v _, trivial⟩⟩
    . cases h
  . cases h
open Classical in
theorem p_cExtend (N : Nat) : Q_cExtend (s_cExtend N) := fun x0 y0 y1 y2 y3 y4 y5 y6 y7 y8 y9 y10 r0 z9 z10 h => by
  refine view_ofW (cx := cx_cExtend N) (by kernel_rfl) (cxO_ok trivial ⟨eo_cMade _ (p_cMade N), eo_cSpecial _ (p_cSpecial N), trivial⟩) Try.func17 (by kernel_rfl) (by kernel_rfl) (loopsOK_of (k := 0) (by kernel_rfl) trivial) (by rfl) (by rfl) (by rfl) (rf := r_cEnc (fun r0' z'0 z'1 z'2 z'3 z'4 z'5 z'6 z'7 z'8 z'9 z'10 => if z'0 = y0 /\ z'1 = y1 /\ z'2 = y2 /\ z'3 = y3 /\ z'4 = y4 /\ z'5 = y5 /\ z'6 = y6 /\ z'7 = y7 /\ z'8 = y8 then some (r0', z'9, z'10) else none)) (r := (r0, z9, z10)) ?_ ?_
  . exact (C_cExtend_ok ..).trans ((congrArg (fun K => C_cExtend N x0 y0 y1 y2 y3 y4 y5 y6 y7 y8 y9 y10 K) (funext fun r0' => funext fun z'9 => funext fun z'10 => if_pos ⟨rfl, rfl, rfl, rfl, rfl, rfl, rfl, rfl, rfl⟩)).trans h)
  . intro rs' m' hx
    unfold r_cEnc at hx
    split at hx
    . dsimp only at hx
      split at hx
      . rename_i hk
        obtain ⟨rfl, rfl, rfl, rfl, rfl, rfl, rfl, rfl, rfl⟩ := hk
        cases hx; exact ⟨rfl, rfl, _, [⟨77, [_, _, _, _, _, _, _, _, _, _, _]⟩], rfl, rfl, ⟨⟨rfl, .inl rfl, .inl rfl, .inl rfl, .inl rfl, .inl rfl, .inr ⟨_, _, rfl, rfl⟩, .inl rfl, .inr ⟨_, _, rfl, rfl⟩, .inl rfl, .inl rfl, .inr ⟨_, _, rfl, rfl⟩, trivial⟩, trivial⟩⟩
      . cases hx
    . cases hx
abbrev Ty18 := Int -> Int -> Int -> Int -> Int -> List UInt8 -> Int -> List V -> List UInt8 -> Int -> Int -> List UInt8 -> Bool -> Int -> Option (Bool)
noncomputable def e_tMade {R : Type} (s : Ty18) (dst : Nat) (ds : List D) (m : Mem) (K : List D -> Mem -> Option R) : Option R :=
  match ds with
  | [.ptr (kv0 + 1) sv0 0] => viewK [(kv0, sv0)] m fun Bs => (match Bs with
    | [⟨95, [.v (.int .i64 y0) .no, .v (.int .i64 y1) .no, .v (.int .i64 y2) .no, .v (.int .i64 y3) .no, .v (.int .i64 y4) .no, .v (.bytes y5) _, .v (.int .i64 y6) .no, .v (.sl 27 y7) _, .v (.bytes y8) (.own (.slot 0) 5), .v (.int .i64 y9) .no, .v (.int .i64 y10) .no, .v (.bytes y11) _, .v (.bool y12) .no, .v (.int .i64 y13) .no]⟩] => bnd1 (s y0 y1 y2 y3 y4 y5 y6 y7 y8 y9 y10 y11 y12 y13) fun r0 => putAllK [(kv0, sv0)] [⟨95, [.v (.int .i64 y0) .no, .v (.int .i64 y1) .no, .v (.int .i64 y2) .no, .v (.int .i64 y3) .no, .v (.int .i64 y4) .no, .v (.bytes y5) .no, .v (.int .i64 y6) .no, .v (.sl 27 y7) .no, .v (.bytes y8) (.own (.slot 0) 5), .v (.int .i64 y9) .no, .v (.int .i64 y10) .no, .v (.bytes y11) .no, .v (.bool y12) .no, .v (.int .i64 y13) .no]⟩] m fun m' => K [.v (.bool r0) .no] m'
    | _ => none)
  | _ => none
noncomputable def r_tMade {α : Type} (K : Bool -> Int -> Int -> Int -> Int -> Int -> List UInt8 -> Int -> List V -> List UInt8 -> Int -> Int -> List UInt8 -> Bool -> Int -> Option α) (rs : List D) (m : Mem) : Option α :=
  match rs, m with
  | [.v (.bool r0) _], [_, [(0, ⟨95, [.v (.int .i64 z0) .no, .v (.int .i64 z1) .no, .v (.int .i64 z2) .no, .v (.int .i64 z3) .no, .v (.int .i64 z4) .no, .v (.bytes z5) _, .v (.int .i64 z6) .no, .v (.sl 27 z7) _, .v (.bytes z8) (.own (.slot 0) 5), .v (.int .i64 z9) .no, .v (.int .i64 z10) .no, .v (.bytes z11) _, .v (.bool z12) .no, .v (.int .i64 z13) .no]⟩)]] => K r0 z0 z1 z2 z3 z4 z5 z6 z7 z8 z9 z10 z11 z12 z13
  | _, _ => none
noncomputable def C_tMade {R : Type} (N : Nat) (y0 y1 y2 y3 y4 : Int) (y5 : List UInt8) (y6 : Int) (y7 : List V) (y8 : List UInt8) (y9 y10 : Int) (y11 : List UInt8) (y12 : Bool) (y13 : Int) (K0 : Bool -> Option R) : Option R := K0 (decide (0 < y1))
noncomputable def s_tMade (N : Nat) (y0 y1 y2 y3 y4 : Int) (y5 : List UInt8) (y6 : Int) (y7 : List V) (y8 : List UInt8) (y9 y10 : Int) (y11 : List UInt8) (y12 : Bool) (y13 : Int) : Option (Bool) := C_tMade N y0 y1 y2 y3 y4 y5 y6 y7 y8 y9 y10 y11 y12 y13 (fun r0 => some r0)
noncomputable def cx_tMade (N : Nat) : Cx := cxO [] []
abbrev g2a (a0 a1 a2 a3 a4 : Int) (a5 : List UInt8) (a6 : Int) (a7 : List V) (a8 : List UInt8) (a9 a10 : Int) (a11 : List UInt8) (a12 : Bool) (a13 : Int) : Bx := ⟨95, [dI a0, dI a1, dI a2, dI a3, dI a4, dY a5, dI a6, .v (.sl 27 a7) .no, .v (.bytes a8) (.own (.slot 0) 5), dI a9, dI a10, dY a11, dB a12, dI a13]⟩
theorem C_tMade_ok {R : Type} (N : Nat) (y0 y1 y2 y3 y4 y5 y6 y7 y8 y9 y10 y11 y12 y13 K : _) : bodyK (R := R) (cx_tMade N) Try.f62 [.ptr 1 0 0] [frOf 0 [g2a y0 y1 y2 y3 y4 y5 y6 y7 y8 y9 y10 y11 y12 y13]] (r_tMade K) = C_tMade N y0 y1 y2 y3 y4 y5 y6 y7 y8 y9 y10 y11 y12 y13 (fun r0 => K r0 y0 y1 y2 y3 y4 y5 y6 y7 y8 y9 y10 y11 y12 y13) := by
  kernel_rfl
abbrev Q_tMade (s : Ty18) : Prop := ∀ y0 y1 y2 y3 y4 y5 y6 y7 y8 y9 y10 y11 y12 y13 r0, s y0 y1 y2 y3 y4 y5 y6 y7 y8 y9 y10 y11 y12 y13 = some r0 -> ViewRet Try.prog T 62 [.ptr 1 0 0] [g2a y0 y1 y2 y3 y4 y5 y6 y7 y8 y9 y10 y11 y12 y13] [dB r0] [g2a y0 y1 y2 y3 y4 y5 y6 y7 y8 y9 y10 y11 y12 y13]
theorem eo_tMade (s : Ty18) (hs : Q_tMade s) : MEntOK Try.prog T ⟨62, e_tMade s⟩ := by
  refine ⟨goes_of Try.func62 (by kernel_rfl) (c := bodyOf Try.f62) (by kernel_rfl), fun R dst ds m K r h => ?_⟩
  simp only [e_tMade] at h
  split at h
  . obtain ⟨Bs, a1, a2, a3, h⟩ := viewK_some h
    split at h
    . obtain ⟨r0, h1, h2⟩ := bnd1_some h
      rw [putAllK_eq] at h2
      exact ⟨_, _, h2, ViewRet.weakIn (hs _ _ _ _ _ _ _ _ _ _ _ _ _ _ _ h1) (by exact ⟨⟨rfl, .inl rfl, .inl rfl, .inl rfl, .inl rfl, .inl rfl, .inr ⟨_, _, rfl, rfl⟩, .inl rfl, .inr ⟨_, _, rfl, rfl⟩, .inl rfl, .inl rfl, .inl rfl, .inr ⟨_, _, rfl, rfl⟩, .inl rfl, .inl rfl, trivial⟩, trivial⟩) rfl _ _ m dst a1 a2 a3 ⟨aren_ptr _ rfl, trivial⟩⟩
    . cases h
  . cases h
open Classical in
theorem p_tMade (N : Nat) : Q_tMade (s_tMade N) := fun y0 y1 y2 y3 y4 y5 y6 y7 y8 y9 y10 y11 y12 y13 r0 h => by
  refine view_ofW (cx := cx_tMade N) (by kernel_rfl) (cxO_ok trivial trivial) Try.func62 (by kernel_rfl) (by kernel_rfl) (loopsOK_of (k := 0) (by kernel_rfl) trivial) (by rfl) (by rfl) (by rfl) (rf := r_tMade (fun r0' z'0 z'1 z'2 z'3 z'4 z'5 z'6 z'7 z'8 z'9 z'10 z'11 z'12 z'13 => if z'0 = y0 /\ z'1 = y1 /\ z'2 = y2 /\ z'3 = y3 /\ z'4 = y4 /\ z'5 = y5 /\ z'6 = y6 /\ z'7 = y7 /\ z'8 = y8 /\ z'9 = y9 /\ z'10 = y10 /\ z'11 = y11 /\ z'12 = y12 /\ z'13 = y13 then some r0' else none)) (r := r0) ?_ ?_
  . exact (C_tMade_ok ..).trans ((congrArg (fun K => C_tMade N y0 y1 y2 y3 y4 y5 y6 y7 y8 y9 y10 y11 y12 y13 K) (funext fun r0' => if_pos ⟨rfl, rfl, rfl, rfl, rfl, rfl, rfl, rfl, rfl, rfl, rfl, rfl, rfl, rfl⟩)).trans h)
  . intro rs' m' hx
    unfold r_tMade at hx
    split at hx
    . dsimp only at hx
      split at hx
      . rename_i hk
        obtain ⟨rfl, rfl, rfl, rfl, rfl, rfl, rfl, rfl, rfl, rfl, rfl, rfl, rfl, rfl⟩ := hk
        cases hx; exact ⟨rfl, rfl, _, [⟨95, [_, _, _, _, _, _, _, _, _, _, _, _, _, _]⟩], rfl, rfl, ⟨⟨rfl, .inl rfl, .inl rfl, .inl rfl, .inl rfl, .inl rfl, .inr ⟨_, _, rfl, rfl⟩, .inl rfl, .inr ⟨_, _, rfl, rfl⟩, .inl rfl, .inl rfl, .inl rfl, .inr ⟨_, _, rfl, rfl⟩, .inl rfl, .inl rfl, trivial⟩, trivial⟩⟩
      . cases hx
    . cases hx
abbrev Ty19 := Int -> Int -> Int -> Bool -> Int -> Bool -> List UInt8 -> Int -> Int -> Int -> Int -> Int -> List UInt8 -> Int -> List V -> List UInt8 -> Int -> Int -> List UInt8 -> Bool -> Int -> Option (List UInt8)
noncomputable def e_tEnc {R : Type} (s : Ty19) (dst : Nat) (ds : List D) (m : Mem) (K : List D -> Mem -> Option R) : Option R :=
  match ds with
  | [.ptr (kv0 + 1) sv0 0, .agg [.v (.int .i64 x0) .no, .v (.int .i64 x1) .no, .v (.int .i64 x2) .no, .v (.bool x3) .no, .v (.int .i64 x4) .no, .v (.bool x5) .no, .v (.bytes x6) .no]] => viewK [(kv0, sv0)] m fun Bs => (match Bs with
    | [⟨95, [.v (.int .i64 y0) .no, .v (.int .i64 y1) .no, .v (.int .i64 y2) .no, .v (.int .i64 y3) .no, .v (.int .i64 y4) .no, .v (.bytes y5) _, .v (.int .i64 y6) .no, .v (.sl 27 y7) _, .v (.bytes y8) (.own (.slot 0) 5), .v (.int .i64 y9) .no, .v (.int .i64 y10) .no, .v (.bytes y11) _, .v (.bool y12) .no, .v (.int .i64 y13) .no]⟩] => bnd1 (s x0 x1 x2 x3 x4 x5 x6 y0 y1 y2 y3 y4 y5 y6 y7 y8 y9 y10 y11 y12 y13) fun r0 => putAllK [(kv0, sv0)] [⟨95, [.v (.int .i64 y0) .no, .v (.int .i64 y1) .no, .v (.int .i64 y2) .no, .v (.int .i64 y3) .no, .v (.int .i64 y4) .no, .v (.bytes y5) .no, .v (.int .i64 y6) .no, .v (.sl 27 y7) .no, .v (.bytes y8) (.own (.slot 0) 5), .v (.int .i64 y9) .no, .v (.int .i64 y10) .no, .v (.bytes y11) .no, .v (.bool y12) .no, .v (.int .i64 y13) .no]⟩] m fun m' => K [.v (.bytes r0) .no] m'
    | _ => none)
  | _ => none
noncomputable def r_tEnc {α : Type} (K : List UInt8 -> Int -> Int -> Int -> Int -> Int -> List UInt8 -> Int -> List V -> List UInt8 -> Int -> Int -> List UInt8 -> Bool -> Int -> Option α) (rs : List D) (m : Mem) : Option α :=
  match rs, m with
  | [.v (.bytes r0) _], [_, [(0, ⟨95, [.v (.int .i64 z0) .no, .v (.int .i64 z1) .no, .v (.int .i64 z2) .no, .v (.int .i64 z3) .no, .v (.int .i64 z4) .no, .v (.bytes z5) _, .v (.int .i64 z6) .no, .v (.sl 27 z7) _, .v (.bytes z8) (.own (.slot 0) 5), .v (.int .i64 z9) .no, .v (.int .i64 z10) .no, .v (.bytes z11) _, .v (.bool z12) .no, .v (.int .i64 z13) .no]⟩)]] => K r0 z0 z1 z2 z3 z4 z5 z6 z7 z8 z9 z10 z11 z12 z13
  | _, _ => none
noncomputable def C_tEnc {R : Type} (N : Nat) (x0 x1 x2 : Int) (x3 : Bool) (x4 : Int) (x5 : Bool) (x6 : List UInt8) (y0 y1 y2 y3 y4 : Int) (y5 : List UInt8) (y6 : Int) (y7 : List V) (y8 : List UInt8) (y9 y10 : Int) (y11 : List UInt8) (y12 : Bool) (y13 : Int) (K0 : List UInt8 -> Option R) : Option R := bnd2 (s_bEncode N x0 x1 x2 x3 x4 x5 x6 y0) fun l0 n1 => K0 l0
noncomputable def s_tEnc (N : Nat) (x0 x1 x2 : Int) (x3 : Bool) (x4 : Int) (x5 : Bool) (x6 : List UInt8) (y0 y1 y2 y3 y4 : Int) (y5 : List UInt8) (y6 : Int) (y7 : List V) (y8 : List UInt8) (y9 y10 : Int) (y11 : List UInt8) (y12 : Bool) (y13 : Int) : Option (List UInt8) := C_tEnc N x0 x1 x2 x3 x4 x5 x6 y0 y1 y2 y3 y4 y5 y6 y7 y8 y9 y10 y11 y12 y13 (fun r0 => some r0)
noncomputable def cx_tEnc (N : Nat) : Cx := cxO [⟨95, e_bEncode (s_bEncode N)⟩] []
theorem C_tEnc_ok {R : Type} (N : Nat) (x0 x1 x2 x3 x4 x5 x6 y0 y1 y2 y3 y4 y5 y6 y7 y8 y9 y10 y11 y12 y13 K : _) : bodyK (R := R) (cx_tEnc N) Try.f81 [.ptr 1 0 0, g0a x0 x1 x2 x3 x4 x5 x6] [frOf 0 [g2a y0 y1 y2 y3 y4 y5 y6 y7 y8 y9 y10 y11 y12 y13]] (r_tEnc K) = C_tEnc N x0 x1 x2 x3 x4 x5 x6 y0 y1 y2 y3 y4 y5 y6 y7 y8 y9 y10 y11 y12 y13 (fun r0 => K r0 y0 y1 y2 y3 y4 y5 y6 y7 y8 y9 y10 y11 y12 y13) := by
  kernel_rfl
abbrev Q_tEnc (s : Ty19) : Prop := ∀ x0 x1 x2 x3 x4 x5 x6 y0 y1 y2 y3 y4 y5 y6 y7 y8 y9 y10 y11 y12 y13 r0, s x0 x1 x2 x3 x4 x5 x6 y0 y1 y2 y3 y4 y5 y6 y7 y8 y9 y10 y11 y12 y13 = some r0 -> ViewRet Try.prog T 81 [.ptr 1 0 0, g0a x0 x1 x2 x3 x4 x5 x6] [g2a y0 y1 y2 y3 y4 y5 y6 y7 y8 y9 y10 y11 y12 y13] [dY r0] [g2a y0 y1 y2 y3 y4 y5 y6 y7 y8 y9 y10 y11 y12 y13]
theorem eo_tEnc (s : Ty19) (hs : Q_tEnc s) : MEntOK Try.prog T ⟨81, e_tEnc s⟩ := by
  refine ⟨goes_of Try.func81 (by kernel_rfl) (c := bodyOf Try.f81) (by kernel_rfl), fun R dst ds m K r h => ?_⟩
  simp only [e_tEnc] at h
  split at h
  . obtain ⟨Bs, a1, a2, a3, h⟩ := viewK_some h
    split at h
    . obtain ⟨r0, h1, h2⟩ := bnd1_some h
      rw [putAllK_eq] at h2
      exact ⟨_, _, h2, ViewRet.weakIn (hs _ _ _ _ _ _ _ _ _ _ _ _ _ _ _ _ _ _ _ _ _ _ h1) (by exact ⟨⟨rfl, .inl rfl, .inl rfl, .inl rfl, .inl rfl, .inl rfl, .inr ⟨_, _, rfl, rfl⟩, .inl rfl, .inr ⟨_, _, rfl, rfl⟩, .inl rfl, .inl rfl, .inl rfl, .inr ⟨_, _, rfl, rfl⟩, .inl rfl, .inl rfl, trivial⟩, trivial⟩) rfl _ _ m dst a1 a2 a3 ⟨aren_ptr _ rfl, aren_agg ⟨aren_v _, aren_v _, aren_v _, aren_v _, aren_v _, aren_v _, aren_v _, trivial⟩, trivial⟩⟩
    . cases h
  . cases h
open Classical in
theorem p_tEnc (N : Nat) : Q_tEnc (s_tEnc N) := fun x0 x1 x2 x3 x4 x5 x6 y0 y1 y2 y3 y4 y5 y6 y7 y8 y9 y10 y11 y12 y13 r0 h => by
  refine view_ofW (cx := cx_tEnc N) (by kernel_rfl) (cxO_ok ⟨eo_bEncode _ (p_bEncode N), trivial⟩ trivial) Try.func81 (by kernel_rfl) (by kernel_rfl) (loopsOK_of (k := 0) (by kernel_rfl) trivial) (by rfl) (by rfl) (by rfl) (rf := r_tEnc (fun r0' z'0 z'1 z'2 z'3 z'4 z'5 z'6 z'7 z'8 z'9 z'10 z'11 z'12 z'13 => if z'0 = y0 /\ z'1 = y1 /\ z'2 = y2 /\ z'3 = y3 /\ z'4 = y4 /\ z'5 = y5 /\ z'6 = y6 /\ z'7 = y7 /\ z'8 = y8 /\ z'9 = y9 /\ z'10 = y10 /\ z'11 = y11 /\ z'12 = y12 /\ z'13 = y13 then some r0' else none)) (r := r0) ?_ ?_
  . exact (C_tEnc_ok ..).trans ((congrArg (fun K => C_tEnc N x0 x1 x2 x3 x4 x5 x6 y0 y1 y2 y3 y4 y5 y6 y7 y8 y9 y10 y11 y12 y13 K) (funext fun r0' => if_pos ⟨rfl, rfl, rfl, rfl, rfl, rfl, rfl, rfl, rfl, rfl, rfl, rfl, rfl, rfl⟩)).trans h)
  . intro rs' m' hx
    unfold r_tEnc at hx
    split at hx
    . dsimp only at hx
      split at hx
      . rename_i hk
        obtain ⟨rfl, rfl, rfl, rfl, rfl, rfl, rfl, rfl, rfl, rfl, rfl, rfl, rfl, rfl⟩ := hk
        cases hx; exact ⟨rfl, rfl, _, [⟨95, [_, _, _, _, _, _, _, _, _, _, _, _, _, _]⟩], rfl, rfl, ⟨⟨rfl, .inl rfl, .inl rfl, .inl rfl, .inl rfl, .inl rfl, .inr ⟨_, _, rfl, rfl⟩, .inl rfl, .inr ⟨_, _, rfl, rfl⟩, .inl rfl, .inl rfl, .inl rfl, .inr ⟨_, _, rfl, rfl⟩, .inl rfl, .inl rfl, trivial⟩, trivial⟩⟩
      . cases hx
    . cases hx
abbrev Ty20 := List UInt8 -> Int -> Int -> Int -> Int -> Int -> List UInt8 -> Int -> List V -> List UInt8 -> Int -> Int -> List UInt8 -> Bool -> Int -> Option (Int × Int × Int × Bool × Int × Bool × List UInt8 × Int)
noncomputable def e_tDecode {R : Type} (s : Ty20) (dst : Nat) (ds : List D) (m : Mem) (K : List D -> Mem -> Option R) : Option R :=
  match ds with
  | [.ptr (kv0 + 1) sv0 0, .v (.bytes x0) .no] => viewK [(kv0, sv0)] m fun Bs => (match Bs with
    | [⟨95, [.v (.int .i64 y0) .no, .v (.int .i64 y1) .no, .v (.int .i64 y2) .no, .v (.int .i64 y3) .no, .v (.int .i64 y4) .no, .v (.bytes y5) _, .v (.int .i64 y6) .no, .v (.sl 27 y7) _, .v (.bytes y8) (.own (.slot 0) 5), .v (.int .i64 y9) .no, .v (.int .i64 y10) .no, .v (.bytes y11) _, .v (.bool y12) .no, .v (.int .i64 y13) .no]⟩] => bnd8 (s x0 y0 y1 y2 y3 y4 y5 y6 y7 y8 y9 y10 y11 y12 y13) fun r0 r1 r2 r3 r4 r5 r6 r7 => putAllK [(kv0, sv0)] [⟨95, [.v (.int .i64 y0) .no, .v (.int .i64 y1) .no, .v (.int .i64 y2) .no, .v (.int .i64 y3) .no, .v (.int .i64 y4) .no, .v (.bytes y5) .no, .v (.int .i64 y6) .no, .v (.sl 27 y7) .no, .v (.bytes y8) (.own (.slot 0) 5), .v (.int .i64 y9) .no, .v (.int .i64 y10) .no, .v (.bytes y11) .no, .v (.bool y12) .no, .v (.int .i64 y13) .no]⟩] m fun m' => K [.agg [.v (.int .i64 r0) .no, .v (.int .i64 r1) .no, .v (.int .i64 r2) .no, .v (.bool r3) .no, .v (.int .i64 r4) .no, .v (.bool r5) .no, .v (.bytes r6) .no], .v (.int .i64 r7) .no] m'
    | _ => none)
  | _ => none
noncomputable def r_tDecode {α : Type} (K : Int -> Int -> Int -> Bool -> Int -> Bool -> List UInt8 -> Int -> Int -> Int -> Int -> Int -> Int -> List UInt8 -> Int -> List V -> List UInt8 -> Int -> Int -> List UInt8 -> Bool -> Int -> Option α) (rs : List D) (m : Mem) : Option α :=
  match rs, m with
  | [.agg [.v (.int .i64 r0) _, .v (.int .i64 r1) _, .v (.int .i64 r2) _, .v (.bool r3) _, .v (.int .i64 r4) _, .v (.bool r5) _, .v (.bytes r6) _], .v (.int .i64 r7) _], [_, [(0, ⟨95, [.v (.int .i64 z0) .no, .v (.int .i64 z1) .no, .v (.int .i64 z2) .no, .v (.int .i64 z3) .no, .v (.int .i64 z4) .no, .v (.bytes z5) _, .v (.int .i64 z6) .no, .v (.sl 27 z7) _, .v (.bytes z8) (.own (.slot 0) 5), .v (.int .i64 z9) .no, .v (.int .i64 z10) .no, .v (.bytes z11) _, .v (.bool z12) .no, .v (.int .i64 z13) .no]⟩)]] => K r0 r1 r2 r3 r4 r5 r6 r7 z0 z1 z2 z3 z4 z5 z6 z7 z8 z9 z10 z11 z12 z13
  | _, _ => none
noncomputable def C_tDecode {R : Type} (N : Nat) (x0 : List UInt8) (y0 y1 y2 y3 y4 : Int) (y5 : List UInt8) (y6 : Int) (y7 : List V) (y8 : List UInt8) (y9 y10 : Int) (y11 : List UInt8) (y12 : Bool) (y13 : Int) (K0 : Int -> Int -> Int -> Bool -> Int -> Bool -> List UInt8 -> Int -> Option R) : Option R := bnd8 (s_bDecode N x0 y0) fun n0 n1 n2 b3 n4 b5 l6 n7 => br (decide (n7 = 6)) (K0 n0 n1 n2 b3 n4 b5 l6 1) (br (!decide (n7 = 0)) (K0 n0 n1 n2 b3 n4 b5 l6 2) (br (!decide (n0 = 0)) (K0 n0 n1 n2 b3 n4 b5 l6 2) (br (decide (n1 = 0)) (br (decide (y1 < (l6.length : Int))) (K0 n0 n1 n2 b3 n4 b5 l6 2) (K0 n0 n1 n2 b3 n4 b5 l6 0)) (K0 n0 n1 n2 b3 n4 b5 l6 0))))
noncomputable def s_tDecode (N : Nat) (x0 : List UInt8) (y0 y1 y2 y3 y4 : Int) (y5 : List UInt8) (y6 : Int) (y7 : List V) (y8 : List UInt8) (y9 y10 : Int) (y11 : List UInt8) (y12 : Bool) (y13 : Int) : Option (Int × Int × Int × Bool × Int × Bool × List UInt8 × Int) := C_tDecode N x0 y0 y1 y2 y3 y4 y5 y6 y7 y8 y9 y10 y11 y12 y13 (fun r0 r1 r2 r3 r4 r5 r6 r7 => some (r0, r1, r2, r3, r4, r5, r6, r7))
noncomputable def cx_tDecode (N : Nat) : Cx := cxO [⟨79, e_bDecode (s_bDecode N)⟩] []
theorem C_tDecode_ok {R : Type} (N : Nat) (x0 y0 y1 y2 y3 y4 y5 y6 y7 y8 y9 y10 y11 y12 y13 K : _) : bodyK (R := R) (cx_tDecode N) Try.f44 [.ptr 1 0 0, dY x0] [frOf 0 [g2a y0 y1 y2 y3 y4 y5 y6 y7 y8 y9 y10 y11 y12 y13]] (r_tDecode K) = C_tDecode N x0 y0 y1 y2 y3 y4 y5 y6 y7 y8 y9 y10 y11 y12 y13 (fun r0 r1 r2 r3 r4 r5 r6 r7 => K r0 r1 r2 r3 r4 r5 r6 r7 y0 y1 y2 y3 y4 y5 y6 y7 y8 y9 y10 y11 y12 y13) := by
  kernel_rfl
abbrev Q_tDecode (s : Ty20) : Prop := ∀ x0 y0 y1 y2 y3 y4 y5 y6 y7 y8 y9 y10 y11 y12 y13 r0 r1 r2 r3 r4 r5 r6 r7, s x0 y0 y1 y2 y3 y4 y5 y6 y7 y8 y9 y10 y11 y12 y13 = some (r0, r1, r2, r3, r4, r5, r6, r7) -> ViewRet Try.prog T 44 [.ptr 1 0 0, dY x0] [g2a y0 y1 y2 y3 y4 y5 y6 y7 y8 y9 y10 y11 y12 y13] [g0a r0 r1 r2 r3 r4 r5 r6, dI r7] [g2a y0 y1 y2 y3 y4 y5 y6 y7 y8 y9 y10 y11 y12 y13]
theorem eo_tDecode (s : Ty20) (hs : Q_tDecode s) : MEntOK Try.prog T ⟨44, e_tDecode s⟩ := by
  refine ⟨goes_of Try.func44 (by kernel_rfl) (c := bodyOf Try.f44) (by kernel_rfl), fun R dst ds m K r h => ?_⟩
  simp only [e_tDecode] at h
  split at h
  . obtain ⟨Bs, a1, a2, a3, h⟩ := viewK_some h
    split at h
    . obtain ⟨r0, r1, r2, r3, r4, r5, r6, r7, h1, h2⟩ := bnd8_some h
      rw [putAllK_eq] at h2
      exact ⟨_, _, h2, ViewRet.weakIn (hs _ _ _ _ _ _ _ _ _ _ _ _ _ _ _ _ _ _ _ _ _ _ _ h1) (by exact ⟨⟨rfl, .inl rfl, .inl rfl, .inl rfl, .inl rfl, .inl rfl, .inr ⟨_, _, rfl, rfl⟩, .inl rfl, .inr ⟨_, _, rfl, rfl⟩, .inl rfl, .inl rfl, .inl rfl, .inr ⟨_, _, rfl, rfl⟩, .inl rfl, .inl rfl, trivial⟩, trivial⟩) rfl _ _ m dst a1 a2 a3 ⟨aren_ptr _ rfl, aren_v _, trivial⟩⟩
    . cases h
  . cases h
open Classical in
theorem p_tDecode (N : Nat) : Q_tDecode (s_tDecode N) := fun x0 y0 y1 y2 y3 y4 y5 y6 y7 y8 y9 y10 y11 y12 y13 r0 r1 r2 r3 r4 r5 r6 r7 h => by
  refine view_ofW (cx := cx_tDecode N) (by kernel_rfl) (cxO_ok ⟨eo_bDecode _ (p_bDecode N), trivial⟩ trivial) Try.func44 (by kernel_rfl) (by kernel_rfl) (loopsOK_of (k := 0) (by kernel_rfl) trivial) (by rfl) (by rfl) (by rfl) (rf := r_tDecode (fun r0' r1' r2' r3' r4' r5' r6' r7' z'0 z'1 z'2 z'3 z'4 z'5 z'6 z'7 z'8 z'9 z'10 z'11 z'12 z'13 => if z'0 = y0 /\ z'1 = y1 /\ z'2 = y2 /\ z'3 = y3 /\ z'4 = y4 /\ z'5 = y5 /\ z'6 = y6 /\ z'7 = y7 /\ z'8 = y8 /\ z'9 = y9 /\ z'10 = y10 /\ z'11 = y11 /\ z'12 = y12 /\ z'13 = y13 then some (r0', r1', r2', r3', r4', r5', r6', r7') else none)) (r := (r0, r1, r2, r3, r4, r5, r6, r7)) ?_ ?_
  . exact (C_tDecode_ok ..).trans ((congrArg (fun K => C_tDecode N x0 y0 y1 y2 y3 y4 y5 y6 y7 y8 y9 y10 y11 y12 y13 K) (funext fun r0' => funext fun r1' => funext fun r2' => funext fun r3' => funext fun r4' => funext fun r5' => funext fun r6' => funext fun r7' => if_pos ⟨rfl, rfl, rfl, rfl, rfl, rfl, rfl, rfl, rfl, rfl, rfl, rfl, rfl, rfl⟩)).trans h)
  . intro rs' m' hx
    unfold r_tDecode at hx
    split at hx
    . dsimp only at hx
      split at hx
      . rename_i hk
        obtain ⟨rfl, rfl, rfl, rfl, rfl, rfl, rfl, rfl, rfl, rfl, rfl, rfl, rfl, rfl⟩ := hk
        cases hx; exact ⟨rfl, rfl, _, [⟨95, [_, _, _, _, _, _, _, _, _, _, _, _, _, _]⟩], rfl, rfl, ⟨⟨rfl, .inl rfl, .inl rfl, .inl rfl, .inl rfl, .inl rfl, .inr ⟨_, _, rfl, rfl⟩, .inl rfl, .inr ⟨_, _, rfl, rfl⟩, .inl rfl, .inl rfl, .inl rfl, .inr ⟨_, _, rfl, rfl⟩, .inl rfl, .inl rfl, trivial⟩, trivial⟩⟩
      . cases hx
    . cases hx
abbrev Ty21 := Int -> Int -> Int -> Int -> Int -> Int -> List UInt8 -> Int -> List V -> List UInt8 -> Int -> Int -> List UInt8 -> Bool -> Int -> Option (List UInt8)
noncomputable def e_tReady {R : Type} (s : Ty21) (dst : Nat) (ds : List D) (m : Mem) (K : List D -> Mem -> Option R) : Option R :=
  match ds with
  | [.ptr (kv0 + 1) sv0 0, .v (.int .i64 x0) .no] => viewK [(kv0, sv0)] m fun Bs => (match Bs with
    | [⟨95, [.v (.int .i64 y0) .no, .v (.int .i64 y1) .no, .v (.int .i64 y2) .no, .v (.int .i64 y3) .no, .v (.int .i64 y4) .no, .v (.bytes y5) _, .v (.int .i64 y6) .no, .v (.sl 27 y7) _, .v (.bytes y8) (.own (.slot 0) 5), .v (.int .i64 y9) .no, .v (.int .i64 y10) .no, .v (.bytes y11) _, .v (.bool y12) .no, .v (.int .i64 y13) .no]⟩] => bnd1 (s x0 y0 y1 y2 y3 y4 y5 y6 y7 y8 y9 y10 y11 y12 y13) fun r0 => putAllK [(kv0, sv0)] [⟨95, [.v (.int .i64 y0) .no, .v (.int .i64 y1) .no, .v (.int .i64 y2) .no, .v (.int .i64 y3) .no, .v (.int .i64 y4) .no, .v (.bytes y5) .no, .v (.int .i64 y6) .no, .v (.sl 27 y7) .no, .v (.bytes y8) (.own (.slot 0) 5), .v (.int .i64 y9) .no, .v (.int .i64 y10) .no, .v (.bytes y11) .no, .v (.bool y12) .no, .v (.int .i64 y13) .no]⟩] m fun m' => K [.v (.bytes r0) .no] m'
    | _ => none)
  | _ => none
noncomputable def C_tReady {R : Type} (N : Nat) (x0 y0 y1 y2 y3 y4 : Int) (y5 : List UInt8) (y6 : Int) (y7 : List V) (y8 : List UInt8) (y9 y10 : Int) (y11 : List UInt8) (y12 : Bool) (y13 : Int) (K0 : List UInt8 -> Option R) : Option R := bnd1 (s_tEnc N 0 1 y3 false x0 false [] y0 y1 y2 y3 y4 y5 y6 y7 y8 y9 y10 y11 y12 y13) fun l0 => K0 l0
noncomputable def s_tReady (N : Nat) (x0 y0 y1 y2 y3 y4 : Int) (y5 : List UInt8) (y6 : Int) (y7 : List V) (y8 : List UInt8) (y9 y10 : Int) (y11 : List UInt8) (y12 : Bool) (y13 : Int) : Option (List UInt8) := C_tReady N x0 y0 y1 y2 y3 y4 y5 y6 y7 y8 y9 y10 y11 y12 y13 (fun r0 => some r0)
noncomputable def cx_tReady (N : Nat) : Cx := cxO [] [⟨81, e_tEnc (s_tEnc N)⟩]
theorem C_tReady_ok {R : Type} (N : Nat) (x0 y0 y1 y2 y3 y4 y5 y6 y7 y8 y9 y10 y11 y12 y13 K : _) : bodyK (R := R) (cx_tReady N) Try.f47 [.ptr 1 0 0, dI x0] [frOf 0 [g2a y0 y1 y2 y3 y4 y5 y6 y7 y8 y9 y10 y11 y12 y13]] (r_tEnc K) = C_tReady N x0 y0 y1 y2 y3 y4 y5 y6 y7 y8 y9 y10 y11 y12 y13 (fun r0 => K r0 y0 y1 y2 y3 y4 y5 y6 y7 y8 y9 y10 y11 y12 y13) := by
  kernel_rfl
abbrev Q_tReady (s : Ty21) : Prop := ∀ x0 y0 y1 y2 y3 y4 y5 y6 y7 y8 y9 y10 y11 y12 y13 r0, s x0 y0 y1 y2 y3 y4 y5 y6 y7 y8 y9 y10 y11 y12 y13 = some r0 -> ViewRet Try.prog T 47 [.ptr 1 0 0, dI x0] [g2a y0 y1 y2 y3 y4 y5 y6 y7 y8 y9 y10 y11 y12 y13] [dY r0] [g2a y0 y1 y2 y3 y4 y5 y6 y7 y8 y9 y10 y11 y12 y13]
theorem eo_tReady (s : Ty21) (hs : Q_tReady s) : MEntOK Try.prog T ⟨47, e_tReady s⟩ := by
  refine ⟨goes_of Try.func47 (by kernel_rfl) (c := bodyOf Try.f47) (by kernel_rfl), fun R dst ds m K r h => ?_⟩
  simp only [e_tReady] at h
  split at h
  . obtain ⟨Bs, a1, a2, a3, h⟩ := viewK_some h
    split at h
    . obtain ⟨r0, h1, h2⟩ := bnd1_some h
      rw [putAllK_eq] at h2
      exact ⟨_, _, h2, ViewRet.weakIn (hs _ _ _ _ _ _ _ _ _ _ _ _ _ _ _ _ h1) (by exact ⟨⟨rfl, .inl rfl, .inl rfl, .inl rfl, .inl rfl, .inl rfl, .inr ⟨_, _, rfl, rfl⟩, .inl rfl, .inr ⟨_, _, rfl, rfl⟩, .inl rfl, .inl rfl, .inl rfl, .inr ⟨_, _, rfl, rfl⟩, .inl rfl, .inl rfl, trivial⟩, trivial⟩) rfl _ _ m dst a1 a2 a3 ⟨aren_ptr _ rfl, aren_v _, trivial⟩⟩
    . cases h
  . cases h
open Classical in
theorem p_tReady (N : Nat) : Q_tReady (s_tReady N) := fun x0 y0 y1 y2 y3 y4 y5 y6 y7 y8 y9 y10 y11 y12 y13 r0 h => by
  refine view_ofW (cx := cx_tReady N) (by kernel_rfl) (cxO_ok trivial ⟨eo_tEnc _ (p_tEnc N), trivial⟩) Try.func47 (by kernel_rfl) (by kernel_rfl) (loopsOK_of (k := 0) (by kernel_rfl) trivial) (by rfl) (by rfl) (by rfl) (rf := r_tEnc (fun r0' z'0 z'1 z'2 z'3 z'4 z'5 z'6 z'7 z'8 z'9 z'10 z'11 z'12 z'13 => if z'0 = y0 /\ z'1 = y1 /\ z'2 = y2 /\ z'3 = y3 /\ z'4 = y4 /\ z'5 = y5 /\ z'6 = y6 /\ z'7 = y7 /\ z'8 = y8 /\ z'9 = y9 /\ z'10 = y10 /\ z'11 = y11 /\ z'12 = y12 /\ z'13 = y13 then some r0' else none)) (r := r0) ?_ ?_
  . exact (C_tReady_ok ..).trans ((congrArg (fun K => C_tReady N x0 y0 y1 y2 y3 y4 y5 y6 y7 y8 y9 y10 y11 y12 y13 K) (funext fun r0' => if_pos ⟨rfl, rfl, rfl, rfl, rfl, rfl, rfl, rfl, rfl, rfl, rfl, rfl, rfl, rfl⟩)).trans h)
  . intro rs' m' hx
    unfold r_tEnc at hx
    split at hx
    . dsimp only at hx
      split at hx
      . rename_i hk
        obtain ⟨rfl, rfl, rfl, rfl, rfl, rfl, rfl, rfl, rfl, rfl, rfl, rfl, rfl, rfl⟩ := hk
        cases hx; exact ⟨rfl, rfl, _, [⟨95, [_, _, _, _, _, _, _, _, _, _, _, _, _, _]⟩], rfl, rfl, ⟨⟨rfl, .inl rfl, .inl rfl, .inl rfl, .inl rfl, .inl rfl, .inr ⟨_, _, rfl, rfl⟩, .inl rfl, .inr ⟨_, _, rfl, rfl⟩, .inl rfl, .inl rfl, .inl rfl, .inr ⟨_, _, rfl, rfl⟩, .inl rfl, .inl rfl, trivial⟩, trivial⟩⟩
      . cases hx
    . cases hx
end Go.Proofs.Ytilfphdeacogmaa.En

/- Functions of the program in plain Lean, joined to the program by evaluation; printed by a program. -/
namespace Go.Proofs.Ytilfphdeacogmaa.En
open Go Go.Proofs
set_option maxRecDepth 100000
set_option maxHeartbeats 8000000
set_option linter.unusedVariables false
abbrev Ty22 := Int -> Bool -> List UInt8 -> Int -> Int -> Int -> Int -> Int -> List UInt8 -> Int -> List V -> List UInt8 -> Int -> Int -> List UInt8 -> Bool -> Int -> Option (List UInt8)
noncomputable def e_tSpecial {R : Type} (s : Ty22) (dst : Nat) (ds : List D) (m : Mem) (K : List D -> Mem -> Option R) : Option R :=
  match ds with
  | [.ptr (kv0 + 1) sv0 0, .v (.int .i64 x0) .no, .v (.bool x1) .no, .v (.bytes x2) .no] => viewK [(kv0, sv0)] m fun Bs => (match Bs with
    | [⟨95, [.v (.int .i64 y0) .no, .v (.int .i64 y1) .no, .v (.int .i64 y2) .no, .v (.int .i64 y3) .no, .v (.int .i64 y4) .no, .v (.bytes y5) _, .v (.int .i64 y6) .no, .v (.sl 27 y7) _, .v (.bytes y8) (.own (.slot 0) 5), .v (.int .i64 y9) .no, .v (.int .i64 y10) .no, .v (.bytes y11) _, .v (.bool y12) .no, .v (.int .i64 y13) .no]⟩] => bnd1 (s x0 x1 x2 y0 y1 y2 y3 y4 y5 y6 y7 y8 y9 y10 y11 y12 y13) fun r0 => putAllK [(kv0, sv0)] [⟨95, [.v (.int .i64 y0) .no, .v (.int .i64 y1) .no, .v (.int .i64 y2) .no, .v (.int .i64 y3) .no, .v (.int .i64 y4) .no, .v (.bytes y5) .no, .v (.int .i64 y6) .no, .v (.sl 27 y7) .no, .v (.bytes y8) (.own (.slot 0) 5), .v (.int .i64 y9) .no, .v (.int .i64 y10) .no, .v (.bytes y11) .no, .v (.bool y12) .no, .v (.int .i64 y13) .no]⟩] m fun m' => K [.v (.bytes r0) .no] m'
    | _ => none)
  | _ => none
noncomputable def C_tSpecial {R : Type} (N : Nat) (x0 : Int) (x1 : Bool) (x2 : List UInt8) (y0 y1 y2 y3 y4 : Int) (y5 : List UInt8) (y6 : Int) (y7 : List V) (y8 : List UInt8) (y9 y10 : Int) (y11 : List UInt8) (y12 : Bool) (y13 : Int) (K0 : List UInt8 -> Option R) : Option R := bnd1 (s_tEnc N 0 2 0 false x0 x1 x2 y0 y1 y2 y3 y4 y5 y6 y7 y8 y9 y10 y11 y12 y13) fun l0 => K0 l0
noncomputable def s_tSpecial (N : Nat) (x0 : Int) (x1 : Bool) (x2 : List UInt8) (y0 y1 y2 y3 y4 : Int) (y5 : List UInt8) (y6 : Int) (y7 : List V) (y8 : List UInt8) (y9 y10 : Int) (y11 : List UInt8) (y12 : Bool) (y13 : Int) : Option (List UInt8) := C_tSpecial N x0 x1 x2 y0 y1 y2 y3 y4 y5 y6 y7 y8 y9 y10 y11 y12 y13 (fun r0 => some r0)
noncomputable def cx_tSpecial (N : Nat) : Cx := cxO [] [⟨81, e_tEnc (s_tEnc N)⟩]
theorem C_tSpecial_ok {R : Type} (N : Nat) (x0 x1 x2 y0 y1 y2 y3 y4 y5 y6 y7 y8 y9 y10 y11 y12 y13 K : _) : bodyK (R := R) (cx_tSpecial N) Try.f46 [.ptr 1 0 0, dI x0, dB x1, dY x2] [frOf 0 [g2a y0 y1 y2 y3 y4 y5 y6 y7 y8 y9 y10 y11 y12 y13]] (r_tEnc K) = C_tSpecial N x0 x1 x2 y0 y1 y2 y3 y4 y5 y6 y7 y8 y9 y10 y11 y12 y13 (fun r0 => K r0 y0 y1 y2 y3 y4 y5 y6 y7 y8 y9 y10 y11 y12 y13) := by
  kernel_rfl
abbrev Q_tSpecial (s : Ty22) : Prop := ∀ x0 x1 x2 y0 y1 y2 y3 y4 y5 y6 y7 y8 y9 y10 y11 y12 y13 r0, s x0 x1 x2 y0 y1 y2 y3 y4 y5 y6 y7 y8 y9 y10 y11 y12 y13 = some r0 -> ViewRet Try.prog T 46 [.ptr 1 0 0, dI x0, dB x1, dY x2] [g2a y0 y1 y2 y3 y4 y5 y6 y7 y8 y9 y10 y11 y12 y13] [dY r0] [g2a y0 y1 y2 y3 y4 y5 y6 y7 y8 y9 y10 y11 y12 y13]
theorem eo_tSpecial (s : Ty22) (hs : Q_tSpecial s) : MEntOK Try.prog T ⟨46, e_tSpecial s⟩ := by
  refine ⟨goes_of Try.func46 (by kernel_rfl) (c := bodyOf Try.f46) (by kernel_rfl), fun R dst ds m K r h => ?_⟩
  simp only [e_tSpecial] at h
  split at h
  . obtain ⟨Bs, a1, a2, a3, h⟩ := viewK_some h
    split at h
    . obtain ⟨r0, h1, h2⟩ := bnd1_some h
      rw [putAllK_eq] at h2
      exact ⟨_, _, h2, ViewRet.weakIn (hs _ _ _ _ _ _ _ _ _ _ _ _ _ _ _ _ _ _ h1) (by exact ⟨⟨rfl, .inl rfl, .inl rfl, .inl rfl, .inl rfl, .inl rfl, .inr ⟨_, _, rfl, rfl⟩, .inl rfl, .inr ⟨_, _, rfl, rfl⟩, .inl rfl, .inl rfl, .inl rfl, .inr ⟨_, _, rfl, rfl⟩, .inl rfl, .inl rfl, trivial⟩, trivial⟩) rfl _ _ m dst a1 a2 a3 ⟨aren_ptr _ rfl, aren_v _, aren_v _, aren_v _, trivial⟩⟩
    . cases h
  . cases h
open Classical in
theorem p_tSpecial (N : Nat) : Q_tSpecial (s_tSpecial N) := fun x0 x1 x2 y0 y1 y2 y3 y4 y5 y6 y7 y8 y9 y10 y11 y12 y13 r0 h => by
  refine view_ofW (cx := cx_tSpecial N) (by kernel_rfl) (cxO_ok trivial ⟨eo_tEnc _ (p_tEnc N), trivial⟩) Try.func46 (by kernel_rfl) (by kernel_rfl) (loopsOK_of (k := 0) (by kernel_rfl) trivial) (by rfl) (by rfl) (by rfl) (rf := r_tEnc (fun r0' z'0 z'1 z'2 z'3 z'4 z'5 z'6 z'7 z'8 z'9 z'10 z'11 z'12 z'13 => if z'0 = y0 /\ z'1 = y1 /\ z'2 = y2 /\ z'3 = y3 /\ z'4 = y4 /\ z'5 = y5 /\ z'6 = y6 /\ z'7 = y7 /\ z'8 = y8 /\ z'9 = y9 /\ z'10 = y10 /\ z'11 = y11 /\ z'12 = y12 /\ z'13 = y13 then some r0' else none)) (r := r0) ?_ ?_
  . exact (C_tSpecial_ok ..).trans ((congrArg (fun K => C_tSpecial N x0 x1 x2 y0 y1 y2 y3 y4 y5 y6 y7 y8 y9 y10 y11 y12 y13 K) (funext fun r0' => if_pos ⟨rfl, rfl, rfl, rfl, rfl, rfl, rfl, rfl, rfl, rfl, rfl, rfl, rfl, rfl⟩)).trans h)
  . intro rs' m' hx
    unfold r_tEnc at hx
    split at hx
    . dsimp only at hx
      split at hx
      . rename_i hk
        obtain ⟨rfl, rfl, rfl, rfl, rfl, rfl, rfl, rfl, rfl, rfl, rfl, rfl, rfl, rfl⟩ := hk
        cases hx; exact ⟨rfl, rfl, _, [⟨95, [_, _, _, _, _, _, _, _, _, _, _, _, _, _]⟩], rfl, rfl, ⟨⟨rfl, .inl rfl, .inl rfl, .inl rfl, .inl rfl, .inl rfl, .inr ⟨_, _, rfl, rfl⟩, .inl rfl, .inr ⟨_, _, rfl, rfl⟩, .inl rfl, .inl rfl, .inl rfl, .inr ⟨_, _, rfl, rfl⟩, .inl rfl, .inl rfl, trivial⟩, trivial⟩⟩
      . cases hx
    . cases hx
abbrev Ty23 := Int -> Int -> Int -> Int -> Int -> List UInt8 -> Int -> List V -> List UInt8 -> Int -> Int -> List UInt8 -> Bool -> Int -> Option (List UInt8 × Int × List UInt8 × Int × List V)
noncomputable def e_tPiece {R : Type} (s : Ty23) (dst : Nat) (ds : List D) (m : Mem) (K : List D -> Mem -> Option R) : Option R :=
  match ds with
  | [.ptr (kv0 + 1) sv0 0] => viewK [(kv0, sv0)] m fun Bs => (match Bs with
    | [⟨95, [.v (.int .i64 y0) .no, .v (.int .i64 y1) .no, .v (.int .i64 y2) .no, .v (.int .i64 y3) .no, .v (.int .i64 y4) .no, .v (.bytes y5) _, .v (.int .i64 y6) .no, .v (.sl 27 y7) _, .v (.bytes y8) (.own (.slot 0) 5), .v (.int .i64 y9) .no, .v (.int .i64 y10) .no, .v (.bytes y11) _, .v (.bool y12) .no, .v (.int .i64 y13) .no]⟩] => bnd5 (s y0 y1 y2 y3 y4 y5 y6 y7 y8 y9 y10 y11 y12 y13) fun r0 z4 z5 z6 z7 => putAllK [(kv0, sv0)] [⟨95, [.v (.int .i64 y0) .no, .v (.int .i64 y1) .no, .v (.int .i64 y2) .no, .v (.int .i64 y3) .no, .v (.int .i64 z4) .no, .v (.bytes z5) .no, .v (.int .i64 z6) .no, .v (.sl 27 z7) .no, .v (.bytes y8) (.own (.slot 0) 5), .v (.int .i64 y9) .no, .v (.int .i64 y10) .no, .v (.bytes y11) .no, .v (.bool y12) .no, .v (.int .i64 y13) .no]⟩] m fun m' => K [.v (.bytes r0) .no] m'
    | _ => none)
  | _ => none
noncomputable def C_tPiece {R : Type} (N : Nat) (y0 y1 y2 y3 y4 : Int) (y5 : List UInt8) (y6 : Int) (y7 : List V) (y8 : List UInt8) (y9 y10 : Int) (y11 : List UInt8) (y12 : Bool) (y13 : Int) (K0 : List UInt8 -> Int -> List UInt8 -> Int -> List V -> Option R) : Option R := br (decide (0 < (y7.length : Int))) (at? y7 0 fun x0 => x0.unBytes fun l1 => br (decide (1 <= (y7.length : Int))) (bnd1 (s_tEnc N 0 0 y4 (decide (0 < ((List.drop 1 y7).length : Int))) 0 false l1 y0 y1 y2 y3 y4 y5 y6 (List.drop 1 y7) y8 y9 y10 y11 y12 y13) fun l2 => bnd1 (s_clone N l2) fun l3 => K0 l3 (IntKind.i64.wrap (1 - y4)) l2 y4 (List.drop 1 y7)) none) none
noncomputable def s_tPiece (N : Nat) (y0 y1 y2 y3 y4 : Int) (y5 : List UInt8) (y6 : Int) (y7 : List V) (y8 : List UInt8) (y9 y10 : Int) (y11 : List UInt8) (y12 : Bool) (y13 : Int) : Option (List UInt8 × Int × List UInt8 × Int × List V) := C_tPiece N y0 y1 y2 y3 y4 y5 y6 y7 y8 y9 y10 y11 y12 y13 (fun r0 z4 z5 z6 z7 => some (r0, z4, z5, z6, z7))
noncomputable def cx_tPiece (N : Nat) : Cx := cxO [⟨60, e_clone (s_clone N)⟩] [⟨81, e_tEnc (s_tEnc N)⟩]
theorem C_tPiece_ok {R : Type} (N : Nat) (y0 y1 y2 y3 y4 y5 y6 y7 y8 y9 y10 y11 y12 y13 K : _) : bodyK (R := R) (cx_tPiece N) Try.f82 [.ptr 1 0 0] [frOf 0 [g2a y0 y1 y2 y3 y4 y5 y6 y7 y8 y9 y10 y11 y12 y13]] (r_tEnc K) = C_tPiece N y0 y1 y2 y3 y4 y5 y6 y7 y8 y9 y10 y11 y12 y13 (fun r0 z4 z5 z6 z7 => K r0 y0 y1 y2 y3 z4 z5 z6 z7 y8 y9 y10 y11 y12 y13) := by
  kernel_rfl
abbrev Q_tPiece (s : Ty23) : Prop := ∀ y0 y1 y2 y3 y4 y5 y6 y7 y8 y9 y10 y11 y12 y13 r0 z4 z5 z6 z7, s y0 y1 y2 y3 y4 y5 y6 y7 y8 y9 y10 y11 y12 y13 = some (r0, z4, z5, z6, z7) -> ViewRet Try.prog T 82 [.ptr 1 0 0] [g2a y0 y1 y2 y3 y4 y5 y6 y7 y8 y9 y10 y11 y12 y13] [dY r0] [g2a y0 y1 y2 y3 z4 z5 z6 z7 y8 y9 y10 y11 y12 y13]
theorem eo_tPiece (s : Ty23) (hs : Q_tPiece s) : MEntOK Try.prog T ⟨82, e_tPiece s⟩ := by
  refine ⟨goes_of Try.func82 (by kernel_rfl) (c := bodyOf Try.f82) (by kernel_rfl), fun R dst ds m K r h => ?_⟩
  simp only [e_tPiece] at h
  split at h
  . obtain ⟨Bs, a1, a2, a3, h⟩ := viewK_some h
    split at h
    . obtain ⟨r0, z4, z5, z6, z7, h1, h2⟩ := bnd5_some h
      rw [putAllK_eq] at h2
      exact ⟨_, _, h2, ViewRet.weakIn (hs _ _ _ _ _ _ _ _ _ _ _ _ _ _ _ _ _ _ _ h1) (by exact ⟨⟨rfl, .inl rfl, .inl rfl, .inl rfl, .inl rfl, .inl rfl, .inr ⟨_, _, rfl, rfl⟩, .inl rfl, .inr ⟨_, _, rfl, rfl⟩, .inl rfl, .inl rfl, .inl rfl, .inr ⟨_, _, rfl, rfl⟩, .inl rfl, .inl rfl, trivial⟩, trivial⟩) rfl _ _ m dst a1 a2 a3 ⟨aren_ptr _ rfl, trivial⟩⟩
    . cases h
  . cases h
open Classical in
theorem p_tPiece (N : Nat) : Q_tPiece (s_tPiece N) := fun y0 y1 y2 y3 y4 y5 y6 y7 y8 y9 y10 y11 y12 y13 r0 z4 z5 z6 z7 h => by
  refine view_ofW (cx := cx_tPiece N) (by kernel_rfl) (cxO_ok ⟨eo_clone _ (p_clone N), trivial⟩ ⟨eo_tEnc _ (p_tEnc N), trivial⟩) Try.func82 (by kernel_rfl) (by kernel_rfl) (loopsOK_of (k := 0) (by kernel_rfl) trivial) (by rfl) (by rfl) (by rfl) (rf := r_tEnc (fun r0' z'0 z'1 z'2 z'3 z'4 z'5 z'6 z'7 z'8 z'9 z'10 z'11 z'12 z'13 => if z'0 = y0 /\ z'1 = y1 /\ z'2 = y2 /\ z'3 = y3 /\ z'8 = y8 /\ z'9 = y9 /\ z'10 = y10 /\ z'11 = y11 /\ z'12 = y12 /\ z'13 = y13 then some (r0', z'4, z'5, z'6, z'7) else none)) (r := (r0, z4, z5, z6, z7)) ?_ ?_
  . exact (C_tPiece_ok ..).trans ((congrArg (fun K => C_tPiece N y0 y1 y2 y3 y4 y5 y6 y7 y8 y9 y10 y11 y12 y13 K) (funext fun r0' => funext fun z'4 => funext fun z'5 => funext fun z'6 => funext fun z'7 => if_pos ⟨rfl, rfl, rfl, rfl, rfl, rfl, rfl, rfl, rfl, rfl⟩)).trans h)
  . intro rs' m' hx
    unfold r_tEnc at hx
    split at hx
    . dsimp only at hx
      split at hx
      . rename_i hk
        obtain ⟨rfl, rfl, rfl, rfl, rfl, rfl, rfl, rfl, rfl, rfl⟩ := hk
        cases hx; exact ⟨rfl, rfl, _, [⟨95, [_, _, _, _, _, _, _, _, _, _, _, _, _, _]⟩], rfl, rfl, ⟨⟨rfl, .inl rfl, .inl rfl, .inl rfl, .inl rfl, .inl rfl, .inr ⟨_, _, rfl, rfl⟩, .inl rfl, .inr ⟨_, _, rfl, rfl⟩, .inl rfl, .inl rfl, .inl rfl, .inr ⟨_, _, rfl, rfl⟩, .inl rfl, .inl rfl, trivial⟩, trivial⟩⟩
      . cases hx
    . cases hx
abbrev Ty24 := List UInt8 -> Int -> Int -> Int -> Int -> Int -> List UInt8 -> Int -> List V -> List UInt8 -> Int -> Int -> List UInt8 -> Bool -> Int -> Option (List UInt8 × Int × List UInt8 × Int × List V)
noncomputable def e_tSendC {R : Type} (s : Ty24) (dst : Nat) (ds : List D) (m : Mem) (K : List D -> Mem -> Option R) : Option R :=
  match ds with
  | [.ptr (kv0 + 1) sv0 0, .v (.bytes x0) .no] => viewK [(kv0, sv0)] m fun Bs => (match Bs with
    | [⟨95, [.v (.int .i64 y0) .no, .v (.int .i64 y1) .no, .v (.int .i64 y2) .no, .v (.int .i64 y3) .no, .v (.int .i64 y4) .no, .v (.bytes y5) _, .v (.int .i64 y6) .no, .v (.sl 27 y7) _, .v (.bytes y8) (.own (.slot 0) 5), .v (.int .i64 y9) .no, .v (.int .i64 y10) .no, .v (.bytes y11) _, .v (.bool y12) .no, .v (.int .i64 y13) .no]⟩] => bnd5 (s x0 y0 y1 y2 y3 y4 y5 y6 y7 y8 y9 y10 y11 y12 y13) fun r0 z4 z5 z6 z7 => putAllK [(kv0, sv0)] [⟨95, [.v (.int .i64 y0) .no, .v (.int .i64 y1) .no, .v (.int .i64 y2) .no, .v (.int .i64 y3) .no, .v (.int .i64 z4) .no, .v (.bytes z5) .no, .v (.int .i64 z6) .no, .v (.sl 27 z7) .no, .v (.bytes y8) (.own (.slot 0) 5), .v (.int .i64 y9) .no, .v (.int .i64 y10) .no, .v (.bytes y11) .no, .v (.bool y12) .no, .v (.int .i64 y13) .no]⟩] m fun m' => K [.v (.bytes r0) .no] m'
    | _ => none)
  | _ => none
noncomputable def C_tSendC {R : Type} (N : Nat) (x0 : List UInt8) (y0 y1 y2 y3 y4 : Int) (y5 : List UInt8) (y6 : Int) (y7 : List V) (y8 : List UInt8) (y9 y10 : Int) (y11 : List UInt8) (y12 : Bool) (y13 : Int) (K0 : List UInt8 -> Int -> List UInt8 -> Int -> List V -> Option R) : Option R := bnd2 (s_oSplit N x0 y2) fun l0 n1 => br (decide ((x0.length : Int) = 0)) (bnd5 (s_tPiece N y0 y1 y2 y3 y4 y5 y6 [V.bytes []] y8 y9 y10 y11 y12 y13) fun l2 n3 l4 n5 l6 => K0 l2 n3 l4 n5 l6) (bnd5 (s_tPiece N y0 y1 y2 y3 y4 y5 y6 l0 y8 y9 y10 y11 y12 y13) fun l7 n8 l9 n10 l11 => K0 l7 n8 l9 n10 l11)
noncomputable def s_tSendC (N : Nat) (x0 : List UInt8) (y0 y1 y2 y3 y4 : Int) (y5 : List UInt8) (y6 : Int) (y7 : List V) (y8 : List UInt8) (y9 y10 : Int) (y11 : List UInt8) (y12 : Bool) (y13 : Int) : Option (List UInt8 × Int × List UInt8 × Int × List V) := C_tSendC N x0 y0 y1 y2 y3 y4 y5 y6 y7 y8 y9 y10 y11 y12 y13 (fun r0 z4 z5 z6 z7 => some (r0, z4, z5, z6, z7))
noncomputable def cx_tSendC (N : Nat) : Cx := cxO [⟨85, e_oSplit (s_oSplit N)⟩] [⟨82, e_tPiece (s_tPiece N)⟩]
theorem C_tSendC_ok {R : Type} (N : Nat) (x0 y0 y1 y2 y3 y4 y5 y6 y7 y8 y9 y10 y11 y12 y13 K : _) : bodyK (R := R) (cx_tSendC N) Try.f58 [.ptr 1 0 0, dY x0] [frOf 0 [g2a y0 y1 y2 y3 y4 y5 y6 y7 y8 y9 y10 y11 y12 y13]] (r_tEnc K) = C_tSendC N x0 y0 y1 y2 y3 y4 y5 y6 y7 y8 y9 y10 y11 y12 y13 (fun r0 z4 z5 z6 z7 => K r0 y0 y1 y2 y3 z4 z5 z6 z7 y8 y9 y10 y11 y12 y13) := by
  kernel_rfl
abbrev Q_tSendC (s : Ty24) : Prop := ∀ x0 y0 y1 y2 y3 y4 y5 y6 y7 y8 y9 y10 y11 y12 y13 r0 z4 z5 z6 z7, s x0 y0 y1 y2 y3 y4 y5 y6 y7 y8 y9 y10 y11 y12 y13 = some (r0, z4, z5, z6, z7) -> ViewRet Try.prog T 58 [.ptr 1 0 0, dY x0] [g2a y0 y1 y2 y3 y4 y5 y6 y7 y8 y9 y10 y11 y12 y13] [dY r0] [g2a y0 y1 y2 y3 z4 z5 z6 z7 y8 y9 y10 y11 y12 y13]
theorem eo_tSendC (s : Ty24) (hs : Q_tSendC s) : MEntOK Try.prog T ⟨58, e_tSendC s⟩ := by
  refine ⟨goes_of Try.func58 (by kernel_rfl) (c := bodyOf Try.f58) (by kernel_rfl), fun R dst ds m K r h => ?_⟩
  simp only [e_tSendC] at h
  split at h
  . obtain ⟨Bs, a1, a2, a3, h⟩ := viewK_some h
    split at h
    . obtain ⟨r0, z4, z5, z6, z7, h1, h2⟩ := bnd5_some h
      rw [putAllK_eq] at h2
      exact ⟨_, _, h2, ViewRet.weakIn (hs _ _ _ _ _ _ _ _ _ _ _ _ _ _ _ _ _ _ _ _ h1) (by exact ⟨⟨rfl, .inl rfl, .inl rfl, .inl rfl, .inl rfl, .inl rfl, .inr ⟨_, _, rfl, rfl⟩, .inl rfl, .inr ⟨_, _, rfl, rfl⟩, .inl rfl, .inl rfl, .inl rfl, .inr ⟨_, _, rfl, rfl⟩, .inl rfl, .inl rfl, trivial⟩, trivial⟩) rfl _ _ m dst a1 a2 a3 ⟨aren_ptr _ rfl, aren_v _, trivial⟩⟩
    . cases h
  . cases h
open Classical in
theorem p_tSendC (N : Nat) : Q_tSendC (s_tSendC N) := fun x0 y0 y1 y2 y3 y4 y5 y6 y7 y8 y9 y10 y11 y12 y13 r0 z4 z5 z6 z7 h => by
  refine view_ofW (cx := cx_tSendC N) (by kernel_rfl) (cxO_ok ⟨eo_oSplit _ (p_oSplit N), trivial⟩ ⟨eo_tPiece _ (p_tPiece N), trivial⟩) Try.func58 (by kernel_rfl) (by kernel_rfl) (loopsOK_of (k := 0) (by kernel_rfl) trivial) (by rfl) (by rfl) (by rfl) (rf := r_tEnc (fun r0' z'0 z'1 z'2 z'3 z'4 z'5 z'6 z'7 z'8 z'9 z'10 z'11 z'12 z'13 => if z'0 = y0 /\ z'1 = y1 /\ z'2 = y2 /\ z'3 = y3 /\ z'8 = y8 /\ z'9 = y9 /\ z'10 = y10 /\ z'11 = y11 /\ z'12 = y12 /\ z'13 = y13 then some (r0', z'4, z'5, z'6, z'7) else none)) (r := (r0, z4, z5, z6, z7)) ?_ ?_
  . exact (C_tSendC_ok ..).trans ((congrArg (fun K => C_tSendC N x0 y0 y1 y2 y3 y4 y5 y6 y7 y8 y9 y10 y11 y12 y13 K) (funext fun r0' => funext fun z'4 => funext fun z'5 => funext fun z'6 => funext fun z'7 => if_pos ⟨rfl, rfl, rfl, rfl, rfl, rfl, rfl, rfl, rfl, rfl⟩)).trans h)
  . intro rs' m' hx
    unfold r_tEnc at hx
    split at hx
    . dsimp only at hx
      split at hx
      . rename_i hk
        obtain ⟨rfl, rfl, rfl, rfl, rfl, rfl, rfl, rfl, rfl, rfl⟩ := hk
        cases hx; exact ⟨rfl, rfl, _, [⟨95, [_, _, _, _, _, _, _, _, _, _, _, _, _, _]⟩], rfl, rfl, ⟨⟨rfl, .inl rfl, .inl rfl, .inl rfl, .inl rfl, .inl rfl, .inr ⟨_, _, rfl, rfl⟩, .inl rfl, .inr ⟨_, _, rfl, rfl⟩, .inl rfl, .inl rfl, .inl rfl, .inr ⟨_, _, rfl, rfl⟩, .inl rfl, .inl rfl, trivial⟩, trivial⟩⟩
      . cases hx
    . cases hx
abbrev Ty25 := Int -> Int -> Int -> Int -> Int -> Int -> List UInt8 -> Int -> List V -> List UInt8 -> Int -> Int -> List UInt8 -> Bool -> Int -> Option (List UInt8 × Int × Int)
noncomputable def e_tFail {R : Type} (s : Ty25) (dst : Nat) (ds : List D) (m : Mem) (K : List D -> Mem -> Option R) : Option R :=
  match ds with
  | [.ptr (kv0 + 1) sv0 0, .v (.int .i64 x0) .no] => viewK [(kv0, sv0)] m fun Bs => (match Bs with
    | [⟨95, [.v (.int .i64 y0) .no, .v (.int .i64 y1) .no, .v (.int .i64 y2) .no, .v (.int .i64 y3) .no, .v (.int .i64 y4) .no, .v (.bytes y5) _, .v (.int .i64 y6) .no, .v (.sl 27 y7) _, .v (.bytes y8) (.own (.slot 0) 5), .v (.int .i64 y9) .no, .v (.int .i64 y10) .no, .v (.bytes y11) _, .v (.bool y12) .no, .v (.int .i64 y13) .no]⟩] => bnd3 (s x0 y0 y1 y2 y3 y4 y5 y6 y7 y8 y9 y10 y11 y12 y13) fun r0 z9 z13 => putAllK [(kv0, sv0)] [⟨95, [.v (.int .i64 y0) .no, .v (.int .i64 y1) .no, .v (.int .i64 y2) .no, .v (.int .i64 y3) .no, .v (.int .i64 y4) .no, .v (.bytes y5) .no, .v (.int .i64 y6) .no, .v (.sl 27 y7) .no, .v (.bytes y8) (.own (.slot 0) 5), .v (.int .i64 z9) .no, .v (.int .i64 y10) .no, .v (.bytes y11) .no, .v (.bool y12) .no, .v (.int .i64 z13) .no]⟩] m fun m' => K [.v (.bytes r0) .no] m'
    | _ => none)
  | _ => none
noncomputable def C_tFail {R : Type} (N : Nat) (x0 y0 y1 y2 y3 y4 : Int) (y5 : List UInt8) (y6 : Int) (y7 : List V) (y8 : List UInt8) (y9 y10 : Int) (y11 : List UInt8) (y12 : Bool) (y13 : Int) (K0 : List UInt8 -> Int -> Int -> Option R) : Option R := K0 [] 3 x0
noncomputable def s_tFail (N : Nat) (x0 y0 y1 y2 y3 y4 : Int) (y5 : List UInt8) (y6 : Int) (y7 : List V) (y8 : List UInt8) (y9 y10 : Int) (y11 : List UInt8) (y12 : Bool) (y13 : Int) : Option (List UInt8 × Int × Int) := C_tFail N x0 y0 y1 y2 y3 y4 y5 y6 y7 y8 y9 y10 y11 y12 y13 (fun r0 z9 z13 => some (r0, z9, z13))
noncomputable def cx_tFail (N : Nat) : Cx := cxO [] []
theorem C_tFail_ok {R : Type} (N : Nat) (x0 y0 y1 y2 y3 y4 y5 y6 y7 y8 y9 y10 y11 y12 y13 K : _) : bodyK (R := R) (cx_tFail N) Try.f90 [.ptr 1 0 0, dI x0] [frOf 0 [g2a y0 y1 y2 y3 y4 y5 y6 y7 y8 y9 y10 y11 y12 y13]] (r_tEnc K) = C_tFail N x0 y0 y1 y2 y3 y4 y5 y6 y7 y8 y9 y10 y11 y12 y13 (fun r0 z9 z13 => K r0 y0 y1 y2 y3 y4 y5 y6 y7 y8 z9 y10 y11 y12 z13) := by
  kernel_rfl
abbrev Q_tFail (s : Ty25) : Prop := ∀ x0 y0 y1 y2 y3 y4 y5 y6 y7 y8 y9 y10 y11 y12 y13 r0 z9 z13, s x0 y0 y1 y2 y3 y4 y5 y6 y7 y8 y9 y10 y11 y12 y13 = some (r0, z9, z13) -> ViewRet Try.prog T 90 [.ptr 1 0 0, dI x0] [g2a y0 y1 y2 y3 y4 y5 y6 y7 y8 y9 y10 y11 y12 y13] [dY r0] [g2a y0 y1 y2 y3 y4 y5 y6 y7 y8 z9 y10 y11 y12 z13]
theorem eo_tFail (s : Ty25) (hs : Q_tFail s) : MEntOK Try.prog T ⟨90, e_tFail s⟩ := by
  refine ⟨goes_of Try.func90 (by kernel_rfl) (c := bodyOf Try.f90) (by kernel_rfl), fun R dst ds m K r h => ?_⟩
  simp only [e_tFail] at h
  split at h
  . obtain ⟨Bs, a1, a2, a3, h⟩ := viewK_some h
    split at h
    . obtain ⟨r0, z9, z13, h1, h2⟩ := bnd3_some h
      rw [putAllK_eq] at h2
      exact ⟨_, _, h2, ViewRet.weakIn (hs _ _ _ _ _ _ _ _ _ _ _ _ _ _ _ _ _ _ h1) (by exact ⟨⟨rfl, .inl rfl, .inl rfl, .inl rfl, .inl rfl, .inl rfl, .inr ⟨_, _, rfl, rfl⟩, .inl rfl, .inr ⟨_, _, rfl, rfl⟩, .inl rfl, .inl rfl, .inl rfl, .inr ⟨_, _, rfl, rfl⟩, .inl rfl, .inl rfl, trivial⟩, trivial⟩) rfl _ _ m dst a1 a2 a3 ⟨aren_ptr _ rfl, aren_v _, trivial⟩⟩
    . cases h
  . cases h
open Classical in
theorem p_tFail (N : Nat) : Q_tFail (s_tFail N) := fun x0 y0 y1 y2 y3 y4 y5 y6 y7 y8 y9 y10 y11 y12 y13 r0 z9 z13 h => by
  refine view_ofW (cx := cx_tFail N) (by kernel_rfl) (cxO_ok trivial trivial) Try.func90 (by kernel_rfl) (by kernel_rfl) (loopsOK_of (k := 0) (by kernel_rfl) trivial) (by rfl) (by rfl) (by rfl) (rf := r_tEnc (fun r0' z'0 z'1 z'2 z'3 z'4 z'5 z'6 z'7 z'8 z'9 z'10 z'11 z'12 z'13 => if z'0 = y0 /\ z'1 = y1 /\ z'2 = y2 /\ z'3 = y3 /\ z'4 = y4 /\ z'5 = y5 /\ z'6 = y6 /\ z'7 = y7 /\ z'8 = y8 /\ z'10 = y10 /\ z'11 = y11 /\ z'12 = y12 then some (r0', z'9, z'13) else none)) (r := (r0, z9, z13)) ?_ ?_
  . exact (C_tFail_ok ..).trans ((congrArg (fun K => C_tFail N x0 y0 y1 y2 y3 y4 y5 y6 y7 y8 y9 y10 y11 y12 y13 K) (funext fun r0' => funext fun z'9 => funext fun z'13 => if_pos ⟨rfl, rfl, rfl, rfl, rfl, rfl, rfl, rfl, rfl, rfl, rfl, rfl⟩)).trans h)
  . intro rs' m' hx
    unfold r_tEnc at hx
    split at hx
    . dsimp only at hx
      split at hx
      . rename_i hk
        obtain ⟨rfl, rfl, rfl, rfl, rfl, rfl, rfl, rfl, rfl, rfl, rfl, rfl⟩ := hk
        cases hx; exact ⟨rfl, rfl, _, [⟨95, [_, _, _, _, _, _, _, _, _, _, _, _, _, _]⟩], rfl, rfl, ⟨⟨rfl, .inl rfl, .inl rfl, .inl rfl, .inl rfl, .inl rfl, .inr ⟨_, _, rfl, rfl⟩, .inl rfl, .inr ⟨_, _, rfl, rfl⟩, .inl rfl, .inl rfl, .inl rfl, .inr ⟨_, _, rfl, rfl⟩, .inl rfl, .inl rfl, trivial⟩, trivial⟩⟩
      . cases hx
    . cases hx
abbrev Ty26 := Int -> List UInt8 -> Int -> Int -> Int -> Int -> Int -> List UInt8 -> Int -> List V -> List UInt8 -> Int -> Int -> List UInt8 -> Bool -> Int -> Option (List UInt8 × Int × Int × Int)
noncomputable def e_tFailure {R : Type} (s : Ty26) (dst : Nat) (ds : List D) (m : Mem) (K : List D -> Mem -> Option R) : Option R :=
  match ds with
  | [.ptr (kv0 + 1) sv0 0, .v (.int .i64 x0) .no, .v (.bytes x1) .no] => viewK [(kv0, sv0)] m fun Bs => (match Bs with
    | [⟨95, [.v (.int .i64 y0) .no, .v (.int .i64 y1) .no, .v (.int .i64 y2) .no, .v (.int .i64 y3) .no, .v (.int .i64 y4) .no, .v (.bytes y5) _, .v (.int .i64 y6) .no, .v (.sl 27 y7) _, .v (.bytes y8) (.own (.slot 0) 5), .v (.int .i64 y9) .no, .v (.int .i64 y10) .no, .v (.bytes y11) _, .v (.bool y12) .no, .v (.int .i64 y13) .no]⟩] => bnd4 (s x0 x1 y0 y1 y2 y3 y4 y5 y6 y7 y8 y9 y10 y11 y12 y13) fun r0 z9 z10 z13 => putAllK [(kv0, sv0)] [⟨95, [.v (.int .i64 y0) .no, .v (.int .i64 y1) .no, .v (.int .i64 y2) .no, .v (.int .i64 y3) .no, .v (.int .i64 y4) .no, .v (.bytes y5) .no, .v (.int .i64 y6) .no, .v (.sl 27 y7) .no, .v (.bytes y8) (.own (.slot 0) 5), .v (.int .i64 z9) .no, .v (.int .i64 z10) .no, .v (.bytes y11) .no, .v (.bool y12) .no, .v (.int .i64 z13) .no]⟩] m fun m' => K [.v (.bytes r0) .no] m'
    | _ => none)
  | _ => none
noncomputable def C_tFailure {R : Type} (N : Nat) (x0 : Int) (x1 : List UInt8) (y0 y1 y2 y3 y4 : Int) (y5 : List UInt8) (y6 : Int) (y7 : List V) (y8 : List UInt8) (y9 y10 : Int) (y11 : List UInt8) (y12 : Bool) (y13 : Int) (K0 : List UInt8 -> Int -> Int -> Int -> Option R) : Option R := br (decide (10 < IntKind.i64.wrap (y10 + 1))) (bnd3 (s_tFail N x0 y0 y1 y2 y3 y4 y5 y6 y7 y8 y9 (IntKind.i64.wrap (y10 + 1)) y11 y12 y13) fun l0 n1 n2 => K0 l0 n1 (IntKind.i64.wrap (y10 + 1)) n2) (K0 x1 y9 (IntKind.i64.wrap (y10 + 1)) y13)
noncomputable def s_tFailure (N : Nat) (x0 : Int) (x1 : List UInt8) (y0 y1 y2 y3 y4 : Int) (y5 : List UInt8) (y6 : Int) (y7 : List V) (y8 : List UInt8) (y9 y10 : Int) (y11 : List UInt8) (y12 : Bool) (y13 : Int) : Option (List UInt8 × Int × Int × Int) := C_tFailure N x0 x1 y0 y1 y2 y3 y4 y5 y6 y7 y8 y9 y10 y11 y12 y13 (fun r0 z9 z10 z13 => some (r0, z9, z10, z13))
noncomputable def cx_tFailure (N : Nat) : Cx := cxO [] [⟨90, e_tFail (s_tFail N)⟩]
theorem C_tFailure_ok {R : Type} (N : Nat) (x0 x1 y0 y1 y2 y3 y4 y5 y6 y7 y8 y9 y10 y11 y12 y13 K : _) : bodyK (R := R) (cx_tFailure N) Try.f67 [.ptr 1 0 0, dI x0, dY x1] [frOf 0 [g2a y0 y1 y2 y3 y4 y5 y6 y7 y8 y9 y10 y11 y12 y13]] (r_tEnc K) = C_tFailure N x0 x1 y0 y1 y2 y3 y4 y5 y6 y7 y8 y9 y10 y11 y12 y13 (fun r0 z9 z10 z13 => K r0 y0 y1 y2 y3 y4 y5 y6 y7 y8 z9 z10 y11 y12 z13) := by
  kernel_rfl
abbrev Q_tFailure (s : Ty26) : Prop := ∀ x0 x1 y0 y1 y2 y3 y4 y5 y6 y7 y8 y9 y10 y11 y12 y13 r0 z9 z10 z13, s x0 x1 y0 y1 y2 y3 y4 y5 y6 y7 y8 y9 y10 y11 y12 y13 = some (r0, z9, z10, z13) -> ViewRet Try.prog T 67 [.ptr 1 0 0, dI x0, dY x1] [g2a y0 y1 y2 y3 y4 y5 y6 y7 y8 y9 y10 y11 y12 y13] [dY r0] [g2a y0 y1 y2 y3 y4 y5 y6 y7 y8 z9 z10 y11 y12 z13]
theorem eo_tFailure (s : Ty26) (hs : Q_tFailure s) : MEntOK Try.prog T ⟨67, e_tFailure s⟩ := by
  refine ⟨goes_of Try.func67 (by kernel_rfl) (c := bodyOf Try.f67) (by kernel_rfl), fun R dst ds m K r h => ?_⟩
  simp only [e_tFailure] at h
  split at h
  . obtain ⟨Bs, a1, a2, a3, h⟩ := viewK_some h
    split at h
    . obtain ⟨r0, z9, z10, z13, h1, h2⟩ := bnd4_some h
      rw [putAllK_eq] at h2
      exact ⟨_, _, h2, ViewRet.weakIn (hs _ _ _ _ _ _ _ _ _ _ _ _ _ _ _ _ _ _ _ _ h1) (by exact ⟨⟨rfl, .inl rfl, .inl rfl, .inl rfl, .inl rfl, .inl rfl, .inr ⟨_, _, rfl, rfl⟩, .inl rfl, .inr ⟨_, _, rfl, rfl⟩, .inl rfl, .inl rfl, .inl rfl, .inr ⟨_, _, rfl, rfl⟩, .inl rfl, .inl rfl, trivial⟩, trivial⟩) rfl _ _ m dst a1 a2 a3 ⟨aren_ptr _ rfl, aren_v _, aren_v _, trivial⟩⟩
    . cases h
  . cases h
open Classical in
theorem p_tFailure (N : Nat) : Q_tFailure (s_tFailure N) := fun x0 x1 y0 y1 y2 y3 y4 y5 y6 y7 y8 y9 y10 y11 y12 y13 r0 z9 z10 z13 h => by
  refine view_ofW (cx := cx_tFailure N) (by kernel_rfl) (cxO_ok trivial ⟨eo_tFail _ (p_tFail N), trivial⟩) Try.func67 (by kernel_rfl) (by kernel_rfl) (loopsOK_of (k := 0) (by kernel_rfl) trivial) (by rfl) (by rfl) (by rfl) (rf := r_tEnc (fun r0' z'0 z'1 z'2 z'3 z'4 z'5 z'6 z'7 z'8 z'9 z'10 z'11 z'12 z'13 => if z'0 = y0 /\ z'1 = y1 /\ z'2 = y2 /\ z'3 = y3 /\ z'4 = y4 /\ z'5 = y5 /\ z'6 = y6 /\ z'7 = y7 /\ z'8 = y8 /\ z'11 = y11 /\ z'12 = y12 then some (r0', z'9, z'10, z'13) else none)) (r := (r0, z9, z10, z13)) ?_ ?_
  . exact (C_tFailure_ok ..).trans ((congrArg (fun K => C_tFailure N x0 x1 y0 y1 y2 y3 y4 y5 y6 y7 y8 y9 y10 y11 y12 y13 K) (funext fun r0' => funext fun z'9 => funext fun z'10 => funext fun z'13 => if_pos ⟨rfl, rfl, rfl, rfl, rfl, rfl, rfl, rfl, rfl, rfl, rfl⟩)).trans h)
  . intro rs' m' hx
    unfold r_tEnc at hx
    split at hx
    . dsimp only at hx
      split at hx
      . rename_i hk
        obtain ⟨rfl, rfl, rfl, rfl, rfl, rfl, rfl, rfl, rfl, rfl, rfl⟩ := hk
        cases hx; exact ⟨rfl, rfl, _, [⟨95, [_, _, _, _, _, _, _, _, _, _, _, _, _, _]⟩], rfl, rfl, ⟨⟨rfl, .inl rfl, .inl rfl, .inl rfl, .inl rfl, .inl rfl, .inr ⟨_, _, rfl, rfl⟩, .inl rfl, .inr ⟨_, _, rfl, rfl⟩, .inl rfl, .inl rfl, .inl rfl, .inr ⟨_, _, rfl, rfl⟩, .inl rfl, .inl rfl, trivial⟩, trivial⟩⟩
      . cases hx
    . cases hx
abbrev Ty27 := Int -> Int -> Int -> Bool -> Int -> Bool -> List UInt8 -> Int -> Int -> Int -> Int -> Int -> List UInt8 -> Int -> List V -> List UInt8 -> Int -> Int -> List UInt8 -> Bool -> Int -> Option (List UInt8 × Int × List UInt8 × Int × Int × Bool × Int)
noncomputable def e_tInfo {R : Type} (s : Ty27) (dst : Nat) (ds : List D) (m : Mem) (K : List D -> Mem -> Option R) : Option R :=
  match ds with
  | [.ptr (kv0 + 1) sv0 0, .agg [.v (.int .i64 x0) .no, .v (.int .i64 x1) .no, .v (.int .i64 x2) .no, .v (.bool x3) .no, .v (.int .i64 x4) .no, .v (.bool x5) .no, .v (.bytes x6) .no]] => viewK [(kv0, sv0)] m fun Bs => (match Bs with
    | [⟨95, [.v (.int .i64 y0) .no, .v (.int .i64 y1) .no, .v (.int .i64 y2) .no, .v (.int .i64 y3) .no, .v (.int .i64 y4) .no, .v (.bytes y5) _, .v (.int .i64 y6) .no, .v (.sl 27 y7) _, .v (.bytes y8) (.own (.slot 0) 5), .v (.int .i64 y9) .no, .v (.int .i64 y10) .no, .v (.bytes y11) _, .v (.bool y12) .no, .v (.int .i64 y13) .no]⟩] => bnd7 (s x0 x1 x2 x3 x4 x5 x6 y0 y1 y2 y3 y4 y5 y6 y7 y8 y9 y10 y11 y12 y13) fun r0 z3 z8 z9 z10 z12 z13 => putAllK [(kv0, sv0)] [⟨95, [.v (.int .i64 y0) .no, .v (.int .i64 y1) .no, .v (.int .i64 y2) .no, .v (.int .i64 z3) .no, .v (.int .i64 y4) .no, .v (.bytes y5) .no, .v (.int .i64 y6) .no, .v (.sl 27 y7) .no, .v (.bytes z8) (.own (.slot 0) 5), .v (.int .i64 z9) .no, .v (.int .i64 z10) .no, .v (.bytes y11) .no, .v (.bool z12) .no, .v (.int .i64 z13) .no]⟩] m fun m' => K [.v (.bytes r0) .no] m'
    | _ => none)
  | _ => none
noncomputable def C_tInfo {R : Type} (N : Nat) (x0 x1 x2 : Int) (x3 : Bool) (x4 : Int) (x5 : Bool) (x6 : List UInt8) (y0 y1 y2 y3 y4 : Int) (y5 : List UInt8) (y6 : Int) (y7 : List V) (y8 : List UInt8) (y9 y10 : Int) (y11 : List UInt8) (y12 : Bool) (y13 : Int) (K0 : List UInt8 -> Int -> List UInt8 -> Int -> Int -> Bool -> Int -> Option R) : Option R := br (!decide (x2 = y3)) (bnd1 (s_tReady N 2 y0 y1 y2 y3 y4 y5 y6 y7 y8 y9 y10 y11 y12 y13) fun l0 => bnd4 (s_tFailure N 28 l0 y0 y1 y2 y3 y4 y5 y6 y7 y8 y9 y10 y11 y12 y13) fun l1 n2 n3 n4 => K0 l1 y3 y8 n2 n3 y12 n4) (br (decide (0 < (y7.length : Int))) (bnd1 (s_tReady N 2 y0 y1 y2 y3 y4 y5 y6 y7 y8 y9 y10 y11 y12 y13) fun l5 => bnd4 (s_tFailure N 28 l5 y0 y1 y2 y3 y4 y5 y6 y7 y8 y9 y10 y11 y12 y13) fun l6 n7 n8 n9 => K0 l6 y3 y8 n7 n8 y12 n9) (br (decide ((y8.length + x6.length) * 1 <= 140737488355328)) (br (decide (65538 < ((y8 ++ x6).length : Int))) (bnd3 (s_tFail N 28 y0 y1 y2 (IntKind.i64.wrap (1 - y3)) y4 y5 y6 y7 (y8 ++ x6) y9 0 y11 y12 y13) fun l10 n11 n12 => K0 l10 (IntKind.i64.wrap (1 - y3)) (y8 ++ x6) n11 0 y12 n12) (br x3 (bnd1 (s_tReady N 0 y0 y1 y2 (IntKind.i64.wrap (1 - y3)) y4 y5 y6 y7 (y8 ++ x6) y9 0 y11 y12 y13) fun l13 => K0 l13 (IntKind.i64.wrap (1 - y3)) (y8 ++ x6) y9 0 y12 y13) (K0 [] (IntKind.i64.wrap (1 - y3)) (y8 ++ x6) 0 0 true y13))) none))
noncomputable def s_tInfo (N : Nat) (x0 x1 x2 : Int) (x3 : Bool) (x4 : Int) (x5 : Bool) (x6 : List UInt8) (y0 y1 y2 y3 y4 : Int) (y5 : List UInt8) (y6 : Int) (y7 : List V) (y8 : List UInt8) (y9 y10 : Int) (y11 : List UInt8) (y12 : Bool) (y13 : Int) : Option (List UInt8 × Int × List UInt8 × Int × Int × Bool × Int) := C_tInfo N x0 x1 x2 x3 x4 x5 x6 y0 y1 y2 y3 y4 y5 y6 y7 y8 y9 y10 y11 y12 y13 (fun r0 z3 z8 z9 z10 z12 z13 => some (r0, z3, z8, z9, z10, z12, z13))
noncomputable def cx_tInfo (N : Nat) : Cx := cxO [] [⟨47, e_tReady (s_tReady N)⟩, ⟨90, e_tFail (s_tFail N)⟩, ⟨67, e_tFailure (s_tFailure N)⟩]
theorem C_tInfo_ok {R : Type} (N : Nat) (x0 x1 x2 x3 x4 x5 x6 y0 y1 y2 y3 y4 y5 y6 y7 y8 y9 y10 y11 y12 y13 K : _) : bodyK (R := R) (cx_tInfo N) Try.f68 [.ptr 1 0 0, g0a x0 x1 x2 x3 x4 x5 x6] [frOf 0 [g2a y0 y1 y2 y3 y4 y5 y6 y7 y8 y9 y10 y11 y12 y13]] (r_tEnc K) = C_tInfo N x0 x1 x2 x3 x4 x5 x6 y0 y1 y2 y3 y4 y5 y6 y7 y8 y9 y10 y11 y12 y13 (fun r0 z3 z8 z9 z10 z12 z13 => K r0 y0 y1 y2 z3 y4 y5 y6 y7 z8 z9 z10 y11 z12 z13) := by
  kernel_rfl
abbrev Q_tInfo (s : Ty27) : Prop := ∀ x0 x1 x2 x3 x4 x5 x6 y0 y1 y2 y3 y4 y5 y6 y7 y8 y9 y10 y11 y12 y13 r0 z3 z8 z9 z10 z12 z13, s x0 x1 x2 x3 x4 x5 x6 y0 y1 y2 y3 y4 y5 y6 y7 y8 y9 y10 y11 y12 y13 = some (r0, z3, z8, z9, z10, z12, z13) -> ViewRet Try.prog T 68 [.ptr 1 0 0, g0a x0 x1 x2 x3 x4 x5 x6] [g2a y0 y1 y2 y3 y4 y5 y6 y7 y8 y9 y10 y11 y12 y13] [dY r0] [g2a y0 y1 y2 z3 y4 y5 y6 y7 z8 z9 z10 y11 z12 z13]
theorem eo_tInfo (s : Ty27) (hs : Q_tInfo s) : MEntOK Try.prog T ⟨68, e_tInfo s⟩ := by
  refine ⟨goes_of Try.func68 (by kernel_rfl) (c := bodyOf Try.f68) (by kernel_rfl), fun R dst ds m K r h => ?_⟩
  simp only [e_tInfo] at h
  split at h
  . obtain ⟨Bs, a1, a2, a3, h⟩ := viewK_some h
    split at h
    . obtain ⟨r0, z3, z8, z9, z10, z12, z13, h1, h2⟩ := bnd7_some h
      rw [putAllK_eq] at h2
      exact ⟨_, _, h2, ViewRet.weakIn (hs _ _ _ _ _ _ _ _ _ _ _ _ _ _ _ _ _ _ _ _ _ _ _ _ _ _ _ _ h1) (by exact ⟨⟨rfl, .inl rfl, .inl rfl, .inl rfl, .inl rfl, .inl rfl, .inr ⟨_, _, rfl, rfl⟩, .inl rfl, .inr ⟨_, _, rfl, rfl⟩, .inl rfl, .inl rfl, .inl rfl, .inr ⟨_, _, rfl, rfl⟩, .inl rfl, .inl rfl, trivial⟩, trivial⟩) rfl _ _ m dst a1 a2 a3 ⟨aren_ptr _ rfl, aren_agg ⟨aren_v _, aren_v _, aren_v _, aren_v _, aren_v _, aren_v _, aren_v _, trivial⟩, trivial⟩⟩
    . cases h
  . cases h
open Classical in
theorem p_tInfo (N : Nat) : Q_tInfo (s_tInfo N) := fun x0 x1 x2 x3 x4 x5 x6 y0 y1 y2 y3 y4 y5 y6 y7 y8 y9 y10 y11 y12 y13 r0 z3 z8 z9 z10 z12 z13 h => by
  refine view_ofW (cx := cx_tInfo N) (by kernel_rfl) (cxO_ok trivial ⟨eo_tReady _ (p_tReady N), eo_tFail _ (p_tFail N), eo_tFailure _ (p_tFailure N), trivial⟩) Try.func68 (by kernel_rfl) (by kernel_rfl) (loopsOK_of (k := 0) (by kernel_rfl) trivial) (by rfl) (by rfl) (by rfl) (rf := r_tEnc (fun r0' z'0 z'1 z'2 z'3 z'4 z'5 z'6 z'7 z'8 z'9 z'10 z'11 z'12 z'13 => if z'0 = y0 /\ z'1 = y1 /\ z'2 = y2 /\ z'4 = y4 /\ z'5 = y5 /\ z'6 = y6 /\ z'7 = y7 /\ z'11 = y11 then some (r0', z'3, z'8, z'9, z'10, z'12, z'13) else none)) (r := (r0, z3, z8, z9, z10, z12, z13)) ?_ ?_
  . exact (C_tInfo_ok ..).trans ((congrArg (fun K => C_tInfo N x0 x1 x2 x3 x4 x5 x6 y0 y1 y2 y3 y4 y5 y6 y7 y8 y9 y10 y11 y12 y13 K) (funext fun r0' => funext fun z'3 => funext fun z'8 => funext fun z'9 => funext fun z'10 => funext fun z'12 => funext fun z'13 => if_pos ⟨rfl, rfl, rfl, rfl, rfl, rfl, rfl, rfl⟩)).trans h)
  . intro rs' m' hx
    unfold r_tEnc at hx
    split at hx
    . dsimp only at hx
      split at hx
      . rename_i hk
        obtain ⟨rfl, rfl, rfl, rfl, rfl, rfl, rfl, rfl⟩ := hk
        cases hx; exact ⟨rfl, rfl, _, [⟨95, [_, _, _, _, _, _, _, _, _, _, _, _, _, _]⟩], rfl, rfl, ⟨⟨rfl, .inl rfl, .inl rfl, .inl rfl, .inl rfl, .inl rfl, .inr ⟨_, _, rfl, rfl⟩, .inl rfl, .inr ⟨_, _, rfl, rfl⟩, .inl rfl, .inl rfl, .inl rfl, .inr ⟨_, _, rfl, rfl⟩, .inl rfl, .inl rfl, trivial⟩, trivial⟩⟩
      . cases hx
    . cases hx
abbrev Ty28 := Int -> Int -> Int -> Bool -> Int -> Bool -> List UInt8 -> Int -> Int -> Int -> Int -> Int -> List UInt8 -> Int -> List V -> List UInt8 -> Int -> Int -> List UInt8 -> Bool -> Int -> Option (List UInt8 × Int × List UInt8 × Int × List V × Int × Int × Int)
noncomputable def e_tAgain {R : Type} (s : Ty28) (dst : Nat) (ds : List D) (m : Mem) (K : List D -> Mem -> Option R) : Option R :=
  match ds with
  | [.ptr (kv0 + 1) sv0 0, .agg [.v (.int .i64 x0) .no, .v (.int .i64 x1) .no, .v (.int .i64 x2) .no, .v (.bool x3) .no, .v (.int .i64 x4) .no, .v (.bool x5) .no, .v (.bytes x6) .no]] => viewK [(kv0, sv0)] m fun Bs => (match Bs with
    | [⟨95, [.v (.int .i64 y0) .no, .v (.int .i64 y1) .no, .v (.int .i64 y2) .no, .v (.int .i64 y3) .no, .v (.int .i64 y4) .no, .v (.bytes y5) _, .v (.int .i64 y6) .no, .v (.sl 27 y7) _, .v (.bytes y8) (.own (.slot 0) 5), .v (.int .i64 y9) .no, .v (.int .i64 y10) .no, .v (.bytes y11) _, .v (.bool y12) .no, .v (.int .i64 y13) .no]⟩] => bnd8 (s x0 x1 x2 x3 x4 x5 x6 y0 y1 y2 y3 y4 y5 y6 y7 y8 y9 y10 y11 y12 y13) fun r0 z4 z5 z6 z7 z9 z10 z13 => putAllK [(kv0, sv0)] [⟨95, [.v (.int .i64 y0) .no, .v (.int .i64 y1) .no, .v (.int .i64 y2) .no, .v (.int .i64 y3) .no, .v (.int .i64 z4) .no, .v (.bytes z5) .no, .v (.int .i64 z6) .no, .v (.sl 27 z7) .no, .v (.bytes y8) (.own (.slot 0) 5), .v (.int .i64 z9) .no, .v (.int .i64 z10) .no, .v (.bytes y11) .no, .v (.bool y12) .no, .v (.int .i64 z13) .no]⟩] m fun m' => K [.v (.bytes r0) .no] m'
    | _ => none)
  | _ => none
noncomputable def C_tAgain {R : Type} (N : Nat) (x0 x1 x2 : Int) (x3 : Bool) (x4 : Int) (x5 : Bool) (x6 : List UInt8) (y0 y1 y2 y3 y4 : Int) (y5 : List UInt8) (y6 : Int) (y7 : List V) (y8 : List UInt8) (y9 y10 : Int) (y11 : List UInt8) (y12 : Bool) (y13 : Int) (K0 : List UInt8 -> Int -> List UInt8 -> Int -> List V -> Int -> Int -> Int -> Option R) : Option R := br (decide (x2 = y6)) (bnd1 (s_clone N y5) fun l0 => bnd4 (s_tFailure N 28 l0 y0 y1 y2 y3 y4 y5 y6 y7 y8 y9 y10 y11 y12 y13) fun l1 n2 n3 n4 => K0 l1 y4 y5 y6 y7 n2 n3 n4) (br (decide (0 < (y7.length : Int))) (bnd5 (s_tPiece N y0 y1 y2 y3 y4 y5 y6 y7 y8 y9 0 y11 y12 y13) fun l5 n6 l7 n8 l9 => K0 l5 n6 l7 n8 l9 y9 0 y13) (bnd1 (s_tReady N 0 y0 y1 y2 y3 y4 y5 y6 y7 y8 y9 y10 y11 y12 y13) fun l10 => bnd4 (s_tFailure N 28 l10 y0 y1 y2 y3 y4 y5 y6 y7 y8 y9 y10 y11 y12 y13) fun l11 n12 n13 n14 => K0 l11 y4 y5 y6 y7 n12 n13 n14))
noncomputable def s_tAgain (N : Nat) (x0 x1 x2 : Int) (x3 : Bool) (x4 : Int) (x5 : Bool) (x6 : List UInt8) (y0 y1 y2 y3 y4 : Int) (y5 : List UInt8) (y6 : Int) (y7 : List V) (y8 : List UInt8) (y9 y10 : Int) (y11 : List UInt8) (y12 : Bool) (y13 : Int) : Option (List UInt8 × Int × List UInt8 × Int × List V × Int × Int × Int) := C_tAgain N x0 x1 x2 x3 x4 x5 x6 y0 y1 y2 y3 y4 y5 y6 y7 y8 y9 y10 y11 y12 y13 (fun r0 z4 z5 z6 z7 z9 z10 z13 => some (r0, z4, z5, z6, z7, z9, z10, z13))
noncomputable def cx_tAgain (N : Nat) : Cx := cxO [⟨60, e_clone (s_clone N)⟩] [⟨47, e_tReady (s_tReady N)⟩, ⟨82, e_tPiece (s_tPiece N)⟩, ⟨67, e_tFailure (s_tFailure N)⟩]
theorem C_tAgain_ok {R : Type} (N : Nat) (x0 x1 x2 x3 x4 x5 x6 y0 y1 y2 y3 y4 y5 y6 y7 y8 y9 y10 y11 y12 y13 K : _) : bodyK (R := R) (cx_tAgain N) Try.f69 [.ptr 1 0 0, g0a x0 x1 x2 x3 x4 x5 x6] [frOf 0 [g2a y0 y1 y2 y3 y4 y5 y6 y7 y8 y9 y10 y11 y12 y13]] (r_tEnc K) = C_tAgain N x0 x1 x2 x3 x4 x5 x6 y0 y1 y2 y3 y4 y5 y6 y7 y8 y9 y10 y11 y12 y13 (fun r0 z4 z5 z6 z7 z9 z10 z13 => K r0 y0 y1 y2 y3 z4 z5 z6 z7 y8 z9 z10 y11 y12 z13) := by
  kernel_rfl
abbrev Q_tAgain (s : Ty28) : Prop := ∀ x0 x1 x2 x3 x4 x5 x6 y0 y1 y2 y3 y4 y5 y6 y7 y8 y9 y10 y11 y12 y13 r0 z4 z5 z6 z7 z9 z10 z13, s x0 x1 x2 x3 x4 x5 x6 y0 y1 y2 y3 y4 y5 y6 y7 y8 y9 y10 y11 y12 y13 = some (r0, z4, z5, z6, z7, z9, z10, z13) -> ViewRet Try.prog T 69 [.ptr 1 0 0, g0a x0 x1 x2 x3 x4 x5 x6] [g2a y0 y1 y2 y3 y4 y5 y6 y7 y8 y9 y10 y11 y12 y13] [dY r0] [g2a y0 y1 y2 y3 z4 z5 z6 z7 y8 z9 z10 y11 y12 z13]
theorem eo_tAgain (s : Ty28) (hs : Q_tAgain s) : MEntOK Try.prog T ⟨69, e_tAgain s⟩ := by
  refine ⟨goes_of Try.func69 (by kernel_rfl) (c := bodyOf Try.f69) (by kernel_rfl), fun R dst ds m K r h => ?_⟩
  simp only [e_tAgain] at h
  split at h
  . obtain ⟨Bs, a1, a2, a3, h⟩ := viewK_some h
    split at h
    . obtain ⟨r0, z4, z5, z6, z7, z9, z10, z13, h1, h2⟩ := bnd8_some h
      rw [putAllK_eq] at h2
      exact ⟨_, _, h2, ViewRet.weakIn (hs _ _ _ _ _ _ _ _ _ _ _ _ _ _ _ _ _ _ _ _ _ _ _ _ _ _ _ _ _ h1) (by exact ⟨⟨rfl, .inl rfl, .inl rfl, .inl rfl, .inl rfl, .inl rfl, .inr ⟨_, _, rfl, rfl⟩, .inl rfl, .inr ⟨_, _, rfl, rfl⟩, .inl rfl, .inl rfl, .inl rfl, .inr ⟨_, _, rfl, rfl⟩, .inl rfl, .inl rfl, trivial⟩, trivial⟩) rfl _ _ m dst a1 a2 a3 ⟨aren_ptr _ rfl, aren_agg ⟨aren_v _, aren_v _, aren_v _, aren_v _, aren_v _, aren_v _, aren_v _, trivial⟩, trivial⟩⟩
    . cases h
  . cases h
open Classical in
theorem p_tAgain (N : Nat) : Q_tAgain (s_tAgain N) := fun x0 x1 x2 x3 x4 x5 x6 y0 y1 y2 y3 y4 y5 y6 y7 y8 y9 y10 y11 y12 y13 r0 z4 z5 z6 z7 z9 z10 z13 h => by
  refine view_ofW (cx := cx_tAgain N) (by kernel_rfl) (cxO_ok ⟨eo_clone _ (p_clone N), trivial⟩ ⟨eo_tReady _ (p_tReady N), eo_tPiece _ (p_tPiece N), eo_tFailure _ (p_tFailure N), trivial⟩) Try.func69 (by kernel_rfl) (by kernel_rfl) (loopsOK_of (k := 0) (by kernel_rfl) trivial) (by rfl) (by rfl) (by rfl) (rf := r_tEnc (fun r0' z'0 z'1 z'2 z'3 z'4 z'5 z'6 z'7 z'8 z'9 z'10 z'11 z'12 z'13 => if z'0 = y0 /\ z'1 = y1 /\ z'2 = y2 /\ z'3 = y3 /\ z'8 = y8 /\ z'11 = y11 /\ z'12 = y12 then some (r0', z'4, z'5, z'6, z'7, z'9, z'10, z'13) else none)) (r := (r0, z4, z5, z6, z7, z9, z10, z13)) ?_ ?_
  . exact (C_tAgain_ok ..).trans ((congrArg (fun K => C_tAgain N x0 x1 x2 x3 x4 x5 x6 y0 y1 y2 y3 y4 y5 y6 y7 y8 y9 y10 y11 y12 y13 K) (funext fun r0' => funext fun z'4 => funext fun z'5 => funext fun z'6 => funext fun z'7 => funext fun z'9 => funext fun z'10 => funext fun z'13 => if_pos ⟨rfl, rfl, rfl, rfl, rfl, rfl, rfl⟩)).trans h)
  . intro rs' m' hx
    unfold r_tEnc at hx
    split at hx
    . dsimp only at hx
      split at hx
      . rename_i hk
        obtain ⟨rfl, rfl, rfl, rfl, rfl, rfl, rfl⟩ := hk
        cases hx; exact ⟨rfl, rfl, _, [⟨95, [_, _, _, _, _, _, _, _, _, _, _, _, _, _]⟩], rfl, rfl, ⟨⟨rfl, .inl rfl, .inl rfl, .inl rfl, .inl rfl, .inl rfl, .inr ⟨_, _, rfl, rfl⟩, .inl rfl, .inr ⟨_, _, rfl, rfl⟩, .inl rfl, .inl rfl, .inl rfl, .inr ⟨_, _, rfl, rfl⟩, .inl rfl, .inl rfl, trivial⟩, trivial⟩⟩
      . cases hx
    . cases hx
abbrev Ty29 := Int -> Int -> Int -> Bool -> Int -> Bool -> List UInt8 -> Int -> Int -> Int -> Int -> Int -> List UInt8 -> Int -> List V -> List UInt8 -> Int -> Int -> List UInt8 -> Bool -> Int -> Option (List UInt8 × Int × Int × Int × Int)
noncomputable def e_tSuper {R : Type} (s : Ty29) (dst : Nat) (ds : List D) (m : Mem) (K : List D -> Mem -> Option R) : Option R :=
  match ds with
  | [.ptr (kv0 + 1) sv0 0, .agg [.v (.int .i64 x0) .no, .v (.int .i64 x1) .no, .v (.int .i64 x2) .no, .v (.bool x3) .no, .v (.int .i64 x4) .no, .v (.bool x5) .no, .v (.bytes x6) .no]] => viewK [(kv0, sv0)] m fun Bs => (match Bs with
    | [⟨95, [.v (.int .i64 y0) .no, .v (.int .i64 y1) .no, .v (.int .i64 y2) .no, .v (.int .i64 y3) .no, .v (.int .i64 y4) .no, .v (.bytes y5) _, .v (.int .i64 y6) .no, .v (.sl 27 y7) _, .v (.bytes y8) (.own (.slot 0) 5), .v (.int .i64 y9) .no, .v (.int .i64 y10) .no, .v (.bytes y11) _, .v (.bool y12) .no, .v (.int .i64 y13) .no]⟩] => bnd5 (s x0 x1 x2 x3 x4 x5 x6 y0 y1 y2 y3 y4 y5 y6 y7 y8 y9 y10 y11 y12 y13) fun r0 z2 z9 z10 z13 => putAllK [(kv0, sv0)] [⟨95, [.v (.int .i64 y0) .no, .v (.int .i64 y1) .no, .v (.int .i64 z2) .no, .v (.int .i64 y3) .no, .v (.int .i64 y4) .no, .v (.bytes y5) .no, .v (.int .i64 y6) .no, .v (.sl 27 y7) .no, .v (.bytes y8) (.own (.slot 0) 5), .v (.int .i64 z9) .no, .v (.int .i64 z10) .no, .v (.bytes y11) .no, .v (.bool y12) .no, .v (.int .i64 z13) .no]⟩] m fun m' => K [.v (.bytes r0) .no] m'
    | _ => none)
  | _ => none
noncomputable def C_tSuper {R : Type} (N : Nat) (x0 x1 x2 : Int) (x3 : Bool) (x4 : Int) (x5 : Bool) (x6 : List UInt8) (y0 y1 y2 y3 y4 : Int) (y5 : List UInt8) (y6 : Int) (y7 : List V) (y8 : List UInt8) (y9 y10 : Int) (y11 : List UInt8) (y12 : Bool) (y13 : Int) (K0 : List UInt8 -> Int -> Int -> Int -> Int -> Option R) : Option R := br (!x5) (br (decide (x4 = 2)) (bnd3 (s_tFail N 28 y0 y1 y2 y3 y4 y5 y6 y7 y8 y9 y10 y11 y12 y13) fun l0 n1 n2 => K0 l0 y2 n1 y10 n2) (br (!x5) (br (decide (x4 = 3)) (bnd1 (s_tSpecial N x4 true x6 y0 y1 y2 y3 y4 y5 y6 y7 y8 y9 0 y11 y12 y13) fun l3 => K0 l3 y2 y9 0 y13) (br (!x5) (br (decide (x4 = 1)) (bnd1 (s_tsize N x0 x1 x2 x3 x4 x5 x6) fun n4 => br (decide (0 < n4)) (bnd1 (s_tsize N x0 x1 x2 x3 x4 x5 x6) fun n5 => bnd1 (s_tSpecial N x4 true x6 y0 y1 n5 y3 y4 y5 y6 y7 y8 y9 0 y11 y12 y13) fun l6 => K0 l6 n5 y9 0 y13) (bnd1 (s_tReady N 2 y0 y1 y2 y3 y4 y5 y6 y7 y8 y9 y10 y11 y12 y13) fun l7 => bnd4 (s_tFailure N 28 l7 y0 y1 y2 y3 y4 y5 y6 y7 y8 y9 y10 y11 y12 y13) fun l8 n9 n10 n11 => K0 l8 y2 n9 n10 n11)) (bnd1 (s_tReady N 2 y0 y1 y2 y3 y4 y5 y6 y7 y8 y9 y10 y11 y12 y13) fun l12 => bnd4 (s_tFailure N 28 l12 y0 y1 y2 y3 y4 y5 y6 y7 y8 y9 y10 y11 y12 y13) fun l13 n14 n15 n16 => K0 l13 y2 n14 n15 n16)) (bnd1 (s_tReady N 2 y0 y1 y2 y3 y4 y5 y6 y7 y8 y9 y10 y11 y12 y13) fun l17 => bnd4 (s_tFailure N 28 l17 y0 y1 y2 y3 y4 y5 y6 y7 y8 y9 y10 y11 y12 y13) fun l18 n19 n20 n21 => K0 l18 y2 n19 n20 n21))) (br (!x5) (br (decide (x4 = 1)) (bnd1 (s_tsize N x0 x1 x2 x3 x4 x5 x6) fun n22 => br (decide (0 < n22)) (bnd1 (s_tsize N x0 x1 x2 x3 x4 x5 x6) fun n23 => bnd1 (s_tSpecial N x4 true x6 y0 y1 n23 y3 y4 y5 y6 y7 y8 y9 0 y11 y12 y13) fun l24 => K0 l24 n23 y9 0 y13) (bnd1 (s_tReady N 2 y0 y1 y2 y3 y4 y5 y6 y7 y8 y9 y10 y11 y12 y13) fun l25 => bnd4 (s_tFailure N 28 l25 y0 y1 y2 y3 y4 y5 y6 y7 y8 y9 y10 y11 y12 y13) fun l26 n27 n28 n29 => K0 l26 y2 n27 n28 n29)) (bnd1 (s_tReady N 2 y0 y1 y2 y3 y4 y5 y6 y7 y8 y9 y10 y11 y12 y13) fun l30 => bnd4 (s_tFailure N 28 l30 y0 y1 y2 y3 y4 y5 y6 y7 y8 y9 y10 y11 y12 y13) fun l31 n32 n33 n34 => K0 l31 y2 n32 n33 n34)) (bnd1 (s_tReady N 2 y0 y1 y2 y3 y4 y5 y6 y7 y8 y9 y10 y11 y12 y13) fun l35 => bnd4 (s_tFailure N 28 l35 y0 y1 y2 y3 y4 y5 y6 y7 y8 y9 y10 y11 y12 y13) fun l36 n37 n38 n39 => K0 l36 y2 n37 n38 n39)))) (br (!x5) (br (decide (x4 = 3)) (bnd1 (s_tSpecial N x4 true x6 y0 y1 y2 y3 y4 y5 y6 y7 y8 y9 0 y11 y12 y13) fun l40 => K0 l40 y2 y9 0 y13) (br (!x5) (br (decide (x4 = 1)) (bnd1 (s_tsize N x0 x1 x2 x3 x4 x5 x6) fun n41 => br (decide (0 < n41)) (bnd1 (s_tsize N x0 x1 x2 x3 x4 x5 x6) fun n42 => bnd1 (s_tSpecial N x4 true x6 y0 y1 n42 y3 y4 y5 y6 y7 y8 y9 0 y11 y12 y13) fun l43 => K0 l43 n42 y9 0 y13) (bnd1 (s_tReady N 2 y0 y1 y2 y3 y4 y5 y6 y7 y8 y9 y10 y11 y12 y13) fun l44 => bnd4 (s_tFailure N 28 l44 y0 y1 y2 y3 y4 y5 y6 y7 y8 y9 y10 y11 y12 y13) fun l45 n46 n47 n48 => K0 l45 y2 n46 n47 n48)) (bnd1 (s_tReady N 2 y0 y1 y2 y3 y4 y5 y6 y7 y8 y9 y10 y11 y12 y13) fun l49 => bnd4 (s_tFailure N 28 l49 y0 y1 y2 y3 y4 y5 y6 y7 y8 y9 y10 y11 y12 y13) fun l50 n51 n52 n53 => K0 l50 y2 n51 n52 n53)) (bnd1 (s_tReady N 2 y0 y1 y2 y3 y4 y5 y6 y7 y8 y9 y10 y11 y12 y13) fun l54 => bnd4 (s_tFailure N 28 l54 y0 y1 y2 y3 y4 y5 y6 y7 y8 y9 y10 y11 y12 y13) fun l55 n56 n57 n58 => K0 l55 y2 n56 n57 n58))) (br (!x5) (br (decide (x4 = 1)) (bnd1 (s_tsize N x0 x1 x2 x3 x4 x5 x6) fun n59 => br (decide (0 < n59)) (bnd1 (s_tsize N x0 x1 x2 x3 x4 x5 x6) fun n60 => bnd1 (s_tSpecial N x4 true x6 y0 y1 n60 y3 y4 y5 y6 y7 y8 y9 0 y11 y12 y13) fun l61 => K0 l61 n60 y9 0 y13) (bnd1 (s_tReady N 2 y0 y1 y2 y3 y4 y5 y6 y7 y8 y9 y10 y11 y12 y13) fun l62 => bnd4 (s_tFailure N 28 l62 y0 y1 y2 y3 y4 y5 y6 y7 y8 y9 y10 y11 y12 y13) fun l63 n64 n65 n66 => K0 l63 y2 n64 n65 n66)) (bnd1 (s_tReady N 2 y0 y1 y2 y3 y4 y5 y6 y7 y8 y9 y10 y11 y12 y13) fun l67 => bnd4 (s_tFailure N 28 l67 y0 y1 y2 y3 y4 y5 y6 y7 y8 y9 y10 y11 y12 y13) fun l68 n69 n70 n71 => K0 l68 y2 n69 n70 n71)) (bnd1 (s_tReady N 2 y0 y1 y2 y3 y4 y5 y6 y7 y8 y9 y10 y11 y12 y13) fun l72 => bnd4 (s_tFailure N 28 l72 y0 y1 y2 y3 y4 y5 y6 y7 y8 y9 y10 y11 y12 y13) fun l73 n74 n75 n76 => K0 l73 y2 n74 n75 n76)))
noncomputable def s_tSuper (N : Nat) (x0 x1 x2 : Int) (x3 : Bool) (x4 : Int) (x5 : Bool) (x6 : List UInt8) (y0 y1 y2 y3 y4 : Int) (y5 : List UInt8) (y6 : Int) (y7 : List V) (y8 : List UInt8) (y9 y10 : Int) (y11 : List UInt8) (y12 : Bool) (y13 : Int) : Option (List UInt8 × Int × Int × Int × Int) := C_tSuper N x0 x1 x2 x3 x4 x5 x6 y0 y1 y2 y3 y4 y5 y6 y7 y8 y9 y10 y11 y12 y13 (fun r0 z2 z9 z10 z13 => some (r0, z2, z9, z10, z13))
noncomputable def cx_tSuper (N : Nat) : Cx := cxO [⟨83, e_tsize (s_tsize N)⟩] [⟨47, e_tReady (s_tReady N)⟩, ⟨46, e_tSpecial (s_tSpecial N)⟩, ⟨90, e_tFail (s_tFail N)⟩, ⟨67, e_tFailure (s_tFailure N)⟩]
theorem C_tSuper_ok {R : Type} (N : Nat) (x0 x1 x2 x3 x4 x5 x6 y0 y1 y2 y3 y4 y5 y6 y7 y8 y9 y10 y11 y12 y13 K : _) : bodyK (R := R) (cx_tSuper N) Try.f70 [.ptr 1 0 0, g0a x0 x1 x2 x3 x4 x5 x6] [frOf 0 [g2a y0 y1 y2 y3 y4 y5 y6 y7 y8 y9 y10 y11 y12 y13]] (r_tEnc K) = C_tSuper N x0 x1 x2 x3 x4 x5 x6 y0 y1 y2 y3 y4 y5 y6 y7 y8 y9 y10 y11 y12 y13 (fun r0 z2 z9 z10 z13 => K r0 y0 y1 z2 y3 y4 y5 y6 y7 y8 z9 z10 y11 y12 z13) := by
  kernel_rfl
abbrev Q_tSuper (s : Ty29) : Prop := ∀ x0 x1 x2 x3 x4 x5 x6 y0 y1 y2 y3 y4 y5 y6 y7 y8 y9 y10 y11 y12 y13 r0 z2 z9 z10 z13, s x0 x1 x2 x3 x4 x5 x6 y0 y1 y2 y3 y4 y5 y6 y7 y8 y9 y10 y11 y12 y13 = some (r0, z2, z9, z10, z13) -> ViewRet Try.prog T 70 [.ptr 1 0 0, g0a x0 x1 x2 x3 x4 x5 x6] [g2a y0 y1 y2 y3 y4 y5 y6 y7 y8 y9 y10 y11 y12 y13] [dY r0] [g2a y0 y1 z2 y3 y4 y5 y6 y7 y8 z9 z10 y11 y12 z13]
theorem eo_tSuper (s : Ty29) (hs : Q_tSuper s) : MEntOK Try.prog T ⟨70, e_tSuper s⟩ := by
  refine ⟨goes_of Try.func70 (by kernel_rfl) (c := bodyOf Try.f70) (by kernel_rfl), fun R dst ds m K r h => ?_⟩
  simp only [e_tSuper] at h
  split at h
  . obtain ⟨Bs, a1, a2, a3, h⟩ := viewK_some h
    split at h
    . obtain ⟨r0, z2, z9, z10, z13, h1, h2⟩ := bnd5_some h
      rw [putAllK_eq] at h2
      exact ⟨_, _, h2, ViewRet.weakIn (hs _ _ _ _ _ _ _ _ _ _ _ _ _ _ _ _ _ _ _ _ _ _ _ _ _ _ h1) (by exact ⟨⟨rfl, .inl rfl, .inl rfl, .inl rfl, .inl rfl, .inl rfl, .inr ⟨_, _, rfl, rfl⟩, .inl rfl, .inr ⟨_, _, rfl, rfl⟩, .inl rfl, .inl rfl, .inl rfl, .inr ⟨_, _, rfl, rfl⟩, .inl rfl, .inl rfl, trivial⟩, trivial⟩) rfl _ _ m dst a1 a2 a3 ⟨aren_ptr _ rfl, aren_agg ⟨aren_v _, aren_v _, aren_v _, aren_v _, aren_v _, aren_v _, aren_v _, trivial⟩, trivial⟩⟩
    . cases h
  . cases h
open Classical in
theorem p_tSuper (N : Nat) : Q_tSuper (s_tSuper N) := fun x0 x1 x2 x3 x4 x5 x6 y0 y1 y2 y3 y4 y5 y6 y7 y8 y9 y10 y11 y12 y13 r0 z2 z9 z10 z13 h => by
  refine view_ofW (cx := cx_tSuper N) (by kernel_rfl) (cxO_ok ⟨eo_tsize _ (p_tsize N), trivial⟩ ⟨eo_tReady _ (p_tReady N), eo_tSpecial _ (p_tSpecial N), eo_tFail _ (p_tFail N), eo_tFailure _ (p_tFailure N), trivial⟩) Try.func70 (by kernel_rfl) (by kernel_rfl) (loopsOK_of (k := 0) (by kernel_rfl) trivial) (by rfl) (by rfl) (by rfl) (rf := r_tEnc (fun r0' z'0 z'1 z'2 z'3 z'4 z'5 z'6 z'7 z'8 z'9 z'10 z'11 z'12 z'13 => if z'0 = y0 /\ z'1 = y1 /\ z'3 = y3 /\ z'4 = y4 /\ z'5 = y5 /\ z'6 = y6 /\ z'7 = y7 /\ z'8 = y8 /\ z'11 = y11 /\ z'12 = y12 then some (r0', z'2, z'9, z'10, z'13) else none)) (r := (r0, z2, z9, z10, z13)) ?_ ?_
  . exact (C_tSuper_ok ..).trans ((congrArg (fun K => C_tSuper N x0 x1 x2 x3 x4 x5 x6 y0 y1 y2 y3 y4 y5 y6 y7 y8 y9 y10 y11 y12 y13 K) (funext fun r0' => funext fun z'2 => funext fun z'9 => funext fun z'10 => funext fun z'13 => if_pos ⟨rfl, rfl, rfl, rfl, rfl, rfl, rfl, rfl, rfl, rfl⟩)).trans h)
  . intro rs' m' hx
    unfold r_tEnc at hx
    split at hx
    . dsimp only at hx
      split at hx
      . rename_i hk
        obtain ⟨rfl, rfl, rfl, rfl, rfl, rfl, rfl, rfl, rfl, rfl⟩ := hk
        cases hx; exact ⟨rfl, rfl, _, [⟨95, [_, _, _, _, _, _, _, _, _, _, _, _, _, _]⟩], rfl, rfl, ⟨⟨rfl, .inl rfl, .inl rfl, .inl rfl, .inl rfl, .inl rfl, .inr ⟨_, _, rfl, rfl⟩, .inl rfl, .inr ⟨_, _, rfl, rfl⟩, .inl rfl, .inl rfl, .inl rfl, .inr ⟨_, _, rfl, rfl⟩, .inl rfl, .inl rfl, trivial⟩, trivial⟩⟩
      . cases hx
    . cases hx
abbrev Ty30 := List UInt8 -> Int -> Int -> Int -> Int -> Int -> List UInt8 -> Int -> List V -> List UInt8 -> Int -> Int -> List UInt8 -> Bool -> Int -> Option (List UInt8 × Int × Int × Int × Int × List UInt8 × Int × List V × List UInt8 × Int × Int × Bool × Int)
noncomputable def e_tReceive {R : Type} (s : Ty30) (dst : Nat) (ds : List D) (m : Mem) (K : List D -> Mem -> Option R) : Option R :=
  match ds with
  | [.ptr (kv0 + 1) sv0 0, .v (.bytes x0) .no] => viewK [(kv0, sv0)] m fun Bs => (match Bs with
    | [⟨95, [.v (.int .i64 y0) .no, .v (.int .i64 y1) .no, .v (.int .i64 y2) .no, .v (.int .i64 y3) .no, .v (.int .i64 y4) .no, .v (.bytes y5) _, .v (.int .i64 y6) .no, .v (.sl 27 y7) _, .v (.bytes y8) (.own (.slot 0) 5), .v (.int .i64 y9) .no, .v (.int .i64 y10) .no, .v (.bytes y11) _, .v (.bool y12) .no, .v (.int .i64 y13) .no]⟩] => bnd13 (s x0 y0 y1 y2 y3 y4 y5 y6 y7 y8 y9 y10 y11 y12 y13) fun r0 z1 z2 z3 z4 z5 z6 z7 z8 z9 z10 z12 z13 => putAllK [(kv0, sv0)] [⟨95, [.v (.int .i64 y0) .no, .v (.int .i64 z1) .no, .v (.int .i64 z2) .no, .v (.int .i64 z3) .no, .v (.int .i64 z4) .no, .v (.bytes z5) .no, .v (.int .i64 z6) .no, .v (.sl 27 z7) .no, .v (.bytes z8) (.own (.slot 0) 5), .v (.int .i64 z9) .no, .v (.int .i64 z10) .no, .v (.bytes y11) .no, .v (.bool z12) .no, .v (.int .i64 z13) .no]⟩] m fun m' => K [.v (.bytes r0) .no] m'
    | _ => none)
  | _ => none
noncomputable def C_tReceive {R : Type} (N : Nat) (x0 : List UInt8) (y0 y1 y2 y3 y4 : Int) (y5 : List UInt8) (y6 : Int) (y7 : List V) (y8 : List UInt8) (y9 y10 : Int) (y11 : List UInt8) (y12 : Bool) (y13 : Int) (K0 : List UInt8 -> Int -> Int -> Int -> Int -> List UInt8 -> Int -> List V -> List UInt8 -> Int -> Int -> Bool -> Int -> Option R) : Option R := bnd1 (s_tMade N y0 y1 y2 y3 y4 y5 y6 y7 y8 y9 y10 y11 y12 y13) fun b0 => br (!b0) (K0 [] y1 y2 y3 y4 y5 y6 y7 y8 y9 y10 y12 y13) (br (decide (y9 = 0)) (K0 [] y1 y2 y3 y4 y5 y6 y7 y8 y9 y10 y12 y13) (br (decide (y9 = 3)) (K0 [] y1 y2 y3 y4 y5 y6 y7 y8 y9 y10 y12 y13) (bnd8 (s_tDecode N x0 y0 y1 y2 y3 y4 y5 y6 y7 y8 y9 y10 y11 y12 y13) fun n1 n2 n3 b4 n5 b6 l7 n8 => br (decide (y9 = 1)) (br (decide (n8 = 0)) (bnd1 (s_bSame N n1 n2 n3 b4 n5 b6 l7 0 2 0 false 1 true y11) fun b9 => br b9 (br (decide (0 < (y11.length : Int))) (at? y11 0 fun u10 => K0 [] (IntKind.i64.wrap (u10.toNat : Int)) y2 y3 y4 y5 y6 y7 y8 0 y10 y12 y13) none) (bnd1 (s_tSpecial N 1 false y11 y0 y1 y2 y3 y4 y5 y6 y7 y8 y9 y10 y11 y12 y13) fun l11 => bnd4 (s_tFailure N 28 l11 y0 y1 y2 y3 y4 y5 y6 y7 y8 y9 y10 y11 y12 y13) fun l12 n13 n14 n15 => K0 l12 y1 y2 y3 y4 y5 y6 y7 y8 n13 n14 y12 n15)) (bnd1 (s_tSpecial N 1 false y11 y0 y1 y2 y3 y4 y5 y6 y7 y8 y9 y10 y11 y12 y13) fun l16 => bnd4 (s_tFailure N 28 l16 y0 y1 y2 y3 y4 y5 y6 y7 y8 y9 y10 y11 y12 y13) fun l17 n18 n19 n20 => K0 l17 y1 y2 y3 y4 y5 y6 y7 y8 n18 n19 y12 n20)) (br (!decide (n8 = 0)) (bnd1 (s_tReady N n8 y0 y1 y2 y3 y4 y5 y6 y7 y8 y9 y10 y11 y12 y13) fun l21 => bnd4 (s_tFailure N 28 l21 y0 y1 y2 y3 y4 y5 y6 y7 y8 y9 y10 y11 y12 y13) fun l22 n23 n24 n25 => K0 l22 y1 y2 y3 y4 y5 y6 y7 y8 n23 n24 y12 n25) (br (decide (n2 = 0)) (bnd7 (s_tInfo N n1 n2 n3 b4 n5 b6 l7 y0 y1 y2 y3 y4 y5 y6 y7 y8 y9 y10 y11 y12 y13) fun l26 n27 l28 n29 n30 b31 n32 => K0 l26 y1 y2 n27 y4 y5 y6 y7 l28 n29 n30 b31 n32) (br (decide (n2 = 1)) (bnd8 (s_tAgain N n1 n2 n3 b4 n5 b6 l7 y0 y1 y2 y3 y4 y5 y6 y7 y8 y9 y10 y11 y12 y13) fun l33 n34 l35 n36 l37 n38 n39 n40 => K0 l33 y1 y2 y3 n34 l35 n36 l37 y8 n38 n39 y12 n40) (bnd5 (s_tSuper N n1 n2 n3 b4 n5 b6 l7 y0 y1 y2 y3 y4 y5 y6 y7 y8 y9 y10 y11 y12 y13) fun l41 n42 n43 n44 n45 => K0 l41 y1 n42 y3 y4 y5 y6 y7 y8 n43 n44 y12 n45)))))))
noncomputable def s_tReceive (N : Nat) (x0 : List UInt8) (y0 y1 y2 y3 y4 : Int) (y5 : List UInt8) (y6 : Int) (y7 : List V) (y8 : List UInt8) (y9 y10 : Int) (y11 : List UInt8) (y12 : Bool) (y13 : Int) : Option (List UInt8 × Int × Int × Int × Int × List UInt8 × Int × List V × List UInt8 × Int × Int × Bool × Int) := C_tReceive N x0 y0 y1 y2 y3 y4 y5 y6 y7 y8 y9 y10 y11 y12 y13 (fun r0 z1 z2 z3 z4 z5 z6 z7 z8 z9 z10 z12 z13 => some (r0, z1, z2, z3, z4, z5, z6, z7, z8, z9, z10, z12, z13))
noncomputable def cx_tReceive (N : Nat) : Cx := cxO [⟨45, e_bSame (s_bSame N)⟩] [⟨62, e_tMade (s_tMade N)⟩, ⟨44, e_tDecode (s_tDecode N)⟩, ⟨46, e_tSpecial (s_tSpecial N)⟩, ⟨47, e_tReady (s_tReady N)⟩, ⟨68, e_tInfo (s_tInfo N)⟩, ⟨69, e_tAgain (s_tAgain N)⟩, ⟨70, e_tSuper (s_tSuper N)⟩, ⟨67, e_tFailure (s_tFailure N)⟩]
theorem C_tReceive_ok {R : Type} (N : Nat) (x0 y0 y1 y2 y3 y4 y5 y6 y7 y8 y9 y10 y11 y12 y13 K : _) : bodyK (R := R) (cx_tReceive N) Try.f27 [.ptr 1 0 0, dY x0] [frOf 0 [g2a y0 y1 y2 y3 y4 y5 y6 y7 y8 y9 y10 y11 y12 y13]] (r_tEnc K) = C_tReceive N x0 y0 y1 y2 y3 y4 y5 y6 y7 y8 y9 y10 y11 y12 y13 (fun r0 z1 z2 z3 z4 z5 z6 z7 z8 z9 z10 z12 z13 => K r0 y0 z1 z2 z3 z4 z5 z6 z7 z8 z9 z10 y11 z12 z13) := by
  kernel_rfl
abbrev Q_tReceive (s : Ty30) : Prop := ∀ x0 y0 y1 y2 y3 y4 y5 y6 y7 y8 y9 y10 y11 y12 y13 r0 z1 z2 z3 z4 z5 z6 z7 z8 z9 z10 z12 z13, s x0 y0 y1 y2 y3 y4 y5 y6 y7 y8 y9 y10 y11 y12 y13 = some (r0, z1, z2, z3, z4, z5, z6, z7, z8, z9, z10, z12, z13) -> ViewRet Try.prog T 27 [.ptr 1 0 0, dY x0] [g2a y0 y1 y2 y3 y4 y5 y6 y7 y8 y9 y10 y11 y12 y13] [dY r0] [g2a y0 z1 z2 z3 z4 z5 z6 z7 z8 z9 z10 y11 z12 z13]
theorem eo_tReceive (s : Ty30) (hs : Q_tReceive s) : MEntOK Try.prog T ⟨27, e_tReceive s⟩ := by
  refine ⟨goes_of Try.func27 (by kernel_rfl) (c := bodyOf Try.f27) (by kernel_rfl), fun R dst ds m K r h => ?_⟩
  simp only [e_tReceive] at h
  split at h
  . obtain ⟨Bs, a1, a2, a3, h⟩ := viewK_some h
    split at h
    . obtain ⟨r0, z1, z2, z3, z4, z5, z6, z7, z8, z9, z10, z12, z13, h1, h2⟩ := bnd13_some h
      rw [putAllK_eq] at h2
      exact ⟨_, _, h2, ViewRet.weakIn (hs _ _ _ _ _ _ _ _ _ _ _ _ _ _ _ _ _ _ _ _ _ _ _ _ _ _ _ _ h1) (by exact ⟨⟨rfl, .inl rfl, .inl rfl, .inl rfl, .inl rfl, .inl rfl, .inr ⟨_, _, rfl, rfl⟩, .inl rfl, .inr ⟨_, _, rfl, rfl⟩, .inl rfl, .inl rfl, .inl rfl, .inr ⟨_, _, rfl, rfl⟩, .inl rfl, .inl rfl, trivial⟩, trivial⟩) rfl _ _ m dst a1 a2 a3 ⟨aren_ptr _ rfl, aren_v _, trivial⟩⟩
    . cases h
  . cases h
open Classical in
theorem p_tReceive (N : Nat) : Q_tReceive (s_tReceive N) := fun x0 y0 y1 y2 y3 y4 y5 y6 y7 y8 y9 y10 y11 y12 y13 r0 z1 z2 z3 z4 z5 z6 z7 z8 z9 z10 z12 z13 h => by
  refine view_ofW (cx := cx_tReceive N) (by kernel_rfl) (cxO_ok ⟨eo_bSame _ (p_bSame N), trivial⟩ ⟨eo_tMade _ (p_tMade N), eo_tDecode _ (p_tDecode N), eo_tSpecial _ (p_tSpecial N), eo_tReady _ (p_tReady N), eo_tInfo _ (p_tInfo N), eo_tAgain _ (p_tAgain N), eo_tSuper _ (p_tSuper N), eo_tFailure _ (p_tFailure N), trivial⟩) Try.func27 (by kernel_rfl) (by kernel_rfl) (loopsOK_of (k := 0) (by kernel_rfl) trivial) (by rfl) (by rfl) (by rfl) (rf := r_tEnc (fun r0' z'0 z'1 z'2 z'3 z'4 z'5 z'6 z'7 z'8 z'9 z'10 z'11 z'12 z'13 => if z'0 = y0 /\ z'11 = y11 then some (r0', z'1, z'2, z'3, z'4, z'5, z'6, z'7, z'8, z'9, z'10, z'12, z'13) else none)) (r := (r0, z1, z2, z3, z4, z5, z6, z7, z8, z9, z10, z12, z13)) ?_ ?_
  . exact (C_tReceive_ok ..).trans ((congrArg (fun K => C_tReceive N x0 y0 y1 y2 y3 y4 y5 y6 y7 y8 y9 y10 y11 y12 y13 K) (funext fun r0' => funext fun z'1 => funext fun z'2 => funext fun z'3 => funext fun z'4 => funext fun z'5 => funext fun z'6 => funext fun z'7 => funext fun z'8 => funext fun z'9 => funext fun z'10 => funext fun z'12 => funext fun z'13 => if_pos ⟨rfl, rfl⟩)).trans h)
  . intro rs' m' hx
    unfold r_tEnc at hx
    split at hx
    . dsimp only at hx
      split at hx
      . rename_i hk
        obtain ⟨rfl, rfl⟩ := hk
        cases hx; exact ⟨rfl, rfl, _, [⟨95, [_, _, _, _, _, _, _, _, _, _, _, _, _, _]⟩], rfl, rfl, ⟨⟨rfl, .inl rfl, .inl rfl, .inl rfl, .inl rfl, .inl rfl, .inr ⟨_, _, rfl, rfl⟩, .inl rfl, .inr ⟨_, _, rfl, rfl⟩, .inl rfl, .inl rfl, .inl rfl, .inr ⟨_, _, rfl, rfl⟩, .inl rfl, .inl rfl, trivial⟩, trivial⟩⟩
      . cases hx
    . cases hx
abbrev Ty31 := Int -> Int -> Int -> Int -> Int -> List UInt8 -> Int -> List V -> List UInt8 -> Int -> Int -> List UInt8 -> Bool -> Int -> Option (List UInt8 × Int × Int × Int)
noncomputable def e_tTimeout {R : Type} (s : Ty31) (dst : Nat) (ds : List D) (m : Mem) (K : List D -> Mem -> Option R) : Option R :=
  match ds with
  | [.ptr (kv0 + 1) sv0 0] => viewK [(kv0, sv0)] m fun Bs => (match Bs with
    | [⟨95, [.v (.int .i64 y0) .no, .v (.int .i64 y1) .no, .v (.int .i64 y2) .no, .v (.int .i64 y3) .no, .v (.int .i64 y4) .no, .v (.bytes y5) _, .v (.int .i64 y6) .no, .v (.sl 27 y7) _, .v (.bytes y8) (.own (.slot 0) 5), .v (.int .i64 y9) .no, .v (.int .i64 y10) .no, .v (.bytes y11) _, .v (.bool y12) .no, .v (.int .i64 y13) .no]⟩] => bnd4 (s y0 y1 y2 y3 y4 y5 y6 y7 y8 y9 y10 y11 y12 y13) fun r0 z9 z10 z13 => putAllK [(kv0, sv0)] [⟨95, [.v (.int .i64 y0) .no, .v (.int .i64 y1) .no, .v (.int .i64 y2) .no, .v (.int .i64 y3) .no, .v (.int .i64 y4) .no, .v (.bytes y5) .no, .v (.int .i64 y6) .no, .v (.sl 27 y7) .no, .v (.bytes y8) (.own (.slot 0) 5), .v (.int .i64 z9) .no, .v (.int .i64 z10) .no, .v (.bytes y11) .no, .v (.bool y12) .no, .v (.int .i64 z13) .no]⟩] m fun m' => K [.v (.bytes r0) .no] m'
    | _ => none)
  | _ => none
noncomputable def C_tTimeout {R : Type} (N : Nat) (y0 y1 y2 y3 y4 : Int) (y5 : List UInt8) (y6 : Int) (y7 : List V) (y8 : List UInt8) (y9 y10 : Int) (y11 : List UInt8) (y12 : Bool) (y13 : Int) (K0 : List UInt8 -> Int -> Int -> Int -> Option R) : Option R := bnd1 (s_tMade N y0 y1 y2 y3 y4 y5 y6 y7 y8 y9 y10 y11 y12 y13) fun b0 => br (!b0) (K0 [] y9 y10 y13) (br (decide (y9 = 1)) (bnd1 (s_tSpecial N 1 false y11 y0 y1 y2 y3 y4 y5 y6 y7 y8 y9 y10 y11 y12 y13) fun l1 => bnd4 (s_tFailure N 29 l1 y0 y1 y2 y3 y4 y5 y6 y7 y8 y9 y10 y11 y12 y13) fun l2 n3 n4 n5 => K0 l2 n3 n4 n5) (br (decide (y9 = 2)) (bnd1 (s_tReady N 2 y0 y1 y2 y3 y4 y5 y6 y7 y8 y9 y10 y11 y12 y13) fun l6 => bnd4 (s_tFailure N 29 l6 y0 y1 y2 y3 y4 y5 y6 y7 y8 y9 y10 y11 y12 y13) fun l7 n8 n9 n10 => K0 l7 n8 n9 n10) (K0 [] y9 y10 y13)))
noncomputable def s_tTimeout (N : Nat) (y0 y1 y2 y3 y4 : Int) (y5 : List UInt8) (y6 : Int) (y7 : List V) (y8 : List UInt8) (y9 y10 : Int) (y11 : List UInt8) (y12 : Bool) (y13 : Int) : Option (List UInt8 × Int × Int × Int) := C_tTimeout N y0 y1 y2 y3 y4 y5 y6 y7 y8 y9 y10 y11 y12 y13 (fun r0 z9 z10 z13 => some (r0, z9, z10, z13))
noncomputable def cx_tTimeout (N : Nat) : Cx := cxO [] [⟨62, e_tMade (s_tMade N)⟩, ⟨67, e_tFailure (s_tFailure N)⟩, ⟨46, e_tSpecial (s_tSpecial N)⟩, ⟨47, e_tReady (s_tReady N)⟩]
theorem C_tTimeout_ok {R : Type} (N : Nat) (y0 y1 y2 y3 y4 y5 y6 y7 y8 y9 y10 y11 y12 y13 K : _) : bodyK (R := R) (cx_tTimeout N) Try.f26 [.ptr 1 0 0] [frOf 0 [g2a y0 y1 y2 y3 y4 y5 y6 y7 y8 y9 y10 y11 y12 y13]] (r_tEnc K) = C_tTimeout N y0 y1 y2 y3 y4 y5 y6 y7 y8 y9 y10 y11 y12 y13 (fun r0 z9 z10 z13 => K r0 y0 y1 y2 y3 y4 y5 y6 y7 y8 z9 z10 y11 y12 z13) := by
  kernel_rfl
abbrev Q_tTimeout (s : Ty31) : Prop := ∀ y0 y1 y2 y3 y4 y5 y6 y7 y8 y9 y10 y11 y12 y13 r0 z9 z10 z13, s y0 y1 y2 y3 y4 y5 y6 y7 y8 y9 y10 y11 y12 y13 = some (r0, z9, z10, z13) -> ViewRet Try.prog T 26 [.ptr 1 0 0] [g2a y0 y1 y2 y3 y4 y5 y6 y7 y8 y9 y10 y11 y12 y13] [dY r0] [g2a y0 y1 y2 y3 y4 y5 y6 y7 y8 z9 z10 y11 y12 z13]
theorem eo_tTimeout (s : Ty31) (hs : Q_tTimeout s) : MEntOK Try.prog T ⟨26, e_tTimeout s⟩ := by
  refine ⟨goes_of Try.func26 (by kernel_rfl) (c := bodyOf Try.f26) (by kernel_rfl), fun R dst ds m K r h => ?_⟩
  simp only [e_tTimeout] at h
  split at h
  . obtain ⟨Bs, a1, a2, a3, h⟩ := viewK_some h
    split at h
    . obtain ⟨r0, z9, z10, z13, h1, h2⟩ := bnd4_some h
      rw [putAllK_eq] at h2
      exact ⟨_, _, h2, ViewRet.weakIn (hs _ _ _ _ _ _ _ _ _ _ _ _ _ _ _ _ _ _ h1) (by exact ⟨⟨rfl, .inl rfl, .inl rfl, .inl rfl, .inl rfl, .inl rfl, .inr ⟨_, _, rfl, rfl⟩, .inl rfl, .inr ⟨_, _, rfl, rfl⟩, .inl rfl, .inl rfl, .inl rfl, .inr ⟨_, _, rfl, rfl⟩, .inl rfl, .inl rfl, trivial⟩, trivial⟩) rfl _ _ m dst a1 a2 a3 ⟨aren_ptr _ rfl, trivial⟩⟩
    . cases h
  . cases h
open Classical in
theorem p_tTimeout (N : Nat) : Q_tTimeout (s_tTimeout N) := fun y0 y1 y2 y3 y4 y5 y6 y7 y8 y9 y10 y11 y12 y13 r0 z9 z10 z13 h => by
  refine view_ofW (cx := cx_tTimeout N) (by kernel_rfl) (cxO_ok trivial ⟨eo_tMade _ (p_tMade N), eo_tFailure _ (p_tFailure N), eo_tSpecial _ (p_tSpecial N), eo_tReady _ (p_tReady N), trivial⟩) Try.func26 (by kernel_rfl) (by kernel_rfl) (loopsOK_of (k := 0) (by kernel_rfl) trivial) (by rfl) (by rfl) (by rfl) (rf := r_tEnc (fun r0' z'0 z'1 z'2 z'3 z'4 z'5 z'6 z'7 z'8 z'9 z'10 z'11 z'12 z'13 => if z'0 = y0 /\ z'1 = y1 /\ z'2 = y2 /\ z'3 = y3 /\ z'4 = y4 /\ z'5 = y5 /\ z'6 = y6 /\ z'7 = y7 /\ z'8 = y8 /\ z'11 = y11 /\ z'12 = y12 then some (r0', z'9, z'10, z'13) else none)) (r := (r0, z9, z10, z13)) ?_ ?_
  . exact (C_tTimeout_ok ..).trans ((congrArg (fun K => C_tTimeout N y0 y1 y2 y3 y4 y5 y6 y7 y8 y9 y10 y11 y12 y13 K) (funext fun r0' => funext fun z'9 => funext fun z'10 => funext fun z'13 => if_pos ⟨rfl, rfl, rfl, rfl, rfl, rfl, rfl, rfl, rfl, rfl, rfl⟩)).trans h)
  . intro rs' m' hx
    unfold r_tEnc at hx
    split at hx
    . dsimp only at hx
      split at hx
      . rename_i hk
        obtain ⟨rfl, rfl, rfl, rfl, rfl, rfl, rfl, rfl, rfl, rfl, rfl⟩ := hk
        cases hx; exact ⟨rfl, rfl, _, [⟨95, [_, _, _, _, _, _, _, _, _, _, _, _, _, _]⟩], rfl, rfl, ⟨⟨rfl, .inl rfl, .inl rfl, .inl rfl, .inl rfl, .inl rfl, .inr ⟨_, _, rfl, rfl⟩, .inl rfl, .inr ⟨_, _, rfl, rfl⟩, .inl rfl, .inl rfl, .inl rfl, .inr ⟨_, _, rfl, rfl⟩, .inl rfl, .inl rfl, trivial⟩, trivial⟩⟩
      . cases hx
    . cases hx
abbrev Ty32 := Int -> Int -> Int -> Int -> Int -> List UInt8 -> Int -> List V -> List UInt8 -> Int -> Int -> List UInt8 -> Bool -> Int -> Option (List UInt8 × Bool)
noncomputable def e_tResponse {R : Type} (s : Ty32) (dst : Nat) (ds : List D) (m : Mem) (K : List D -> Mem -> Option R) : Option R :=
  match ds with
  | [.ptr (kv0 + 1) sv0 0] => viewK [(kv0, sv0)] m fun Bs => (match Bs with
    | [⟨95, [.v (.int .i64 y0) .no, .v (.int .i64 y1) .no, .v (.int .i64 y2) .no, .v (.int .i64 y3) .no, .v (.int .i64 y4) .no, .v (.bytes y5) _, .v (.int .i64 y6) .no, .v (.sl 27 y7) _, .v (.bytes y8) (.own (.slot 0) 5), .v (.int .i64 y9) .no, .v (.int .i64 y10) .no, .v (.bytes y11) _, .v (.bool y12) .no, .v (.int .i64 y13) .no]⟩] => bnd2 (s y0 y1 y2 y3 y4 y5 y6 y7 y8 y9 y10 y11 y12 y13) fun r0 r1 => putAllK [(kv0, sv0)] [⟨95, [.v (.int .i64 y0) .no, .v (.int .i64 y1) .no, .v (.int .i64 y2) .no, .v (.int .i64 y3) .no, .v (.int .i64 y4) .no, .v (.bytes y5) .no, .v (.int .i64 y6) .no, .v (.sl 27 y7) .no, .v (.bytes y8) (.own (.slot 0) 5), .v (.int .i64 y9) .no, .v (.int .i64 y10) .no, .v (.bytes y11) .no, .v (.bool y12) .no, .v (.int .i64 y13) .no]⟩] m fun m' => K [.v (.bytes r0) .no, .v (.bool r1) .no] m'
    | _ => none)
  | _ => none
noncomputable def r_tResponse {α : Type} (K : List UInt8 -> Bool -> Int -> Int -> Int -> Int -> Int -> List UInt8 -> Int -> List V -> List UInt8 -> Int -> Int -> List UInt8 -> Bool -> Int -> Option α) (rs : List D) (m : Mem) : Option α :=
  match rs, m with
  | [.v (.bytes r0) _, .v (.bool r1) _], [_, [(0, ⟨95, [.v (.int .i64 z0) .no, .v (.int .i64 z1) .no, .v (.int .i64 z2) .no, .v (.int .i64 z3) .no, .v (.int .i64 z4) .no, .v (.bytes z5) _, .v (.int .i64 z6) .no, .v (.sl 27 z7) _, .v (.bytes z8) (.own (.slot 0) 5), .v (.int .i64 z9) .no, .v (.int .i64 z10) .no, .v (.bytes z11) _, .v (.bool z12) .no, .v (.int .i64 z13) .no]⟩)]] => K r0 r1 z0 z1 z2 z3 z4 z5 z6 z7 z8 z9 z10 z11 z12 z13
  | _, _ => none
noncomputable def C_tResponse {R : Type} (N : Nat) (y0 y1 y2 y3 y4 : Int) (y5 : List UInt8) (y6 : Int) (y7 : List V) (y8 : List UInt8) (y9 y10 : Int) (y11 : List UInt8) (y12 : Bool) (y13 : Int) (K0 : List UInt8 -> Bool -> Option R) : Option R := bnd1 (s_tMade N y0 y1 y2 y3 y4 y5 y6 y7 y8 y9 y10 y11 y12 y13) fun b0 => br (!b0) (K0 [] false) (br (!y12) (K0 [] false) (bnd1 (s_clone N y8) fun l1 => K0 l1 true))
noncomputable def s_tResponse (N : Nat) (y0 y1 y2 y3 y4 : Int) (y5 : List UInt8) (y6 : Int) (y7 : List V) (y8 : List UInt8) (y9 y10 : Int) (y11 : List UInt8) (y12 : Bool) (y13 : Int) : Option (List UInt8 × Bool) := C_tResponse N y0 y1 y2 y3 y4 y5 y6 y7 y8 y9 y10 y11 y12 y13 (fun r0 r1 => some (r0, r1))
noncomputable def cx_tResponse (N : Nat) : Cx := cxO [⟨60, e_clone (s_clone N)⟩] [⟨62, e_tMade (s_tMade N)⟩]
theorem C_tResponse_ok {R : Type} (N : Nat) (y0 y1 y2 y3 y4 y5 y6 y7 y8 y9 y10 y11 y12 y13 K : _) : bodyK (R := R) (cx_tResponse N) Try.f29 [.ptr 1 0 0] [frOf 0 [g2a y0 y1 y2 y3 y4 y5 y6 y7 y8 y9 y10 y11 y12 y13]] (r_tResponse K) = C_tResponse N y0 y1 y2 y3 y4 y5 y6 y7 y8 y9 y10 y11 y12 y13 (fun r0 r1 => K r0 r1 y0 y1 y2 y3 y4 y5 y6 y7 y8 y9 y10 y11 y12 y13) := by
  kernel_rfl
abbrev Q_tResponse (s : Ty32) : Prop := ∀ y0 y1 y2 y3 y4 y5 y6 y7 y8 y9 y10 y11 y12 y13 r0 r1, s y0 y1 y2 y3 y4 y5 y6 y7 y8 y9 y10 y11 y12 y13 = some (r0, r1) -> ViewRet Try.prog T 29 [.ptr 1 0 0] [g2a y0 y1 y2 y3 y4 y5 y6 y7 y8 y9 y10 y11 y12 y13] [dY r0, dB r1] [g2a y0 y1 y2 y3 y4 y5 y6 y7 y8 y9 y10 y11 y12 y13]
theorem eo_tResponse (s : Ty32) (hs : Q_tResponse s) : MEntOK Try.prog T ⟨29, e_tResponse s⟩ := by
  refine ⟨goes_of Try.func29 (by kernel_rfl) (c := bodyOf Try.f29) (by kernel_rfl), fun R dst ds m K r h => ?_⟩
  simp only [e_tResponse] at h
  split at h
  . obtain ⟨Bs, a1, a2, a3, h⟩ := viewK_some h
    split at h
    . obtain ⟨r0, r1, h1, h2⟩ := bnd2_some h
      rw [putAllK_eq] at h2
      exact ⟨_, _, h2, ViewRet.weakIn (hs _ _ _ _ _ _ _ _ _ _ _ _ _ _ _ _ h1) (by exact ⟨⟨rfl, .inl rfl, .inl rfl, .inl rfl, .inl rfl, .inl rfl, .inr ⟨_, _, rfl, rfl⟩, .inl rfl, .inr ⟨_, _, rfl, rfl⟩, .inl rfl, .inl rfl, .inl rfl, .inr ⟨_, _, rfl, rfl⟩, .inl rfl, .inl rfl, trivial⟩, trivial⟩) rfl _ _ m dst a1 a2 a3 ⟨aren_ptr _ rfl, trivial⟩⟩
    . cases h
  . cases h
open Classical in
theorem p_tResponse (N : Nat) : Q_tResponse (s_tResponse N) := fun y0 y1 y2 y3 y4 y5 y6 y7 y8 y9 y10 y11 y12 y13 r0 r1 h => by
  refine view_ofW (cx := cx_tResponse N) (by kernel_rfl) (cxO_ok ⟨eo_clone _ (p_clone N), trivial⟩ ⟨eo_tMade _ (p_tMade N), trivial⟩) Try.func29 (by kernel_rfl) (by kernel_rfl) (loopsOK_of (k := 0) (by kernel_rfl) trivial) (by rfl) (by rfl) (by rfl) (rf := r_tResponse (fun r0' r1' z'0 z'1 z'2 z'3 z'4 z'5 z'6 z'7 z'8 z'9 z'10 z'11 z'12 z'13 => if z'0 = y0 /\ z'1 = y1 /\ z'2 = y2 /\ z'3 = y3 /\ z'4 = y4 /\ z'5 = y5 /\ z'6 = y6 /\ z'7 = y7 /\ z'8 = y8 /\ z'9 = y9 /\ z'10 = y10 /\ z'11 = y11 /\ z'12 = y12 /\ z'13 = y13 then some (r0', r1') else none)) (r := (r0, r1)) ?_ ?_
  . exact (C_tResponse_ok ..).trans ((congrArg (fun K => C_tResponse N y0 y1 y2 y3 y4 y5 y6 y7 y8 y9 y10 y11 y12 y13 K) (funext fun r0' => funext fun r1' => if_pos ⟨rfl, rfl, rfl, rfl, rfl, rfl, rfl, rfl, rfl, rfl, rfl, rfl, rfl, rfl⟩)).trans h)
  . intro rs' m' hx
    unfold r_tResponse at hx
    split at hx
    . dsimp only at hx
      split at hx
      . rename_i hk
        obtain ⟨rfl, rfl, rfl, rfl, rfl, rfl, rfl, rfl, rfl, rfl, rfl, rfl, rfl, rfl⟩ := hk
        cases hx; exact ⟨rfl, rfl, _, [⟨95, [_, _, _, _, _, _, _, _, _, _, _, _, _, _]⟩], rfl, rfl, ⟨⟨rfl, .inl rfl, .inl rfl, .inl rfl, .inl rfl, .inl rfl, .inr ⟨_, _, rfl, rfl⟩, .inl rfl, .inr ⟨_, _, rfl, rfl⟩, .inl rfl, .inl rfl, .inl rfl, .inr ⟨_, _, rfl, rfl⟩, .inl rfl, .inl rfl, trivial⟩, trivial⟩⟩
      . cases hx
    . cases hx
abbrev Ty33 := Int -> Int -> Int -> Int -> Int -> Int -> List UInt8 -> Int -> List V -> List UInt8 -> Int -> Int -> List UInt8 -> Bool -> Int -> Option (List UInt8 × Int × Int × List UInt8)
noncomputable def e_tOffer {R : Type} (s : Ty33) (dst : Nat) (ds : List D) (m : Mem) (K : List D -> Mem -> Option R) : Option R :=
  match ds with
  | [.ptr (kv0 + 1) sv0 0, .v (.int .i64 x0) .no] => viewK [(kv0, sv0)] m fun Bs => (match Bs with
    | [⟨95, [.v (.int .i64 y0) .no, .v (.int .i64 y1) .no, .v (.int .i64 y2) .no, .v (.int .i64 y3) .no, .v (.int .i64 y4) .no, .v (.bytes y5) _, .v (.int .i64 y6) .no, .v (.sl 27 y7) _, .v (.bytes y8) (.own (.slot 0) 5), .v (.int .i64 y9) .no, .v (.int .i64 y10) .no, .v (.bytes y11) _, .v (.bool y12) .no, .v (.int .i64 y13) .no]⟩] => bnd4 (s x0 y0 y1 y2 y3 y4 y5 y6 y7 y8 y9 y10 y11 y12 y13) fun r0 z9 z10 z11 => putAllK [(kv0, sv0)] [⟨95, [.v (.int .i64 y0) .no, .v (.int .i64 y1) .no, .v (.int .i64 y2) .no, .v (.int .i64 y3) .no, .v (.int .i64 y4) .no, .v (.bytes y5) .no, .v (.int .i64 y6) .no, .v (.sl 27 y7) .no, .v (.bytes y8) (.own (.slot 0) 5), .v (.int .i64 z9) .no, .v (.int .i64 z10) .no, .v (.bytes z11) .no, .v (.bool y12) .no, .v (.int .i64 y13) .no]⟩] m fun m' => K [.v (.bytes r0) .no] m'
    | _ => none)
  | _ => none
noncomputable def C_tOffer {R : Type} (N : Nat) (x0 y0 y1 y2 y3 y4 : Int) (y5 : List UInt8) (y6 : Int) (y7 : List V) (y8 : List UInt8) (y9 y10 : Int) (y11 : List UInt8) (y12 : Bool) (y13 : Int) (K0 : List UInt8 -> Int -> Int -> List UInt8 -> Option R) : Option R := bnd1 (s_tMade N y0 y1 y2 y3 y4 y5 y6 y7 y8 y9 y10 y11 y12 y13) fun b0 => br (!b0) (K0 [] y9 y10 y11) (br (!decide (y9 = 0)) (K0 [] y9 y10 y11) (br (decide (x0 < 1)) (K0 [] y9 y10 y11) (br (decide (254 < x0)) (K0 [] y9 y10 y11) (bnd1 (s_tSpecial N 1 false [UInt8.ofNat (IntKind.u8.wrap x0).toNat] y0 y1 y2 y3 y4 y5 y6 y7 y8 1 0 [UInt8.ofNat (IntKind.u8.wrap x0).toNat] y12 y13) fun l1 => K0 l1 1 0 [UInt8.ofNat (IntKind.u8.wrap x0).toNat]))))
noncomputable def s_tOffer (N : Nat) (x0 y0 y1 y2 y3 y4 : Int) (y5 : List UInt8) (y6 : Int) (y7 : List V) (y8 : List UInt8) (y9 y10 : Int) (y11 : List UInt8) (y12 : Bool) (y13 : Int) : Option (List UInt8 × Int × Int × List UInt8) := C_tOffer N x0 y0 y1 y2 y3 y4 y5 y6 y7 y8 y9 y10 y11 y12 y13 (fun r0 z9 z10 z11 => some (r0, z9, z10, z11))
noncomputable def cx_tOffer (N : Nat) : Cx := cxO [] [⟨62, e_tMade (s_tMade N)⟩, ⟨46, e_tSpecial (s_tSpecial N)⟩]
theorem C_tOffer_ok {R : Type} (N : Nat) (x0 y0 y1 y2 y3 y4 y5 y6 y7 y8 y9 y10 y11 y12 y13 K : _) : bodyK (R := R) (cx_tOffer N) Try.f33 [.ptr 1 0 0, dI x0] [frOf 0 [g2a y0 y1 y2 y3 y4 y5 y6 y7 y8 y9 y10 y11 y12 y13]] (r_tEnc K) = C_tOffer N x0 y0 y1 y2 y3 y4 y5 y6 y7 y8 y9 y10 y11 y12 y13 (fun r0 z9 z10 z11 => K r0 y0 y1 y2 y3 y4 y5 y6 y7 y8 z9 z10 z11 y12 y13) := by
  kernel_rfl
abbrev Q_tOffer (s : Ty33) : Prop := ∀ x0 y0 y1 y2 y3 y4 y5 y6 y7 y8 y9 y10 y11 y12 y13 r0 z9 z10 z11, s x0 y0 y1 y2 y3 y4 y5 y6 y7 y8 y9 y10 y11 y12 y13 = some (r0, z9, z10, z11) -> ViewRet Try.prog T 33 [.ptr 1 0 0, dI x0] [g2a y0 y1 y2 y3 y4 y5 y6 y7 y8 y9 y10 y11 y12 y13] [dY r0] [g2a y0 y1 y2 y3 y4 y5 y6 y7 y8 z9 z10 z11 y12 y13]
theorem eo_tOffer (s : Ty33) (hs : Q_tOffer s) : MEntOK Try.prog T ⟨33, e_tOffer s⟩ := by
  refine ⟨goes_of Try.func33 (by kernel_rfl) (c := bodyOf Try.f33) (by kernel_rfl), fun R dst ds m K r h => ?_⟩
  simp only [e_tOffer] at h
  split at h
  . obtain ⟨Bs, a1, a2, a3, h⟩ := viewK_some h
    split at h
    . obtain ⟨r0, z9, z10, z11, h1, h2⟩ := bnd4_some h
      rw [putAllK_eq] at h2
      exact ⟨_, _, h2, ViewRet.weakIn (hs _ _ _ _ _ _ _ _ _ _ _ _ _ _ _ _ _ _ _ h1) (by exact ⟨⟨rfl, .inl rfl, .inl rfl, .inl rfl, .inl rfl, .inl rfl, .inr ⟨_, _, rfl, rfl⟩, .inl rfl, .inr ⟨_, _, rfl, rfl⟩, .inl rfl, .inl rfl, .inl rfl, .inr ⟨_, _, rfl, rfl⟩, .inl rfl, .inl rfl, trivial⟩, trivial⟩) rfl _ _ m dst a1 a2 a3 ⟨aren_ptr _ rfl, aren_v _, trivial⟩⟩
    . cases h
  . cases h
open Classical in
theorem p_tOffer (N : Nat) : Q_tOffer (s_tOffer N) := fun x0 y0 y1 y2 y3 y4 y5 y6 y7 y8 y9 y10 y11 y12 y13 r0 z9 z10 z11 h => by
  refine view_ofW (cx := cx_tOffer N) (by kernel_rfl) (cxO_ok trivial ⟨eo_tMade _ (p_tMade N), eo_tSpecial _ (p_tSpecial N), trivial⟩) Try.func33 (by kernel_rfl) (by kernel_rfl) (loopsOK_of (k := 0) (by kernel_rfl) trivial) (by rfl) (by rfl) (by rfl) (rf := r_tEnc (fun r0' z'0 z'1 z'2 z'3 z'4 z'5 z'6 z'7 z'8 z'9 z'10 z'11 z'12 z'13 => if z'0 = y0 /\ z'1 = y1 /\ z'2 = y2 /\ z'3 = y3 /\ z'4 = y4 /\ z'5 = y5 /\ z'6 = y6 /\ z'7 = y7 /\ z'8 = y8 /\ z'12 = y12 /\ z'13 = y13 then some (r0', z'9, z'10, z'11) else none)) (r := (r0, z9, z10, z11)) ?_ ?_
  . exact (C_tOffer_ok ..).trans ((congrArg (fun K => C_tOffer N x0 y0 y1 y2 y3 y4 y5 y6 y7 y8 y9 y10 y11 y12 y13 K) (funext fun r0' => funext fun z'9 => funext fun z'10 => funext fun z'11 => if_pos ⟨rfl, rfl, rfl, rfl, rfl, rfl, rfl, rfl, rfl, rfl, rfl⟩)).trans h)
  . intro rs' m' hx
    unfold r_tEnc at hx
    split at hx
    . dsimp only at hx
      split at hx
      . rename_i hk
        obtain ⟨rfl, rfl, rfl, rfl, rfl, rfl, rfl, rfl, rfl, rfl, rfl⟩ := hk
        cases hx; exact ⟨rfl, rfl, _, [⟨95, [_, _, _, _, _, _, _, _, _, _, _, _, _, _]⟩], rfl, rfl, ⟨⟨rfl, .inl rfl, .inl rfl, .inl rfl, .inl rfl, .inl rfl, .inr ⟨_, _, rfl, rfl⟩, .inl rfl, .inr ⟨_, _, rfl, rfl⟩, .inl rfl, .inl rfl, .inl rfl, .inr ⟨_, _, rfl, rfl⟩, .inl rfl, .inl rfl, trivial⟩, trivial⟩⟩
      . cases hx
    . cases hx
abbrev Ty34 := List UInt8 -> Int -> Int -> Int -> Int -> Int -> List UInt8 -> Int -> List V -> List UInt8 -> Int -> Int -> List UInt8 -> Bool -> Int -> Option (List UInt8 × Int × List UInt8 × Int × List V × List UInt8 × Int × Int × Bool)
noncomputable def e_tSend {R : Type} (s : Ty34) (dst : Nat) (ds : List D) (m : Mem) (K : List D -> Mem -> Option R) : Option R :=
  match ds with
  | [.ptr (kv0 + 1) sv0 0, .v (.bytes x0) .no] => viewK [(kv0, sv0)] m fun Bs => (match Bs with
    | [⟨95, [.v (.int .i64 y0) .no, .v (.int .i64 y1) .no, .v (.int .i64 y2) .no, .v (.int .i64 y3) .no, .v (.int .i64 y4) .no, .v (.bytes y5) _, .v (.int .i64 y6) .no, .v (.sl 27 y7) _, .v (.bytes y8) (.own (.slot 0) 5), .v (.int .i64 y9) .no, .v (.int .i64 y10) .no, .v (.bytes y11) _, .v (.bool y12) .no, .v (.int .i64 y13) .no]⟩] => bnd9 (s x0 y0 y1 y2 y3 y4 y5 y6 y7 y8 y9 y10 y11 y12 y13) fun r0 z4 z5 z6 z7 z8 z9 z10 z12 => putAllK [(kv0, sv0)] [⟨95, [.v (.int .i64 y0) .no, .v (.int .i64 y1) .no, .v (.int .i64 y2) .no, .v (.int .i64 y3) .no, .v (.int .i64 z4) .no, .v (.bytes z5) .no, .v (.int .i64 z6) .no, .v (.sl 27 z7) .no, .v (.bytes z8) (.own (.slot 0) 5), .v (.int .i64 z9) .no, .v (.int .i64 z10) .no, .v (.bytes y11) .no, .v (.bool z12) .no, .v (.int .i64 y13) .no]⟩] m fun m' => K [.v (.bytes r0) .no] m'
    | _ => none)
  | _ => none
noncomputable def C_tSend {R : Type} (N : Nat) (x0 : List UInt8) (y0 y1 y2 y3 y4 : Int) (y5 : List UInt8) (y6 : Int) (y7 : List V) (y8 : List UInt8) (y9 y10 : Int) (y11 : List UInt8) (y12 : Bool) (y13 : Int) (K0 : List UInt8 -> Int -> List UInt8 -> Int -> List V -> List UInt8 -> Int -> Int -> Bool -> Option R) : Option R := bnd1 (s_tMade N y0 y1 y2 y3 y4 y5 y6 y7 y8 y9 y10 y11 y12 y13) fun b0 => br (!b0) (K0 [] y4 y5 y6 y7 y8 y9 y10 y12) (br (!decide (y9 = 0)) (K0 [] y4 y5 y6 y7 y8 y9 y10 y12) (bnd5 (s_tSendC N x0 y0 y1 y2 y3 y4 y5 y6 y7 [] 2 0 y11 false y13) fun l1 n2 l3 n4 l5 => K0 l1 n2 l3 n4 l5 [] 2 0 false))
noncomputable def s_tSend (N : Nat) (x0 : List UInt8) (y0 y1 y2 y3 y4 : Int) (y5 : List UInt8) (y6 : Int) (y7 : List V) (y8 : List UInt8) (y9 y10 : Int) (y11 : List UInt8) (y12 : Bool) (y13 : Int) : Option (List UInt8 × Int × List UInt8 × Int × List V × List UInt8 × Int × Int × Bool) := C_tSend N x0 y0 y1 y2 y3 y4 y5 y6 y7 y8 y9 y10 y11 y12 y13 (fun r0 z4 z5 z6 z7 z8 z9 z10 z12 => some (r0, z4, z5, z6, z7, z8, z9, z10, z12))
noncomputable def cx_tSend (N : Nat) : Cx := cxO [] [⟨62, e_tMade (s_tMade N)⟩, ⟨58, e_tSendC (s_tSendC N)⟩]
theorem C_tSend_ok {R : Type} (N : Nat) (x0 y0 y1 y2 y3 y4 y5 y6 y7 y8 y9 y10 y11 y12 y13 K : _) : bodyK (R := R) (cx_tSend N) Try.f24 [.ptr 1 0 0, dY x0] [frOf 0 [g2a y0 y1 y2 y3 y4 y5 y6 y7 y8 y9 y10 y11 y12 y13]] (r_tEnc K) = C_tSend N x0 y0 y1 y2 y3 y4 y5 y6 y7 y8 y9 y10 y11 y12 y13 (fun r0 z4 z5 z6 z7 z8 z9 z10 z12 => K r0 y0 y1 y2 y3 z4 z5 z6 z7 z8 z9 z10 y11 z12 y13) := by
  kernel_rfl
abbrev Q_tSend (s : Ty34) : Prop := ∀ x0 y0 y1 y2 y3 y4 y5 y6 y7 y8 y9 y10 y11 y12 y13 r0 z4 z5 z6 z7 z8 z9 z10 z12, s x0 y0 y1 y2 y3 y4 y5 y6 y7 y8 y9 y10 y11 y12 y13 = some (r0, z4, z5, z6, z7, z8, z9, z10, z12) -> ViewRet Try.prog T 24 [.ptr 1 0 0, dY x0] [g2a y0 y1 y2 y3 y4 y5 y6 y7 y8 y9 y10 y11 y12 y13] [dY r0] [g2a y0 y1 y2 y3 z4 z5 z6 z7 z8 z9 z10 y11 z12 y13]
theorem eo_tSend (s : Ty34) (hs : Q_tSend s) : MEntOK Try.prog T ⟨24, e_tSend s⟩ := by
  refine ⟨goes_of Try.func24 (by kernel_rfl) (c := bodyOf Try.f24) (by kernel_rfl), fun R dst ds m K r h => ?_⟩
  simp only [e_tSend] at h
  split at h
  . obtain ⟨Bs, a1, a2, a3, h⟩ := viewK_some h
    split at h
    . obtain ⟨r0, z4, z5, z6, z7, z8, z9, z10, z12, h1, h2⟩ := bnd9_some h
      rw [putAllK_eq] at h2
      exact ⟨_, _, h2, ViewRet.weakIn (hs _ _ _ _ _ _ _ _ _ _ _ _ _ _ _ _ _ _ _ _ _ _ _ _ h1) (by exact ⟨⟨rfl, .inl rfl, .inl rfl, .inl rfl, .inl rfl, .inl rfl, .inr ⟨_, _, rfl, rfl⟩, .inl rfl, .inr ⟨_, _, rfl, rfl⟩, .inl rfl, .inl rfl, .inl rfl, .inr ⟨_, _, rfl, rfl⟩, .inl rfl, .inl rfl, trivial⟩, trivial⟩) rfl _ _ m dst a1 a2 a3 ⟨aren_ptr _ rfl, aren_v _, trivial⟩⟩
    . cases h
  . cases h
open Classical in
theorem p_tSend (N : Nat) : Q_tSend (s_tSend N) := fun x0 y0 y1 y2 y3 y4 y5 y6 y7 y8 y9 y10 y11 y12 y13 r0 z4 z5 z6 z7 z8 z9 z10 z12 h => by
  refine view_ofW (cx := cx_tSend N) (by kernel_rfl) (cxO_ok trivial ⟨eo_tMade _ (p_tMade N), eo_tSendC _ (p_tSendC N), trivial⟩) Try.func24 (by kernel_rfl) (by kernel_rfl) (loopsOK_of (k := 0) (by kernel_rfl) trivial) (by rfl) (by rfl) (by rfl) (rf := r_tEnc (fun r0' z'0 z'1 z'2 z'3 z'4 z'5 z'6 z'7 z'8 z'9 z'10 z'11 z'12 z'13 => if z'0 = y0 /\ z'1 = y1 /\ z'2 = y2 /\ z'3 = y3 /\ z'11 = y11 /\ z'13 = y13 then some (r0', z'4, z'5, z'6, z'7, z'8, z'9, z'10, z'12) else none)) (r := (r0, z4, z5, z6, z7, z8, z9, z10, z12)) ?_ ?_
  . exact (C_tSend_ok ..).trans ((congrArg (fun K => C_tSend N x0 y0 y1 y2 y3 y4 y5 y6 y7 y8 y9 y10 y11 y12 y13 K) (funext fun r0' => funext fun z'4 => funext fun z'5 => funext fun z'6 => funext fun z'7 => funext fun z'8 => funext fun z'9 => funext fun z'10 => funext fun z'12 => if_pos ⟨rfl, rfl, rfl, rfl, rfl, rfl⟩)).trans h)
  . intro rs' m' hx
    unfold r_tEnc at hx
    split at hx
    . dsimp only at hx
      split at hx
      . rename_i hk
        obtain ⟨rfl, rfl, rfl, rfl, rfl, rfl⟩ := hk
        cases hx; exact ⟨rfl, rfl, _, [⟨95, [_, _, _, _, _, _, _, _, _, _, _, _, _, _]⟩], rfl, rfl, ⟨⟨rfl, .inl rfl, .inl rfl, .inl rfl, .inl rfl, .inl rfl, .inr ⟨_, _, rfl, rfl⟩, .inl rfl, .inr ⟨_, _, rfl, rfl⟩, .inl rfl, .inl rfl, .inl rfl, .inr ⟨_, _, rfl, rfl⟩, .inl rfl, .inl rfl, trivial⟩, trivial⟩⟩
      . cases hx
    . cases hx
noncomputable def s_rright (N : Nat) (x0 x1 : Int) : Option (Bool) := br (decide (1 <= x0)) (br (decide (x0 <= 254)) (br (decide (x1 = 0)) (some true) (some (decide (x1 = 1)))) (some false)) (some false)
end Go.Proofs.Ytilfphdeacogmaa.En

/- Functions of the program in plain Lean, joined to the program by evaluation; printed by a program. -/
namespace Go.Proofs.Ytilfphdeacogmaa.En
open Go Go.Proofs
set_option maxRecDepth 100000
set_option maxHeartbeats 8000000
set_option linter.unusedVariables false
end Go.Proofs.Ytilfphdeacogmaa.En

/- Functions of the program in plain Lean, joined to the program by evaluation; printed by a program. -/
namespace Go.Proofs.Ytilfphdeacogmaa.En
open Go Go.Proofs
set_option maxRecDepth 100000
set_option maxHeartbeats 8000000
set_option linter.unusedVariables false
noncomputable def e_sides {R : Type} (s : Int -> Int -> Option (Bool)) (ds : List D) (K : List D -> Option R) : Option R :=
  match ds with
  | [.v (.int .i64 x0) .no, .v (.int .i64 x1) .no] => bnd1 (s x0 x1) fun r0 => K [dB r0]
  | _ => none
noncomputable def s_sides (N : Nat) (x0 x1 : Int) : Option (Bool) := br (decide (1 <= x0)) (br (decide (x0 <= 254)) (br (decide (x1 = 0)) (some true) (some (decide (x1 = 1)))) (some false)) (some false)
noncomputable def cx_sides (N : Nat) : Cx := cxO [] []
theorem s_sides_ok (N : Nat) (x0 x1 : _) : bodyK (cx_sides N) Try.f22 [dI x0, dI x1] [] r_valid = s_sides N x0 x1 := by
  kernel_rfl
abbrev Q_sides (s : Int -> Int -> Option (Bool)) : Prop := ∀ x0 x1 r0, s x0 x1 = some r0 -> PureRet Try.prog T 22 [dI x0, dI x1] [dB r0]
theorem eo_sides (s : Int -> Int -> Option (Bool)) (hs : Q_sides s) : EntOK Try.prog T ⟨22, e_sides s⟩ := by
  refine ⟨goes_of Try.func22 (by kernel_rfl) (c := bodyOf Try.f22) (by kernel_rfl), fun R ds K r h => ?_, fun R ds K => ?_⟩
  . simp only [e_sides] at h
    split at h
    . obtain ⟨r0, h1, h2⟩ := bnd1_some h
      exact ⟨_, h2, hs _ _ _ h1⟩
    . cases h
  . simp only [e_sides]
    split
    . rw [bnd1_b]; rfl
    . rfl
theorem p_sides (N : Nat) : Q_sides (s_sides N) := fun x0 x1 r0 h => pure_of (cx := cx_sides N) (by kernel_rfl) (cxO_ok trivial trivial) Try.func22 (by kernel_rfl) (by kernel_rfl) (loopsOK_of (k := 0) (by kernel_rfl) trivial) (by rfl) (by rfl) (by rfl) (rf := r_valid) ((s_sides_ok ..).trans h) (fun rs' m h => by
    unfold r_valid at h
    split at h
    . cases h; exact ⟨rfl, rfl⟩
    . cases h)
end Go.Proofs.Ytilfphdeacogmaa.En

/- The printed functions, together. -/

/- Words for the plain laws: branches, numbers, bits, places in a list. No program in sight. -/
namespace Go.Proofs.Ytilfphdeacogmaa.En
open Go
set_option linter.unusedVariables false
section
variable {R α β γ δ : Type}
theorem br_t (x y : Option R) : br true x y = x := id rfl
theorem br_f (x y : Option R) : br false x y = y := id rfl
theorem br_dec (p : Prop) [Decidable p] (x y : Option R) : br (decide p) x y = if p then x else y := by
  by_cases h : p <;> simp [br, h]
theorem br_not (c : Bool) (x y : Option R) : br (!c) x y = br c y x := by cases c <;> rfl
theorem br_and (a b : Bool) (x y : Option R) : br (a && b) x y = br a (br b x y) y := by cases a <;> rfl
theorem bnd1_mk (a : α) (K : α -> Option R) : bnd1 (some a) K = K a := id rfl
theorem bnd2_mk (a : α) (b : β) (K : α -> β -> Option R) : bnd2 (some (a, b)) K = K a b := id rfl
theorem bnd3_mk (a : α) (b : β) (c : γ) (K : α -> β -> γ -> Option R) : bnd3 (some (a, b, c)) K = K a b c := id rfl
theorem bnd4_mk (a : α) (b : β) (c : γ) (d : δ) (K : α -> β -> γ -> δ -> Option R) : bnd4 (some (a, b, c, d)) K = K a b c d := id rfl
theorem bnd5_mk {ε : Type} (a : α) (b : β) (c : γ) (d : δ) (e : ε) (K : α -> β -> γ -> δ -> ε -> Option R) : bnd5 (some (a, b, c, d, e)) K = K a b c d e := id rfl
theorem at_of {xs : List α} {i : Nat} {x : α} (h : xs[i]? = some x) (K : α -> Option R) : at? xs i K = K x := by simp [at?, h]
theorem at_zero (x : α) (r : List α) (K : α -> Option R) : at? (x :: r) 0 K = K x := id rfl
theorem at_mid (pre : List α) (x : α) (suf : List α) (K : α -> Option R) : at? (pre ++ x :: suf) pre.length K = K x := at_of (by simp) K
theorem unBytes_mk (s : List UInt8) (K : List UInt8 -> Option R) : V.unBytes (.bytes s) K = K s := id rfl
end
theorem w64 {n : Int} (h1 : -9223372036854775808 <= n) (h2 : n <= 9223372036854775807) : IntKind.i64.wrap n = n := by
  rw [IntKind.wrap_i64]; omega
theorem w64_u8 (u : UInt8) : IntKind.i64.wrap (u.toNat : Int) = u.toNat := by
  have := u.toNat_lt; exact w64 (by omega) (by omega)
theorem wu8 (n : Int) : IntKind.u8.wrap n = n % 256 := IntKind.wrap_u8 n
theorem ofNat_toNat (u : UInt8) : UInt8.ofNat u.toNat = u := UInt8.ofNat_toNat
end Go.Proofs.Ytilfphdeacogmaa.En

/- Chapter 08: the program's card does what the model does. -/
namespace Go.Proofs.Ytilfphdeacogmaa.En
open Go
set_option linter.unusedVariables false
def pcs (l : List (List UInt8)) : List V := l.map V.bytes
def sentB (s : Co) : List UInt8 := if s.has = true then s.sent.enc s.sum else []
def askB (c : Cd) : List UInt8 := if c.time = 0 then [] else [b8 c.time]
def outB (k : Int) (o : Option Bl) : List UInt8 := match o with | none => [] | some b => b.enc k
theorem pcs_pos (l : List (List UInt8)) : (0 < ((pcs l).length : Int)) ↔ l ≠ [] := by
  unfold pcs; rw [List.length_map]
  cases l with
  | nil => simp
  | cons a l => simp
theorem clone_eq {N : Nat} {l : List UInt8} (h : l.length <= 1000000) : s_clone N l = some l := by
  unfold s_clone; rw [br_dec, if_pos h]
theorem b8_eq {n : Int} (h0 : 0 <= n) (h : n <= 255) : UInt8.ofNat (IntKind.u8.wrap n).toNat = b8 n := by
  unfold b8; rw [wu8]; congr 2; omega
theorem w1 {n : Int} (h : n = 0 ∨ n = 1) : IntKind.i64.wrap (1 - n) = 1 - n := w64 (by omega) (by omega)
section
variable (N : Nat)
theorem split_loop {R : Type} (n : Nat) (hn : 1 <= n) (hn2 : n <= 254) (K0 : List V -> Option R) : ∀ (t : Nat) (b : List UInt8) (acc : List V) (u : Nat), b.length < t -> b.length <= u + n -> acc.length + b.length <= 1000000 ->
    S_oSplit_5 N (n : Int) t acc b K0 = K0 (acc ++ pcs (if b = [] then [] else cutF n u b))
  | 0, b, acc, u, h, _, _ => by omega
  | t + 1, b, acc, u, ht, hu, ha => by
    have e : S_oSplit_5 N (n : Int) (t + 1) acc b K0 = br (decide (0 < (b.length : Int))) (br (decide (0 <= min (n : Int) b.length) && decide (min (n : Int) b.length <= b.length)) (bnd1 (s_clone N (List.take (min (n : Int) b.length).toNat b)) fun l0 => br (decide ((acc.length + [V.bytes l0].length) * 24 <= 140737488355328)) (br (decide (0 <= min (n : Int) b.length) && decide (min (n : Int) b.length <= b.length)) (S_oSplit_5 N (n : Int) t (acc ++ [V.bytes l0]) (List.drop (min (n : Int) b.length).toNat b) K0) none) none) none) (K0 acc) := rfl
    rw [e, br_dec]
    by_cases hb : b = []
    . subst hb
      rw [if_neg (by simp), if_pos rfl]; simp [pcs]
    have hl : 0 < b.length := List.length_pos_iff.2 hb
    have hm : (min (n : Int) b.length).toNat = min n b.length := by omega
    rw [if_pos (by omega), if_neg hb, br_and, br_dec, if_pos (by omega), br_dec, if_pos (by omega), hm, clone_eq (by rw [List.length_take]; omega), bnd1_mk, br_dec, if_pos (by simp; omega), br_and, br_dec, if_pos (by omega), br_dec, if_pos (by omega)]
    by_cases hc : b.length <= n
    . rw [show min n b.length = b.length by omega, List.take_length, List.drop_length]
      rw [split_loop n hn hn2 K0 t [] _ 0 (by simp; omega) (by simp) (by simp; omega), if_pos rfl]
      cases u with
      | zero => simp [cutF, pcs]
      | succ u => unfold cutF; rw [if_pos hc]; simp [pcs]
    . obtain ⟨u, rfl⟩ : ∃ v, u = v + 1 := ⟨u - 1, by omega⟩
      rw [show min n b.length = n by omega, split_loop n hn hn2 K0 t (b.drop n) _ u (by rw [List.length_drop]; omega) (by rw [List.length_drop]; omega) (by rw [List.length_drop]; simp; omega)]
      rw [if_neg (by intro h; have := congrArg List.length h; rw [List.length_drop] at this; simp at this; omega)]
      conv => rhs; unfold cutF; rw [if_neg hc]
      simp [pcs]
theorem oSplit_eq {n : Int} (hn : 1 <= n /\ n <= 254) (b : List UInt8) (h1 : b.length < N) (h2 : b.length <= 1000000) : s_oSplit N b n = some (pcs (if b = [] then [] else cut n.toNat b), 0) := by
  unfold s_oSplit
  rw [br_dec, if_neg (by omega)]
  have := split_loop N n.toNat (by omega) (by omega) (fun l0 => some (l0, (0 : Int))) N b [] b.length h1 (by omega) (by simp; omega)
  rw [show ((n.toNat : Nat) : Int) = n by omega] at this
  rw [this]; rfl
def onC {α : Type} (c : Cd) (f : Int -> Int -> Int -> Int -> Int -> List UInt8 -> Int -> List V -> List UInt8 -> Int -> List UInt8 -> α) : α :=
  f c.s.sum c.s.own c.s.other c.s.expect c.s.next (sentB c.s) c.s.sent.seq (pcs c.s.pieces) c.s.inn c.state (askB c)
section
variable (x0 x1 x2 : Int) (x3 : Bool) (x4 : Int) (x5 : Bool) (x6 : List UInt8) (y0 y1 y2 y3 y4 : Int) (y5 : List UInt8) (y6 : Int) (y7 : List V) (y8 : List UInt8) (y9 : Int) (y10 : List UInt8)
theorem cEnc_eq : s_cEnc N x0 x1 x2 x3 x4 x5 x6 y0 y1 y2 y3 y4 y5 y6 y7 y8 y9 y10 = some (encL y0 x0 x1 x2 x3 x4 x5 x6) := rfl
theorem cReady_eq : s_cReady N x0 y0 y1 y2 y3 y4 y5 y6 y7 y8 y9 y10 = some (encL y0 0 1 y3 false x0 false []) := rfl
theorem cSpecial_eq : s_cSpecial N x0 x3 x6 y0 y1 y2 y3 y4 y5 y6 y7 y8 y9 y10 = some (encL y0 0 2 0 false x0 x3 x6) := rfl
theorem cMade_eq : s_cMade N y0 y1 y2 y3 y4 y5 y6 y7 y8 y9 y10 = some (decide (0 < y1)) := rfl
theorem cPiece_eq (p : List UInt8) (r : List (List UInt8)) (h : (encL y0 0 0 y4 (!r.isEmpty) 0 false p).length <= 1000000) :
    s_cPiece N y0 y1 y2 y3 y4 y5 y6 (pcs (p :: r)) y8 y9 y10 = some (encL y0 0 0 y4 (!r.isEmpty) 0 false p, IntKind.i64.wrap (1 - y4), encL y0 0 0 y4 (!r.isEmpty) 0 false p, y4, pcs r) := by
  have e : decide (0 < ((List.drop 1 (pcs (p :: r))).length : Int)) = !r.isEmpty := by cases r <;> simp [pcs] <;> omega
  unfold s_cPiece C_cPiece
  rw [e, br_dec, if_pos ((pcs_pos _).2 (by simp)), show pcs (p :: r) = V.bytes p :: pcs r from rfl, at_zero, unBytes_mk, br_dec, if_pos (by simp; omega), cEnc_eq, bnd1_mk, clone_eq h, bnd1_mk]
  rfl
end
theorem enc_small {k : Int} (hk : k = 0 ∨ k = 1) {b : Bl} (h : b.chk = 0) : (encL k b.nad b.kind b.seq b.more b.code b.ans b.inf).length <= 1000000 := by
  have := (enc_pos hk h).2
  unfold Bl.enc at this; omega
theorem piece_same (s : Co) : (pieceF s).1.other = s.other /\ (pieceF s).1.expect = s.expect /\ (pieceF s).1.inn = s.inn /\ (pieceF s).1.sum = s.sum /\ (pieceF s).1.own = s.own := by
  unfold pieceF; split <;> exact ⟨rfl, rfl, rfl, rfl, rfl⟩
theorem piece_cells {s : Co} (h : CoOK s) (hp : s.pieces ≠ []) (y5 : List UInt8) (y6 y9 : Int) (y10 : List UInt8) :
    s_cPiece N s.sum s.own s.other s.expect s.next y5 y6 (pcs s.pieces) s.inn y9 y10 = some ((pieceF s).2.enc s.sum, (pieceF s).1.next, sentB (pieceF s).1, (pieceF s).1.sent.seq, pcs (pieceF s).1.pieces) := by
  obtain ⟨sum, own, other, expect, next, has, sent, pieces, inn⟩ := s
  cases pieces with
  | nil => exact absurd rfl hp
  | cons p r =>
    have hb := bI_ok h (h.piece p (by simp)) r
    show s_cPiece N sum own other expect next y5 y6 (pcs (p :: r)) inn y9 y10 = _
    have hw : IntKind.i64.wrap (1 - next) = 1 - next := w1 h.next
    rw [cPiece_eq N sum own other expect next y5 y6 inn y9 y10 p r (enc_small h.sum hb), hw]
    rfl
theorem send_cells {s : Co} (h : CoOK s) (b : List UInt8) (h1 : b.length < N) (h2 : b.length <= 1000000) (y5 : List UInt8) (y6 y9 : Int) (y7 : List V) (y10 : List UInt8) :
    s_cSend N b s.sum s.own s.other s.expect s.next y5 y6 y7 s.inn y9 y10 = some ((sendF s b).2.enc s.sum, (sendF s b).1.next, sentB (sendF s b).1, (sendF s b).1.sent.seq, pcs (sendF s b).1.pieces) := by
  obtain ⟨a1, a2⟩ := cut_ok h.other b
  have hs : CoOK { s with pieces := cut s.other.toNat b } := ⟨h.sum, h.own, h.other, h.expect, h.next, h.sent, h.sseq, a1, h.inn⟩
  have hpc := piece_cells N hs a2 y5 y6 y9 y10
  unfold s_cSend C_cSend
  rw [oSplit_eq N h.other b h1 h2, bnd2_mk, br_dec]
  by_cases hb : b = []
  . subst hb
    rw [if_pos rfl]
    have e : cut s.other.toNat [] = [[]] := rfl
    simp only [e] at hpc
    rw [show [V.bytes []] = pcs [[]] from rfl, hpc]
    simp only [sendF, e]; rfl
  . rw [if_neg (by simpa using hb), if_neg hb, hpc]
    rfl
theorem cInfo_eq {c : Cd} (h : CdOK c) {x : Bl} (hx : x.inf.length <= 254) :
    onC c (s_cInfo N x.nad x.kind x.seq x.more x.code x.ans x.inf) = some (outB c.s.sum (cInfoF c x).2, (cInfoF c x).1.s.expect, (cInfoF c x).1.s.inn, (cInfoF c x).1.state) := by
  have hw := w1 h.s.expect
  have hi := h.inn
  obtain ⟨⟨sum, own, other, expect, next, has, sent, pieces, inn⟩, state, time⟩ := c
  simp only at hw hi
  have hl1 : (0 + x.inf.length) * 1 <= 140737488355328 := by omega
  have hl2 : (inn.length + x.inf.length) * 1 <= 140737488355328 := by omega
  have hp : (0 < ((pcs pieces).length : Int)) ↔ pieces ≠ [] := pcs_pos _
  unfold onC s_cInfo C_cInfo cInfoF cIn
  simp only [cReady_eq, bnd1_mk, br_dec, br_not, hw, hp, hl1, hl2, if_true]
  by_cases e1 : x.seq = expect
  . by_cases e2 : state = 4
    . have e4 : ¬ state = 1 := by omega
      by_cases e3 : pieces = []
      . by_cases e5 : 65552 < x.inf.length
        . omega
        . have e5' : ¬ (65552 < (x.inf.length : Int)) := by omega
          cases hm : x.more <;> simp [e1, e2, e3, e5, e5', outB, Bl.enc, bR, br]
      . simp [e1, e2, e3, outB, Bl.enc, bR]
    . by_cases e4 : state = 1
      . by_cases e5 : 65552 < inn.length + x.inf.length
        . have e5' : (65552 < (inn.length : Int) + (x.inf.length : Int)) := by omega
          simp [e1, e4, e5, e5', outB, Bl.enc, bR]
        . have e5' : ¬ (65552 < (inn.length : Int) + (x.inf.length : Int)) := by omega
          cases hm : x.more <;> simp [e1, e4, e5, e5', outB, Bl.enc, bR, br]
      . have e5 : ¬ 65552 < x.inf.length := by omega
        have e5' : ¬ (65552 < (x.inf.length : Int)) := by omega
        cases hm : x.more <;> simp [e1, e2, e4, e5, e5', outB, Bl.enc, bR, br]
  . simp [e1, outB, Bl.enc, bR]
theorem cAgain_eq {c : Cd} (h : CdOK c) (x : Bl) :
    onC c (s_cAgain N x.nad x.kind x.seq x.more x.code x.ans x.inf) = some (outB c.s.sum (cAgainF c x).2, (cAgainF c x).1.s.next, sentB (cAgainF c x).1.s, (cAgainF c x).1.s.sent.seq, pcs (cAgainF c x).1.s.pieces) := by
  have hp : (0 < ((pcs c.s.pieces).length : Int)) ↔ c.s.pieces ≠ [] := pcs_pos _
  unfold onC s_cAgain C_cAgain cAgainF
  simp only [cReady_eq, bnd1_mk, br_dec, br_not, hp]
  by_cases e2 : c.state = 4
  . have hh := h.has e2
    have hse : sentB c.s = c.s.sent.enc c.s.sum := by unfold sentB; rw [if_pos hh]
    have hcl : s_clone N (sentB c.s) = some (c.s.sent.enc c.s.sum) := by rw [hse]; exact clone_eq (enc_small h.s.sum h.s.sent)
    by_cases e1 : x.seq = c.s.sent.seq
    . rw [if_pos e2, if_pos e1, if_pos ⟨e2, e1⟩, hcl, bnd1_mk]; rfl
    . have n1 : ¬ (c.state = 4 /\ x.seq = c.s.sent.seq) := fun hh => e1 hh.2
      rw [if_pos e2, if_neg e1, if_pos e2]
      simp only [if_neg n1]
      by_cases e3 : c.s.pieces = []
      . have n2 : ¬ (c.state = 4 /\ c.s.pieces ≠ []) := fun hh => hh.2 e3
        simp only [if_neg n2]
        rw [if_neg (by simpa using e3)]; rfl
      . rw [if_pos e3, piece_cells N h.s e3, bnd5_mk]
        simp only [if_pos (show c.state = 4 /\ c.s.pieces ≠ [] from ⟨e2, e3⟩)]; rfl
  . have n1 : ¬ (c.state = 4 /\ x.seq = c.s.sent.seq) := fun hh => e2 hh.1
    have n2 : ¬ (c.state = 4 /\ c.s.pieces ≠ []) := fun hh => e2 hh.1
    rw [if_neg e2, if_neg e2]
    simp only [if_neg n1, if_neg n2]; rfl
theorem tsize_eq {x : Bl} (h : x.chk = 0) (h0 : x.kind ≠ 0) (h1 : x.kind ≠ 1) (hc : x.code = 1) : s_tsize N x.nad x.kind x.seq x.more x.code x.ans x.inf = some (inf0 x) /\ 0 < inf0 x := by
  obtain ⟨e1, e2, e3, e4, e5, e6⟩ := super_facts h h0 h1
  obtain ⟨f0, f1, f2, f3⟩ := e6 (.inl hc)
  have f3 := f3 hc
  obtain ⟨nad, kind, seq, more, code, ans, inf⟩ := x
  match inf, f0 with
  | [u], _ =>
    have e : inf0 ⟨nad, kind, seq, more, code, ans, [u]⟩ = u.toNat := rfl
    rw [e] at f1 f2 f3 ⊢
    refine ⟨?_, by omega⟩
    unfold s_tsize
    simp only [br_dec, br_not, at_zero, w64_u8]
    rw [if_pos (by simp), if_pos (by simp), if_neg (by omega), if_pos (by simp)]
theorem cSuper_eq {c : Cd} (h : CdOK c) {x : Bl} (hx : x.chk = 0) (h0 : x.kind ≠ 0) (h1 : x.kind ≠ 1) :
    onC c (s_cSuper N x.nad x.kind x.seq x.more x.code x.ans x.inf) = some (outB c.s.sum (cSuperF c x).2, (cSuperF c x).1.s.other, (cSuperF c x).1.s.expect, (cSuperF c x).1.s.next, sentB (cSuperF c x).1.s, pcs (cSuperF c x).1.s.pieces, (cSuperF c x).1.s.inn, (cSuperF c x).1.state) := by
  obtain ⟨e1, e2, e3, e4, e5, e6⟩ := super_facts hx h0 h1
  unfold onC s_cSuper C_cSuper cSuperF
  simp only [cReady_eq, cSpecial_eq, bnd1_mk, br_dec, br_not]
  by_cases ha : x.ans = true
  . have n1 : x.ans = true ∨ x.code = 3 := .inl ha
    rw [ha, br_t]
    simp only [true_or, if_true]; rfl
  have ha' : x.ans = false := by simpa using ha
  rw [ha', br_f]
  simp only [Bool.false_eq_true, false_or]
  rcases e4 with c0 | c1 | c2 | c3
  . simp only [c0, show ¬ ((0 : Int) = 3) by decide, show ¬ ((0 : Int) = 1) by decide, if_true, if_false]; rfl
  . obtain ⟨g1, g2⟩ := tsize_eq N hx h0 h1 c1
    rw [ha', c1] at g1
    simp only [c1, show ¬ ((1 : Int) = 3) by decide, show ¬ ((1 : Int) = 0) by decide, if_true, if_false, g1, bnd1_mk, g2]; rfl
  . simp only [c2, show ¬ ((2 : Int) = 3) by decide, show ¬ ((2 : Int) = 1) by decide, show ¬ ((2 : Int) = 0) by decide, if_true, if_false]; rfl
  . simp only [c3, show ¬ ((3 : Int) = 2) by decide, show ¬ ((3 : Int) = 1) by decide, show ¬ ((3 : Int) = 0) by decide, if_true, if_false]; rfl
theorem bDecode_eq {k : Int} {xs : List UInt8} (h : xs.length <= 900000) : s_bDecode N xs k = some (dNad k xs, dKind k xs, dSeq k xs, dMore k xs, dCode k xs, dAns k xs, dInf k xs, decE k xs) := by
  unfold s_bDecode; rw [br_dec, if_pos h]
theorem cDecode_eq {s : Co} (xs : List UInt8) (h : xs.length <= 900000) (y2 y3 y4 : Int) (y5 : List UInt8) (y6 : Int) (y7 : List V) (y8 : List UInt8) (y9 : Int) (y10 : List UInt8) :
    s_cDecode N xs s.sum s.own y2 y3 y4 y5 y6 y7 y8 y9 y10 = some ((rx s xs).1.nad, (rx s xs).1.kind, (rx s xs).1.seq, (rx s xs).1.more, (rx s xs).1.code, (rx s xs).1.ans, (rx s xs).1.inf, (rx s xs).2) := by
  unfold s_cDecode C_cDecode rx decBl
  rw [bDecode_eq N h, bnd8_mk]
  simp only [br_dec, br_not]
  by_cases h6 : decE s.sum xs = 6
  . simp only [h6, if_true]
  . simp only [h6, if_false]
    by_cases hz : decE s.sum xs = 0
    . simp only [hz, ne_eq, not_true_eq_false, false_or, if_true]
      by_cases hn : dNad s.sum xs = 0
      . by_cases hk : dKind s.sum xs = 0
        . by_cases hl : s.own < ((dInf s.sum xs).length : Int) <;> simp [hn, hk, hl]
        . simp [hn, hk]
      . simp [hn]
    . simp [hz]
theorem same_ask {x : Bl} (hx : x.chk = 0) (hn : x.nad = 0) {t code : Int} (hc : code = 1 ∨ code = 3) (h1 : 1 <= t) (h2 : t <= 255) :
    sameBl x.nad x.kind x.seq x.more x.code x.ans x.inf 0 2 0 false code true [b8 t] = decide (x.kind = 2 /\ x.code = code /\ x.ans = true /\ inf0 x = t) := by
  unfold sameBl
  refine decide_eq_decide.2 ⟨?_, ?_⟩
  . rintro ⟨_, a1, a2, a3, a4, a5, a6⟩
    refine ⟨a1, a4, a5, ?_⟩
    unfold inf0; rw [a6]; exact b8_toNat (by omega) h2
  . rintro ⟨a1, a2, a3, a4⟩
    obtain ⟨e1, e2, e3, e4, e5, e6⟩ := super_facts hx (by omega) (by omega)
    obtain ⟨f0, f1, f2, f3⟩ := e6 (by omega)
    refine ⟨hn, a1, e2, e3, a2, a3, ?_⟩
    obtain ⟨nad, kind, seq, more, code', ans, inf⟩ := x
    match inf, f0 with
    | [u], _ =>
      have e : (u.toNat : Int) = t := a4
      show [u] = [b8 t]
      congr 1
      have := b8_toNat (n := t) (by omega) h2
      exact UInt8.toNat_inj.1 (by omega)
theorem cReceive_eq {c : Cd} (h : CdOK c) (b : List UInt8) (hb : b.length <= 900000) :
    onC c (s_cReceive N b) = some (outB c.s.sum (cRecvF c (rx c.s b).1 (rx c.s b).2).2, (cRecvF c (rx c.s b).1 (rx c.s b).2).1.s.other, (cRecvF c (rx c.s b).1 (rx c.s b).2).1.s.expect, (cRecvF c (rx c.s b).1 (rx c.s b).2).1.s.next, sentB (cRecvF c (rx c.s b).1 (rx c.s b).2).1.s, (cRecvF c (rx c.s b).1 (rx c.s b).2).1.s.sent.seq,
      pcs (cRecvF c (rx c.s b).1 (rx c.s b).2).1.s.pieces, (cRecvF c (rx c.s b).1 (rx c.s b).2).1.s.inn, (cRecvF c (rx c.s b).1 (rx c.s b).2).1.state) := by
  obtain ⟨hr, hx⟩ := rx_range c.s b
  have ho := h.s.own
  unfold onC s_cReceive C_cReceive
  rw [cMade_eq, bnd1_mk, br_not, br_dec, if_pos (by omega), cDecode_eq N b hb, bnd8_mk]
  generalize (rx c.s b).1 = x at hx ⊢
  generalize (rx c.s b).2 = r at hr hx ⊢
  simp only [br_dec, br_not, cReady_eq, cSpecial_eq, bnd1_mk]
  unfold cRecvF
  by_cases s2 : c.state = 2
  . simp only [if_pos s2]; rfl
  simp only [if_neg s2]
  by_cases s3 : c.state = 3
  . simp only [if_pos s3]
    have ht := h.asks s3
    have ha : askB c = [b8 c.time] := by unfold askB; rw [if_neg (by omega)]
    by_cases r0 : r = 0
    . obtain ⟨x1, x2, x3⟩ := hx r0
      rw [if_pos r0, ha]
      show bnd1 (some (sameBl x.nad x.kind x.seq x.more x.code x.ans x.inf 0 2 0 false 3 true [b8 c.time])) _ = _
      rw [same_ask x1 x2 (.inr rfl) ht h.time.2, bnd1_mk, br_dec]
      by_cases hq : x.kind = 2 /\ x.code = 3 /\ x.ans = true /\ inf0 x = c.time
      . simp only [if_pos hq, r0, true_and]; rfl
      . simp only [if_neg hq, r0, true_and, s3]; rfl
    . have n : ¬ (r = 0 /\ x.kind = 2 /\ x.code = 3 /\ x.ans = true /\ inf0 x = c.time) := fun hh => r0 hh.1
      simp only [if_neg r0, if_neg n, ha, s3]; rfl
  simp only [if_neg s3]
  by_cases r0 : r = 0
  . obtain ⟨x1, x2, x3⟩ := hx r0
    simp only [r0, ne_eq, not_true_eq_false, if_true, if_false]
    by_cases k0 : x.kind = 0
    . have hi := cInfo_eq N h (kind_ok x1).2.2
      unfold onC at hi
      simp only [if_pos k0]
      rw [hi, bnd4_mk]
      unfold cInfoF
      repeat' split
      all_goals rfl
    . simp only [if_neg k0]
      by_cases k1 : x.kind = 1
      . have hi := cAgain_eq N h x
        unfold onC at hi
        simp only [if_pos k1]
        rw [hi, bnd5_mk]
        unfold cAgainF
        by_cases q1 : c.state = 4 /\ x.seq = c.s.sent.seq
        . simp only [if_pos q1]
        . simp only [if_neg q1]
          by_cases q2 : c.state = 4 /\ c.s.pieces ≠ []
          . simp only [if_pos q2, piece_same c.s]
          . simp only [if_neg q2]
      . have hi := cSuper_eq N h x1 k0 k1
        unfold onC at hi
        simp only [if_neg k1]
        rw [hi, bnd8_mk]
        unfold cSuperF
        repeat' split
        all_goals rfl
  . simp only [ne_eq, r0, not_false_eq_true, if_true, if_false]; rfl
end
end Go.Proofs.Ytilfphdeacogmaa.En

/- Chapter 08: the program's terminal does what the model does; the card's other calls. -/
namespace Go.Proofs.Ytilfphdeacogmaa.En
open Go
set_option linter.unusedVariables false
def offB (t : Tm) : List UInt8 := if t.offered = 0 then [] else [b8 t.offered]
def onT {α : Type} (t : Tm) (f : Int -> Int -> Int -> Int -> Int -> List UInt8 -> Int -> List V -> List UInt8 -> Int -> Int -> List UInt8 -> Bool -> Int -> α) : α :=
  f t.s.sum t.s.own t.s.other t.s.expect t.s.next (sentB t.s) t.s.sent.seq (pcs t.s.pieces) t.s.inn t.state t.fails (offB t) t.done t.cause
section
variable (N : Nat)
theorem cCommand_eq {c : Cd} (h : CdOK c) : onC c (s_cCommand N) = some (cCmdF c) := by
  have ho := h.s.own
  unfold onC s_cCommand C_cCommand cCmdF
  rw [cMade_eq, bnd1_mk, br_not, br_dec, if_pos (by omega), clone_eq (by have := h.inn; omega)]
  simp only [br_not, br_dec, bnd1_mk]
  by_cases s2 : c.state = 2
  . simp [s2]
  . by_cases s3 : c.state = 3 <;> simp [s2, s3]
theorem cReply_eq {c : Cd} (h : CdOK c) (b : List UInt8) (h1 : b.length < N) (h2 : b.length <= 1000000) :
    onC c (s_cReply N b) = some (outB c.s.sum (cReplyF c b).2, (cReplyF c b).1.s.next, sentB (cReplyF c b).1.s, (cReplyF c b).1.s.sent.seq, pcs (cReplyF c b).1.s.pieces, (cReplyF c b).1.state) := by
  have ho := h.s.own
  unfold onC s_cReply C_cReply cReplyF
  rw [cMade_eq, bnd1_mk, br_not, br_dec, if_pos (by omega), br_not, br_dec]
  by_cases s2 : c.state = 2
  . rw [if_pos s2, send_cells N h.s b h1 h2, bnd5_mk]
    simp only [s2, ne_eq, not_true_eq_false, if_false]; rfl
  . rw [if_neg s2]
    simp only [s2, ne_eq, not_false_eq_true, if_true]; rfl
theorem cExtend_eq {c : Cd} (h : CdOK c) (n : Int) :
    onC c (s_cExtend N n) = some (outB c.s.sum (cExtendF c n).2, (cExtendF c n).1.state, askB (cExtendF c n).1) := by
  have ho := h.s.own
  unfold onC s_cExtend C_cExtend cExtendF
  rw [cMade_eq, bnd1_mk, br_not, br_dec, if_pos (by omega), br_not, br_dec]
  by_cases s2 : c.state = 2
  . rw [if_pos s2]
    simp only [br_dec, s2, ne_eq, not_true_eq_false, false_or]
    by_cases h1 : n < 1
    . simp only [h1, true_or, if_true, s2]; rfl
    . by_cases h2 : 255 < n
      . simp only [h1, h2, or_true, if_true, if_false, s2]; rfl
      . simp only [h1, h2, or_self, if_false, cSpecial_eq, bnd1_mk]
        rw [b8_eq (by omega) (by omega)]
        have : askB ⟨c.s, 3, n⟩ = [b8 n] := by unfold askB; rw [if_neg (by simp only; omega)]
        rw [this]; rfl
  . rw [if_neg s2]
    simp only [s2, ne_eq, not_false_eq_true, true_or, if_true]; rfl
section
variable (x0 x1 x2 : Int) (x3 : Bool) (x4 : Int) (x5 : Bool) (x6 : List UInt8) (y0 y1 y2 y3 y4 : Int) (y5 : List UInt8) (y6 : Int) (y7 : List V) (y8 : List UInt8) (y9 y10 : Int) (y11 : List UInt8) (y12 : Bool) (y13 : Int)
theorem tEnc_eq : s_tEnc N x0 x1 x2 x3 x4 x5 x6 y0 y1 y2 y3 y4 y5 y6 y7 y8 y9 y10 y11 y12 y13 = some (encL y0 x0 x1 x2 x3 x4 x5 x6) := rfl
theorem tReady_eq : s_tReady N x0 y0 y1 y2 y3 y4 y5 y6 y7 y8 y9 y10 y11 y12 y13 = some (encL y0 0 1 y3 false x0 false []) := rfl
theorem tSpecial_eq : s_tSpecial N x0 x3 x6 y0 y1 y2 y3 y4 y5 y6 y7 y8 y9 y10 y11 y12 y13 = some (encL y0 0 2 0 false x0 x3 x6) := rfl
theorem tMade_eq : s_tMade N y0 y1 y2 y3 y4 y5 y6 y7 y8 y9 y10 y11 y12 y13 = some (decide (0 < y1)) := rfl
theorem tFail_eq : s_tFail N x0 y0 y1 y2 y3 y4 y5 y6 y7 y8 y9 y10 y11 y12 y13 = some ([], 3, x0) := rfl
theorem tFailure_eq (hf : 0 <= y10 /\ y10 <= 11) : s_tFailure N x0 x6 y0 y1 y2 y3 y4 y5 y6 y7 y8 y9 y10 y11 y12 y13 = if 10 < y10 + 1 then some ([], 3, y10 + 1, x0) else some (x6, y9, y10 + 1, y13) := by
  unfold s_tFailure C_tFailure
  rw [w64 (by omega) (by omega), br_dec, tFail_eq]; rfl
theorem tPiece_eq (p : List UInt8) (r : List (List UInt8)) (h : (encL y0 0 0 y4 (!r.isEmpty) 0 false p).length <= 1000000) :
    s_tPiece N y0 y1 y2 y3 y4 y5 y6 (pcs (p :: r)) y8 y9 y10 y11 y12 y13 = some (encL y0 0 0 y4 (!r.isEmpty) 0 false p, IntKind.i64.wrap (1 - y4), encL y0 0 0 y4 (!r.isEmpty) 0 false p, y4, pcs r) := by
  have e : decide (0 < ((List.drop 1 (pcs (p :: r))).length : Int)) = !r.isEmpty := by cases r <;> simp [pcs] <;> omega
  unfold s_tPiece C_tPiece
  rw [e, br_dec, if_pos ((pcs_pos _).2 (by simp)), show pcs (p :: r) = V.bytes p :: pcs r from rfl, at_zero, unBytes_mk, br_dec, if_pos (by simp; omega), tEnc_eq, bnd1_mk, clone_eq h, bnd1_mk]
  rfl
end
theorem tpiece_cells {s : Co} (h : CoOK s) (hp : s.pieces ≠ []) (y5 : List UInt8) (y6 y9 y10 : Int) (y11 : List UInt8) (y12 : Bool) (y13 : Int) :
    s_tPiece N s.sum s.own s.other s.expect s.next y5 y6 (pcs s.pieces) s.inn y9 y10 y11 y12 y13 = some ((pieceF s).2.enc s.sum, (pieceF s).1.next, sentB (pieceF s).1, (pieceF s).1.sent.seq, pcs (pieceF s).1.pieces) := by
  obtain ⟨sum, own, other, expect, next, has, sent, pieces, inn⟩ := s
  cases pieces with
  | nil => exact absurd rfl hp
  | cons p r =>
    have hb := bI_ok h (h.piece p (by simp)) r
    show s_tPiece N sum own other expect next y5 y6 (pcs (p :: r)) inn y9 y10 y11 y12 y13 = _
    have hw : IntKind.i64.wrap (1 - next) = 1 - next := w1 h.next
    rw [tPiece_eq N sum own other expect next y5 y6 inn y9 y10 y11 y12 y13 p r (enc_small h.sum hb), hw]
    rfl
theorem tsend_cells {s : Co} (h : CoOK s) (b : List UInt8) (h1 : b.length < N) (h2 : b.length <= 1000000) (y5 : List UInt8) (y6 y9 : Int) (y7 : List V) (y10 : Int) (y11 : List UInt8) (y12 : Bool) (y13 : Int) :
    s_tSendC N b s.sum s.own s.other s.expect s.next y5 y6 y7 s.inn y9 y10 y11 y12 y13 = some ((sendF s b).2.enc s.sum, (sendF s b).1.next, sentB (sendF s b).1, (sendF s b).1.sent.seq, pcs (sendF s b).1.pieces) := by
  obtain ⟨a1, a2⟩ := cut_ok h.other b
  have hs : CoOK { s with pieces := cut s.other.toNat b } := ⟨h.sum, h.own, h.other, h.expect, h.next, h.sent, h.sseq, a1, h.inn⟩
  have hpc := tpiece_cells N hs a2 y5 y6 y9 y10 y11 y12 y13
  unfold s_tSendC C_tSendC
  rw [oSplit_eq N h.other b h1 h2, bnd2_mk, br_dec]
  by_cases hb : b = []
  . subst hb
    rw [if_pos rfl]
    have e : cut s.other.toNat [] = [[]] := rfl
    simp only [e] at hpc
    rw [show [V.bytes []] = pcs [[]] from rfl, hpc]
    simp only [sendF, e]; rfl
  . rw [if_neg (by simpa using hb), if_neg hb, hpc]
    rfl
theorem fail_same (t : Tm) (e : Int) (b : Bl) : (tFailureF t e b).1.s = t.s /\ (tFailureF t e b).1.done = t.done /\ (tFailureF t e b).1.offered = t.offered /\ (tFailureF t e b).1.fails = t.fails + 1 := by
  unfold tFailureF; split <;> exact ⟨rfl, rfl, rfl, rfl⟩
theorem failure_cells {t : Tm} (h : TmOK t) (e : Int) (b : Bl) : onT t (s_tFailure N e (b.enc t.s.sum)) = some (outB t.s.sum (tFailureF t e b).2, (tFailureF t e b).1.state, (tFailureF t e b).1.fails, (tFailureF t e b).1.cause) := by
  unfold onT
  rw [tFailure_eq N _ _ _ _ _ _ _ _ _ _ _ _ _ _ _ _ h.fails]
  unfold tFailureF
  split <;> rfl
theorem tInfo_eq {t : Tm} (h : TmOK t) (h3 : t.state ≠ 3) {x : Bl} (hx : x.inf.length <= 254) :
    onT t (s_tInfo N x.nad x.kind x.seq x.more x.code x.ans x.inf) = some (outB t.s.sum (tInfoF t x).2, (tInfoF t x).1.s.expect, (tInfoF t x).1.s.inn, (tInfoF t x).1.state, (tInfoF t x).1.fails, (tInfoF t x).1.done, (tInfoF t x).1.cause) := by
  have hw := w1 h.s.expect
  have hi := h.inn h3
  have hf := failure_cells N h 28 (bR t.s 2)
  obtain ⟨q1, q2, q3, q4⟩ := fail_same t 28 (bR t.s 2)
  have hl2 : (t.s.inn.length + x.inf.length) * 1 <= 140737488355328 := by omega
  have hp : (0 < ((pcs t.s.pieces).length : Int)) ↔ t.s.pieces ≠ [] := pcs_pos _
  have hr : encL t.s.sum 0 1 t.s.expect false 2 false [] = (bR t.s 2).enc t.s.sum := rfl
  unfold onT at hf ⊢
  unfold s_tInfo C_tInfo tInfoF
  simp only [tReady_eq, tFail_eq, bnd1_mk, bnd3_mk, br_dec, br_not, hw, hp, hl2, if_true, hr, hf, bnd4_mk]
  by_cases e1 : x.seq = t.s.expect
  . by_cases e3 : t.s.pieces = []
    . have n1 : ¬ (x.seq ≠ t.s.expect ∨ t.s.pieces ≠ []) := by rintro (hh | hh) <;> contradiction
      simp only [if_neg n1]
      rw [if_pos e1, if_neg (not_not_intro e3)]
      by_cases e5 : 65538 < (t.s.inn ++ x.inf).length
      . have e5' : (65538 < (((t.s.inn ++ x.inf).length : Nat) : Int)) := by omega
        simp only [if_pos e5, if_pos e5']; rfl
      . have e5' : ¬ (65538 < (((t.s.inn ++ x.inf).length : Nat) : Int)) := by omega
        simp only [if_neg e5, if_neg e5']
        cases hm : x.more <;> simp only [br_t, br_f, if_true, Bool.false_eq_true, if_false] <;> rfl
    . have n1 : (x.seq ≠ t.s.expect ∨ t.s.pieces ≠ []) := .inr e3
      simp only [if_pos n1, q1, q2]
      rw [if_pos e1, if_pos e3]
  . have n1 : (x.seq ≠ t.s.expect ∨ t.s.pieces ≠ []) := .inl e1
    simp only [if_pos n1, if_neg e1, q1, q2]
theorem tAgain_eq {t : Tm} (h : TmOK t) (h2 : t.state = 2) (x : Bl) :
    onT t (s_tAgain N x.nad x.kind x.seq x.more x.code x.ans x.inf) = some (outB t.s.sum (tAgainF t x).2, (tAgainF t x).1.s.next, sentB (tAgainF t x).1.s, (tAgainF t x).1.s.sent.seq, pcs (tAgainF t x).1.s.pieces, (tAgainF t x).1.state, (tAgainF t x).1.fails, (tAgainF t x).1.cause) := by
  have hp : (0 < ((pcs t.s.pieces).length : Int)) ↔ t.s.pieces ≠ [] := pcs_pos _
  have hse : sentB t.s = t.s.sent.enc t.s.sum := by unfold sentB; rw [if_pos (h.has h2)]
  have hcl : s_clone N (sentB t.s) = some (t.s.sent.enc t.s.sum) := by rw [hse]; exact clone_eq (enc_small h.s.sum h.s.sent)
  have hr : encL t.s.sum 0 1 t.s.expect false 0 false [] = (bR t.s 0).enc t.s.sum := rfl
  have hf := failure_cells N h 28 (bR t.s 0)
  have hf2 := failure_cells N h 28 t.s.sent
  obtain ⟨q1, q2, q3, q4⟩ := fail_same t 28 (bR t.s 0)
  obtain ⟨p1, p2, p3, p4⟩ := fail_same t 28 t.s.sent
  unfold onT at hf hf2 ⊢
  unfold s_tAgain C_tAgain tAgainF
  simp only [tReady_eq, bnd1_mk, br_dec, br_not, hp, hcl, hr, hf, hf2, bnd4_mk]
  by_cases e1 : x.seq = t.s.sent.seq
  . simp only [if_pos e1, p1]
  . simp only [if_neg e1]
    by_cases e3 : t.s.pieces = []
    . simp only [e3, ne_eq, not_true_eq_false, if_false, q1]
    . rw [tpiece_cells N h.s e3]
      simp only [e3, ne_eq, not_false_eq_true, if_true, bnd5_mk]; rfl
theorem tSuper_eq {t : Tm} (h : TmOK t) {x : Bl} (hx : x.chk = 0) (h0 : x.kind ≠ 0) (h1 : x.kind ≠ 1) :
    onT t (s_tSuper N x.nad x.kind x.seq x.more x.code x.ans x.inf) = some (outB t.s.sum (tSuperF t x).2, (tSuperF t x).1.s.other, (tSuperF t x).1.state, (tSuperF t x).1.fails, (tSuperF t x).1.cause) := by
  obtain ⟨e1, e2, e3, e4, e5, e6⟩ := super_facts hx h0 h1
  have hr : encL t.s.sum 0 1 t.s.expect false 2 false [] = (bR t.s 2).enc t.s.sum := rfl
  have hf := failure_cells N h 28 (bR t.s 2)
  obtain ⟨q1, q2, q3, q4⟩ := fail_same t 28 (bR t.s 2)
  unfold onT at hf ⊢
  unfold s_tSuper C_tSuper tSuperF
  simp only [tReady_eq, tSpecial_eq, tFail_eq, bnd1_mk, bnd3_mk, br_dec, br_not, hr, hf, bnd4_mk]
  by_cases ha : x.ans = true
  . have n1 : x.ans = true ∨ x.code = 0 := .inl ha
    simp only [ha, br_t, true_or, if_true, q1]
  have ha' : x.ans = false := by simpa using ha
  simp only [ha', br_f, Bool.false_eq_true, false_or]
  rcases e4 with c0 | c1 | c2 | c3
  . simp only [c0, show ¬ ((0 : Int) = 3) by decide, show ¬ ((0 : Int) = 1) by decide, show ¬ ((0 : Int) = 2) by decide, if_true, if_false, q1]
  . obtain ⟨g1, g2⟩ := tsize_eq N hx h0 h1 c1
    rw [ha', c1] at g1
    simp only [c1, show ¬ ((1 : Int) = 3) by decide, show ¬ ((1 : Int) = 0) by decide, show ¬ ((1 : Int) = 2) by decide, if_true, if_false, g1, bnd1_mk, g2]; rfl
  . simp only [c2, show ¬ ((2 : Int) = 0) by decide, if_true, if_false]; rfl
  . simp only [c3, show ¬ ((3 : Int) = 2) by decide, show ¬ ((3 : Int) = 1) by decide, show ¬ ((3 : Int) = 0) by decide, if_true, if_false]; rfl
theorem tDecode_eq {s : Co} (xs : List UInt8) (h : xs.length <= 900000) (y2 y3 y4 : Int) (y5 : List UInt8) (y6 : Int) (y7 : List V) (y8 : List UInt8) (y9 y10 : Int) (y11 : List UInt8) (y12 : Bool) (y13 : Int) :
    s_tDecode N xs s.sum s.own y2 y3 y4 y5 y6 y7 y8 y9 y10 y11 y12 y13 = some ((rx s xs).1.nad, (rx s xs).1.kind, (rx s xs).1.seq, (rx s xs).1.more, (rx s xs).1.code, (rx s xs).1.ans, (rx s xs).1.inf, (rx s xs).2) :=
  (show s_tDecode N xs s.sum s.own y2 y3 y4 y5 y6 y7 y8 y9 y10 y11 y12 y13 = s_cDecode N xs s.sum s.own y2 y3 y4 y5 y6 y7 y8 y9 y11 from rfl).trans (cDecode_eq N xs h y2 y3 y4 y5 y6 y7 y8 y9 y11)
theorem tReceive_eq {t : Tm} (h : TmOK t) (b : List UInt8) (hb : b.length <= 900000) :
    onT t (s_tReceive N b) = some (outB t.s.sum (tRecvF t (rx t.s b).1 (rx t.s b).2).2, (tRecvF t (rx t.s b).1 (rx t.s b).2).1.s.own, (tRecvF t (rx t.s b).1 (rx t.s b).2).1.s.other, (tRecvF t (rx t.s b).1 (rx t.s b).2).1.s.expect, (tRecvF t (rx t.s b).1 (rx t.s b).2).1.s.next,
      sentB (tRecvF t (rx t.s b).1 (rx t.s b).2).1.s, (tRecvF t (rx t.s b).1 (rx t.s b).2).1.s.sent.seq, pcs (tRecvF t (rx t.s b).1 (rx t.s b).2).1.s.pieces, (tRecvF t (rx t.s b).1 (rx t.s b).2).1.s.inn, (tRecvF t (rx t.s b).1 (rx t.s b).2).1.state, (tRecvF t (rx t.s b).1 (rx t.s b).2).1.fails,
      (tRecvF t (rx t.s b).1 (rx t.s b).2).1.done, (tRecvF t (rx t.s b).1 (rx t.s b).2).1.cause) := by
  obtain ⟨hr, hx⟩ := rx_range t.s b
  have ho := h.s.own
  have hff := fun e b => failure_cells N h e b
  unfold onT at hff ⊢
  unfold s_tReceive C_tReceive
  rw [tMade_eq, bnd1_mk, br_not, br_dec, if_pos (by omega), tDecode_eq N b hb, bnd8_mk]
  generalize (rx t.s b).1 = x at hx ⊢
  generalize (rx t.s b).2 = r at hr hx ⊢
  have hrr : encL t.s.sum 0 1 t.s.expect false r false [] = (bR t.s r).enc t.s.sum := rfl
  simp only [br_dec, br_not, tReady_eq, tSpecial_eq, bnd1_mk, hrr, hff, bnd4_mk]
  unfold tRecvF
  by_cases s0 : t.state = 0
  . simp only [if_pos s0, if_pos (show t.state = 0 ∨ t.state = 3 from .inl s0)]; rfl
  by_cases s3 : t.state = 3
  . simp only [if_neg s0, if_pos s3, if_pos (show t.state = 0 ∨ t.state = 3 from .inr s3)]; rfl
  simp only [if_neg s0, if_neg s3, if_neg (show ¬ (t.state = 0 ∨ t.state = 3) by rintro (hh | hh) <;> contradiction)]
  by_cases s1 : t.state = 1
  . have ht := h.offers s1
    have hof := h.offered
    have ha : offB t = [b8 t.offered] := by unfold offB; rw [if_neg (by omega)]
    have hsp : encL t.s.sum 0 2 0 false 1 false (offB t) = (bS 1 false [b8 t.offered]).enc t.s.sum := by rw [ha]; rfl
    obtain ⟨p1, p2, p3, p4⟩ := fail_same t 28 (bS 1 false [b8 t.offered])
    simp only [if_pos s1, hsp, hff, bnd4_mk]
    by_cases r0 : r = 0
    . obtain ⟨x1, x2, x3⟩ := hx r0
      rw [if_pos r0, ha]
      show bnd1 (some (sameBl x.nad x.kind x.seq x.more x.code x.ans x.inf 0 2 0 false 1 true [b8 t.offered])) _ = _
      rw [same_ask x1 x2 (.inl rfl) ht (by omega), bnd1_mk, br_dec]
      by_cases hq : x.kind = 2 /\ x.code = 1 /\ x.ans = true /\ inf0 x = t.offered
      . simp only [if_pos hq, r0, true_and, at_zero, w64_u8, b8_toNat (show 0 <= t.offered by omega) (show t.offered <= 255 by omega)]
        rw [if_pos (by simp)]; rfl
      . simp only [if_neg hq, r0, true_and, p1, p2]
    . have n : ¬ (r = 0 /\ x.kind = 2 /\ x.code = 1 /\ x.ans = true /\ inf0 x = t.offered) := fun hh => r0 hh.1
      simp only [if_neg r0, if_neg n, p1, p2]
  simp only [if_neg s1]
  have h2 : t.state = 2 := by have := h.state; omega
  by_cases r0 : r = 0
  . obtain ⟨x1, x2, x3⟩ := hx r0
    simp only [r0, ne_eq, not_true_eq_false, if_true, if_false]
    by_cases k0 : x.kind = 0
    . have hi := tInfo_eq N h s3 (kind_ok x1).2.2
      unfold onT at hi
      simp only [if_pos k0]
      rw [hi, bnd7_mk]
      unfold tInfoF
      obtain ⟨p1, p2, p3, p4⟩ := fail_same t 28 (bR t.s 2)
      by_cases q1 : x.seq ≠ t.s.expect ∨ t.s.pieces ≠ []
      . simp only [if_pos q1, p1]
      . simp only [if_neg q1]
        repeat' split
        all_goals rfl
    . simp only [if_neg k0]
      by_cases k1 : x.kind = 1
      . have hi := tAgain_eq N h h2 x
        unfold onT at hi
        simp only [if_pos k1]
        rw [hi, bnd8_mk]
        unfold tAgainF
        obtain ⟨p1, p2, p3, p4⟩ := fail_same t 28 (bR t.s 0)
        obtain ⟨o1, o2, o3, o4⟩ := fail_same t 28 t.s.sent
        by_cases q1 : x.seq = t.s.sent.seq
        . simp only [if_pos q1, o1, o2]
        . simp only [if_neg q1]
          by_cases q2 : t.s.pieces ≠ []
          . simp only [if_pos q2, piece_same t.s]
          . simp only [if_neg q2, p1, p2]
      . have hi := tSuper_eq N h x1 k0 k1
        unfold onT at hi
        simp only [if_neg k1]
        rw [hi, bnd5_mk]
        unfold tSuperF
        obtain ⟨p1, p2, p3, p4⟩ := fail_same t 28 (bR t.s 2)
        by_cases q1 : x.ans = true ∨ x.code = 0
        . simp only [if_pos q1, p1, p2]
        . simp only [if_neg q1]
          repeat' split
          all_goals rfl
  . obtain ⟨p1, p2, p3, p4⟩ := fail_same t 28 (bR t.s r)
    simp only [ne_eq, r0, not_false_eq_true, if_true, if_false, p1, p2]
theorem tTime_eq {t : Tm} (h : TmOK t) : onT t (s_tTimeout N) = some (outB t.s.sum (tTimeF t).2, (tTimeF t).1.state, (tTimeF t).1.fails, (tTimeF t).1.cause) := by
  have ho := h.s.own
  have hff := fun e b => failure_cells N h e b
  unfold onT at hff ⊢
  unfold s_tTimeout C_tTimeout tTimeF
  have hrr : encL t.s.sum 0 1 t.s.expect false 2 false [] = (bR t.s 2).enc t.s.sum := rfl
  rw [tMade_eq, bnd1_mk, br_not, br_dec, if_pos (by omega)]
  simp only [br_dec, tReady_eq, tSpecial_eq, bnd1_mk, hrr, hff, bnd4_mk]
  by_cases s1 : t.state = 1
  . have ht := h.offers s1
    have ha : offB t = [b8 t.offered] := by unfold offB; rw [if_neg (by omega)]
    have hsp : encL t.s.sum 0 2 0 false 1 false (offB t) = (bS 1 false [b8 t.offered]).enc t.s.sum := by rw [ha]; rfl
    simp only [if_pos s1, hsp, hff, bnd4_mk]
  . by_cases s2 : t.state = 2
    . simp only [if_neg s1, if_pos s2]
    . simp only [if_neg s1, if_neg s2]; rfl
theorem tResp_eq {t : Tm} (h : TmOK t) : onT t (s_tResponse N) = some (tRespF t) := by
  have ho := h.s.own
  unfold onT s_tResponse C_tResponse tRespF
  rw [tMade_eq, bnd1_mk, br_not, br_dec, if_pos (by omega), clone_eq (by have := h.s.inn; omega), bnd1_mk]
  cases t.done <;> rfl
theorem tOffer_eq {t : Tm} (h : TmOK t) (n : Int) : onT t (s_tOffer N n) = some (outB t.s.sum (tOfferF t n).2, (tOfferF t n).1.state, (tOfferF t n).1.fails, offB (tOfferF t n).1) := by
  have ho := h.s.own
  unfold onT s_tOffer C_tOffer tOfferF
  rw [tMade_eq, bnd1_mk, br_not, br_dec, if_pos (by omega), br_not, br_dec]
  by_cases s0 : t.state = 0
  . rw [if_pos s0]
    simp only [br_dec, s0, ne_eq, not_true_eq_false, false_or]
    by_cases h1 : n < 1
    . simp only [h1, true_or, if_true, s0]; rfl
    . by_cases h2 : 254 < n
      . simp only [h1, h2, or_true, if_true, if_false, s0]; rfl
      . simp only [h1, h2, or_self, if_false, tSpecial_eq, bnd1_mk]
        rw [b8_eq (by omega) (by omega)]
        have : offB { t with state := 1, offered := n, fails := 0 } = [b8 n] := by unfold offB; rw [if_neg (by simp only; omega)]
        rw [this]; rfl
  . rw [if_neg s0]
    simp only [s0, ne_eq, not_false_eq_true, true_or, if_true]; rfl
theorem tSend_eq {t : Tm} (h : TmOK t) (b : List UInt8) (h1 : b.length < N) (h2 : b.length <= 1000000) :
    onT t (s_tSend N b) = some (outB t.s.sum (tSendF t b).2, (tSendF t b).1.s.next, sentB (tSendF t b).1.s, (tSendF t b).1.s.sent.seq, pcs (tSendF t b).1.s.pieces, (tSendF t b).1.s.inn, (tSendF t b).1.state, (tSendF t b).1.fails, (tSendF t b).1.done) := by
  have ho := h.s.own
  have hs : CoOK { t.s with inn := [] } := ⟨h.s.sum, h.s.own, h.s.other, h.s.expect, h.s.next, h.s.sent, h.s.sseq, h.s.piece, by simp⟩
  have hsc := fun y5 y6 y9 y7 y10 y11 y12 y13 => tsend_cells N hs b h1 h2 y5 y6 y9 y7 y10 y11 y12 y13
  have hin := (send_ok hs b).2.2.2.2
  unfold onT s_tSend C_tSend tSendF
  rw [tMade_eq, bnd1_mk, br_not, br_dec, if_pos (by omega), br_not, br_dec]
  by_cases s0 : t.state = 0
  . rw [if_pos s0, hsc, bnd5_mk]
    simp only [s0, ne_eq, not_true_eq_false, if_false, hin]; rfl
  . rw [if_neg s0]
    simp only [s0, ne_eq, not_false_eq_true, if_true]; rfl
end
end Go.Proofs.Ytilfphdeacogmaa.En

/- Chapter 08: the reference does what the model does. -/
namespace Go.Proofs.Ytilfphdeacogmaa.En
open Go
set_option linter.unusedVariables false
section
variable (N : Nat)
section
variable (x0 x1 x2 x3 x4 : Int) (x5 : Bool) (x6 x7 x8 : Int) (x9 : Bool) (x10 : Int) (x11 : Bool) (x12 : List UInt8) (x13 : List V) (x14 : List UInt8) (b0 b1 b2 : Int) (b3 : Bool) (b4 : Int) (b5 : Bool) (b6 : List UInt8) (k k2 k3 k5 : Int) (k4 : Bool)
end
end
end Go.Proofs.Ytilfphdeacogmaa.En

/- Chapter 08: the reference's terminal does what the model does. -/
namespace Go.Proofs.Ytilfphdeacogmaa.En
open Go
set_option linter.unusedVariables false
section
variable (N : Nat)
end
end Go.Proofs.Ytilfphdeacogmaa.En

/- tone.NewCard, tone.NewTerminal: a new variable, or none; as entries. -/
namespace Go.Proofs.Ytilfphdeacogmaa.En
open Go
set_option linter.unusedVariables false
def rNew (rs : List D) (m : Mem) : Option (Nat × Option Bx) :=
  match rs, m with
  | [.ptr 0 s 0], [fr] => some (s, frGet s fr)
  | _, _ => none
def rNil (rs : List D) (_ : Mem) : Option Unit :=
  match rs with
  | [.nilp] => some ()
  | _ => none
theorem rNew_some {rs : List D} {m : Mem} {s : Nat} {B : Bx} (h : rNew rs m = some (s, some B)) : ∃ fr, rs = [.ptr 0 s 0] /\ m = [fr] /\ frGet s fr = some B := by
  unfold rNew at h
  split at h
  . rename_i s' fr
    injection h with h
    injection h with h1 h2
    subst h1
    exact ⟨fr, rfl, rfl, h2⟩
  . cases h
theorem rNil_some {rs : List D} {m : Mem} (h : rNil rs m = some ()) : rs = [.nilp] := by
  unfold rNil at h
  split at h
  . rfl
  . cases h
section
variable {P : Program} {T : TypeId -> Option Ty}
theorem MemRet.weak {f : FuncId} {dst : Nat} {ds rs : List D} {m m' m'' : Mem} (h : MemRet P T f dst ds m rs m') (hl : m''.length = m'.length) (hb : ∀ k s B'', m''.box? k s = some B'' -> ∃ B', m'.box? k s = some B' /\ WB B'' B') (hd : ∀ k s, memDom m' k s -> memDom m'' k s) : MemRet P T f dst ds m rs m'' := by
  intro E g w us hh hus
  refine (h E g w us hh hus).mono ?_
  rintro e w' ⟨us', g', E', a1, a2, a3, a4, a5⟩
  exact ⟨us', g', E', a1, a2, here_weak a3 hl hb hd, a4, a5⟩
theorem WCs.refl : ∀ l : List D, WCs l l
  | [] => trivial
  | c :: l => ⟨.inl rfl, WCs.refl l⟩
theorem MemRet.weakB {f : FuncId} {dst : Nat} {ds rs : List D} {m : Mem} {s : Nat} {B B' : Bx} (h : MemRet P T f dst ds m rs (m.setBox 0 s B')) (hw : WB B B') : MemRet P T f dst ds m rs (m.setBox 0 s B) := by
  refine h.weak (by rw [setBox_length, setBox_length]) (fun k s' B'' hB => ?_) (fun k s' hB => ?_)
  . rw [box_set] at hB ⊢
    split at hB
    . rename_i hc
      rw [if_pos hc]
      injection hB with hB
      subst hB
      exact ⟨B', rfl, hw⟩
    . rename_i hc
      rw [if_neg hc]
      exact ⟨B'', hB, rfl, WCs.refl _⟩
  . obtain ⟨b, hb⟩ := hB
    rw [box_set] at hb
    by_cases hc : k = 0 /\ s' = s /\ 0 < m.length
    . exact ⟨B, by rw [box_set, if_pos hc]⟩
    . rw [if_neg hc] at hb
      exact ⟨b, by rw [box_set, if_neg hc]; exact hb⟩
end
noncomputable def cx_new (N : Nat) : Cx := cxO [⟨41, e_valid (s_valid N)⟩] []
theorem co_new (N : Nat) : CxOK Try.prog (cx_new N) := cxO_ok ⟨eo_valid _ (p_valid N), trivial⟩ trivial
def b0_cNew (x0 x1 : Int) : Bx := ⟨77, [.v (.int .i64 x1) .no, .v (.int .i64 x0) .no, .v (.int .i64 32) .no, .v (.int .i64 0) .no, .v (.int .i64 0) .no, .v (.bytes []) (.own (.slot 0) 5), .v (.int .i64 0) .no, .v (.sl 27 []) (.own (.slot 0) 27), .v (.bytes []) (.own (.slot 0) 5), .v (.int .i64 0) .no, .v (.bytes []) (.own (.slot 0) 5)]⟩
def b_cNew (x0 x1 : Int) : Bx := ⟨77, [.v (.int .i64 x1) .no, .v (.int .i64 x0) .no, .v (.int .i64 32) .no, .v (.int .i64 0) .no, .v (.int .i64 0) .no, .v (.bytes []) .no, .v (.int .i64 0) .no, .v (.sl 27 []) .no, .v (.bytes []) (.own (.slot 0) 5), .v (.int .i64 0) .no, .v (.bytes []) .no]⟩
theorem bw_cNew (x0 x1 : Int) : WB (b_cNew x0 x1) (b0_cNew x0 x1) := ⟨rfl, .inl rfl, .inl rfl, .inl rfl, .inl rfl, .inl rfl, .inr ⟨_, _, rfl, rfl⟩, .inl rfl, .inr ⟨_, _, rfl, rfl⟩, .inl rfl, .inl rfl, .inr ⟨_, _, rfl, rfl⟩, trivial⟩
noncomputable def s_cNew (N : Nat) (x0 x1 : Int) : Option Bool := s_valid N x0 x1
noncomputable def e_cNew {R : Type} (s : Int -> Int -> Option Bool) (dst : Nat) (ds : List D) (m : Mem) (K : List D -> Mem -> Option R) : Option R :=
  match ds with
  | [.v (.int .i64 x0) .no, .v (.int .i64 x1) .no] => bnd1 (s x0 x1) fun b => br b (match m.box? 0 dst with | none => memPutK m 0 dst (b_cNew x0 x1) fun m' => K [.ptr 0 dst 0] m' | some _ => none) (K [.nilp] m)
  | _ => none
theorem n_cNew (N : Nat) (x0 x1 : Int) : bodyK (cx_new N) Try.f11 [.v (.int .i64 x0) .no, .v (.int .i64 x1) .no] [] rNew = bnd1 (s_valid N x0 x1) fun b => br (!b) none (some (13, some (b0_cNew x0 x1))) := by
  kernel_rfl
theorem z_cNew (N : Nat) (x0 x1 : Int) : bodyK (cx_new N) Try.f11 [.v (.int .i64 x0) .no, .v (.int .i64 x1) .no] [] rNil = bnd1 (s_valid N x0 x1) fun b => br (!b) (some ()) none := by
  kernel_rfl
def Ret_cNew (x0 x1 : Int) (b : Bool) : Prop :=
  (b = true -> ∀ (m : Mem) (dst : Nat), m.box? 0 dst = none -> MemRet Try.prog T 11 dst [.v (.int .i64 x0) .no, .v (.int .i64 x1) .no] m [.ptr 0 dst 0] (m.setBox 0 dst (b_cNew x0 x1))) /\
  (b = false -> PureRet Try.prog T 11 [.v (.int .i64 x0) .no, .v (.int .i64 x1) .no] [.nilp])
theorem p_cNew (N : Nat) (x0 x1 : Int) (b : Bool) (h : s_cNew N x0 x1 = some b) : Ret_cNew x0 x1 b := by
  have h : s_valid N x0 x1 = some b := h
  refine ⟨?_, ?_⟩
  . rintro rfl m dst hn
    refine MemRet.weakB (B' := b0_cNew x0 x1) ?_ (bw_cNew x0 x1)
    exact new_entry (cx := cx_new N) (by kernel_rfl) (co_new N) Try.func11 (by kernel_rfl) (by kernel_rfl) (loopsOK_of (k := 0) (by kernel_rfl) trivial) rfl rfl rfl (rf := rNew) (r := (13, some (b0_cNew x0 x1))) ((n_cNew N x0 x1).trans (by rw [h]; rfl)) (by rfl)
      (fun rs' m' hr => by
        obtain ⟨fr, e1, e2, e3⟩ := rNew_some hr
        exact ⟨_, fr, e1, e2, e3⟩) hn
  . rintro rfl
    exact pure_of (cx := cx_new N) (by kernel_rfl) (co_new N) Try.func11 (by kernel_rfl) (by kernel_rfl) (loopsOK_of (k := 0) (by kernel_rfl) trivial) rfl rfl rfl (rf := rNil) (r := ()) ((z_cNew N x0 x1).trans (by rw [h]; rfl)) (fun rs' m' hr => by
      rw [rNil_some hr]; exact ⟨rfl, rfl⟩)
abbrev Q_cNew (s : Int -> Int -> Option Bool) : Prop := ∀ x0 x1 b, s x0 x1 = some b -> Ret_cNew x0 x1 b
theorem eo_cNew (s : Int -> Int -> Option Bool) (hs : Q_cNew s) : MEntOK Try.prog T ⟨11, e_cNew s⟩ := by
  refine ⟨goes_of Try.func11 (by kernel_rfl) (c := bodyOf Try.f11) (by kernel_rfl), fun R dst ds m K r h => ?_⟩
  simp only [e_cNew] at h
  split at h
  . obtain ⟨b, h1, h2⟩ := bnd1_some h
    have h3 := hs _ _ _ h1
    cases b with
    | true =>
      have h2 : (match m.box? 0 dst with | none => memPutK m 0 dst (b_cNew _ _) fun m' => K [.ptr 0 dst 0] m' | some _ => none) = some r := h2
      split at h2
      . rename_i hn
        rw [memPutK_eq] at h2
        exact ⟨_, _, h2, h3.1 rfl m dst hn⟩
      . cases h2
    | false =>
      have h2 : K [.nilp] m = some r := h2
      exact ⟨_, _, h2, mem_of_pure (h3.2 rfl) rfl rfl m dst⟩
  . cases h
def b0_tNew (x0 x1 : Int) : Bx := ⟨95, [.v (.int .i64 x1) .no, .v (.int .i64 32) .no, .v (.int .i64 x0) .no, .v (.int .i64 0) .no, .v (.int .i64 0) .no, .v (.bytes []) (.own (.slot 0) 5), .v (.int .i64 0) .no, .v (.sl 27 []) (.own (.slot 0) 27), .v (.bytes []) (.own (.slot 0) 5), .v (.int .i64 0) .no, .v (.int .i64 0) .no, .v (.bytes []) (.own (.slot 0) 5), .v (.bool false) .no, .v (.int .i64 0) .no]⟩
def b_tNew (x0 x1 : Int) : Bx := ⟨95, [.v (.int .i64 x1) .no, .v (.int .i64 32) .no, .v (.int .i64 x0) .no, .v (.int .i64 0) .no, .v (.int .i64 0) .no, .v (.bytes []) .no, .v (.int .i64 0) .no, .v (.sl 27 []) .no, .v (.bytes []) (.own (.slot 0) 5), .v (.int .i64 0) .no, .v (.int .i64 0) .no, .v (.bytes []) .no, .v (.bool false) .no, .v (.int .i64 0) .no]⟩
theorem bw_tNew (x0 x1 : Int) : WB (b_tNew x0 x1) (b0_tNew x0 x1) := ⟨rfl, .inl rfl, .inl rfl, .inl rfl, .inl rfl, .inl rfl, .inr ⟨_, _, rfl, rfl⟩, .inl rfl, .inr ⟨_, _, rfl, rfl⟩, .inl rfl, .inl rfl, .inl rfl, .inr ⟨_, _, rfl, rfl⟩, .inl rfl, .inl rfl, trivial⟩
noncomputable def s_tNew (N : Nat) (x0 x1 : Int) : Option Bool := s_valid N x0 x1
noncomputable def e_tNew {R : Type} (s : Int -> Int -> Option Bool) (dst : Nat) (ds : List D) (m : Mem) (K : List D -> Mem -> Option R) : Option R :=
  match ds with
  | [.v (.int .i64 x0) .no, .v (.int .i64 x1) .no] => bnd1 (s x0 x1) fun b => br b (match m.box? 0 dst with | none => memPutK m 0 dst (b_tNew x0 x1) fun m' => K [.ptr 0 dst 0] m' | some _ => none) (K [.nilp] m)
  | _ => none
theorem n_tNew (N : Nat) (x0 x1 : Int) : bodyK (cx_new N) Try.f23 [.v (.int .i64 x0) .no, .v (.int .i64 x1) .no] [] rNew = bnd1 (s_valid N x0 x1) fun b => br (!b) none (some (13, some (b0_tNew x0 x1))) := by
  kernel_rfl
theorem z_tNew (N : Nat) (x0 x1 : Int) : bodyK (cx_new N) Try.f23 [.v (.int .i64 x0) .no, .v (.int .i64 x1) .no] [] rNil = bnd1 (s_valid N x0 x1) fun b => br (!b) (some ()) none := by
  kernel_rfl
def Ret_tNew (x0 x1 : Int) (b : Bool) : Prop :=
  (b = true -> ∀ (m : Mem) (dst : Nat), m.box? 0 dst = none -> MemRet Try.prog T 23 dst [.v (.int .i64 x0) .no, .v (.int .i64 x1) .no] m [.ptr 0 dst 0] (m.setBox 0 dst (b_tNew x0 x1))) /\
  (b = false -> PureRet Try.prog T 23 [.v (.int .i64 x0) .no, .v (.int .i64 x1) .no] [.nilp])
theorem p_tNew (N : Nat) (x0 x1 : Int) (b : Bool) (h : s_tNew N x0 x1 = some b) : Ret_tNew x0 x1 b := by
  have h : s_valid N x0 x1 = some b := h
  refine ⟨?_, ?_⟩
  . rintro rfl m dst hn
    refine MemRet.weakB (B' := b0_tNew x0 x1) ?_ (bw_tNew x0 x1)
    exact new_entry (cx := cx_new N) (by kernel_rfl) (co_new N) Try.func23 (by kernel_rfl) (by kernel_rfl) (loopsOK_of (k := 0) (by kernel_rfl) trivial) rfl rfl rfl (rf := rNew) (r := (13, some (b0_tNew x0 x1))) ((n_tNew N x0 x1).trans (by rw [h]; rfl)) (by rfl)
      (fun rs' m' hr => by
        obtain ⟨fr, e1, e2, e3⟩ := rNew_some hr
        exact ⟨_, fr, e1, e2, e3⟩) hn
  . rintro rfl
    exact pure_of (cx := cx_new N) (by kernel_rfl) (co_new N) Try.func23 (by kernel_rfl) (by kernel_rfl) (loopsOK_of (k := 0) (by kernel_rfl) trivial) rfl rfl rfl (rf := rNil) (r := ()) ((z_tNew N x0 x1).trans (by rw [h]; rfl)) (fun rs' m' hr => by
      rw [rNil_some hr]; exact ⟨rfl, rfl⟩)
abbrev Q_tNew (s : Int -> Int -> Option Bool) : Prop := ∀ x0 x1 b, s x0 x1 = some b -> Ret_tNew x0 x1 b
theorem eo_tNew (s : Int -> Int -> Option Bool) (hs : Q_tNew s) : MEntOK Try.prog T ⟨23, e_tNew s⟩ := by
  refine ⟨goes_of Try.func23 (by kernel_rfl) (c := bodyOf Try.f23) (by kernel_rfl), fun R dst ds m K r h => ?_⟩
  simp only [e_tNew] at h
  split at h
  . obtain ⟨b, h1, h2⟩ := bnd1_some h
    have h3 := hs _ _ _ h1
    cases b with
    | true =>
      have h2 : (match m.box? 0 dst with | none => memPutK m 0 dst (b_tNew _ _) fun m' => K [.ptr 0 dst 0] m' | some _ => none) = some r := h2
      split at h2
      . rename_i hn
        rw [memPutK_eq] at h2
        exact ⟨_, _, h2, h3.1 rfl m dst hn⟩
      . cases h2
    | false =>
      have h2 : K [.nilp] m = some r := h2
      exact ⟨_, _, h2, mem_of_pure (h3.2 rfl) rfl rfl m dst⟩
  . cases h
end Go.Proofs.Ytilfphdeacogmaa.En

/- (*tone.Terminal).Failed only looks at the terminal: the walk; as an entry. -/
namespace Go.Proofs.Ytilfphdeacogmaa.En
open Go Go.RowKit
set_option linter.unusedVariables false
theorem made_some (b : Nat) (own : Int) (w : World) (h1 : w.cell? ⟨b, 1, none⟩ = some (.int .i64 own)) (ho : 0 < own) :
    Calls Try.prog 62 #[.pointer (some ⟨b, 0, none⟩)] w fun e w' => e = .returned (.bool true) /\ w' = w := by
  go_enter Try.func62, Try.ntmps62
  go_wp2
  go_ret
  exact ⟨rfl, rfl⟩
theorem failed_any (b : Nat) (own cause : Int) (w : World) (h1 : w.cell? ⟨b, 1, none⟩ = some (.int .i64 own)) (h13 : w.cell? ⟨b, 13, none⟩ = some (.int .i64 cause)) (ho : 0 < own) :
    Calls Try.prog 28 #[.pointer (some ⟨b, 0, none⟩)] w fun e w' => e = .returned (.int .i64 cause) /\ w' = w := by
  go_enter Try.func28, Try.ntmps28
  go_wp2_with fail
  refine (made_some b own w h1 ho).mono ?_
  rintro e w1 ⟨rfl, rfl⟩
  go_wp2_with fail
  go_ret
  exact ⟨rfl, rfl⟩
section
variable {R : Type}
theorem getAllK_b {α β : Type} {m : Mem} : ∀ (ps : List (Nat × Nat)) (F : List Bx -> Option α) (K : α -> Option β), (getAllK ps m F).bind K = getAllK ps m fun Bs => (F Bs).bind K
  | [], F, K => rfl
  | p :: r, F, K => by
    unfold getAllK
    cases m.box? p.1 p.2 with
    | none => rfl
    | some B => exact getAllK_b r _ K
theorem viewK_b {α β : Type} {m : Mem} (ps : List (Nat × Nat)) (F : List Bx -> Option α) (K : α -> Option β) : (viewK ps m F).bind K = viewK ps m fun Bs => (F Bs).bind K := by
  unfold viewK
  cases distinct ps
  . rfl
  . exact getAllK_b ps F K
end
noncomputable def s_tFailedS (N : Nat) (y1 y13 : Int) : Option Int := br (decide (0 < y1)) (some y13) none
noncomputable def e_tFailedS {R : Type} (s : Int -> Int -> Option Int) (ds : List D) (m : Mem) (K : List D -> Option R) : Option R :=
  match ds with
  | [.ptr (kv0 + 1) sv0 0] => viewK [(kv0, sv0)] m fun Bs => (match Bs with
    | [⟨95, [.v (.int .i64 y0) .no, .v (.int .i64 y1) .no, .v (.int .i64 y2) .no, .v (.int .i64 y3) .no, .v (.int .i64 y4) .no, .v (.bytes y5) _, .v (.int .i64 y6) .no, .v (.sl 27 y7) _, .v (.bytes y8) _, .v (.int .i64 y9) .no, .v (.int .i64 y10) .no, .v (.bytes y11) _, .v (.bool y12) .no, .v (.int .i64 y13) .no]⟩] => bnd1 (s y1 y13) fun r0 => K [.v (.int .i64 r0) .no]
    | _ => none)
  | _ => none
theorem p_tFailedS (N : Nat) (y1 y13 r : Int) (h : s_tFailedS N y1 y13 = some r) : 0 < y1 /\ r = y13 := by
  unfold s_tFailedS br at h
  by_cases ho : 0 < y1
  . simp only [ho, decide_true, cond_true] at h
    injection h with h
    exact ⟨ho, h.symm⟩
  . simp only [ho, decide_false, cond_false] at h
    cases h
theorem cellV {E : Env} {g : G} {w : World} {k s i : Nat} {n : Int} {u : Value} (h : RepD E g w [] (loadCell k s i (.v (.int .i64 n) .no)) u) : u = .int .i64 n /\ IntKind.i64.min <= n /\ n <= IntKind.i64.max := by
  have h : RepD E g w [] (.v (.int .i64 n) .no) u := h
  cases h with
  | v _ _ _ hv _ =>
    cases hv with
    | int _ _ hr => exact ⟨rfl, hr⟩
abbrev Q_tFailedS (s : Int -> Int -> Option Int) : Prop := ∀ y1 y13 r, s y1 y13 = some r -> 0 < y1 /\ r = y13
theorem eo_tFailedS (s : Int -> Int -> Option Int) (hs : Q_tFailedS s) : SEntOK Try.prog T ⟨28, e_tFailedS s⟩ := by
  refine ⟨goes_of Try.func28 (by kernel_rfl) (c := bodyOf Try.f28) (by kernel_rfl), fun R ds m K r h => ?_, fun R ds m K => ?_⟩
  . simp only [e_tFailedS] at h
    split at h
    . rename_i kv sv
      obtain ⟨Bs, a1, a2, a3, h⟩ := viewK_some h
      split at h
      . rename_i y0 y1 y2 y3 y4 y5 t5 y6 y7 t7 y8 t8 y9 y10 y11 t11 y12 y13
        obtain ⟨r0, h1, h2⟩ := bnd1_some h
        obtain ⟨ho, rfl⟩ := hs _ _ _ h1
        refine ⟨_, h2, ?_⟩
        intro E g w us hh hus
        obtain ⟨hl, hr⟩ := hus
        match us, hl with
        | [u], _ =>
        have hu := hr 0 _ rfl
        simp only [List.getD_cons_zero] at hu
        cases hu with
        | ptr k' s' o b1 b2 =>
        have eJ : (inner E m).d - (kv + 1) = E.d - kv := by show E.d + 1 - (kv + 1) = _; omega
        rw [eJ]
        obtain ⟨B, hB, hB'⟩ := a2 0 (kv, sv) rfl
        simp at hB'
        subst hB'
        simp only at hB
        have hbr := hh.mem kv sv _ hB
        obtain ⟨cs, c1, c2, c3⟩ := hbr.heap
        obtain ⟨e1, _⟩ := cellV (c3 1 _ rfl).2.2.2
        obtain ⟨e13, hrg⟩ := cellV (c3 13 _ rfl).2.2.2
        have hcell : ∀ i, i < 14 -> w.cell? ⟨g.J (E.d - kv) sv, i, none⟩ = some (cs.getD i undef) := by
          intro i hi
          rw [cell_of_row w _ i cs _ _ c1]
          have : i < cs.size := by rw [c2]; simpa using hi
          simp [this]
        refine (failed_any _ y1 r0 w (by rw [hcell 1 (by omega), e1]) (by rw [hcell 13 (by omega), e13]) ho).mono ?_
        rintro e w' ⟨rfl, rfl⟩
        exact ⟨[.int .i64 r0], newG g w', rfl, fun E' => ⟨rfl, fun k y hk => by
          rcases k with _ | k
          . simp at hk; subst hk; exact .v _ _ _ (.int _ _ hrg) trivial
          . simp at hk⟩, newG_tr (Below.refl _ _)⟩
      . cases h
    . cases h
  . simp only [e_tFailedS]
    split
    . rw [viewK_b]
      congr 1
      funext Bs
      split
      . rw [bnd1_b]; rfl
      . rfl
    . rfl
end Go.Proofs.Ytilfphdeacogmaa.En

/- Functions of the program in plain Lean, joined to the program by evaluation; printed by a program. -/
namespace Go.Proofs.Ytilfphdeacogmaa.En
open Go Go.Proofs
set_option maxRecDepth 100000
set_option maxHeartbeats 8000000
set_option linter.unusedVariables false
noncomputable def e_works {R : Type} (s : Option (Bool)) (ds : List D) (K : List D -> Option R) : Option R :=
  match ds with
  | [] => bnd1 (s) fun r0 => K [dB r0]
  | _ => none
noncomputable def s_works (N : Nat)  : Option (Bool) := bnd1 (s_tNew N 32 0) fun b0 => br b0 (bnd1 (s_cNew N 32 0) fun b1 => br b1 (bnd9 (s_tSend N [UInt8.ofNat (Int.toNat 0), UInt8.ofNat (Int.toNat 164), UInt8.ofNat (Int.toNat 0), UInt8.ofNat (Int.toNat 0), UInt8.ofNat (Int.toNat 2)] 0 32 32 0 0 [] 0 [] [] 0 0 [] false 0) fun l2 n3 l4 n5 l6 l7 n8 n9 b10 => bnd9 (s_cReceive N l2 0 32 32 0 0 [] 0 [] [] 0 []) fun l11 n12 n13 n14 l15 n16 l17 l18 n19 => bnd2 (s_cCommand N 0 32 n12 n13 n14 l15 n16 l17 l18 n19 []) fun l20 b21 => bnd6 (s_cReply N [UInt8.ofNat (Int.toNat 144), UInt8.ofNat (Int.toNat 0)] 0 32 n12 n13 n14 l15 n16 l17 l18 n19 []) fun l22 n23 l24 n25 l26 n27 => bnd13 (s_tReceive N l22 0 32 32 0 n3 l4 n5 l6 l7 n8 n9 [] b10 0) fun l28 n29 n30 n31 n32 l33 n34 l35 l36 n37 n38 b39 n40 => bnd2 (s_tResponse N 0 n29 n30 n31 n32 l33 n34 l35 l36 n37 n38 [] b39 n40) fun l41 b42 => bnd9 (s_tSend N [UInt8.ofNat (Int.toNat 1)] 0 n29 n30 n31 n32 l33 n34 l35 l36 n37 n38 [] b39 n40) fun l43 n44 l45 n46 l47 l48 n49 n50 b51 => br (decide (l2.length <= 9223372036854775807)) (br (decide (l2 = ([0, 0, 5, 0, 164, 0, 0, 2, 163] : List UInt8))) (br (decide ((l11.length : Int) = 0)) (br b21 (br (decide (l20.length <= 9223372036854775807)) (br (decide (l20 = ([0, 164, 0, 0, 2] : List UInt8))) (br (decide (l22.length <= 9223372036854775807)) (br (decide (l22 = ([0, 0, 2, 144, 0, 146] : List UInt8))) (br (decide ((l28.length : Int) = 0)) (br b42 (br (decide (l41.length <= 9223372036854775807)) (br (decide (l41 = ([144, 0] : List UInt8))) (br (decide ((l43.length : Int) = 5)) (br (decide (1 < (l43.length : Int))) (at? l43 1 fun u52 => some (decide ((u52.toNat : Int) = 64))) none) (some false)) (some false)) none) (some false)) (some false)) (some false)) none) (some false)) none) (some false)) (some false)) (some false)) none) (some false)) (bnd1 (s_cNew N 32 0) fun b53 => br b53 (some false) (some false))
noncomputable def cx_works (N : Nat) : Cx := cxO [] [⟨23, e_tNew (s_tNew N)⟩, ⟨11, e_cNew (s_cNew N)⟩, ⟨24, e_tSend (s_tSend N)⟩, ⟨13, e_cReceive (s_cReceive N)⟩, ⟨19, e_cCommand (s_cCommand N)⟩, ⟨15, e_cReply (s_cReply N)⟩, ⟨27, e_tReceive (s_tReceive N)⟩, ⟨29, e_tResponse (s_tResponse N)⟩]
theorem s_works_ok (N : Nat)  : bodyK (cx_works N) Try.f10 [] [] r_valid = s_works N  := by
  kernel_rfl
abbrev Q_works (s : Option (Bool)) : Prop := ∀ r0, s  = some r0 -> PureRet Try.prog T 10 [] [dB r0]
theorem eo_works (s : Option (Bool)) (hs : Q_works s) : EntOK Try.prog T ⟨10, e_works s⟩ := by
  refine ⟨goes_of Try.func10 (by kernel_rfl) (c := bodyOf Try.f10) (by kernel_rfl), fun R ds K r h => ?_, fun R ds K => ?_⟩
  . simp only [e_works] at h
    split at h
    . obtain ⟨r0, h1, h2⟩ := bnd1_some h
      exact ⟨_, h2, hs _ h1⟩
    . cases h
  . simp only [e_works]
    split
    . rw [bnd1_b]; rfl
    . rfl
theorem p_works (N : Nat)  (r0 : Bool) (h : s_works N  = some r0) : PureRet Try.prog T 10 [] [dB r0] :=
  pure_of (cx := cx_works N) (by kernel_rfl) (cxO_ok trivial ⟨eo_tNew _ (p_tNew N), eo_cNew _ (p_cNew N), eo_tSend _ (p_tSend N), eo_cReceive _ (p_cReceive N), eo_cCommand _ (p_cCommand N), eo_cReply _ (p_cReply N), eo_tReceive _ (p_tReceive N), eo_tResponse _ (p_tResponse N), trivial⟩) Try.func10 (by kernel_rfl) (by kernel_rfl) (loopsOK_of (k := 0) (by kernel_rfl) trivial) rfl rfl rfl (rf := r_valid) ((s_works_ok N ).trans h) (fun rs' m h => by
    unfold r_valid at h
    split at h
    . cases h; exact ⟨rfl, rfl⟩
    . cases h)
end Go.Proofs.Ytilfphdeacogmaa.En

/- The printed functions, together. -/

/- Chapter 08: sides that are made, few calls, what is sent is sound, the examples. -/
namespace Go.Proofs.Ytilfphdeacogmaa.En
open Go
set_option linter.unusedVariables false
def sideB (ifs sum : Int) : Bool := decide (1 <= ifs /\ ifs <= 254 /\ (sum = 0 ∨ sum = 1))
def c0 (ifs sum : Int) : Cd := ⟨⟨sum, ifs, 32, 0, 0, false, blZ, [], []⟩, 0, 0⟩
def t0 (ifs sum : Int) : Tm := ⟨⟨sum, 32, ifs, 0, 0, false, blZ, [], []⟩, 0, 0, 0, false, 0⟩
theorem c0_ok {ifs sum : Int} (h : sideB ifs sum = true) : CdOK (c0 ifs sum) := by
  unfold sideB at h
  obtain ⟨h1, h2, h3⟩ := of_decide_eq_true h
  exact ⟨⟨h3, ⟨h1, h2⟩, by simp [c0], .inl rfl, .inl rfl, (show blZ.chk = 0 by decide), .inl rfl, by simp [c0], by simp [c0]⟩, .inl rfl, by simp [c0], by simp [c0], by simp [c0], by simp [c0]⟩
theorem t0_ok {ifs sum : Int} (h : sideB ifs sum = true) : TmOK (t0 ifs sum) := by
  unfold sideB at h
  obtain ⟨h1, h2, h3⟩ := of_decide_eq_true h
  exact ⟨⟨h3, by simp [t0], ⟨h1, h2⟩, .inl rfl, .inl rfl, (show blZ.chk = 0 by decide), .inl rfl, by simp [t0], by simp [t0]⟩, .inl rfl, by simp [t0], by simp [t0], by simp [t0], by simp [t0], by simp [t0], by simp [t0], by simp [t0]⟩
section
variable (N : Nat)
theorem valid_eq (ifs sum : Int) : s_valid N ifs sum = some (sideB ifs sum) := by
  have hs : s_cSize N sum = some (if sum = 0 then 1 else if sum = 1 then 2 else 0) := by
    unfold s_cSize; simp only [br_dec]; repeat' split
    all_goals rfl
  unfold s_valid sideB
  rw [hs, bnd1_mk]
  simp only [br_dec]
  by_cases h1 : 1 <= ifs
  . by_cases h2 : ifs <= 254
    . by_cases h3 : sum = 0
      . simp [h1, h2, h3]
      . by_cases h4 : sum = 1 <;> simp [h1, h2, h3, h4]
    . simp [h1, h2]
  . simp [h1]
theorem cNew_eq (ifs sum : Int) : s_cNew N ifs sum = some (sideB ifs sum) := valid_eq N ifs sum
theorem tNew_eq (ifs sum : Int) : s_tNew N ifs sum = some (sideB ifs sum) := valid_eq N ifs sum
theorem rright_eq (ifs sum : Int) : s_rright N ifs sum = some (sideB ifs sum) := by
  unfold s_rright sideB
  simp only [br_dec]
  by_cases h1 : 1 <= ifs
  . by_cases h2 : ifs <= 254
    . by_cases h3 : sum = 0
      . simp [h1, h2, h3]
      . by_cases h4 : sum = 1 <;> simp [h1, h2, h3, h4]
    . simp [h1, h2]
  . simp [h1]
theorem sides_eq (ifs sum : Int) : s_sides N ifs sum = some (sideB ifs sum) := rright_eq N ifs sum
structure OpP where
  kind : Int
  n : Int
  b : List UInt8
set_option maxRecDepth 100000 in
theorem works_eq (hN : 10 < N) : s_works N = some true := by
  have ho : sideB 32 0 = true := by decide
  have k0 := c0_ok ho
  have q0 := t0_ok ho
  have q1 := (tSend_ok q0 [0, 164, 0, 0, 2]).1
  have hr1 := rx_range (c0 32 0).s [0, 0, 5, 0, 164, 0, 0, 2, 163]
  have k1 := (cRecv_ok k0 hr1.1 (fun h => (hr1.2 h).1)).1
  have hr2 := rx_range ((tSendF (t0 32 0) [0, 164, 0, 0, 2]).1).s [0, 0, 2, 144, 0, 146]
  have q2 := (tRecv_ok q1 hr2.1 (fun h => (hr2.2 h).1)).1
  have h1 : s_tSend N [UInt8.ofNat (Int.toNat 0), UInt8.ofNat (Int.toNat 164), UInt8.ofNat (Int.toNat 0), UInt8.ofNat (Int.toNat 0), UInt8.ofNat (Int.toNat 2)] 0 32 32 0 0 [] 0 [] [] 0 0 [] false 0 = some ([0, 0, 5, 0, 164, 0, 0, 2, 163], 1, [0, 0, 5, 0, 164, 0, 0, 2, 163], 0, [], [], 2, 0, false) :=
    (show _ = onT (t0 32 0) (s_tSend N [0, 164, 0, 0, 2]) by kernel_rfl).trans ((tSend_eq N q0 [0, 164, 0, 0, 2] (by simp; omega) (by simp)).trans (by kernel_rfl))
  have h2 : s_cReceive N [0, 0, 5, 0, 164, 0, 0, 2, 163] 0 32 32 0 0 [] 0 [] [] 0 [] = some ([], 32, 1, 0, [], 0, [], [0, 164, 0, 0, 2], 2) :=
    (show _ = onC (c0 32 0) (s_cReceive N [0, 0, 5, 0, 164, 0, 0, 2, 163]) by kernel_rfl).trans ((cReceive_eq N k0 _ (by simp)).trans (by kernel_rfl))
  have h3 : s_cCommand N 0 32 32 1 0 [] 0 [] [0, 164, 0, 0, 2] 2 [] = some ([0, 164, 0, 0, 2], true) :=
    (show _ = onC (cRecvF (c0 32 0) (rx (c0 32 0).s [0, 0, 5, 0, 164, 0, 0, 2, 163]).1 (rx (c0 32 0).s [0, 0, 5, 0, 164, 0, 0, 2, 163]).2).1 (s_cCommand N) by kernel_rfl).trans ((cCommand_eq N k1).trans (by kernel_rfl))
  have h4 : s_cReply N [UInt8.ofNat (Int.toNat 144), UInt8.ofNat (Int.toNat 0)] 0 32 32 1 0 [] 0 [] [0, 164, 0, 0, 2] 2 [] = some ([0, 0, 2, 144, 0, 146], 1, [0, 0, 2, 144, 0, 146], 0, [], 4) :=
    (show _ = onC (cRecvF (c0 32 0) (rx (c0 32 0).s [0, 0, 5, 0, 164, 0, 0, 2, 163]).1 (rx (c0 32 0).s [0, 0, 5, 0, 164, 0, 0, 2, 163]).2).1 (s_cReply N [144, 0]) by kernel_rfl).trans ((cReply_eq N k1 [144, 0] (by simp; omega) (by simp)).trans (by kernel_rfl))
  have h5 : s_tReceive N [0, 0, 2, 144, 0, 146] 0 32 32 0 1 [0, 0, 5, 0, 164, 0, 0, 2, 163] 0 [] [] 2 0 [] false 0 = some ([], 32, 32, 1, 1, [0, 0, 5, 0, 164, 0, 0, 2, 163], 0, [], [144, 0], 0, 0, true, 0) :=
    (show _ = onT (tSendF (t0 32 0) [0, 164, 0, 0, 2]).1 (s_tReceive N [0, 0, 2, 144, 0, 146]) by kernel_rfl).trans ((tReceive_eq N q1 _ (by simp)).trans (by kernel_rfl))
  have h6 : s_tResponse N 0 32 32 1 1 [0, 0, 5, 0, 164, 0, 0, 2, 163] 0 [] [144, 0] 0 0 [] true 0 = some ([144, 0], true) :=
    (show _ = onT (tRecvF (tSendF (t0 32 0) [0, 164, 0, 0, 2]).1 (rx (tSendF (t0 32 0) [0, 164, 0, 0, 2]).1.s [0, 0, 2, 144, 0, 146]).1 (rx (tSendF (t0 32 0) [0, 164, 0, 0, 2]).1.s [0, 0, 2, 144, 0, 146]).2).1 (s_tResponse N) by kernel_rfl).trans ((tResp_eq N q2).trans (by kernel_rfl))
  have h7 : s_tSend N [UInt8.ofNat (Int.toNat 1)] 0 32 32 1 1 [0, 0, 5, 0, 164, 0, 0, 2, 163] 0 [] [144, 0] 0 0 [] true 0 = some ([0, 64, 1, 1, 64], 0, [0, 64, 1, 1, 64], 1, [], [], 2, 0, false) :=
    (show _ = onT (tRecvF (tSendF (t0 32 0) [0, 164, 0, 0, 2]).1 (rx (tSendF (t0 32 0) [0, 164, 0, 0, 2]).1.s [0, 0, 2, 144, 0, 146]).1 (rx (tSendF (t0 32 0) [0, 164, 0, 0, 2]).1.s [0, 0, 2, 144, 0, 146]).2).1 (s_tSend N [1]) by kernel_rfl).trans ((tSend_eq N q2 [1] (by simp; omega) (by simp)).trans (by kernel_rfl))
  unfold s_works
  rw [tNew_eq, cNew_eq, ho]
  simp only [bnd1_mk, br_t, h1, bnd9_mk, h2, h3, bnd2_mk, h4, bnd6_mk, h5, bnd13_mk, h6, h7]
  rfl
end
end Go.Proofs.Ytilfphdeacogmaa.En

/- Chapter 08: the statements about the card's side and the terminal's side. -/
namespace Go.Proofs.Ytilfphdeacogmaa.En
open Go
set_option linter.unusedVariables false
theorem cRecv_same (c : Cd) (x : Bl) (r : Int) : (cRecvF c x r).1.s.sum = c.s.sum /\ (cRecvF c x r).1.s.own = c.s.own /\ (cRecvF c x r).1.time = c.time := by
  unfold cRecvF cInfoF cAgainF cSuperF
  repeat' split
  all_goals simp [piece_same]
theorem cReply_same (c : Cd) (b : List UInt8) : (cReplyF c b).1.s.sum = c.s.sum /\ (cReplyF c b).1.s.own = c.s.own /\ (cReplyF c b).1.s.other = c.s.other /\ (cReplyF c b).1.s.expect = c.s.expect /\ (cReplyF c b).1.s.inn = c.s.inn /\ (cReplyF c b).1.time = c.time := by
  unfold cReplyF sendF
  split <;> simp [piece_same]
theorem cExtend_same (c : Cd) (n : Int) : (cExtendF c n).1.s = c.s := by
  unfold cExtendF
  split <;> rfl
theorem askB_same {c c' : Cd} (h : c'.time = c.time) : askB c' = askB c := by unfold askB; rw [h]
theorem offB_same {t t' : Tm} (h : t'.offered = t.offered) : offB t' = offB t := by unfold offB; rw [h]
theorem tRecv_same (t : Tm) (x : Bl) (r : Int) : (tRecvF t x r).1.s.sum = t.s.sum /\ (tRecvF t x r).1.offered = t.offered := by
  unfold tRecvF tInfoF tAgainF tSuperF tFailF tFailureF
  repeat' split
  all_goals simp [piece_same]
theorem tSend_same (t : Tm) (b : List UInt8) : (tSendF t b).1.s.sum = t.s.sum /\ (tSendF t b).1.s.own = t.s.own /\ (tSendF t b).1.s.other = t.s.other /\ (tSendF t b).1.s.expect = t.s.expect /\ (tSendF t b).1.offered = t.offered /\ (tSendF t b).1.cause = t.cause := by
  unfold tSendF sendF
  split <;> simp [piece_same]
theorem tTime_same (t : Tm) : (tTimeF t).1.s = t.s /\ (tTimeF t).1.done = t.done /\ (tTimeF t).1.offered = t.offered := by
  unfold tTimeF tFailureF
  repeat' split
  all_goals exact ⟨rfl, rfl, rfl⟩
section
variable (N : Nat)
theorem cmd_len {c : Cd} (h : CdOK c) : (cCmdF c).1.length <= 9223372036854775807 := by
  have := h.inn
  unfold cCmdF
  split <;> simp <;> omega
theorem failS_eq {t : Tm} (h : TmOK t) : s_tFailedS N t.s.own t.cause = some t.cause := by
  have := h.s.own
  unfold s_tFailedS
  rw [br_dec, if_pos (by omega)]
end
end Go.Proofs.Ytilfphdeacogmaa.En

/- The engine, part 2j: functions that are given variables of which some hold closures over them; the closure of tlv.Text. -/
namespace Go.Proofs.Ytilfphdeacogmaa.En
open Go
set_option linter.unusedVariables false
section
variable {R : Type} {P : Program} {T : TypeId -> Option Ty} {cx : Cx}
def BRens (ps : List (Nat × Nat)) (Bs Bs₁ : List Bx) : Prop := ∀ (j : Nat) (p : Nat × Nat) B, ps[j]? = some p -> Bs[j]? = some B -> ∃ B₁, Bs₁[j]? = some B₁ /\ BRen (fun k s i => ps[i]? = some (p.1 + k, s)) B B₁
def ViewRet2 (P : Program) (T : TypeId -> Option Ty) (f : FuncId) (ds₁ : List D) (Bs₁ : List Bx) (rs : List D) (Bs₂ : List Bx) : Prop :=
  ∀ (ps : List (Nat × Nat)) (ds : List D) (m : Mem) (dst : Nat) (Bs Bs' : List Bx), (∀ (i j : Nat) (p : Nat × Nat), ps[i]? = some p -> ps[j]? = some p -> i = j) ->
    (∀ (j : Nat) (p : Nat × Nat), ps[j]? = some p -> ∃ B, m.box? p.1 p.2 = some B /\ Bs[j]? = some B) -> Bs.length = ps.length -> Bs'.length = ps.length -> Bs₁.length = ps.length -> ARens ps ds ds₁ -> BRens ps Bs Bs₁ -> BRens ps Bs' Bs₂ -> MemRet P T f dst ds m rs (setAll ps Bs' m)
theorem view_of2 (hm : P.follows .mixedOrders = true) (hcx : CxOK P cx) {f : FuncId} {fn : Func} (hf : P.funcs[f]? = some fn) (hb : fn.body = some (bodyOf fn)) (hro : (drawnOf (bodyOf fn)).all (orderB cx) = true) (hl : LoopsOK cx fn.ntmps (bodyOf fn))
    {ds₁ : List D} (hargs : Nat.ble ds₁.length fn.ntmps = true) {Bs₁ Bs₂ : List Bx} {α : Type} {rf : List D -> Mem -> Option α} {r : α} (h : bodyK cx fn ds₁ [frOf 0 Bs₁] rf = some r)
    {rs : List D} (hrs : ∀ rs' m', rf rs' m' = some r -> fars rs' = true /\ bares rs' = rs /\ ∃ own, m' = [own, frOf 0 Bs₂]) : ViewRet2 P cx.T f ds₁ Bs₁ rs Bs₂ := by
  intro ps ds m dst Bs Bs' hone hget hlB hlB' hlB₁ har hbr hbr'
  obtain ⟨a1, a2⟩ := har.get
  refine view_entry hcx hf hb (regionsOK_of hm hcx hro) hl (Nat.le_of_ble_eq_true hargs) hone (Bs₁ := Bs₁) (fun j p hj => ?_) hlB₁ a1 a2 h (by rw [hlB']) (fun rs' m' hr => ?_) dst
  . obtain ⟨B, h1, h2⟩ := hget j p hj
    obtain ⟨B₁, h3, h4⟩ := hbr j p B hj h2
    exact ⟨B, B₁, h1, h3, h4⟩
  . obtain ⟨b1, b2, own, b3⟩ := hrs rs' m' hr
    exact ⟨b1, b2, own, Bs₂, b3, fun j p B' hj hB => (hbr' j p B' hj hB).imp fun _ h => ⟨h.1, h.2.x⟩⟩
theorem bren_calm {Q : Nat -> Nat -> Nat -> Prop} {B : Bx} (h : B.cells.all D.calm = true) : BRen Q B B :=
  ⟨rfl, rfl, fun i c c₁ h1 h2 => by
    rw [h1] at h2
    injection h2 with h2
    subst h2
    exact calm_ren (List.all_eq_true.1 h c (List.mem_of_getElem? h1))⟩
end
end Go.Proofs.Ytilfphdeacogmaa.En
