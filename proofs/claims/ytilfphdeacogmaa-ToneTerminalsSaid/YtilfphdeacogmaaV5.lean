/- Several texts in one. -/
import Derived.Test.YtilfphdeacogmaaV4

set_option linter.unusedSimpArgs false
set_option linter.unusedVariables false
set_option linter.unusedSectionVars false
/- Functions of the program in plain Lean, joined to the program by evaluation; printed by a program. -/
namespace Go.Proofs.Ytilfphdeacogmaa.En
open Go Go.Proofs
set_option maxRecDepth 100000
set_option maxHeartbeats 8000000
set_option linter.unusedVariables false
noncomputable def e_clone {R : Type} (s : List UInt8 -> Option (List UInt8)) (ds : List D) (K : List D -> Option R) : Option R :=
  match ds with
  | [.v (.bytes x0) .no] => bnd1 (s x0) fun r0 => K [dY r0]
  | _ => none
abbrev Q_clone (s : List UInt8 -> Option (List UInt8)) : Prop := ∀ x0 r0, s x0 = some r0 -> PureRet Try.prog T 60 [dY x0] [dY r0]
theorem eo_clone (s : List UInt8 -> Option (List UInt8)) (hs : Q_clone s) : EntOK Try.prog T ⟨60, e_clone s⟩ := by
  refine ⟨goes_of Try.func60 (by kernel_rfl) (c := bodyOf Try.f60) (by kernel_rfl), fun R ds K r h => ?_, fun R ds K => ?_⟩
  . simp only [e_clone] at h
    split at h
    . obtain ⟨r0, h1, h2⟩ := bnd1_some h
      exact ⟨_, h2, hs _ _ h1⟩
    . cases h
  . simp only [e_clone]
    split
    . rw [bnd1_b]; rfl
    . rfl
abbrev Ty0 := Int -> Int -> Int -> Bool -> Int -> Bool -> List UInt8 -> Int -> Option (List UInt8 × Int)
noncomputable def e_bEncode {R : Type} (s : Ty0) (ds : List D) (K : List D -> Option R) : Option R :=
  match ds with
  | [.agg [.v (.int .i64 x0) .no, .v (.int .i64 x1) .no, .v (.int .i64 x2) .no, .v (.bool x3) .no, .v (.int .i64 x4) .no, .v (.bool x5) .no, .v (.bytes x6) .no], .v (.int .i64 x7) .no] => bnd2 (s x0 x1 x2 x3 x4 x5 x6 x7) fun r0 r1 => K [dY r0, dI r1]
  | _ => none
abbrev Q_bEncode (s : Ty0) : Prop := ∀ x0 x1 x2 x3 x4 x5 x6 x7 r0 r1, s x0 x1 x2 x3 x4 x5 x6 x7 = some (r0, r1) -> PureRet Try.prog T 95 [g0a x0 x1 x2 x3 x4 x5 x6, dI x7] [dY r0, dI r1]
theorem eo_bEncode (s : Ty0) (hs : Q_bEncode s) : EntOK Try.prog T ⟨95, e_bEncode s⟩ := by
  refine ⟨goes_of Try.func95 (by kernel_rfl) (c := bodyOf Try.f95) (by kernel_rfl), fun R ds K r h => ?_, fun R ds K => ?_⟩
  . simp only [e_bEncode] at h
    split at h
    . obtain ⟨r0, r1, h1, h2⟩ := bnd2_some h
      exact ⟨_, h2, hs _ _ _ _ _ _ _ _ _ _ h1⟩
    . cases h
  . simp only [e_bEncode]
    split
    . rw [bnd2_b]; rfl
    . rfl
abbrev Ty1 := List UInt8 -> Int -> Option (Int × Int × Int × Bool × Int × Bool × List UInt8 × Int)
noncomputable def e_bDecode {R : Type} (s : Ty1) (ds : List D) (K : List D -> Option R) : Option R :=
  match ds with
  | [.v (.bytes x0) .no, .v (.int .i64 x1) .no] => bnd8 (s x0 x1) fun r0 r1 r2 r3 r4 r5 r6 r7 => K [.agg [dI r0, dI r1, dI r2, dB r3, dI r4, dB r5, dY r6], dI r7]
  | _ => none
abbrev Q_bDecode (s : Ty1) : Prop := ∀ x0 x1 r0 r1 r2 r3 r4 r5 r6 r7, s x0 x1 = some (r0, r1, r2, r3, r4, r5, r6, r7) -> PureRet Try.prog T 79 [dY x0, dI x1] [g0a r0 r1 r2 r3 r4 r5 r6, dI r7]
theorem eo_bDecode (s : Ty1) (hs : Q_bDecode s) : EntOK Try.prog T ⟨79, e_bDecode s⟩ := by
  refine ⟨goes_of Try.func79 (by kernel_rfl) (c := bodyOf Try.f79) (by kernel_rfl), fun R ds K r h => ?_, fun R ds K => ?_⟩
  . simp only [e_bDecode] at h
    split at h
    . obtain ⟨r0, r1, r2, r3, r4, r5, r6, r7, h1, h2⟩ := bnd8_some h
      exact ⟨_, h2, hs _ _ _ _ _ _ _ _ _ _ h1⟩
    . cases h
  . simp only [e_bDecode]
    split
    . rw [bnd8_b]; rfl
    . rfl
abbrev Ty2 := Int -> Int -> Int -> Bool -> Int -> Bool -> List UInt8 -> Int -> Int -> Int -> Bool -> Int -> Bool -> List UInt8 -> Option (Bool)
noncomputable def e_bSame {R : Type} (s : Ty2) (ds : List D) (K : List D -> Option R) : Option R :=
  match ds with
  | [.agg [.v (.int .i64 x0) .no, .v (.int .i64 x1) .no, .v (.int .i64 x2) .no, .v (.bool x3) .no, .v (.int .i64 x4) .no, .v (.bool x5) .no, .v (.bytes x6) .no], .agg [.v (.int .i64 x7) .no, .v (.int .i64 x8) .no, .v (.int .i64 x9) .no, .v (.bool x10) .no, .v (.int .i64 x11) .no, .v (.bool x12) .no, .v (.bytes x13) .no]] => bnd1 (s x0 x1 x2 x3 x4 x5 x6 x7 x8 x9 x10 x11 x12 x13) fun r0 => K [dB r0]
  | _ => none
abbrev Q_bSame (s : Ty2) : Prop := ∀ x0 x1 x2 x3 x4 x5 x6 x7 x8 x9 x10 x11 x12 x13 r0, s x0 x1 x2 x3 x4 x5 x6 x7 x8 x9 x10 x11 x12 x13 = some r0 -> PureRet Try.prog T 45 [g0a x0 x1 x2 x3 x4 x5 x6, g0a x7 x8 x9 x10 x11 x12 x13] [dB r0]
theorem eo_bSame (s : Ty2) (hs : Q_bSame s) : EntOK Try.prog T ⟨45, e_bSame s⟩ := by
  refine ⟨goes_of Try.func45 (by kernel_rfl) (c := bodyOf Try.f45) (by kernel_rfl), fun R ds K r h => ?_, fun R ds K => ?_⟩
  . simp only [e_bSame] at h
    split at h
    . obtain ⟨r0, h1, h2⟩ := bnd1_some h
      exact ⟨_, h2, hs _ _ _ _ _ _ _ _ _ _ _ _ _ _ _ h1⟩
    . cases h
  . simp only [e_bSame]
    split
    . rw [bnd1_b]; rfl
    . rfl
noncomputable def e_rEncode6 {R : Type} (s : Ty0) (ds : List D) (K : List D -> Option R) : Option R :=
  match ds with
  | [.agg [.v (.int .i64 x0) .no, .v (.int .i64 x1) .no, .v (.int .i64 x2) .no, .v (.bool x3) .no, .v (.int .i64 x4) .no, .v (.bool x5) .no, .v (.bytes x6) .no], .v (.int .i64 x7) .no] => bnd2 (s x0 x1 x2 x3 x4 x5 x6 x7) fun r0 r1 => K [dY r0, dI r1]
  | _ => none
abbrev Q_rEncode6 (s : Ty0) : Prop := ∀ x0 x1 x2 x3 x4 x5 x6 x7 r0 r1, s x0 x1 x2 x3 x4 x5 x6 x7 = some (r0, r1) -> PureRet Try.prog T 25 [g0a x0 x1 x2 x3 x4 x5 x6, dI x7] [dY r0, dI r1]
theorem eo_rEncode6 (s : Ty0) (hs : Q_rEncode6 s) : EntOK Try.prog T ⟨25, e_rEncode6 s⟩ := by
  refine ⟨goes_of Try.func25 (by kernel_rfl) (c := bodyOf Try.f25) (by kernel_rfl), fun R ds K r h => ?_, fun R ds K => ?_⟩
  . simp only [e_rEncode6] at h
    split at h
    . obtain ⟨r0, r1, h1, h2⟩ := bnd2_some h
      exact ⟨_, h2, hs _ _ _ _ _ _ _ _ _ _ h1⟩
    . cases h
  . simp only [e_rEncode6]
    split
    . rw [bnd2_b]; rfl
    . rfl
noncomputable def e_rDecode6 {R : Type} (s : Ty1) (ds : List D) (K : List D -> Option R) : Option R :=
  match ds with
  | [.v (.bytes x0) .no, .v (.int .i64 x1) .no] => bnd8 (s x0 x1) fun r0 r1 r2 r3 r4 r5 r6 r7 => K [.agg [dI r0, dI r1, dI r2, dB r3, dI r4, dB r5, dY r6], dI r7]
  | _ => none
abbrev Q_rDecode6 (s : Ty1) : Prop := ∀ x0 x1 r0 r1 r2 r3 r4 r5 r6 r7, s x0 x1 = some (r0, r1, r2, r3, r4, r5, r6, r7) -> PureRet Try.prog T 61 [dY x0, dI x1] [g0a r0 r1 r2 r3 r4 r5 r6, dI r7]
theorem eo_rDecode6 (s : Ty1) (hs : Q_rDecode6 s) : EntOK Try.prog T ⟨61, e_rDecode6 s⟩ := by
  refine ⟨goes_of Try.func61 (by kernel_rfl) (c := bodyOf Try.f61) (by kernel_rfl), fun R ds K r h => ?_, fun R ds K => ?_⟩
  . simp only [e_rDecode6] at h
    split at h
    . obtain ⟨r0, r1, r2, r3, r4, r5, r6, r7, h1, h2⟩ := bnd8_some h
      exact ⟨_, h2, hs _ _ _ _ _ _ _ _ _ _ h1⟩
    . cases h
  . simp only [e_rDecode6]
    split
    . rw [bnd8_b]; rfl
    . rfl
noncomputable def e_cSize {R : Type} (s : Int -> Option (Int)) (ds : List D) (K : List D -> Option R) : Option R :=
  match ds with
  | [.v (.int .i64 x0) .no] => bnd1 (s x0) fun r0 => K [dI r0]
  | _ => none
noncomputable def r_cSize (rs : List D) (_ : Mem) : Option (Int) :=
  match rs with
  | [.v (.int .i64 r0) _] => some (r0)
  | _ => none
noncomputable def s_cSize (N : Nat) (x0 : Int) : Option (Int) := br (decide (x0 = 0)) (some 1) (br (decide (x0 = 1)) (some 2) (some 0))
noncomputable def cx_cSize (N : Nat) : Cx := cxO [] []
theorem s_cSize_ok (N : Nat) (x0 : _) : bodyK (cx_cSize N) Try.f78 [dI x0] [] r_cSize = s_cSize N x0 := by
  kernel_rfl
abbrev Q_cSize (s : Int -> Option (Int)) : Prop := ∀ x0 r0, s x0 = some r0 -> PureRet Try.prog T 78 [dI x0] [dI r0]
theorem eo_cSize (s : Int -> Option (Int)) (hs : Q_cSize s) : EntOK Try.prog T ⟨78, e_cSize s⟩ := by
  refine ⟨goes_of Try.func78 (by kernel_rfl) (c := bodyOf Try.f78) (by kernel_rfl), fun R ds K r h => ?_, fun R ds K => ?_⟩
  . simp only [e_cSize] at h
    split at h
    . obtain ⟨r0, h1, h2⟩ := bnd1_some h
      exact ⟨_, h2, hs _ _ h1⟩
    . cases h
  . simp only [e_cSize]
    split
    . rw [bnd1_b]; rfl
    . rfl
theorem p_cSize (N : Nat) : Q_cSize (s_cSize N) := fun x0 r0 h => pure_of (cx := cx_cSize N) (by kernel_rfl) (cxO_ok trivial trivial) Try.func78 (by kernel_rfl) (by kernel_rfl) (loopsOK_of (k := 0) (by kernel_rfl) trivial) (by rfl) (by rfl) (by rfl) (rf := r_cSize) ((s_cSize_ok ..).trans h) (fun rs' m h => by
    unfold r_cSize at h
    split at h
    . cases h; exact ⟨rfl, rfl⟩
    . cases h)
noncomputable def e_oSplit {R : Type} (s : List UInt8 -> Int -> Option (List V × Int)) (ds : List D) (K : List D -> Option R) : Option R :=
  match ds with
  | [.v (.bytes x0) .no, .v (.int .i64 x1) .no] => bnd2 (s x0 x1) fun r0 r1 => K [.v (.sl 27 r0) .no, dI r1]
  | _ => none
noncomputable def r_oSplit (rs : List D) (_ : Mem) : Option (List V × Int) :=
  match rs with
  | [.v (.sl 27 r0) _, .v (.int .i64 r1) _] => some (r0, r1)
  | _ => none
noncomputable def F_oSplit_5 {R : Type} (N : Nat) (n0 : Int) (Lq : List V -> List UInt8 -> Option R) (K0 : List V -> Option R) (vs1 : List V) (l2 : List UInt8) : Option R := br (decide (0 < (l2.length : Int))) (br (decide (0 <= match false with | true => max n0 (l2.length : Int) | false => min n0 (l2.length : Int)) && decide ((match false with | true => max n0 (l2.length : Int) | false => min n0 (l2.length : Int)) <= (l2.length : Int))) (bnd1 (s_clone N (List.take (match false with | true => max n0 (l2.length : Int) | false => min n0 (l2.length : Int)).toNat l2)) fun l0 => br (decide ((vs1.length + [V.bytes l0].length) * 24 <= 140737488355328)) (br (decide (0 <= match false with | true => max n0 (l2.length : Int) | false => min n0 (l2.length : Int)) && decide ((match false with | true => max n0 (l2.length : Int) | false => min n0 (l2.length : Int)) <= (l2.length : Int))) (Lq (vs1 ++ [V.bytes l0]) (List.drop (match false with | true => max n0 (l2.length : Int) | false => min n0 (l2.length : Int)).toNat l2)) none) none) none) (K0 vs1)
noncomputable def S_oSplit_5 {R : Type} (N : Nat) (n0 : Int) : Nat -> List V -> List UInt8 -> (List V -> Option R) -> Option R | 0, _, _, _ => none | t + 1, vs1, l2, K0 => F_oSplit_5 N n0 (fun vs1 l2 => S_oSplit_5 N n0 t vs1 l2 K0) K0 vs1 l2
noncomputable def l_oSplit_5 {R : Type} (N : Nat) (ds : List D) (m : Mem) (K : Ex -> List D -> Mem -> Option R) : Option R :=
  match ds, m with
  | [(.v (.int .i64 n0) .no), (.v (.sl 27 vs1) (.own (.slot 6) 27)), (.v (.bytes l2) .no)], [[]] => S_oSplit_5 N n0 N vs1 l2 (fun a0 => K (.exit 0) [(.v (.sl 27 a0) (.own (.slot 6) 27))] [[]])
  | _, _ => none
noncomputable def s_oSplit (N : Nat) (x0 : List UInt8) (x1 : Int) : Option (List V × Int) := br (decide (x1 < 1)) (some ([], 1)) (S_oSplit_5 N x1 N [] x0 fun l0 => some (l0, 0))
noncomputable def cx_oSplit (N : Nat) : Cx := { T := T, isPure := tabP [⟨60, e_clone (s_clone N)⟩], pureK := fun g ds K => tabK [⟨60, e_clone (s_clone N)⟩] g ds K, memK := fun g dst ds m K => tabMK [] g dst ds m K, meth := tabM [], keep := fun r => match r with | 5 => [1, 6, 7] | _ => [], keepX := fun r => match r with | 5 => [6] | _ => [], loopT := fun r ds m K => match r with | 5 => l_oSplit_5 N ds m K | _ => none, jumps := 9 }
theorem F_oSplit_5_ok {R : Type} (N : Nat) (n0 : Int) (vs1 : List V) (l2 : List UInt8) (L : List D -> Mem -> Option R) (K : Ex -> List D -> Mem -> Option R) :
    roundK (fun st K => codeK (cx_oSplit N) (loopN Try.f85 0) st K) 30 [1, 6, 7] [6] L [(dI n0), (.v (.sl 27 vs1) (.own (.slot 6) 27)), (dY l2)] [[]] K = F_oSplit_5 N n0 (fun vs1 l2 => L [(dI n0), (.v (.sl 27 vs1) (.own (.slot 6) 27)), (dY l2)] [[]]) (fun a0 => K (.exit 0) [(.v (.sl 27 a0) (.own (.slot 6) 27))] [[]]) vs1 l2 := by
  kernel_rfl
theorem S_oSplit_5_ok {R : Type} (N : Nat) (n0 : Int) (K : Ex -> List D -> Mem -> Option R) : ∀ (t : Nat) (vs1 : List V) (l2 : List UInt8),
    loopK (fun st K => codeK (cx_oSplit N) (loopN Try.f85 0) st K) 30 [1, 6, 7] [6] t [(dI n0), (.v (.sl 27 vs1) (.own (.slot 6) 27)), (dY l2)] [[]] K = S_oSplit_5 N n0 t vs1 l2 (fun a0 => K (.exit 0) [(.v (.sl 27 a0) (.own (.slot 6) 27))] [[]])
  | 0, vs1, l2 => rfl
  | t + 1, vs1, l2 => (F_oSplit_5_ok N n0 vs1 l2 _ K).trans (congrArg (fun L => F_oSplit_5 N n0 L (fun a0 => K (.exit 0) [(.v (.sl 27 a0) (.own (.slot 6) 27))] [[]]) vs1 l2) (funext fun vs1 => funext fun l2 => S_oSplit_5_ok N n0 K t vs1 l2))
theorem s_oSplit_ok (N : Nat) (x0 x1 : _) : bodyK (cx_oSplit N) Try.f85 [dY x0, dI x1] [] r_oSplit = s_oSplit N x0 x1 := by
  kernel_rfl
abbrev Q_oSplit (s : List UInt8 -> Int -> Option (List V × Int)) : Prop := ∀ x0 x1 r0 r1, s x0 x1 = some (r0, r1) -> PureRet Try.prog T 85 [dY x0, dI x1] [.v (.sl 27 r0) .no, dI r1]
theorem eo_oSplit (s : List UInt8 -> Int -> Option (List V × Int)) (hs : Q_oSplit s) : EntOK Try.prog T ⟨85, e_oSplit s⟩ := by
  refine ⟨goes_of Try.func85 (by kernel_rfl) (c := bodyOf Try.f85) (by kernel_rfl), fun R ds K r h => ?_, fun R ds K => ?_⟩
  . simp only [e_oSplit] at h
    split at h
    . obtain ⟨r0, r1, h1, h2⟩ := bnd2_some h
      exact ⟨_, h2, hs _ _ _ _ h1⟩
    . cases h
  . simp only [e_oSplit]
    split
    . rw [bnd2_b]; rfl
    . rfl
theorem co_oSplit (N : Nat) : CxOK Try.prog (cx_oSplit N) :=
  cxOK_of2 (es := [⟨60, e_clone (s_clone N)⟩]) (me := []) (ms := []) T_ok ⟨eo_clone _ (p_clone N), trivial⟩ trivial trivial rfl (fun _ _ _ _ => rfl) (fun _ _ _ _ _ _ => rfl) rfl
theorem lk_oSplit_5 (N : Nat) : LoopOK (cx_oSplit N) 30 (loopN Try.f85 0) := by
  refine loopOK_of (rid := 5) (by kernel_rfl) rfl rfl fun R ds m K r h => ?_
  have h : l_oSplit_5 N ds m K = some r := h
  unfold l_oSplit_5 at h
  split at h
  . exact ⟨N, Eq.trans (S_oSplit_5_ok ..) h⟩
  . cases h
theorem lo_oSplit (N : Nat) : LoopsOK (cx_oSplit N) Try.f85.ntmps (bodyOf Try.f85) :=
  loopsOK_of (k := 1) (by kernel_rfl) ⟨trivial, lk_oSplit_5 N⟩
theorem p_oSplit (N : Nat) : Q_oSplit (s_oSplit N) := fun x0 x1 r0 r1 h => pure_of (cx := cx_oSplit N) (by kernel_rfl) (co_oSplit N) Try.func85 (by kernel_rfl) (by kernel_rfl) (lo_oSplit N) (by rfl) (by rfl) (by rfl) (rf := r_oSplit) ((s_oSplit_ok ..).trans h) (fun rs' m h => by
    unfold r_oSplit at h
    split at h
    . cases h; exact ⟨rfl, rfl⟩
    . cases h)
noncomputable def e_valid {R : Type} (s : Int -> Int -> Option (Bool)) (ds : List D) (K : List D -> Option R) : Option R :=
  match ds with
  | [.v (.int .i64 x0) .no, .v (.int .i64 x1) .no] => bnd1 (s x0 x1) fun r0 => K [dB r0]
  | _ => none
noncomputable def r_valid (rs : List D) (_ : Mem) : Option (Bool) :=
  match rs with
  | [.v (.bool r0) _] => some (r0)
  | _ => none
noncomputable def s_valid (N : Nat) (x0 x1 : Int) : Option (Bool) := br (decide (1 <= x0)) (br (decide (x0 <= 254)) (bnd1 (s_cSize N x1) fun n0 => some (decide (0 < n0))) (some false)) (some false)
noncomputable def cx_valid (N : Nat) : Cx := cxO [⟨78, e_cSize (s_cSize N)⟩] []
theorem s_valid_ok (N : Nat) (x0 x1 : _) : bodyK (cx_valid N) Try.f41 [dI x0, dI x1] [] r_valid = s_valid N x0 x1 := by
  kernel_rfl
abbrev Q_valid (s : Int -> Int -> Option (Bool)) : Prop := ∀ x0 x1 r0, s x0 x1 = some r0 -> PureRet Try.prog T 41 [dI x0, dI x1] [dB r0]
theorem eo_valid (s : Int -> Int -> Option (Bool)) (hs : Q_valid s) : EntOK Try.prog T ⟨41, e_valid s⟩ := by
  refine ⟨goes_of Try.func41 (by kernel_rfl) (c := bodyOf Try.f41) (by kernel_rfl), fun R ds K r h => ?_, fun R ds K => ?_⟩
  . simp only [e_valid] at h
    split at h
    . obtain ⟨r0, h1, h2⟩ := bnd1_some h
      exact ⟨_, h2, hs _ _ _ h1⟩
    . cases h
  . simp only [e_valid]
    split
    . rw [bnd1_b]; rfl
    . rfl
theorem p_valid (N : Nat) : Q_valid (s_valid N) := fun x0 x1 r0 h => pure_of (cx := cx_valid N) (by kernel_rfl) (cxO_ok ⟨eo_cSize _ (p_cSize N), trivial⟩ trivial) Try.func41 (by kernel_rfl) (by kernel_rfl) (loopsOK_of (k := 0) (by kernel_rfl) trivial) (by rfl) (by rfl) (by rfl) (rf := r_valid) ((s_valid_ok ..).trans h) (fun rs' m h => by
    unfold r_valid at h
    split at h
    . cases h; exact ⟨rfl, rfl⟩
    . cases h)
abbrev Ty3 := Int -> Int -> Int -> Bool -> Int -> Bool -> List UInt8 -> Option (Int)
noncomputable def e_tsize {R : Type} (s : Ty3) (ds : List D) (K : List D -> Option R) : Option R :=
  match ds with
  | [.agg [.v (.int .i64 x0) .no, .v (.int .i64 x1) .no, .v (.int .i64 x2) .no, .v (.bool x3) .no, .v (.int .i64 x4) .no, .v (.bool x5) .no, .v (.bytes x6) .no]] => bnd1 (s x0 x1 x2 x3 x4 x5 x6) fun r0 => K [dI r0]
  | _ => none
noncomputable def s_tsize (N : Nat) (x0 x1 x2 : Int) (x3 : Bool) (x4 : Int) (x5 : Bool) (x6 : List UInt8) : Option (Int) := br (!decide ((x6.length : Int) = 1)) (some 0) (br (decide (0 < (x6.length : Int))) (at? x6 0 fun u0 => br (decide (254 < IntKind.i64.wrap (u0.toNat : Int))) (some 0) (br (decide (0 < (x6.length : Int))) (at? x6 0 fun u1 => some (IntKind.i64.wrap (u1.toNat : Int))) none)) none)
noncomputable def cx_tsize (N : Nat) : Cx := cxO [] []
theorem s_tsize_ok (N : Nat) (x0 x1 x2 x3 x4 x5 x6 : _) : bodyK (cx_tsize N) Try.f83 [g0a x0 x1 x2 x3 x4 x5 x6] [] r_cSize = s_tsize N x0 x1 x2 x3 x4 x5 x6 := by
  kernel_rfl
abbrev Q_tsize (s : Ty3) : Prop := ∀ x0 x1 x2 x3 x4 x5 x6 r0, s x0 x1 x2 x3 x4 x5 x6 = some r0 -> PureRet Try.prog T 83 [g0a x0 x1 x2 x3 x4 x5 x6] [dI r0]
theorem eo_tsize (s : Ty3) (hs : Q_tsize s) : EntOK Try.prog T ⟨83, e_tsize s⟩ := by
  refine ⟨goes_of Try.func83 (by kernel_rfl) (c := bodyOf Try.f83) (by kernel_rfl), fun R ds K r h => ?_, fun R ds K => ?_⟩
  . simp only [e_tsize] at h
    split at h
    . obtain ⟨r0, h1, h2⟩ := bnd1_some h
      exact ⟨_, h2, hs _ _ _ _ _ _ _ _ h1⟩
    . cases h
  . simp only [e_tsize]
    split
    . rw [bnd1_b]; rfl
    . rfl
theorem p_tsize (N : Nat) : Q_tsize (s_tsize N) := fun x0 x1 x2 x3 x4 x5 x6 r0 h => pure_of (cx := cx_tsize N) (by kernel_rfl) (cxO_ok trivial trivial) Try.func83 (by kernel_rfl) (by kernel_rfl) (loopsOK_of (k := 0) (by kernel_rfl) trivial) (by rfl) (by rfl) (by rfl) (rf := r_cSize) ((s_tsize_ok ..).trans h) (fun rs' m h => by
    unfold r_cSize at h
    split at h
    . cases h; exact ⟨rfl, rfl⟩
    . cases h)
abbrev Ty4 := Int -> Int -> Int -> Int -> Int -> List UInt8 -> Int -> List V -> List UInt8 -> Int -> List UInt8 -> Option (Bool)
noncomputable def e_cMade {R : Type} (s : Ty4) (dst : Nat) (ds : List D) (m : Mem) (K : List D -> Mem -> Option R) : Option R :=
  match ds with
  | [.ptr (kv0 + 1) sv0 0] => viewK [(kv0, sv0)] m fun Bs => (match Bs with
    | [⟨77, [.v (.int .i64 y0) .no, .v (.int .i64 y1) .no, .v (.int .i64 y2) .no, .v (.int .i64 y3) .no, .v (.int .i64 y4) .no, .v (.bytes y5) _, .v (.int .i64 y6) .no, .v (.sl 27 y7) _, .v (.bytes y8) (.own (.slot 0) 5), .v (.int .i64 y9) .no, .v (.bytes y10) _]⟩] => bnd1 (s y0 y1 y2 y3 y4 y5 y6 y7 y8 y9 y10) fun r0 => putAllK [(kv0, sv0)] [⟨77, [.v (.int .i64 y0) .no, .v (.int .i64 y1) .no, .v (.int .i64 y2) .no, .v (.int .i64 y3) .no, .v (.int .i64 y4) .no, .v (.bytes y5) .no, .v (.int .i64 y6) .no, .v (.sl 27 y7) .no, .v (.bytes y8) (.own (.slot 0) 5), .v (.int .i64 y9) .no, .v (.bytes y10) .no]⟩] m fun m' => K [.v (.bool r0) .no] m'
    | _ => none)
  | _ => none
noncomputable def r_cMade {α : Type} (K : Bool -> Int -> Int -> Int -> Int -> Int -> List UInt8 -> Int -> List V -> List UInt8 -> Int -> List UInt8 -> Option α) (rs : List D) (m : Mem) : Option α :=
  match rs, m with
  | [.v (.bool r0) _], [_, [(0, ⟨77, [.v (.int .i64 z0) .no, .v (.int .i64 z1) .no, .v (.int .i64 z2) .no, .v (.int .i64 z3) .no, .v (.int .i64 z4) .no, .v (.bytes z5) _, .v (.int .i64 z6) .no, .v (.sl 27 z7) _, .v (.bytes z8) (.own (.slot 0) 5), .v (.int .i64 z9) .no, .v (.bytes z10) _]⟩)]] => K r0 z0 z1 z2 z3 z4 z5 z6 z7 z8 z9 z10
  | _, _ => none
noncomputable def C_cMade {R : Type} (N : Nat) (y0 y1 y2 y3 y4 : Int) (y5 : List UInt8) (y6 : Int) (y7 : List V) (y8 : List UInt8) (y9 : Int) (y10 : List UInt8) (K0 : Bool -> Option R) : Option R := K0 (decide (0 < y1))
noncomputable def s_cMade (N : Nat) (y0 y1 y2 y3 y4 : Int) (y5 : List UInt8) (y6 : Int) (y7 : List V) (y8 : List UInt8) (y9 : Int) (y10 : List UInt8) : Option (Bool) := C_cMade N y0 y1 y2 y3 y4 y5 y6 y7 y8 y9 y10 (fun r0 => some r0)
noncomputable def cx_cMade (N : Nat) : Cx := cxO [] []
abbrev g1a (a0 a1 a2 a3 a4 : Int) (a5 : List UInt8) (a6 : Int) (a7 : List V) (a8 : List UInt8) (a9 : Int) (a10 : List UInt8) : Bx := ⟨77, [dI a0, dI a1, dI a2, dI a3, dI a4, dY a5, dI a6, .v (.sl 27 a7) .no, .v (.bytes a8) (.own (.slot 0) 5), dI a9, dY a10]⟩
theorem C_cMade_ok {R : Type} (N : Nat) (y0 y1 y2 y3 y4 y5 y6 y7 y8 y9 y10 K : _) : bodyK (R := R) (cx_cMade N) Try.f43 [.ptr 1 0 0] [frOf 0 [g1a y0 y1 y2 y3 y4 y5 y6 y7 y8 y9 y10]] (r_cMade K) = C_cMade N y0 y1 y2 y3 y4 y5 y6 y7 y8 y9 y10 (fun r0 => K r0 y0 y1 y2 y3 y4 y5 y6 y7 y8 y9 y10) := by
  kernel_rfl
abbrev Q_cMade (s : Ty4) : Prop := ∀ y0 y1 y2 y3 y4 y5 y6 y7 y8 y9 y10 r0, s y0 y1 y2 y3 y4 y5 y6 y7 y8 y9 y10 = some r0 -> ViewRet Try.prog T 43 [.ptr 1 0 0] [g1a y0 y1 y2 y3 y4 y5 y6 y7 y8 y9 y10] [dB r0] [g1a y0 y1 y2 y3 y4 y5 y6 y7 y8 y9 y10]
theorem eo_cMade (s : Ty4) (hs : Q_cMade s) : MEntOK Try.prog T ⟨43, e_cMade s⟩ := by
  refine ⟨goes_of Try.func43 (by kernel_rfl) (c := bodyOf Try.f43) (by kernel_rfl), fun R dst ds m K r h => ?_⟩
  simp only [e_cMade] at h
  split at h
  . obtain ⟨Bs, a1, a2, a3, h⟩ := viewK_some h
    split at h
    . obtain ⟨r0, h1, h2⟩ := bnd1_some h
      rw [putAllK_eq] at h2
      exact ⟨_, _, h2, ViewRet.weakIn (hs _ _ _ _ _ _ _ _ _ _ _ _ h1) (by exact ⟨⟨rfl, .inl rfl, .inl rfl, .inl rfl, .inl rfl, .inl rfl, .inr ⟨_, _, rfl, rfl⟩, .inl rfl, .inr ⟨_, _, rfl, rfl⟩, .inl rfl, .inl rfl, .inr ⟨_, _, rfl, rfl⟩, trivial⟩, trivial⟩) rfl _ _ m dst a1 a2 a3 ⟨aren_ptr _ rfl, trivial⟩⟩
    . cases h
  . cases h
open Classical in
theorem p_cMade (N : Nat) : Q_cMade (s_cMade N) := fun y0 y1 y2 y3 y4 y5 y6 y7 y8 y9 y10 r0 h => by
  refine view_ofW (cx := cx_cMade N) (by kernel_rfl) (cxO_ok trivial trivial) Try.func43 (by kernel_rfl) (by kernel_rfl) (loopsOK_of (k := 0) (by kernel_rfl) trivial) (by rfl) (by rfl) (by rfl) (rf := r_cMade (fun r0' z'0 z'1 z'2 z'3 z'4 z'5 z'6 z'7 z'8 z'9 z'10 => if z'0 = y0 /\ z'1 = y1 /\ z'2 = y2 /\ z'3 = y3 /\ z'4 = y4 /\ z'5 = y5 /\ z'6 = y6 /\ z'7 = y7 /\ z'8 = y8 /\ z'9 = y9 /\ z'10 = y10 then some r0' else none)) (r := r0) ?_ ?_
  . exact (C_cMade_ok ..).trans ((congrArg (fun K => C_cMade N y0 y1 y2 y3 y4 y5 y6 y7 y8 y9 y10 K) (funext fun r0' => if_pos ⟨rfl, rfl, rfl, rfl, rfl, rfl, rfl, rfl, rfl, rfl, rfl⟩)).trans h)
  . intro rs' m' hx
    unfold r_cMade at hx
    split at hx
    . dsimp only at hx
      split at hx
      . rename_i hk
        obtain ⟨rfl, rfl, rfl, rfl, rfl, rfl, rfl, rfl, rfl, rfl, rfl⟩ := hk
        cases hx; exact ⟨rfl, rfl, _, [⟨77, [_, _, _, _, _, _, _, _, _, _, _]⟩], rfl, rfl, ⟨⟨rfl, .inl rfl, .inl rfl, .inl rfl, .inl rfl, .inl rfl, .inr ⟨_, _, rfl, rfl⟩, .inl rfl, .inr ⟨_, _, rfl, rfl⟩, .inl rfl, .inl rfl, .inr ⟨_, _, rfl, rfl⟩, trivial⟩, trivial⟩⟩
      . cases hx
    . cases hx
abbrev Ty5 := Int -> Int -> Int -> Bool -> Int -> Bool -> List UInt8 -> Int -> Int -> Int -> Int -> Int -> List UInt8 -> Int -> List V -> List UInt8 -> Int -> List UInt8 -> Option (List UInt8)
noncomputable def e_cEnc {R : Type} (s : Ty5) (dst : Nat) (ds : List D) (m : Mem) (K : List D -> Mem -> Option R) : Option R :=
  match ds with
  | [.ptr (kv0 + 1) sv0 0, .agg [.v (.int .i64 x0) .no, .v (.int .i64 x1) .no, .v (.int .i64 x2) .no, .v (.bool x3) .no, .v (.int .i64 x4) .no, .v (.bool x5) .no, .v (.bytes x6) .no]] => viewK [(kv0, sv0)] m fun Bs => (match Bs with
    | [⟨77, [.v (.int .i64 y0) .no, .v (.int .i64 y1) .no, .v (.int .i64 y2) .no, .v (.int .i64 y3) .no, .v (.int .i64 y4) .no, .v (.bytes y5) _, .v (.int .i64 y6) .no, .v (.sl 27 y7) _, .v (.bytes y8) (.own (.slot 0) 5), .v (.int .i64 y9) .no, .v (.bytes y10) _]⟩] => bnd1 (s x0 x1 x2 x3 x4 x5 x6 y0 y1 y2 y3 y4 y5 y6 y7 y8 y9 y10) fun r0 => putAllK [(kv0, sv0)] [⟨77, [.v (.int .i64 y0) .no, .v (.int .i64 y1) .no, .v (.int .i64 y2) .no, .v (.int .i64 y3) .no, .v (.int .i64 y4) .no, .v (.bytes y5) .no, .v (.int .i64 y6) .no, .v (.sl 27 y7) .no, .v (.bytes y8) (.own (.slot 0) 5), .v (.int .i64 y9) .no, .v (.bytes y10) .no]⟩] m fun m' => K [.v (.bytes r0) .no] m'
    | _ => none)
  | _ => none
noncomputable def r_cEnc {α : Type} (K : List UInt8 -> Int -> Int -> Int -> Int -> Int -> List UInt8 -> Int -> List V -> List UInt8 -> Int -> List UInt8 -> Option α) (rs : List D) (m : Mem) : Option α :=
  match rs, m with
  | [.v (.bytes r0) _], [_, [(0, ⟨77, [.v (.int .i64 z0) .no, .v (.int .i64 z1) .no, .v (.int .i64 z2) .no, .v (.int .i64 z3) .no, .v (.int .i64 z4) .no, .v (.bytes z5) _, .v (.int .i64 z6) .no, .v (.sl 27 z7) _, .v (.bytes z8) (.own (.slot 0) 5), .v (.int .i64 z9) .no, .v (.bytes z10) _]⟩)]] => K r0 z0 z1 z2 z3 z4 z5 z6 z7 z8 z9 z10
  | _, _ => none
noncomputable def C_cEnc {R : Type} (N : Nat) (x0 x1 x2 : Int) (x3 : Bool) (x4 : Int) (x5 : Bool) (x6 : List UInt8) (y0 y1 y2 y3 y4 : Int) (y5 : List UInt8) (y6 : Int) (y7 : List V) (y8 : List UInt8) (y9 : Int) (y10 : List UInt8) (K0 : List UInt8 -> Option R) : Option R := bnd2 (s_bEncode N x0 x1 x2 x3 x4 x5 x6 y0) fun l0 n1 => K0 l0
noncomputable def s_cEnc (N : Nat) (x0 x1 x2 : Int) (x3 : Bool) (x4 : Int) (x5 : Bool) (x6 : List UInt8) (y0 y1 y2 y3 y4 : Int) (y5 : List UInt8) (y6 : Int) (y7 : List V) (y8 : List UInt8) (y9 : Int) (y10 : List UInt8) : Option (List UInt8) := C_cEnc N x0 x1 x2 x3 x4 x5 x6 y0 y1 y2 y3 y4 y5 y6 y7 y8 y9 y10 (fun r0 => some r0)
noncomputable def cx_cEnc (N : Nat) : Cx := cxO [⟨95, e_bEncode (s_bEncode N)⟩] []
theorem C_cEnc_ok {R : Type} (N : Nat) (x0 x1 x2 x3 x4 x5 x6 y0 y1 y2 y3 y4 y5 y6 y7 y8 y9 y10 K : _) : bodyK (R := R) (cx_cEnc N) Try.f81 [.ptr 1 0 0, g0a x0 x1 x2 x3 x4 x5 x6] [frOf 0 [g1a y0 y1 y2 y3 y4 y5 y6 y7 y8 y9 y10]] (r_cEnc K) = C_cEnc N x0 x1 x2 x3 x4 x5 x6 y0 y1 y2 y3 y4 y5 y6 y7 y8 y9 y10 (fun r0 => K r0 y0 y1 y2 y3 y4 y5 y6 y7 y8 y9 y10) := by
  kernel_rfl
abbrev Q_cEnc (s : Ty5) : Prop := ∀ x0 x1 x2 x3 x4 x5 x6 y0 y1 y2 y3 y4 y5 y6 y7 y8 y9 y10 r0, s x0 x1 x2 x3 x4 x5 x6 y0 y1 y2 y3 y4 y5 y6 y7 y8 y9 y10 = some r0 -> ViewRet Try.prog T 81 [.ptr 1 0 0, g0a x0 x1 x2 x3 x4 x5 x6] [g1a y0 y1 y2 y3 y4 y5 y6 y7 y8 y9 y10] [dY r0] [g1a y0 y1 y2 y3 y4 y5 y6 y7 y8 y9 y10]
theorem eo_cEnc (s : Ty5) (hs : Q_cEnc s) : MEntOK Try.prog T ⟨81, e_cEnc s⟩ := by
  refine ⟨goes_of Try.func81 (by kernel_rfl) (c := bodyOf Try.f81) (by kernel_rfl), fun R dst ds m K r h => ?_⟩
  simp only [e_cEnc] at h
  split at h
  . obtain ⟨Bs, a1, a2, a3, h⟩ := viewK_some h
    split at h
    . obtain ⟨r0, h1, h2⟩ := bnd1_some h
      rw [putAllK_eq] at h2
      exact ⟨_, _, h2, ViewRet.weakIn (hs _ _ _ _ _ _ _ _ _ _ _ _ _ _ _ _ _ _ _ h1) (by exact ⟨⟨rfl, .inl rfl, .inl rfl, .inl rfl, .inl rfl, .inl rfl, .inr ⟨_, _, rfl, rfl⟩, .inl rfl, .inr ⟨_, _, rfl, rfl⟩, .inl rfl, .inl rfl, .inr ⟨_, _, rfl, rfl⟩, trivial⟩, trivial⟩) rfl _ _ m dst a1 a2 a3 ⟨aren_ptr _ rfl, aren_agg ⟨aren_v _, aren_v _, aren_v _, aren_v _, aren_v _, aren_v _, aren_v _, trivial⟩, trivial⟩⟩
    . cases h
  . cases h
open Classical in
theorem p_cEnc (N : Nat) : Q_cEnc (s_cEnc N) := fun x0 x1 x2 x3 x4 x5 x6 y0 y1 y2 y3 y4 y5 y6 y7 y8 y9 y10 r0 h => by
  refine view_ofW (cx := cx_cEnc N) (by kernel_rfl) (cxO_ok ⟨eo_bEncode _ (p_bEncode N), trivial⟩ trivial) Try.func81 (by kernel_rfl) (by kernel_rfl) (loopsOK_of (k := 0) (by kernel_rfl) trivial) (by rfl) (by rfl) (by rfl) (rf := r_cEnc (fun r0' z'0 z'1 z'2 z'3 z'4 z'5 z'6 z'7 z'8 z'9 z'10 => if z'0 = y0 /\ z'1 = y1 /\ z'2 = y2 /\ z'3 = y3 /\ z'4 = y4 /\ z'5 = y5 /\ z'6 = y6 /\ z'7 = y7 /\ z'8 = y8 /\ z'9 = y9 /\ z'10 = y10 then some r0' else none)) (r := r0) ?_ ?_
  . exact (C_cEnc_ok ..).trans ((congrArg (fun K => C_cEnc N x0 x1 x2 x3 x4 x5 x6 y0 y1 y2 y3 y4 y5 y6 y7 y8 y9 y10 K) (funext fun r0' => if_pos ⟨rfl, rfl, rfl, rfl, rfl, rfl, rfl, rfl, rfl, rfl, rfl⟩)).trans h)
  . intro rs' m' hx
    unfold r_cEnc at hx
    split at hx
    . dsimp only at hx
      split at hx
      . rename_i hk
        obtain ⟨rfl, rfl, rfl, rfl, rfl, rfl, rfl, rfl, rfl, rfl, rfl⟩ := hk
        cases hx; exact ⟨rfl, rfl, _, [⟨77, [_, _, _, _, _, _, _, _, _, _, _]⟩], rfl, rfl, ⟨⟨rfl, .inl rfl, .inl rfl, .inl rfl, .inl rfl, .inl rfl, .inr ⟨_, _, rfl, rfl⟩, .inl rfl, .inr ⟨_, _, rfl, rfl⟩, .inl rfl, .inl rfl, .inr ⟨_, _, rfl, rfl⟩, trivial⟩, trivial⟩⟩
      . cases hx
    . cases hx
abbrev Ty6 := List UInt8 -> Int -> Int -> Int -> Int -> Int -> List UInt8 -> Int -> List V -> List UInt8 -> Int -> List UInt8 -> Option (Int × Int × Int × Bool × Int × Bool × List UInt8 × Int)
noncomputable def e_cDecode {R : Type} (s : Ty6) (dst : Nat) (ds : List D) (m : Mem) (K : List D -> Mem -> Option R) : Option R :=
  match ds with
  | [.ptr (kv0 + 1) sv0 0, .v (.bytes x0) .no] => viewK [(kv0, sv0)] m fun Bs => (match Bs with
    | [⟨77, [.v (.int .i64 y0) .no, .v (.int .i64 y1) .no, .v (.int .i64 y2) .no, .v (.int .i64 y3) .no, .v (.int .i64 y4) .no, .v (.bytes y5) _, .v (.int .i64 y6) .no, .v (.sl 27 y7) _, .v (.bytes y8) (.own (.slot 0) 5), .v (.int .i64 y9) .no, .v (.bytes y10) _]⟩] => bnd8 (s x0 y0 y1 y2 y3 y4 y5 y6 y7 y8 y9 y10) fun r0 r1 r2 r3 r4 r5 r6 r7 => putAllK [(kv0, sv0)] [⟨77, [.v (.int .i64 y0) .no, .v (.int .i64 y1) .no, .v (.int .i64 y2) .no, .v (.int .i64 y3) .no, .v (.int .i64 y4) .no, .v (.bytes y5) .no, .v (.int .i64 y6) .no, .v (.sl 27 y7) .no, .v (.bytes y8) (.own (.slot 0) 5), .v (.int .i64 y9) .no, .v (.bytes y10) .no]⟩] m fun m' => K [.agg [.v (.int .i64 r0) .no, .v (.int .i64 r1) .no, .v (.int .i64 r2) .no, .v (.bool r3) .no, .v (.int .i64 r4) .no, .v (.bool r5) .no, .v (.bytes r6) .no], .v (.int .i64 r7) .no] m'
    | _ => none)
  | _ => none
noncomputable def r_cDecode {α : Type} (K : Int -> Int -> Int -> Bool -> Int -> Bool -> List UInt8 -> Int -> Int -> Int -> Int -> Int -> Int -> List UInt8 -> Int -> List V -> List UInt8 -> Int -> List UInt8 -> Option α) (rs : List D) (m : Mem) : Option α :=
  match rs, m with
  | [.agg [.v (.int .i64 r0) _, .v (.int .i64 r1) _, .v (.int .i64 r2) _, .v (.bool r3) _, .v (.int .i64 r4) _, .v (.bool r5) _, .v (.bytes r6) _], .v (.int .i64 r7) _], [_, [(0, ⟨77, [.v (.int .i64 z0) .no, .v (.int .i64 z1) .no, .v (.int .i64 z2) .no, .v (.int .i64 z3) .no, .v (.int .i64 z4) .no, .v (.bytes z5) _, .v (.int .i64 z6) .no, .v (.sl 27 z7) _, .v (.bytes z8) (.own (.slot 0) 5), .v (.int .i64 z9) .no, .v (.bytes z10) _]⟩)]] => K r0 r1 r2 r3 r4 r5 r6 r7 z0 z1 z2 z3 z4 z5 z6 z7 z8 z9 z10
  | _, _ => none
noncomputable def C_cDecode {R : Type} (N : Nat) (x0 : List UInt8) (y0 y1 y2 y3 y4 : Int) (y5 : List UInt8) (y6 : Int) (y7 : List V) (y8 : List UInt8) (y9 : Int) (y10 : List UInt8) (K0 : Int -> Int -> Int -> Bool -> Int -> Bool -> List UInt8 -> Int -> Option R) : Option R := bnd8 (s_bDecode N x0 y0) fun n0 n1 n2 b3 n4 b5 l6 n7 => br (decide (n7 = 6)) (K0 n0 n1 n2 b3 n4 b5 l6 1) (br (!decide (n7 = 0)) (K0 n0 n1 n2 b3 n4 b5 l6 2) (br (!decide (n0 = 0)) (K0 n0 n1 n2 b3 n4 b5 l6 2) (br (decide (n1 = 0)) (br (decide (y1 < (l6.length : Int))) (K0 n0 n1 n2 b3 n4 b5 l6 2) (K0 n0 n1 n2 b3 n4 b5 l6 0)) (K0 n0 n1 n2 b3 n4 b5 l6 0))))
noncomputable def s_cDecode (N : Nat) (x0 : List UInt8) (y0 y1 y2 y3 y4 : Int) (y5 : List UInt8) (y6 : Int) (y7 : List V) (y8 : List UInt8) (y9 : Int) (y10 : List UInt8) : Option (Int × Int × Int × Bool × Int × Bool × List UInt8 × Int) := C_cDecode N x0 y0 y1 y2 y3 y4 y5 y6 y7 y8 y9 y10 (fun r0 r1 r2 r3 r4 r5 r6 r7 => some (r0, r1, r2, r3, r4, r5, r6, r7))
noncomputable def cx_cDecode (N : Nat) : Cx := cxO [⟨79, e_bDecode (s_bDecode N)⟩] []
theorem C_cDecode_ok {R : Type} (N : Nat) (x0 y0 y1 y2 y3 y4 y5 y6 y7 y8 y9 y10 K : _) : bodyK (R := R) (cx_cDecode N) Try.f44 [.ptr 1 0 0, dY x0] [frOf 0 [g1a y0 y1 y2 y3 y4 y5 y6 y7 y8 y9 y10]] (r_cDecode K) = C_cDecode N x0 y0 y1 y2 y3 y4 y5 y6 y7 y8 y9 y10 (fun r0 r1 r2 r3 r4 r5 r6 r7 => K r0 r1 r2 r3 r4 r5 r6 r7 y0 y1 y2 y3 y4 y5 y6 y7 y8 y9 y10) := by
  kernel_rfl
abbrev Q_cDecode (s : Ty6) : Prop := ∀ x0 y0 y1 y2 y3 y4 y5 y6 y7 y8 y9 y10 r0 r1 r2 r3 r4 r5 r6 r7, s x0 y0 y1 y2 y3 y4 y5 y6 y7 y8 y9 y10 = some (r0, r1, r2, r3, r4, r5, r6, r7) -> ViewRet Try.prog T 44 [.ptr 1 0 0, dY x0] [g1a y0 y1 y2 y3 y4 y5 y6 y7 y8 y9 y10] [g0a r0 r1 r2 r3 r4 r5 r6, dI r7] [g1a y0 y1 y2 y3 y4 y5 y6 y7 y8 y9 y10]
theorem eo_cDecode (s : Ty6) (hs : Q_cDecode s) : MEntOK Try.prog T ⟨44, e_cDecode s⟩ := by
  refine ⟨goes_of Try.func44 (by kernel_rfl) (c := bodyOf Try.f44) (by kernel_rfl), fun R dst ds m K r h => ?_⟩
  simp only [e_cDecode] at h
  split at h
  . obtain ⟨Bs, a1, a2, a3, h⟩ := viewK_some h
    split at h
    . obtain ⟨r0, r1, r2, r3, r4, r5, r6, r7, h1, h2⟩ := bnd8_some h
      rw [putAllK_eq] at h2
      exact ⟨_, _, h2, ViewRet.weakIn (hs _ _ _ _ _ _ _ _ _ _ _ _ _ _ _ _ _ _ _ _ h1) (by exact ⟨⟨rfl, .inl rfl, .inl rfl, .inl rfl, .inl rfl, .inl rfl, .inr ⟨_, _, rfl, rfl⟩, .inl rfl, .inr ⟨_, _, rfl, rfl⟩, .inl rfl, .inl rfl, .inr ⟨_, _, rfl, rfl⟩, trivial⟩, trivial⟩) rfl _ _ m dst a1 a2 a3 ⟨aren_ptr _ rfl, aren_v _, trivial⟩⟩
    . cases h
  . cases h
open Classical in
theorem p_cDecode (N : Nat) : Q_cDecode (s_cDecode N) := fun x0 y0 y1 y2 y3 y4 y5 y6 y7 y8 y9 y10 r0 r1 r2 r3 r4 r5 r6 r7 h => by
  refine view_ofW (cx := cx_cDecode N) (by kernel_rfl) (cxO_ok ⟨eo_bDecode _ (p_bDecode N), trivial⟩ trivial) Try.func44 (by kernel_rfl) (by kernel_rfl) (loopsOK_of (k := 0) (by kernel_rfl) trivial) (by rfl) (by rfl) (by rfl) (rf := r_cDecode (fun r0' r1' r2' r3' r4' r5' r6' r7' z'0 z'1 z'2 z'3 z'4 z'5 z'6 z'7 z'8 z'9 z'10 => if z'0 = y0 /\ z'1 = y1 /\ z'2 = y2 /\ z'3 = y3 /\ z'4 = y4 /\ z'5 = y5 /\ z'6 = y6 /\ z'7 = y7 /\ z'8 = y8 /\ z'9 = y9 /\ z'10 = y10 then some (r0', r1', r2', r3', r4', r5', r6', r7') else none)) (r := (r0, r1, r2, r3, r4, r5, r6, r7)) ?_ ?_
  . exact (C_cDecode_ok ..).trans ((congrArg (fun K => C_cDecode N x0 y0 y1 y2 y3 y4 y5 y6 y7 y8 y9 y10 K) (funext fun r0' => funext fun r1' => funext fun r2' => funext fun r3' => funext fun r4' => funext fun r5' => funext fun r6' => funext fun r7' => if_pos ⟨rfl, rfl, rfl, rfl, rfl, rfl, rfl, rfl, rfl, rfl, rfl⟩)).trans h)
  . intro rs' m' hx
    unfold r_cDecode at hx
    split at hx
    . dsimp only at hx
      split at hx
      . rename_i hk
        obtain ⟨rfl, rfl, rfl, rfl, rfl, rfl, rfl, rfl, rfl, rfl, rfl⟩ := hk
        cases hx; exact ⟨rfl, rfl, _, [⟨77, [_, _, _, _, _, _, _, _, _, _, _]⟩], rfl, rfl, ⟨⟨rfl, .inl rfl, .inl rfl, .inl rfl, .inl rfl, .inl rfl, .inr ⟨_, _, rfl, rfl⟩, .inl rfl, .inr ⟨_, _, rfl, rfl⟩, .inl rfl, .inl rfl, .inr ⟨_, _, rfl, rfl⟩, trivial⟩, trivial⟩⟩
      . cases hx
    . cases hx
abbrev Ty7 := Int -> Int -> Int -> Int -> Int -> Int -> List UInt8 -> Int -> List V -> List UInt8 -> Int -> List UInt8 -> Option (List UInt8)
noncomputable def e_cReady {R : Type} (s : Ty7) (dst : Nat) (ds : List D) (m : Mem) (K : List D -> Mem -> Option R) : Option R :=
  match ds with
  | [.ptr (kv0 + 1) sv0 0, .v (.int .i64 x0) .no] => viewK [(kv0, sv0)] m fun Bs => (match Bs with
    | [⟨77, [.v (.int .i64 y0) .no, .v (.int .i64 y1) .no, .v (.int .i64 y2) .no, .v (.int .i64 y3) .no, .v (.int .i64 y4) .no, .v (.bytes y5) _, .v (.int .i64 y6) .no, .v (.sl 27 y7) _, .v (.bytes y8) (.own (.slot 0) 5), .v (.int .i64 y9) .no, .v (.bytes y10) _]⟩] => bnd1 (s x0 y0 y1 y2 y3 y4 y5 y6 y7 y8 y9 y10) fun r0 => putAllK [(kv0, sv0)] [⟨77, [.v (.int .i64 y0) .no, .v (.int .i64 y1) .no, .v (.int .i64 y2) .no, .v (.int .i64 y3) .no, .v (.int .i64 y4) .no, .v (.bytes y5) .no, .v (.int .i64 y6) .no, .v (.sl 27 y7) .no, .v (.bytes y8) (.own (.slot 0) 5), .v (.int .i64 y9) .no, .v (.bytes y10) .no]⟩] m fun m' => K [.v (.bytes r0) .no] m'
    | _ => none)
  | _ => none
noncomputable def C_cReady {R : Type} (N : Nat) (x0 y0 y1 y2 y3 y4 : Int) (y5 : List UInt8) (y6 : Int) (y7 : List V) (y8 : List UInt8) (y9 : Int) (y10 : List UInt8) (K0 : List UInt8 -> Option R) : Option R := bnd1 (s_cEnc N 0 1 y3 false x0 false [] y0 y1 y2 y3 y4 y5 y6 y7 y8 y9 y10) fun l0 => K0 l0
noncomputable def s_cReady (N : Nat) (x0 y0 y1 y2 y3 y4 : Int) (y5 : List UInt8) (y6 : Int) (y7 : List V) (y8 : List UInt8) (y9 : Int) (y10 : List UInt8) : Option (List UInt8) := C_cReady N x0 y0 y1 y2 y3 y4 y5 y6 y7 y8 y9 y10 (fun r0 => some r0)
noncomputable def cx_cReady (N : Nat) : Cx := cxO [] [⟨81, e_cEnc (s_cEnc N)⟩]
theorem C_cReady_ok {R : Type} (N : Nat) (x0 y0 y1 y2 y3 y4 y5 y6 y7 y8 y9 y10 K : _) : bodyK (R := R) (cx_cReady N) Try.f47 [.ptr 1 0 0, dI x0] [frOf 0 [g1a y0 y1 y2 y3 y4 y5 y6 y7 y8 y9 y10]] (r_cEnc K) = C_cReady N x0 y0 y1 y2 y3 y4 y5 y6 y7 y8 y9 y10 (fun r0 => K r0 y0 y1 y2 y3 y4 y5 y6 y7 y8 y9 y10) := by
  kernel_rfl
abbrev Q_cReady (s : Ty7) : Prop := ∀ x0 y0 y1 y2 y3 y4 y5 y6 y7 y8 y9 y10 r0, s x0 y0 y1 y2 y3 y4 y5 y6 y7 y8 y9 y10 = some r0 -> ViewRet Try.prog T 47 [.ptr 1 0 0, dI x0] [g1a y0 y1 y2 y3 y4 y5 y6 y7 y8 y9 y10] [dY r0] [g1a y0 y1 y2 y3 y4 y5 y6 y7 y8 y9 y10]
theorem eo_cReady (s : Ty7) (hs : Q_cReady s) : MEntOK Try.prog T ⟨47, e_cReady s⟩ := by
  refine ⟨goes_of Try.func47 (by kernel_rfl) (c := bodyOf Try.f47) (by kernel_rfl), fun R dst ds m K r h => ?_⟩
  simp only [e_cReady] at h
  split at h
  . obtain ⟨Bs, a1, a2, a3, h⟩ := viewK_some h
    split at h
    . obtain ⟨r0, h1, h2⟩ := bnd1_some h
      rw [putAllK_eq] at h2
      exact ⟨_, _, h2, ViewRet.weakIn (hs _ _ _ _ _ _ _ _ _ _ _ _ _ h1) (by exact ⟨⟨rfl, .inl rfl, .inl rfl, .inl rfl, .inl rfl, .inl rfl, .inr ⟨_, _, rfl, rfl⟩, .inl rfl, .inr ⟨_, _, rfl, rfl⟩, .inl rfl, .inl rfl, .inr ⟨_, _, rfl, rfl⟩, trivial⟩, trivial⟩) rfl _ _ m dst a1 a2 a3 ⟨aren_ptr _ rfl, aren_v _, trivial⟩⟩
    . cases h
  . cases h
open Classical in
theorem p_cReady (N : Nat) : Q_cReady (s_cReady N) := fun x0 y0 y1 y2 y3 y4 y5 y6 y7 y8 y9 y10 r0 h => by
  refine view_ofW (cx := cx_cReady N) (by kernel_rfl) (cxO_ok trivial ⟨eo_cEnc _ (p_cEnc N), trivial⟩) Try.func47 (by kernel_rfl) (by kernel_rfl) (loopsOK_of (k := 0) (by kernel_rfl) trivial) (by rfl) (by rfl) (by rfl) (rf := r_cEnc (fun r0' z'0 z'1 z'2 z'3 z'4 z'5 z'6 z'7 z'8 z'9 z'10 => if z'0 = y0 /\ z'1 = y1 /\ z'2 = y2 /\ z'3 = y3 /\ z'4 = y4 /\ z'5 = y5 /\ z'6 = y6 /\ z'7 = y7 /\ z'8 = y8 /\ z'9 = y9 /\ z'10 = y10 then some r0' else none)) (r := r0) ?_ ?_
  . exact (C_cReady_ok ..).trans ((congrArg (fun K => C_cReady N x0 y0 y1 y2 y3 y4 y5 y6 y7 y8 y9 y10 K) (funext fun r0' => if_pos ⟨rfl, rfl, rfl, rfl, rfl, rfl, rfl, rfl, rfl, rfl, rfl⟩)).trans h)
  . intro rs' m' hx
    unfold r_cEnc at hx
    split at hx
    . dsimp only at hx
      split at hx
      . rename_i hk
        obtain ⟨rfl, rfl, rfl, rfl, rfl, rfl, rfl, rfl, rfl, rfl, rfl⟩ := hk
        cases hx; exact ⟨rfl, rfl, _, [⟨77, [_, _, _, _, _, _, _, _, _, _, _]⟩], rfl, rfl, ⟨⟨rfl, .inl rfl, .inl rfl, .inl rfl, .inl rfl, .inl rfl, .inr ⟨_, _, rfl, rfl⟩, .inl rfl, .inr ⟨_, _, rfl, rfl⟩, .inl rfl, .inl rfl, .inr ⟨_, _, rfl, rfl⟩, trivial⟩, trivial⟩⟩
      . cases hx
    . cases hx
abbrev Ty8 := Int -> Bool -> List UInt8 -> Int -> Int -> Int -> Int -> Int -> List UInt8 -> Int -> List V -> List UInt8 -> Int -> List UInt8 -> Option (List UInt8)
noncomputable def e_cSpecial {R : Type} (s : Ty8) (dst : Nat) (ds : List D) (m : Mem) (K : List D -> Mem -> Option R) : Option R :=
  match ds with
  | [.ptr (kv0 + 1) sv0 0, .v (.int .i64 x0) .no, .v (.bool x1) .no, .v (.bytes x2) .no] => viewK [(kv0, sv0)] m fun Bs => (match Bs with
    | [⟨77, [.v (.int .i64 y0) .no, .v (.int .i64 y1) .no, .v (.int .i64 y2) .no, .v (.int .i64 y3) .no, .v (.int .i64 y4) .no, .v (.bytes y5) _, .v (.int .i64 y6) .no, .v (.sl 27 y7) _, .v (.bytes y8) (.own (.slot 0) 5), .v (.int .i64 y9) .no, .v (.bytes y10) _]⟩] => bnd1 (s x0 x1 x2 y0 y1 y2 y3 y4 y5 y6 y7 y8 y9 y10) fun r0 => putAllK [(kv0, sv0)] [⟨77, [.v (.int .i64 y0) .no, .v (.int .i64 y1) .no, .v (.int .i64 y2) .no, .v (.int .i64 y3) .no, .v (.int .i64 y4) .no, .v (.bytes y5) .no, .v (.int .i64 y6) .no, .v (.sl 27 y7) .no, .v (.bytes y8) (.own (.slot 0) 5), .v (.int .i64 y9) .no, .v (.bytes y10) .no]⟩] m fun m' => K [.v (.bytes r0) .no] m'
    | _ => none)
  | _ => none
noncomputable def C_cSpecial {R : Type} (N : Nat) (x0 : Int) (x1 : Bool) (x2 : List UInt8) (y0 y1 y2 y3 y4 : Int) (y5 : List UInt8) (y6 : Int) (y7 : List V) (y8 : List UInt8) (y9 : Int) (y10 : List UInt8) (K0 : List UInt8 -> Option R) : Option R := bnd1 (s_cEnc N 0 2 0 false x0 x1 x2 y0 y1 y2 y3 y4 y5 y6 y7 y8 y9 y10) fun l0 => K0 l0
noncomputable def s_cSpecial (N : Nat) (x0 : Int) (x1 : Bool) (x2 : List UInt8) (y0 y1 y2 y3 y4 : Int) (y5 : List UInt8) (y6 : Int) (y7 : List V) (y8 : List UInt8) (y9 : Int) (y10 : List UInt8) : Option (List UInt8) := C_cSpecial N x0 x1 x2 y0 y1 y2 y3 y4 y5 y6 y7 y8 y9 y10 (fun r0 => some r0)
noncomputable def cx_cSpecial (N : Nat) : Cx := cxO [] [⟨81, e_cEnc (s_cEnc N)⟩]
theorem C_cSpecial_ok {R : Type} (N : Nat) (x0 x1 x2 y0 y1 y2 y3 y4 y5 y6 y7 y8 y9 y10 K : _) : bodyK (R := R) (cx_cSpecial N) Try.f46 [.ptr 1 0 0, dI x0, dB x1, dY x2] [frOf 0 [g1a y0 y1 y2 y3 y4 y5 y6 y7 y8 y9 y10]] (r_cEnc K) = C_cSpecial N x0 x1 x2 y0 y1 y2 y3 y4 y5 y6 y7 y8 y9 y10 (fun r0 => K r0 y0 y1 y2 y3 y4 y5 y6 y7 y8 y9 y10) := by
  kernel_rfl
abbrev Q_cSpecial (s : Ty8) : Prop := ∀ x0 x1 x2 y0 y1 y2 y3 y4 y5 y6 y7 y8 y9 y10 r0, s x0 x1 x2 y0 y1 y2 y3 y4 y5 y6 y7 y8 y9 y10 = some r0 -> ViewRet Try.prog T 46 [.ptr 1 0 0, dI x0, dB x1, dY x2] [g1a y0 y1 y2 y3 y4 y5 y6 y7 y8 y9 y10] [dY r0] [g1a y0 y1 y2 y3 y4 y5 y6 y7 y8 y9 y10]
theorem eo_cSpecial (s : Ty8) (hs : Q_cSpecial s) : MEntOK Try.prog T ⟨46, e_cSpecial s⟩ := by
  refine ⟨goes_of Try.func46 (by kernel_rfl) (c := bodyOf Try.f46) (by kernel_rfl), fun R dst ds m K r h => ?_⟩
  simp only [e_cSpecial] at h
  split at h
  . obtain ⟨Bs, a1, a2, a3, h⟩ := viewK_some h
    split at h
    . obtain ⟨r0, h1, h2⟩ := bnd1_some h
      rw [putAllK_eq] at h2
      exact ⟨_, _, h2, ViewRet.weakIn (hs _ _ _ _ _ _ _ _ _ _ _ _ _ _ _ h1) (by exact ⟨⟨rfl, .inl rfl, .inl rfl, .inl rfl, .inl rfl, .inl rfl, .inr ⟨_, _, rfl, rfl⟩, .inl rfl, .inr ⟨_, _, rfl, rfl⟩, .inl rfl, .inl rfl, .inr ⟨_, _, rfl, rfl⟩, trivial⟩, trivial⟩) rfl _ _ m dst a1 a2 a3 ⟨aren_ptr _ rfl, aren_v _, aren_v _, aren_v _, trivial⟩⟩
    . cases h
  . cases h
open Classical in
theorem p_cSpecial (N : Nat) : Q_cSpecial (s_cSpecial N) := fun x0 x1 x2 y0 y1 y2 y3 y4 y5 y6 y7 y8 y9 y10 r0 h => by
  refine view_ofW (cx := cx_cSpecial N) (by kernel_rfl) (cxO_ok trivial ⟨eo_cEnc _ (p_cEnc N), trivial⟩) Try.func46 (by kernel_rfl) (by kernel_rfl) (loopsOK_of (k := 0) (by kernel_rfl) trivial) (by rfl) (by rfl) (by rfl) (rf := r_cEnc (fun r0' z'0 z'1 z'2 z'3 z'4 z'5 z'6 z'7 z'8 z'9 z'10 => if z'0 = y0 /\ z'1 = y1 /\ z'2 = y2 /\ z'3 = y3 /\ z'4 = y4 /\ z'5 = y5 /\ z'6 = y6 /\ z'7 = y7 /\ z'8 = y8 /\ z'9 = y9 /\ z'10 = y10 then some r0' else none)) (r := r0) ?_ ?_
  . exact (C_cSpecial_ok ..).trans ((congrArg (fun K => C_cSpecial N x0 x1 x2 y0 y1 y2 y3 y4 y5 y6 y7 y8 y9 y10 K) (funext fun r0' => if_pos ⟨rfl, rfl, rfl, rfl, rfl, rfl, rfl, rfl, rfl, rfl, rfl⟩)).trans h)
  . intro rs' m' hx
    unfold r_cEnc at hx
    split at hx
    . dsimp only at hx
      split at hx
      . rename_i hk
        obtain ⟨rfl, rfl, rfl, rfl, rfl, rfl, rfl, rfl, rfl, rfl, rfl⟩ := hk
        cases hx; exact ⟨rfl, rfl, _, [⟨77, [_, _, _, _, _, _, _, _, _, _, _]⟩], rfl, rfl, ⟨⟨rfl, .inl rfl, .inl rfl, .inl rfl, .inl rfl, .inl rfl, .inr ⟨_, _, rfl, rfl⟩, .inl rfl, .inr ⟨_, _, rfl, rfl⟩, .inl rfl, .inl rfl, .inr ⟨_, _, rfl, rfl⟩, trivial⟩, trivial⟩⟩
      . cases hx
    . cases hx
abbrev Ty9 := Int -> Int -> Int -> Int -> Int -> List UInt8 -> Int -> List V -> List UInt8 -> Int -> List UInt8 -> Option (List UInt8 × Int × List UInt8 × Int × List V)
noncomputable def e_cPiece {R : Type} (s : Ty9) (dst : Nat) (ds : List D) (m : Mem) (K : List D -> Mem -> Option R) : Option R :=
  match ds with
  | [.ptr (kv0 + 1) sv0 0] => viewK [(kv0, sv0)] m fun Bs => (match Bs with
    | [⟨77, [.v (.int .i64 y0) .no, .v (.int .i64 y1) .no, .v (.int .i64 y2) .no, .v (.int .i64 y3) .no, .v (.int .i64 y4) .no, .v (.bytes y5) _, .v (.int .i64 y6) .no, .v (.sl 27 y7) _, .v (.bytes y8) (.own (.slot 0) 5), .v (.int .i64 y9) .no, .v (.bytes y10) _]⟩] => bnd5 (s y0 y1 y2 y3 y4 y5 y6 y7 y8 y9 y10) fun r0 z4 z5 z6 z7 => putAllK [(kv0, sv0)] [⟨77, [.v (.int .i64 y0) .no, .v (.int .i64 y1) .no, .v (.int .i64 y2) .no, .v (.int .i64 y3) .no, .v (.int .i64 z4) .no, .v (.bytes z5) .no, .v (.int .i64 z6) .no, .v (.sl 27 z7) .no, .v (.bytes y8) (.own (.slot 0) 5), .v (.int .i64 y9) .no, .v (.bytes y10) .no]⟩] m fun m' => K [.v (.bytes r0) .no] m'
    | _ => none)
  | _ => none
noncomputable def C_cPiece {R : Type} (N : Nat) (y0 y1 y2 y3 y4 : Int) (y5 : List UInt8) (y6 : Int) (y7 : List V) (y8 : List UInt8) (y9 : Int) (y10 : List UInt8) (K0 : List UInt8 -> Int -> List UInt8 -> Int -> List V -> Option R) : Option R := br (decide (0 < (y7.length : Int))) (at? y7 0 fun x0 => x0.unBytes fun l1 => br (decide (1 <= (y7.length : Int))) (bnd1 (s_cEnc N 0 0 y4 (decide (0 < ((List.drop 1 y7).length : Int))) 0 false l1 y0 y1 y2 y3 y4 y5 y6 (List.drop 1 y7) y8 y9 y10) fun l2 => bnd1 (s_clone N l2) fun l3 => K0 l3 (IntKind.i64.wrap (1 - y4)) l2 y4 (List.drop 1 y7)) none) none
noncomputable def s_cPiece (N : Nat) (y0 y1 y2 y3 y4 : Int) (y5 : List UInt8) (y6 : Int) (y7 : List V) (y8 : List UInt8) (y9 : Int) (y10 : List UInt8) : Option (List UInt8 × Int × List UInt8 × Int × List V) := C_cPiece N y0 y1 y2 y3 y4 y5 y6 y7 y8 y9 y10 (fun r0 z4 z5 z6 z7 => some (r0, z4, z5, z6, z7))
noncomputable def cx_cPiece (N : Nat) : Cx := cxO [⟨60, e_clone (s_clone N)⟩] [⟨81, e_cEnc (s_cEnc N)⟩]
theorem C_cPiece_ok {R : Type} (N : Nat) (y0 y1 y2 y3 y4 y5 y6 y7 y8 y9 y10 K : _) : bodyK (R := R) (cx_cPiece N) Try.f82 [.ptr 1 0 0] [frOf 0 [g1a y0 y1 y2 y3 y4 y5 y6 y7 y8 y9 y10]] (r_cEnc K) = C_cPiece N y0 y1 y2 y3 y4 y5 y6 y7 y8 y9 y10 (fun r0 z4 z5 z6 z7 => K r0 y0 y1 y2 y3 z4 z5 z6 z7 y8 y9 y10) := by
  kernel_rfl
abbrev Q_cPiece (s : Ty9) : Prop := ∀ y0 y1 y2 y3 y4 y5 y6 y7 y8 y9 y10 r0 z4 z5 z6 z7, s y0 y1 y2 y3 y4 y5 y6 y7 y8 y9 y10 = some (r0, z4, z5, z6, z7) -> ViewRet Try.prog T 82 [.ptr 1 0 0] [g1a y0 y1 y2 y3 y4 y5 y6 y7 y8 y9 y10] [dY r0] [g1a y0 y1 y2 y3 z4 z5 z6 z7 y8 y9 y10]
theorem eo_cPiece (s : Ty9) (hs : Q_cPiece s) : MEntOK Try.prog T ⟨82, e_cPiece s⟩ := by
  refine ⟨goes_of Try.func82 (by kernel_rfl) (c := bodyOf Try.f82) (by kernel_rfl), fun R dst ds m K r h => ?_⟩
  simp only [e_cPiece] at h
  split at h
  . obtain ⟨Bs, a1, a2, a3, h⟩ := viewK_some h
    split at h
    . obtain ⟨r0, z4, z5, z6, z7, h1, h2⟩ := bnd5_some h
      rw [putAllK_eq] at h2
      exact ⟨_, _, h2, ViewRet.weakIn (hs _ _ _ _ _ _ _ _ _ _ _ _ _ _ _ _ h1) (by exact ⟨⟨rfl, .inl rfl, .inl rfl, .inl rfl, .inl rfl, .inl rfl, .inr ⟨_, _, rfl, rfl⟩, .inl rfl, .inr ⟨_, _, rfl, rfl⟩, .inl rfl, .inl rfl, .inr ⟨_, _, rfl, rfl⟩, trivial⟩, trivial⟩) rfl _ _ m dst a1 a2 a3 ⟨aren_ptr _ rfl, trivial⟩⟩
    . cases h
  . cases h
open Classical in
theorem p_cPiece (N : Nat) : Q_cPiece (s_cPiece N) := fun y0 y1 y2 y3 y4 y5 y6 y7 y8 y9 y10 r0 z4 z5 z6 z7 h => by
  refine view_ofW (cx := cx_cPiece N) (by kernel_rfl) (cxO_ok ⟨eo_clone _ (p_clone N), trivial⟩ ⟨eo_cEnc _ (p_cEnc N), trivial⟩) Try.func82 (by kernel_rfl) (by kernel_rfl) (loopsOK_of (k := 0) (by kernel_rfl) trivial) (by rfl) (by rfl) (by rfl) (rf := r_cEnc (fun r0' z'0 z'1 z'2 z'3 z'4 z'5 z'6 z'7 z'8 z'9 z'10 => if z'0 = y0 /\ z'1 = y1 /\ z'2 = y2 /\ z'3 = y3 /\ z'8 = y8 /\ z'9 = y9 /\ z'10 = y10 then some (r0', z'4, z'5, z'6, z'7) else none)) (r := (r0, z4, z5, z6, z7)) ?_ ?_
  . exact (C_cPiece_ok ..).trans ((congrArg (fun K => C_cPiece N y0 y1 y2 y3 y4 y5 y6 y7 y8 y9 y10 K) (funext fun r0' => funext fun z'4 => funext fun z'5 => funext fun z'6 => funext fun z'7 => if_pos ⟨rfl, rfl, rfl, rfl, rfl, rfl, rfl⟩)).trans h)
  . intro rs' m' hx
    unfold r_cEnc at hx
    split at hx
    . dsimp only at hx
      split at hx
      . rename_i hk
        obtain ⟨rfl, rfl, rfl, rfl, rfl, rfl, rfl⟩ := hk
        cases hx; exact ⟨rfl, rfl, _, [⟨77, [_, _, _, _, _, _, _, _, _, _, _]⟩], rfl, rfl, ⟨⟨rfl, .inl rfl, .inl rfl, .inl rfl, .inl rfl, .inl rfl, .inr ⟨_, _, rfl, rfl⟩, .inl rfl, .inr ⟨_, _, rfl, rfl⟩, .inl rfl, .inl rfl, .inr ⟨_, _, rfl, rfl⟩, trivial⟩, trivial⟩⟩
      . cases hx
    . cases hx
abbrev Ty10 := List UInt8 -> Int -> Int -> Int -> Int -> Int -> List UInt8 -> Int -> List V -> List UInt8 -> Int -> List UInt8 -> Option (List UInt8 × Int × List UInt8 × Int × List V)
noncomputable def e_cSend {R : Type} (s : Ty10) (dst : Nat) (ds : List D) (m : Mem) (K : List D -> Mem -> Option R) : Option R :=
  match ds with
  | [.ptr (kv0 + 1) sv0 0, .v (.bytes x0) .no] => viewK [(kv0, sv0)] m fun Bs => (match Bs with
    | [⟨77, [.v (.int .i64 y0) .no, .v (.int .i64 y1) .no, .v (.int .i64 y2) .no, .v (.int .i64 y3) .no, .v (.int .i64 y4) .no, .v (.bytes y5) _, .v (.int .i64 y6) .no, .v (.sl 27 y7) _, .v (.bytes y8) (.own (.slot 0) 5), .v (.int .i64 y9) .no, .v (.bytes y10) _]⟩] => bnd5 (s x0 y0 y1 y2 y3 y4 y5 y6 y7 y8 y9 y10) fun r0 z4 z5 z6 z7 => putAllK [(kv0, sv0)] [⟨77, [.v (.int .i64 y0) .no, .v (.int .i64 y1) .no, .v (.int .i64 y2) .no, .v (.int .i64 y3) .no, .v (.int .i64 z4) .no, .v (.bytes z5) .no, .v (.int .i64 z6) .no, .v (.sl 27 z7) .no, .v (.bytes y8) (.own (.slot 0) 5), .v (.int .i64 y9) .no, .v (.bytes y10) .no]⟩] m fun m' => K [.v (.bytes r0) .no] m'
    | _ => none)
  | _ => none
noncomputable def C_cSend {R : Type} (N : Nat) (x0 : List UInt8) (y0 y1 y2 y3 y4 : Int) (y5 : List UInt8) (y6 : Int) (y7 : List V) (y8 : List UInt8) (y9 : Int) (y10 : List UInt8) (K0 : List UInt8 -> Int -> List UInt8 -> Int -> List V -> Option R) : Option R := bnd2 (s_oSplit N x0 y2) fun l0 n1 => br (decide ((x0.length : Int) = 0)) (bnd5 (s_cPiece N y0 y1 y2 y3 y4 y5 y6 [V.bytes []] y8 y9 y10) fun l2 n3 l4 n5 l6 => K0 l2 n3 l4 n5 l6) (bnd5 (s_cPiece N y0 y1 y2 y3 y4 y5 y6 l0 y8 y9 y10) fun l7 n8 l9 n10 l11 => K0 l7 n8 l9 n10 l11)
noncomputable def s_cSend (N : Nat) (x0 : List UInt8) (y0 y1 y2 y3 y4 : Int) (y5 : List UInt8) (y6 : Int) (y7 : List V) (y8 : List UInt8) (y9 : Int) (y10 : List UInt8) : Option (List UInt8 × Int × List UInt8 × Int × List V) := C_cSend N x0 y0 y1 y2 y3 y4 y5 y6 y7 y8 y9 y10 (fun r0 z4 z5 z6 z7 => some (r0, z4, z5, z6, z7))
noncomputable def cx_cSend (N : Nat) : Cx := cxO [⟨85, e_oSplit (s_oSplit N)⟩] [⟨82, e_cPiece (s_cPiece N)⟩]
theorem C_cSend_ok {R : Type} (N : Nat) (x0 y0 y1 y2 y3 y4 y5 y6 y7 y8 y9 y10 K : _) : bodyK (R := R) (cx_cSend N) Try.f58 [.ptr 1 0 0, dY x0] [frOf 0 [g1a y0 y1 y2 y3 y4 y5 y6 y7 y8 y9 y10]] (r_cEnc K) = C_cSend N x0 y0 y1 y2 y3 y4 y5 y6 y7 y8 y9 y10 (fun r0 z4 z5 z6 z7 => K r0 y0 y1 y2 y3 z4 z5 z6 z7 y8 y9 y10) := by
  kernel_rfl
abbrev Q_cSend (s : Ty10) : Prop := ∀ x0 y0 y1 y2 y3 y4 y5 y6 y7 y8 y9 y10 r0 z4 z5 z6 z7, s x0 y0 y1 y2 y3 y4 y5 y6 y7 y8 y9 y10 = some (r0, z4, z5, z6, z7) -> ViewRet Try.prog T 58 [.ptr 1 0 0, dY x0] [g1a y0 y1 y2 y3 y4 y5 y6 y7 y8 y9 y10] [dY r0] [g1a y0 y1 y2 y3 z4 z5 z6 z7 y8 y9 y10]
theorem eo_cSend (s : Ty10) (hs : Q_cSend s) : MEntOK Try.prog T ⟨58, e_cSend s⟩ := by
  refine ⟨goes_of Try.func58 (by kernel_rfl) (c := bodyOf Try.f58) (by kernel_rfl), fun R dst ds m K r h => ?_⟩
  simp only [e_cSend] at h
  split at h
  . obtain ⟨Bs, a1, a2, a3, h⟩ := viewK_some h
    split at h
    . obtain ⟨r0, z4, z5, z6, z7, h1, h2⟩ := bnd5_some h
      rw [putAllK_eq] at h2
      exact ⟨_, _, h2, ViewRet.weakIn (hs _ _ _ _ _ _ _ _ _ _ _ _ _ _ _ _ _ h1) (by exact ⟨⟨rfl, .inl rfl, .inl rfl, .inl rfl, .inl rfl, .inl rfl, .inr ⟨_, _, rfl, rfl⟩, .inl rfl, .inr ⟨_, _, rfl, rfl⟩, .inl rfl, .inl rfl, .inr ⟨_, _, rfl, rfl⟩, trivial⟩, trivial⟩) rfl _ _ m dst a1 a2 a3 ⟨aren_ptr _ rfl, aren_v _, trivial⟩⟩
    . cases h
  . cases h
open Classical in
theorem p_cSend (N : Nat) : Q_cSend (s_cSend N) := fun x0 y0 y1 y2 y3 y4 y5 y6 y7 y8 y9 y10 r0 z4 z5 z6 z7 h => by
  refine view_ofW (cx := cx_cSend N) (by kernel_rfl) (cxO_ok ⟨eo_oSplit _ (p_oSplit N), trivial⟩ ⟨eo_cPiece _ (p_cPiece N), trivial⟩) Try.func58 (by kernel_rfl) (by kernel_rfl) (loopsOK_of (k := 0) (by kernel_rfl) trivial) (by rfl) (by rfl) (by rfl) (rf := r_cEnc (fun r0' z'0 z'1 z'2 z'3 z'4 z'5 z'6 z'7 z'8 z'9 z'10 => if z'0 = y0 /\ z'1 = y1 /\ z'2 = y2 /\ z'3 = y3 /\ z'8 = y8 /\ z'9 = y9 /\ z'10 = y10 then some (r0', z'4, z'5, z'6, z'7) else none)) (r := (r0, z4, z5, z6, z7)) ?_ ?_
  . exact (C_cSend_ok ..).trans ((congrArg (fun K => C_cSend N x0 y0 y1 y2 y3 y4 y5 y6 y7 y8 y9 y10 K) (funext fun r0' => funext fun z'4 => funext fun z'5 => funext fun z'6 => funext fun z'7 => if_pos ⟨rfl, rfl, rfl, rfl, rfl, rfl, rfl⟩)).trans h)
  . intro rs' m' hx
    unfold r_cEnc at hx
    split at hx
    . dsimp only at hx
      split at hx
      . rename_i hk
        obtain ⟨rfl, rfl, rfl, rfl, rfl, rfl, rfl⟩ := hk
        cases hx; exact ⟨rfl, rfl, _, [⟨77, [_, _, _, _, _, _, _, _, _, _, _]⟩], rfl, rfl, ⟨⟨rfl, .inl rfl, .inl rfl, .inl rfl, .inl rfl, .inl rfl, .inr ⟨_, _, rfl, rfl⟩, .inl rfl, .inr ⟨_, _, rfl, rfl⟩, .inl rfl, .inl rfl, .inr ⟨_, _, rfl, rfl⟩, trivial⟩, trivial⟩⟩
      . cases hx
    . cases hx
abbrev Ty11 := Int -> Int -> Int -> Bool -> Int -> Bool -> List UInt8 -> Int -> Int -> Int -> Int -> Int -> List UInt8 -> Int -> List V -> List UInt8 -> Int -> List UInt8 -> Option (List UInt8 × Int × List UInt8 × Int)
noncomputable def e_cInfo {R : Type} (s : Ty11) (dst : Nat) (ds : List D) (m : Mem) (K : List D -> Mem -> Option R) : Option R :=
  match ds with
  | [.ptr (kv0 + 1) sv0 0, .agg [.v (.int .i64 x0) .no, .v (.int .i64 x1) .no, .v (.int .i64 x2) .no, .v (.bool x3) .no, .v (.int .i64 x4) .no, .v (.bool x5) .no, .v (.bytes x6) .no]] => viewK [(kv0, sv0)] m fun Bs => (match Bs with
    | [⟨77, [.v (.int .i64 y0) .no, .v (.int .i64 y1) .no, .v (.int .i64 y2) .no, .v (.int .i64 y3) .no, .v (.int .i64 y4) .no, .v (.bytes y5) _, .v (.int .i64 y6) .no, .v (.sl 27 y7) _, .v (.bytes y8) (.own (.slot 0) 5), .v (.int .i64 y9) .no, .v (.bytes y10) _]⟩] => bnd4 (s x0 x1 x2 x3 x4 x5 x6 y0 y1 y2 y3 y4 y5 y6 y7 y8 y9 y10) fun r0 z3 z8 z9 => putAllK [(kv0, sv0)] [⟨77, [.v (.int .i64 y0) .no, .v (.int .i64 y1) .no, .v (.int .i64 y2) .no, .v (.int .i64 z3) .no, .v (.int .i64 y4) .no, .v (.bytes y5) .no, .v (.int .i64 y6) .no, .v (.sl 27 y7) .no, .v (.bytes z8) (.own (.slot 0) 5), .v (.int .i64 z9) .no, .v (.bytes y10) .no]⟩] m fun m' => K [.v (.bytes r0) .no] m'
    | _ => none)
  | _ => none
noncomputable def C_cInfo {R : Type} (N : Nat) (x0 x1 x2 : Int) (x3 : Bool) (x4 : Int) (x5 : Bool) (x6 : List UInt8) (y0 y1 y2 y3 y4 : Int) (y5 : List UInt8) (y6 : Int) (y7 : List V) (y8 : List UInt8) (y9 : Int) (y10 : List UInt8) (K0 : List UInt8 -> Int -> List UInt8 -> Int -> Option R) : Option R := br (!decide (x2 = y3)) (bnd1 (s_cReady N 2 y0 y1 y2 y3 y4 y5 y6 y7 y8 y9 y10) fun l0 => K0 l0 y3 y8 y9) (br (decide (y9 = 4)) (br (decide (0 < (y7.length : Int))) (bnd1 (s_cReady N 2 y0 y1 y2 y3 y4 y5 y6 y7 y8 y9 y10) fun l1 => K0 l1 y3 y8 y9) (br (!decide (y9 = 1)) (br (decide ((0 + x6.length) * 1 <= 140737488355328)) (br (decide (65552 < (([] ++ x6).length : Int))) (bnd1 (s_cReady N 2 y0 y1 y2 (IntKind.i64.wrap (1 - y3)) y4 y5 y6 y7 [] 0 y10) fun l2 => K0 l2 (IntKind.i64.wrap (1 - y3)) [] 0) (br x3 (bnd1 (s_cReady N 0 y0 y1 y2 (IntKind.i64.wrap (1 - y3)) y4 y5 y6 y7 ([] ++ x6) 1 y10) fun l3 => K0 l3 (IntKind.i64.wrap (1 - y3)) ([] ++ x6) 1) (K0 [] (IntKind.i64.wrap (1 - y3)) ([] ++ x6) 2))) none) (br (decide ((y8.length + x6.length) * 1 <= 140737488355328)) (br (decide (65552 < ((y8 ++ x6).length : Int))) (bnd1 (s_cReady N 2 y0 y1 y2 (IntKind.i64.wrap (1 - y3)) y4 y5 y6 y7 [] 0 y10) fun l4 => K0 l4 (IntKind.i64.wrap (1 - y3)) [] 0) (br x3 (bnd1 (s_cReady N 0 y0 y1 y2 (IntKind.i64.wrap (1 - y3)) y4 y5 y6 y7 (y8 ++ x6) 1 y10) fun l5 => K0 l5 (IntKind.i64.wrap (1 - y3)) (y8 ++ x6) 1) (K0 [] (IntKind.i64.wrap (1 - y3)) (y8 ++ x6) 2))) none))) (br (!decide (y9 = 1)) (br (decide ((0 + x6.length) * 1 <= 140737488355328)) (br (decide (65552 < (([] ++ x6).length : Int))) (bnd1 (s_cReady N 2 y0 y1 y2 (IntKind.i64.wrap (1 - y3)) y4 y5 y6 y7 [] 0 y10) fun l6 => K0 l6 (IntKind.i64.wrap (1 - y3)) [] 0) (br x3 (bnd1 (s_cReady N 0 y0 y1 y2 (IntKind.i64.wrap (1 - y3)) y4 y5 y6 y7 ([] ++ x6) 1 y10) fun l7 => K0 l7 (IntKind.i64.wrap (1 - y3)) ([] ++ x6) 1) (K0 [] (IntKind.i64.wrap (1 - y3)) ([] ++ x6) 2))) none) (br (decide ((y8.length + x6.length) * 1 <= 140737488355328)) (br (decide (65552 < ((y8 ++ x6).length : Int))) (bnd1 (s_cReady N 2 y0 y1 y2 (IntKind.i64.wrap (1 - y3)) y4 y5 y6 y7 [] 0 y10) fun l8 => K0 l8 (IntKind.i64.wrap (1 - y3)) [] 0) (br x3 (bnd1 (s_cReady N 0 y0 y1 y2 (IntKind.i64.wrap (1 - y3)) y4 y5 y6 y7 (y8 ++ x6) 1 y10) fun l9 => K0 l9 (IntKind.i64.wrap (1 - y3)) (y8 ++ x6) 1) (K0 [] (IntKind.i64.wrap (1 - y3)) (y8 ++ x6) 2))) none)))
noncomputable def s_cInfo (N : Nat) (x0 x1 x2 : Int) (x3 : Bool) (x4 : Int) (x5 : Bool) (x6 : List UInt8) (y0 y1 y2 y3 y4 : Int) (y5 : List UInt8) (y6 : Int) (y7 : List V) (y8 : List UInt8) (y9 : Int) (y10 : List UInt8) : Option (List UInt8 × Int × List UInt8 × Int) := C_cInfo N x0 x1 x2 x3 x4 x5 x6 y0 y1 y2 y3 y4 y5 y6 y7 y8 y9 y10 (fun r0 z3 z8 z9 => some (r0, z3, z8, z9))
noncomputable def cx_cInfo (N : Nat) : Cx := cxO [] [⟨47, e_cReady (s_cReady N)⟩]
theorem C_cInfo_ok {R : Type} (N : Nat) (x0 x1 x2 x3 x4 x5 x6 y0 y1 y2 y3 y4 y5 y6 y7 y8 y9 y10 K : _) : bodyK (R := R) (cx_cInfo N) Try.f48 [.ptr 1 0 0, g0a x0 x1 x2 x3 x4 x5 x6] [frOf 0 [g1a y0 y1 y2 y3 y4 y5 y6 y7 y8 y9 y10]] (r_cEnc K) = C_cInfo N x0 x1 x2 x3 x4 x5 x6 y0 y1 y2 y3 y4 y5 y6 y7 y8 y9 y10 (fun r0 z3 z8 z9 => K r0 y0 y1 y2 z3 y4 y5 y6 y7 z8 z9 y10) := by
  kernel_rfl
abbrev Q_cInfo (s : Ty11) : Prop := ∀ x0 x1 x2 x3 x4 x5 x6 y0 y1 y2 y3 y4 y5 y6 y7 y8 y9 y10 r0 z3 z8 z9, s x0 x1 x2 x3 x4 x5 x6 y0 y1 y2 y3 y4 y5 y6 y7 y8 y9 y10 = some (r0, z3, z8, z9) -> ViewRet Try.prog T 48 [.ptr 1 0 0, g0a x0 x1 x2 x3 x4 x5 x6] [g1a y0 y1 y2 y3 y4 y5 y6 y7 y8 y9 y10] [dY r0] [g1a y0 y1 y2 z3 y4 y5 y6 y7 z8 z9 y10]
theorem eo_cInfo (s : Ty11) (hs : Q_cInfo s) : MEntOK Try.prog T ⟨48, e_cInfo s⟩ := by
  refine ⟨goes_of Try.func48 (by kernel_rfl) (c := bodyOf Try.f48) (by kernel_rfl), fun R dst ds m K r h => ?_⟩
  simp only [e_cInfo] at h
  split at h
  . obtain ⟨Bs, a1, a2, a3, h⟩ := viewK_some h
    split at h
    . obtain ⟨r0, z3, z8, z9, h1, h2⟩ := bnd4_some h
      rw [putAllK_eq] at h2
      exact ⟨_, _, h2, ViewRet.weakIn (hs _ _ _ _ _ _ _ _ _ _ _ _ _ _ _ _ _ _ _ _ _ _ h1) (by exact ⟨⟨rfl, .inl rfl, .inl rfl, .inl rfl, .inl rfl, .inl rfl, .inr ⟨_, _, rfl, rfl⟩, .inl rfl, .inr ⟨_, _, rfl, rfl⟩, .inl rfl, .inl rfl, .inr ⟨_, _, rfl, rfl⟩, trivial⟩, trivial⟩) rfl _ _ m dst a1 a2 a3 ⟨aren_ptr _ rfl, aren_agg ⟨aren_v _, aren_v _, aren_v _, aren_v _, aren_v _, aren_v _, aren_v _, trivial⟩, trivial⟩⟩
    . cases h
  . cases h
open Classical in
theorem p_cInfo (N : Nat) : Q_cInfo (s_cInfo N) := fun x0 x1 x2 x3 x4 x5 x6 y0 y1 y2 y3 y4 y5 y6 y7 y8 y9 y10 r0 z3 z8 z9 h => by
  refine view_ofW (cx := cx_cInfo N) (by kernel_rfl) (cxO_ok trivial ⟨eo_cReady _ (p_cReady N), trivial⟩) Try.func48 (by kernel_rfl) (by kernel_rfl) (loopsOK_of (k := 0) (by kernel_rfl) trivial) (by rfl) (by rfl) (by rfl) (rf := r_cEnc (fun r0' z'0 z'1 z'2 z'3 z'4 z'5 z'6 z'7 z'8 z'9 z'10 => if z'0 = y0 /\ z'1 = y1 /\ z'2 = y2 /\ z'4 = y4 /\ z'5 = y5 /\ z'6 = y6 /\ z'7 = y7 /\ z'10 = y10 then some (r0', z'3, z'8, z'9) else none)) (r := (r0, z3, z8, z9)) ?_ ?_
  . exact (C_cInfo_ok ..).trans ((congrArg (fun K => C_cInfo N x0 x1 x2 x3 x4 x5 x6 y0 y1 y2 y3 y4 y5 y6 y7 y8 y9 y10 K) (funext fun r0' => funext fun z'3 => funext fun z'8 => funext fun z'9 => if_pos ⟨rfl, rfl, rfl, rfl, rfl, rfl, rfl, rfl⟩)).trans h)
  . intro rs' m' hx
    unfold r_cEnc at hx
    split at hx
    . dsimp only at hx
      split at hx
      . rename_i hk
        obtain ⟨rfl, rfl, rfl, rfl, rfl, rfl, rfl, rfl⟩ := hk
        cases hx; exact ⟨rfl, rfl, _, [⟨77, [_, _, _, _, _, _, _, _, _, _, _]⟩], rfl, rfl, ⟨⟨rfl, .inl rfl, .inl rfl, .inl rfl, .inl rfl, .inl rfl, .inr ⟨_, _, rfl, rfl⟩, .inl rfl, .inr ⟨_, _, rfl, rfl⟩, .inl rfl, .inl rfl, .inr ⟨_, _, rfl, rfl⟩, trivial⟩, trivial⟩⟩
      . cases hx
    . cases hx
abbrev Ty12 := Int -> Int -> Int -> Bool -> Int -> Bool -> List UInt8 -> Int -> Int -> Int -> Int -> Int -> List UInt8 -> Int -> List V -> List UInt8 -> Int -> List UInt8 -> Option (List UInt8 × Int × List UInt8 × Int × List V)
noncomputable def e_cAgain {R : Type} (s : Ty12) (dst : Nat) (ds : List D) (m : Mem) (K : List D -> Mem -> Option R) : Option R :=
  match ds with
  | [.ptr (kv0 + 1) sv0 0, .agg [.v (.int .i64 x0) .no, .v (.int .i64 x1) .no, .v (.int .i64 x2) .no, .v (.bool x3) .no, .v (.int .i64 x4) .no, .v (.bool x5) .no, .v (.bytes x6) .no]] => viewK [(kv0, sv0)] m fun Bs => (match Bs with
    | [⟨77, [.v (.int .i64 y0) .no, .v (.int .i64 y1) .no, .v (.int .i64 y2) .no, .v (.int .i64 y3) .no, .v (.int .i64 y4) .no, .v (.bytes y5) _, .v (.int .i64 y6) .no, .v (.sl 27 y7) _, .v (.bytes y8) (.own (.slot 0) 5), .v (.int .i64 y9) .no, .v (.bytes y10) _]⟩] => bnd5 (s x0 x1 x2 x3 x4 x5 x6 y0 y1 y2 y3 y4 y5 y6 y7 y8 y9 y10) fun r0 z4 z5 z6 z7 => putAllK [(kv0, sv0)] [⟨77, [.v (.int .i64 y0) .no, .v (.int .i64 y1) .no, .v (.int .i64 y2) .no, .v (.int .i64 y3) .no, .v (.int .i64 z4) .no, .v (.bytes z5) .no, .v (.int .i64 z6) .no, .v (.sl 27 z7) .no, .v (.bytes y8) (.own (.slot 0) 5), .v (.int .i64 y9) .no, .v (.bytes y10) .no]⟩] m fun m' => K [.v (.bytes r0) .no] m'
    | _ => none)
  | _ => none
noncomputable def C_cAgain {R : Type} (N : Nat) (x0 x1 x2 : Int) (x3 : Bool) (x4 : Int) (x5 : Bool) (x6 : List UInt8) (y0 y1 y2 y3 y4 : Int) (y5 : List UInt8) (y6 : Int) (y7 : List V) (y8 : List UInt8) (y9 : Int) (y10 : List UInt8) (K0 : List UInt8 -> Int -> List UInt8 -> Int -> List V -> Option R) : Option R := br (decide (y9 = 4)) (br (decide (x2 = y6)) (bnd1 (s_clone N y5) fun l0 => K0 l0 y4 y5 y6 y7) (br (decide (y9 = 4)) (br (decide (0 < (y7.length : Int))) (bnd5 (s_cPiece N y0 y1 y2 y3 y4 y5 y6 y7 y8 y9 y10) fun l1 n2 l3 n4 l5 => K0 l1 n2 l3 n4 l5) (bnd1 (s_cReady N 0 y0 y1 y2 y3 y4 y5 y6 y7 y8 y9 y10) fun l6 => K0 l6 y4 y5 y6 y7)) (bnd1 (s_cReady N 0 y0 y1 y2 y3 y4 y5 y6 y7 y8 y9 y10) fun l7 => K0 l7 y4 y5 y6 y7))) (br (decide (y9 = 4)) (br (decide (0 < (y7.length : Int))) (bnd5 (s_cPiece N y0 y1 y2 y3 y4 y5 y6 y7 y8 y9 y10) fun l8 n9 l10 n11 l12 => K0 l8 n9 l10 n11 l12) (bnd1 (s_cReady N 0 y0 y1 y2 y3 y4 y5 y6 y7 y8 y9 y10) fun l13 => K0 l13 y4 y5 y6 y7)) (bnd1 (s_cReady N 0 y0 y1 y2 y3 y4 y5 y6 y7 y8 y9 y10) fun l14 => K0 l14 y4 y5 y6 y7))
noncomputable def s_cAgain (N : Nat) (x0 x1 x2 : Int) (x3 : Bool) (x4 : Int) (x5 : Bool) (x6 : List UInt8) (y0 y1 y2 y3 y4 : Int) (y5 : List UInt8) (y6 : Int) (y7 : List V) (y8 : List UInt8) (y9 : Int) (y10 : List UInt8) : Option (List UInt8 × Int × List UInt8 × Int × List V) := C_cAgain N x0 x1 x2 x3 x4 x5 x6 y0 y1 y2 y3 y4 y5 y6 y7 y8 y9 y10 (fun r0 z4 z5 z6 z7 => some (r0, z4, z5, z6, z7))
noncomputable def cx_cAgain (N : Nat) : Cx := cxO [⟨60, e_clone (s_clone N)⟩] [⟨47, e_cReady (s_cReady N)⟩, ⟨82, e_cPiece (s_cPiece N)⟩]
theorem C_cAgain_ok {R : Type} (N : Nat) (x0 x1 x2 x3 x4 x5 x6 y0 y1 y2 y3 y4 y5 y6 y7 y8 y9 y10 K : _) : bodyK (R := R) (cx_cAgain N) Try.f49 [.ptr 1 0 0, g0a x0 x1 x2 x3 x4 x5 x6] [frOf 0 [g1a y0 y1 y2 y3 y4 y5 y6 y7 y8 y9 y10]] (r_cEnc K) = C_cAgain N x0 x1 x2 x3 x4 x5 x6 y0 y1 y2 y3 y4 y5 y6 y7 y8 y9 y10 (fun r0 z4 z5 z6 z7 => K r0 y0 y1 y2 y3 z4 z5 z6 z7 y8 y9 y10) := by
  kernel_rfl
abbrev Q_cAgain (s : Ty12) : Prop := ∀ x0 x1 x2 x3 x4 x5 x6 y0 y1 y2 y3 y4 y5 y6 y7 y8 y9 y10 r0 z4 z5 z6 z7, s x0 x1 x2 x3 x4 x5 x6 y0 y1 y2 y3 y4 y5 y6 y7 y8 y9 y10 = some (r0, z4, z5, z6, z7) -> ViewRet Try.prog T 49 [.ptr 1 0 0, g0a x0 x1 x2 x3 x4 x5 x6] [g1a y0 y1 y2 y3 y4 y5 y6 y7 y8 y9 y10] [dY r0] [g1a y0 y1 y2 y3 z4 z5 z6 z7 y8 y9 y10]
theorem eo_cAgain (s : Ty12) (hs : Q_cAgain s) : MEntOK Try.prog T ⟨49, e_cAgain s⟩ := by
  refine ⟨goes_of Try.func49 (by kernel_rfl) (c := bodyOf Try.f49) (by kernel_rfl), fun R dst ds m K r h => ?_⟩
  simp only [e_cAgain] at h
  split at h
  . obtain ⟨Bs, a1, a2, a3, h⟩ := viewK_some h
    split at h
    . obtain ⟨r0, z4, z5, z6, z7, h1, h2⟩ := bnd5_some h
      rw [putAllK_eq] at h2
      exact ⟨_, _, h2, ViewRet.weakIn (hs _ _ _ _ _ _ _ _ _ _ _ _ _ _ _ _ _ _ _ _ _ _ _ h1) (by exact ⟨⟨rfl, .inl rfl, .inl rfl, .inl rfl, .inl rfl, .inl rfl, .inr ⟨_, _, rfl, rfl⟩, .inl rfl, .inr ⟨_, _, rfl, rfl⟩, .inl rfl, .inl rfl, .inr ⟨_, _, rfl, rfl⟩, trivial⟩, trivial⟩) rfl _ _ m dst a1 a2 a3 ⟨aren_ptr _ rfl, aren_agg ⟨aren_v _, aren_v _, aren_v _, aren_v _, aren_v _, aren_v _, aren_v _, trivial⟩, trivial⟩⟩
    . cases h
  . cases h
open Classical in
theorem p_cAgain (N : Nat) : Q_cAgain (s_cAgain N) := fun x0 x1 x2 x3 x4 x5 x6 y0 y1 y2 y3 y4 y5 y6 y7 y8 y9 y10 r0 z4 z5 z6 z7 h => by
  refine view_ofW (cx := cx_cAgain N) (by kernel_rfl) (cxO_ok ⟨eo_clone _ (p_clone N), trivial⟩ ⟨eo_cReady _ (p_cReady N), eo_cPiece _ (p_cPiece N), trivial⟩) Try.func49 (by kernel_rfl) (by kernel_rfl) (loopsOK_of (k := 0) (by kernel_rfl) trivial) (by rfl) (by rfl) (by rfl) (rf := r_cEnc (fun r0' z'0 z'1 z'2 z'3 z'4 z'5 z'6 z'7 z'8 z'9 z'10 => if z'0 = y0 /\ z'1 = y1 /\ z'2 = y2 /\ z'3 = y3 /\ z'8 = y8 /\ z'9 = y9 /\ z'10 = y10 then some (r0', z'4, z'5, z'6, z'7) else none)) (r := (r0, z4, z5, z6, z7)) ?_ ?_
  . exact (C_cAgain_ok ..).trans ((congrArg (fun K => C_cAgain N x0 x1 x2 x3 x4 x5 x6 y0 y1 y2 y3 y4 y5 y6 y7 y8 y9 y10 K) (funext fun r0' => funext fun z'4 => funext fun z'5 => funext fun z'6 => funext fun z'7 => if_pos ⟨rfl, rfl, rfl, rfl, rfl, rfl, rfl⟩)).trans h)
  . intro rs' m' hx
    unfold r_cEnc at hx
    split at hx
    . dsimp only at hx
      split at hx
      . rename_i hk
        obtain ⟨rfl, rfl, rfl, rfl, rfl, rfl, rfl⟩ := hk
        cases hx; exact ⟨rfl, rfl, _, [⟨77, [_, _, _, _, _, _, _, _, _, _, _]⟩], rfl, rfl, ⟨⟨rfl, .inl rfl, .inl rfl, .inl rfl, .inl rfl, .inl rfl, .inr ⟨_, _, rfl, rfl⟩, .inl rfl, .inr ⟨_, _, rfl, rfl⟩, .inl rfl, .inl rfl, .inr ⟨_, _, rfl, rfl⟩, trivial⟩, trivial⟩⟩
      . cases hx
    . cases hx
abbrev Ty13 := Int -> Int -> Int -> Bool -> Int -> Bool -> List UInt8 -> Int -> Int -> Int -> Int -> Int -> List UInt8 -> Int -> List V -> List UInt8 -> Int -> List UInt8 -> Option (List UInt8 × Int × Int × Int × List UInt8 × List V × List UInt8 × Int)
noncomputable def e_cSuper {R : Type} (s : Ty13) (dst : Nat) (ds : List D) (m : Mem) (K : List D -> Mem -> Option R) : Option R :=
  match ds with
  | [.ptr (kv0 + 1) sv0 0, .agg [.v (.int .i64 x0) .no, .v (.int .i64 x1) .no, .v (.int .i64 x2) .no, .v (.bool x3) .no, .v (.int .i64 x4) .no, .v (.bool x5) .no, .v (.bytes x6) .no]] => viewK [(kv0, sv0)] m fun Bs => (match Bs with
    | [⟨77, [.v (.int .i64 y0) .no, .v (.int .i64 y1) .no, .v (.int .i64 y2) .no, .v (.int .i64 y3) .no, .v (.int .i64 y4) .no, .v (.bytes y5) _, .v (.int .i64 y6) .no, .v (.sl 27 y7) _, .v (.bytes y8) (.own (.slot 0) 5), .v (.int .i64 y9) .no, .v (.bytes y10) _]⟩] => bnd8 (s x0 x1 x2 x3 x4 x5 x6 y0 y1 y2 y3 y4 y5 y6 y7 y8 y9 y10) fun r0 z2 z3 z4 z5 z7 z8 z9 => putAllK [(kv0, sv0)] [⟨77, [.v (.int .i64 y0) .no, .v (.int .i64 y1) .no, .v (.int .i64 z2) .no, .v (.int .i64 z3) .no, .v (.int .i64 z4) .no, .v (.bytes z5) .no, .v (.int .i64 y6) .no, .v (.sl 27 z7) .no, .v (.bytes z8) (.own (.slot 0) 5), .v (.int .i64 z9) .no, .v (.bytes y10) .no]⟩] m fun m' => K [.v (.bytes r0) .no] m'
    | _ => none)
  | _ => none
noncomputable def C_cSuper {R : Type} (N : Nat) (x0 x1 x2 : Int) (x3 : Bool) (x4 : Int) (x5 : Bool) (x6 : List UInt8) (y0 y1 y2 y3 y4 : Int) (y5 : List UInt8) (y6 : Int) (y7 : List V) (y8 : List UInt8) (y9 : Int) (y10 : List UInt8) (K0 : List UInt8 -> Int -> Int -> Int -> List UInt8 -> List V -> List UInt8 -> Int -> Option R) : Option R := br x5 (bnd1 (s_cReady N 2 y0 y1 y2 y3 y4 y5 y6 y7 y8 y9 y10) fun l0 => K0 l0 y2 y3 y4 y5 y7 y8 y9) (br (decide (x4 = 0)) (bnd1 (s_cSpecial N x4 true x6 y0 y1 y2 0 0 [] y6 [] [] 0 y10) fun l1 => K0 l1 y2 0 0 [] [] [] 0) (br (decide (x4 = 1)) (bnd1 (s_tsize N x0 x1 x2 x3 x4 x5 x6) fun n2 => br (decide (0 < n2)) (bnd1 (s_tsize N x0 x1 x2 x3 x4 x5 x6) fun n3 => bnd1 (s_cSpecial N x4 true x6 y0 y1 n3 y3 y4 y5 y6 y7 y8 y9 y10) fun l4 => K0 l4 n3 y3 y4 y5 y7 y8 y9) (br (decide (x4 = 2)) (bnd1 (s_cSpecial N x4 true x6 y0 y1 y2 y3 y4 y5 y6 [] [] 0 y10) fun l5 => K0 l5 y2 y3 y4 y5 [] [] 0) (bnd1 (s_cReady N 2 y0 y1 y2 y3 y4 y5 y6 y7 y8 y9 y10) fun l6 => K0 l6 y2 y3 y4 y5 y7 y8 y9))) (br (decide (x4 = 2)) (bnd1 (s_cSpecial N x4 true x6 y0 y1 y2 y3 y4 y5 y6 [] [] 0 y10) fun l7 => K0 l7 y2 y3 y4 y5 [] [] 0) (bnd1 (s_cReady N 2 y0 y1 y2 y3 y4 y5 y6 y7 y8 y9 y10) fun l8 => K0 l8 y2 y3 y4 y5 y7 y8 y9))))
noncomputable def s_cSuper (N : Nat) (x0 x1 x2 : Int) (x3 : Bool) (x4 : Int) (x5 : Bool) (x6 : List UInt8) (y0 y1 y2 y3 y4 : Int) (y5 : List UInt8) (y6 : Int) (y7 : List V) (y8 : List UInt8) (y9 : Int) (y10 : List UInt8) : Option (List UInt8 × Int × Int × Int × List UInt8 × List V × List UInt8 × Int) := C_cSuper N x0 x1 x2 x3 x4 x5 x6 y0 y1 y2 y3 y4 y5 y6 y7 y8 y9 y10 (fun r0 z2 z3 z4 z5 z7 z8 z9 => some (r0, z2, z3, z4, z5, z7, z8, z9))
noncomputable def cx_cSuper (N : Nat) : Cx := cxO [⟨83, e_tsize (s_tsize N)⟩] [⟨47, e_cReady (s_cReady N)⟩, ⟨46, e_cSpecial (s_cSpecial N)⟩]
theorem C_cSuper_ok {R : Type} (N : Nat) (x0 x1 x2 x3 x4 x5 x6 y0 y1 y2 y3 y4 y5 y6 y7 y8 y9 y10 K : _) : bodyK (R := R) (cx_cSuper N) Try.f50 [.ptr 1 0 0, g0a x0 x1 x2 x3 x4 x5 x6] [frOf 0 [g1a y0 y1 y2 y3 y4 y5 y6 y7 y8 y9 y10]] (r_cEnc K) = C_cSuper N x0 x1 x2 x3 x4 x5 x6 y0 y1 y2 y3 y4 y5 y6 y7 y8 y9 y10 (fun r0 z2 z3 z4 z5 z7 z8 z9 => K r0 y0 y1 z2 z3 z4 z5 y6 z7 z8 z9 y10) := by
  kernel_rfl
abbrev Q_cSuper (s : Ty13) : Prop := ∀ x0 x1 x2 x3 x4 x5 x6 y0 y1 y2 y3 y4 y5 y6 y7 y8 y9 y10 r0 z2 z3 z4 z5 z7 z8 z9, s x0 x1 x2 x3 x4 x5 x6 y0 y1 y2 y3 y4 y5 y6 y7 y8 y9 y10 = some (r0, z2, z3, z4, z5, z7, z8, z9) -> ViewRet Try.prog T 50 [.ptr 1 0 0, g0a x0 x1 x2 x3 x4 x5 x6] [g1a y0 y1 y2 y3 y4 y5 y6 y7 y8 y9 y10] [dY r0] [g1a y0 y1 z2 z3 z4 z5 y6 z7 z8 z9 y10]
theorem eo_cSuper (s : Ty13) (hs : Q_cSuper s) : MEntOK Try.prog T ⟨50, e_cSuper s⟩ := by
  refine ⟨goes_of Try.func50 (by kernel_rfl) (c := bodyOf Try.f50) (by kernel_rfl), fun R dst ds m K r h => ?_⟩
  simp only [e_cSuper] at h
  split at h
  . obtain ⟨Bs, a1, a2, a3, h⟩ := viewK_some h
    split at h
    . obtain ⟨r0, z2, z3, z4, z5, z7, z8, z9, h1, h2⟩ := bnd8_some h
      rw [putAllK_eq] at h2
      exact ⟨_, _, h2, ViewRet.weakIn (hs _ _ _ _ _ _ _ _ _ _ _ _ _ _ _ _ _ _ _ _ _ _ _ _ _ _ h1) (by exact ⟨⟨rfl, .inl rfl, .inl rfl, .inl rfl, .inl rfl, .inl rfl, .inr ⟨_, _, rfl, rfl⟩, .inl rfl, .inr ⟨_, _, rfl, rfl⟩, .inl rfl, .inl rfl, .inr ⟨_, _, rfl, rfl⟩, trivial⟩, trivial⟩) rfl _ _ m dst a1 a2 a3 ⟨aren_ptr _ rfl, aren_agg ⟨aren_v _, aren_v _, aren_v _, aren_v _, aren_v _, aren_v _, aren_v _, trivial⟩, trivial⟩⟩
    . cases h
  . cases h
open Classical in
theorem p_cSuper (N : Nat) : Q_cSuper (s_cSuper N) := fun x0 x1 x2 x3 x4 x5 x6 y0 y1 y2 y3 y4 y5 y6 y7 y8 y9 y10 r0 z2 z3 z4 z5 z7 z8 z9 h => by
  refine view_ofW (cx := cx_cSuper N) (by kernel_rfl) (cxO_ok ⟨eo_tsize _ (p_tsize N), trivial⟩ ⟨eo_cReady _ (p_cReady N), eo_cSpecial _ (p_cSpecial N), trivial⟩) Try.func50 (by kernel_rfl) (by kernel_rfl) (loopsOK_of (k := 0) (by kernel_rfl) trivial) (by rfl) (by rfl) (by rfl) (rf := r_cEnc (fun r0' z'0 z'1 z'2 z'3 z'4 z'5 z'6 z'7 z'8 z'9 z'10 => if z'0 = y0 /\ z'1 = y1 /\ z'6 = y6 /\ z'10 = y10 then some (r0', z'2, z'3, z'4, z'5, z'7, z'8, z'9) else none)) (r := (r0, z2, z3, z4, z5, z7, z8, z9)) ?_ ?_
  . exact (C_cSuper_ok ..).trans ((congrArg (fun K => C_cSuper N x0 x1 x2 x3 x4 x5 x6 y0 y1 y2 y3 y4 y5 y6 y7 y8 y9 y10 K) (funext fun r0' => funext fun z'2 => funext fun z'3 => funext fun z'4 => funext fun z'5 => funext fun z'7 => funext fun z'8 => funext fun z'9 => if_pos ⟨rfl, rfl, rfl, rfl⟩)).trans h)
  . intro rs' m' hx
    unfold r_cEnc at hx
    split at hx
    . dsimp only at hx
      split at hx
      . rename_i hk
        obtain ⟨rfl, rfl, rfl, rfl⟩ := hk
        cases hx; exact ⟨rfl, rfl, _, [⟨77, [_, _, _, _, _, _, _, _, _, _, _]⟩], rfl, rfl, ⟨⟨rfl, .inl rfl, .inl rfl, .inl rfl, .inl rfl, .inl rfl, .inr ⟨_, _, rfl, rfl⟩, .inl rfl, .inr ⟨_, _, rfl, rfl⟩, .inl rfl, .inl rfl, .inr ⟨_, _, rfl, rfl⟩, trivial⟩, trivial⟩⟩
      . cases hx
    . cases hx
abbrev Ty14 := List UInt8 -> Int -> Int -> Int -> Int -> Int -> List UInt8 -> Int -> List V -> List UInt8 -> Int -> List UInt8 -> Option (List UInt8 × Int × Int × Int × List UInt8 × Int × List V × List UInt8 × Int)
noncomputable def e_cReceive {R : Type} (s : Ty14) (dst : Nat) (ds : List D) (m : Mem) (K : List D -> Mem -> Option R) : Option R :=
  match ds with
  | [.ptr (kv0 + 1) sv0 0, .v (.bytes x0) .no] => viewK [(kv0, sv0)] m fun Bs => (match Bs with
    | [⟨77, [.v (.int .i64 y0) .no, .v (.int .i64 y1) .no, .v (.int .i64 y2) .no, .v (.int .i64 y3) .no, .v (.int .i64 y4) .no, .v (.bytes y5) _, .v (.int .i64 y6) .no, .v (.sl 27 y7) _, .v (.bytes y8) (.own (.slot 0) 5), .v (.int .i64 y9) .no, .v (.bytes y10) _]⟩] => bnd9 (s x0 y0 y1 y2 y3 y4 y5 y6 y7 y8 y9 y10) fun r0 z2 z3 z4 z5 z6 z7 z8 z9 => putAllK [(kv0, sv0)] [⟨77, [.v (.int .i64 y0) .no, .v (.int .i64 y1) .no, .v (.int .i64 z2) .no, .v (.int .i64 z3) .no, .v (.int .i64 z4) .no, .v (.bytes z5) .no, .v (.int .i64 z6) .no, .v (.sl 27 z7) .no, .v (.bytes z8) (.own (.slot 0) 5), .v (.int .i64 z9) .no, .v (.bytes y10) .no]⟩] m fun m' => K [.v (.bytes r0) .no] m'
    | _ => none)
  | _ => none
noncomputable def C_cReceive {R : Type} (N : Nat) (x0 : List UInt8) (y0 y1 y2 y3 y4 : Int) (y5 : List UInt8) (y6 : Int) (y7 : List V) (y8 : List UInt8) (y9 : Int) (y10 : List UInt8) (K0 : List UInt8 -> Int -> Int -> Int -> List UInt8 -> Int -> List V -> List UInt8 -> Int -> Option R) : Option R := bnd1 (s_cMade N y0 y1 y2 y3 y4 y5 y6 y7 y8 y9 y10) fun b0 => br (!b0) (K0 [] y2 y3 y4 y5 y6 y7 y8 y9) (br (decide (y9 = 2)) (K0 [] y2 y3 y4 y5 y6 y7 y8 y9) (bnd8 (s_cDecode N x0 y0 y1 y2 y3 y4 y5 y6 y7 y8 y9 y10) fun n1 n2 n3 b4 n5 b6 l7 n8 => br (decide (y9 = 3)) (br (decide (n8 = 0)) (bnd1 (s_bSame N n1 n2 n3 b4 n5 b6 l7 0 2 0 false 3 true y10) fun b9 => br b9 (K0 [] y2 y3 y4 y5 y6 y7 y8 2) (bnd1 (s_cSpecial N 3 false y10 y0 y1 y2 y3 y4 y5 y6 y7 y8 y9 y10) fun l10 => K0 l10 y2 y3 y4 y5 y6 y7 y8 y9)) (bnd1 (s_cSpecial N 3 false y10 y0 y1 y2 y3 y4 y5 y6 y7 y8 y9 y10) fun l11 => K0 l11 y2 y3 y4 y5 y6 y7 y8 y9)) (br (!decide (n8 = 0)) (bnd1 (s_cReady N n8 y0 y1 y2 y3 y4 y5 y6 y7 y8 y9 y10) fun l12 => K0 l12 y2 y3 y4 y5 y6 y7 y8 y9) (br (decide (n2 = 0)) (bnd4 (s_cInfo N n1 n2 n3 b4 n5 b6 l7 y0 y1 y2 y3 y4 y5 y6 y7 y8 y9 y10) fun l13 n14 l15 n16 => K0 l13 y2 n14 y4 y5 y6 y7 l15 n16) (br (decide (n2 = 1)) (bnd5 (s_cAgain N n1 n2 n3 b4 n5 b6 l7 y0 y1 y2 y3 y4 y5 y6 y7 y8 y9 y10) fun l17 n18 l19 n20 l21 => K0 l17 y2 y3 n18 l19 n20 l21 y8 y9) (bnd8 (s_cSuper N n1 n2 n3 b4 n5 b6 l7 y0 y1 y2 y3 y4 y5 y6 y7 y8 y9 y10) fun l22 n23 n24 n25 l26 l27 l28 n29 => K0 l22 n23 n24 n25 l26 y6 l27 l28 n29))))))
noncomputable def s_cReceive (N : Nat) (x0 : List UInt8) (y0 y1 y2 y3 y4 : Int) (y5 : List UInt8) (y6 : Int) (y7 : List V) (y8 : List UInt8) (y9 : Int) (y10 : List UInt8) : Option (List UInt8 × Int × Int × Int × List UInt8 × Int × List V × List UInt8 × Int) := C_cReceive N x0 y0 y1 y2 y3 y4 y5 y6 y7 y8 y9 y10 (fun r0 z2 z3 z4 z5 z6 z7 z8 z9 => some (r0, z2, z3, z4, z5, z6, z7, z8, z9))
noncomputable def cx_cReceive (N : Nat) : Cx := cxO [⟨45, e_bSame (s_bSame N)⟩] [⟨43, e_cMade (s_cMade N)⟩, ⟨44, e_cDecode (s_cDecode N)⟩, ⟨46, e_cSpecial (s_cSpecial N)⟩, ⟨47, e_cReady (s_cReady N)⟩, ⟨48, e_cInfo (s_cInfo N)⟩, ⟨49, e_cAgain (s_cAgain N)⟩, ⟨50, e_cSuper (s_cSuper N)⟩]
theorem C_cReceive_ok {R : Type} (N : Nat) (x0 y0 y1 y2 y3 y4 y5 y6 y7 y8 y9 y10 K : _) : bodyK (R := R) (cx_cReceive N) Try.f13 [.ptr 1 0 0, dY x0] [frOf 0 [g1a y0 y1 y2 y3 y4 y5 y6 y7 y8 y9 y10]] (r_cEnc K) = C_cReceive N x0 y0 y1 y2 y3 y4 y5 y6 y7 y8 y9 y10 (fun r0 z2 z3 z4 z5 z6 z7 z8 z9 => K r0 y0 y1 z2 z3 z4 z5 z6 z7 z8 z9 y10) := by
  kernel_rfl
abbrev Q_cReceive (s : Ty14) : Prop := ∀ x0 y0 y1 y2 y3 y4 y5 y6 y7 y8 y9 y10 r0 z2 z3 z4 z5 z6 z7 z8 z9, s x0 y0 y1 y2 y3 y4 y5 y6 y7 y8 y9 y10 = some (r0, z2, z3, z4, z5, z6, z7, z8, z9) -> ViewRet Try.prog T 13 [.ptr 1 0 0, dY x0] [g1a y0 y1 y2 y3 y4 y5 y6 y7 y8 y9 y10] [dY r0] [g1a y0 y1 z2 z3 z4 z5 z6 z7 z8 z9 y10]
theorem eo_cReceive (s : Ty14) (hs : Q_cReceive s) : MEntOK Try.prog T ⟨13, e_cReceive s⟩ := by
  refine ⟨goes_of Try.func13 (by kernel_rfl) (c := bodyOf Try.f13) (by kernel_rfl), fun R dst ds m K r h => ?_⟩
  simp only [e_cReceive] at h
  split at h
  . obtain ⟨Bs, a1, a2, a3, h⟩ := viewK_some h
    split at h
    . obtain ⟨r0, z2, z3, z4, z5, z6, z7, z8, z9, h1, h2⟩ := bnd9_some h
      rw [putAllK_eq] at h2
      exact ⟨_, _, h2, ViewRet.weakIn (hs _ _ _ _ _ _ _ _ _ _ _ _ _ _ _ _ _ _ _ _ _ h1) (by exact ⟨⟨rfl, .inl rfl, .inl rfl, .inl rfl, .inl rfl, .inl rfl, .inr ⟨_, _, rfl, rfl⟩, .inl rfl, .inr ⟨_, _, rfl, rfl⟩, .inl rfl, .inl rfl, .inr ⟨_, _, rfl, rfl⟩, trivial⟩, trivial⟩) rfl _ _ m dst a1 a2 a3 ⟨aren_ptr _ rfl, aren_v _, trivial⟩⟩
    . cases h
  . cases h
open Classical in
theorem p_cReceive (N : Nat) : Q_cReceive (s_cReceive N) := fun x0 y0 y1 y2 y3 y4 y5 y6 y7 y8 y9 y10 r0 z2 z3 z4 z5 z6 z7 z8 z9 h => by
  refine view_ofW (cx := cx_cReceive N) (by kernel_rfl) (cxO_ok ⟨eo_bSame _ (p_bSame N), trivial⟩ ⟨eo_cMade _ (p_cMade N), eo_cDecode _ (p_cDecode N), eo_cSpecial _ (p_cSpecial N), eo_cReady _ (p_cReady N), eo_cInfo _ (p_cInfo N), eo_cAgain _ (p_cAgain N), eo_cSuper _ (p_cSuper N), trivial⟩) Try.func13 (by kernel_rfl) (by kernel_rfl) (loopsOK_of (k := 0) (by kernel_rfl) trivial) (by rfl) (by rfl) (by rfl) (rf := r_cEnc (fun r0' z'0 z'1 z'2 z'3 z'4 z'5 z'6 z'7 z'8 z'9 z'10 => if z'0 = y0 /\ z'1 = y1 /\ z'10 = y10 then some (r0', z'2, z'3, z'4, z'5, z'6, z'7, z'8, z'9) else none)) (r := (r0, z2, z3, z4, z5, z6, z7, z8, z9)) ?_ ?_
  . exact (C_cReceive_ok ..).trans ((congrArg (fun K => C_cReceive N x0 y0 y1 y2 y3 y4 y5 y6 y7 y8 y9 y10 K) (funext fun r0' => funext fun z'2 => funext fun z'3 => funext fun z'4 => funext fun z'5 => funext fun z'6 => funext fun z'7 => funext fun z'8 => funext fun z'9 => if_pos ⟨rfl, rfl, rfl⟩)).trans h)
  . intro rs' m' hx
    unfold r_cEnc at hx
    split at hx
    . dsimp only at hx
      split at hx
      . rename_i hk
        obtain ⟨rfl, rfl, rfl⟩ := hk
        cases hx; exact ⟨rfl, rfl, _, [⟨77, [_, _, _, _, _, _, _, _, _, _, _]⟩], rfl, rfl, ⟨⟨rfl, .inl rfl, .inl rfl, .inl rfl, .inl rfl, .inl rfl, .inr ⟨_, _, rfl, rfl⟩, .inl rfl, .inr ⟨_, _, rfl, rfl⟩, .inl rfl, .inl rfl, .inr ⟨_, _, rfl, rfl⟩, trivial⟩, trivial⟩⟩
      . cases hx
    . cases hx
abbrev Ty15 := Int -> Int -> Int -> Int -> Int -> List UInt8 -> Int -> List V -> List UInt8 -> Int -> List UInt8 -> Option (List UInt8 × Bool)
noncomputable def e_cCommand {R : Type} (s : Ty15) (dst : Nat) (ds : List D) (m : Mem) (K : List D -> Mem -> Option R) : Option R :=
  match ds with
  | [.ptr (kv0 + 1) sv0 0] => viewK [(kv0, sv0)] m fun Bs => (match Bs with
    | [⟨77, [.v (.int .i64 y0) .no, .v (.int .i64 y1) .no, .v (.int .i64 y2) .no, .v (.int .i64 y3) .no, .v (.int .i64 y4) .no, .v (.bytes y5) _, .v (.int .i64 y6) .no, .v (.sl 27 y7) _, .v (.bytes y8) (.own (.slot 0) 5), .v (.int .i64 y9) .no, .v (.bytes y10) _]⟩] => bnd2 (s y0 y1 y2 y3 y4 y5 y6 y7 y8 y9 y10) fun r0 r1 => putAllK [(kv0, sv0)] [⟨77, [.v (.int .i64 y0) .no, .v (.int .i64 y1) .no, .v (.int .i64 y2) .no, .v (.int .i64 y3) .no, .v (.int .i64 y4) .no, .v (.bytes y5) .no, .v (.int .i64 y6) .no, .v (.sl 27 y7) .no, .v (.bytes y8) (.own (.slot 0) 5), .v (.int .i64 y9) .no, .v (.bytes y10) .no]⟩] m fun m' => K [.v (.bytes r0) .no, .v (.bool r1) .no] m'
    | _ => none)
  | _ => none
noncomputable def r_cCommand {α : Type} (K : List UInt8 -> Bool -> Int -> Int -> Int -> Int -> Int -> List UInt8 -> Int -> List V -> List UInt8 -> Int -> List UInt8 -> Option α) (rs : List D) (m : Mem) : Option α :=
  match rs, m with
  | [.v (.bytes r0) _, .v (.bool r1) _], [_, [(0, ⟨77, [.v (.int .i64 z0) .no, .v (.int .i64 z1) .no, .v (.int .i64 z2) .no, .v (.int .i64 z3) .no, .v (.int .i64 z4) .no, .v (.bytes z5) _, .v (.int .i64 z6) .no, .v (.sl 27 z7) _, .v (.bytes z8) (.own (.slot 0) 5), .v (.int .i64 z9) .no, .v (.bytes z10) _]⟩)]] => K r0 r1 z0 z1 z2 z3 z4 z5 z6 z7 z8 z9 z10
  | _, _ => none
noncomputable def C_cCommand {R : Type} (N : Nat) (y0 y1 y2 y3 y4 : Int) (y5 : List UInt8) (y6 : Int) (y7 : List V) (y8 : List UInt8) (y9 : Int) (y10 : List UInt8) (K0 : List UInt8 -> Bool -> Option R) : Option R := bnd1 (s_cMade N y0 y1 y2 y3 y4 y5 y6 y7 y8 y9 y10) fun b0 => br (!b0) (K0 [] false) (br (!decide (y9 = 2)) (br (!decide (y9 = 3)) (K0 [] false) (bnd1 (s_clone N y8) fun l1 => K0 l1 true)) (bnd1 (s_clone N y8) fun l2 => K0 l2 true))
noncomputable def s_cCommand (N : Nat) (y0 y1 y2 y3 y4 : Int) (y5 : List UInt8) (y6 : Int) (y7 : List V) (y8 : List UInt8) (y9 : Int) (y10 : List UInt8) : Option (List UInt8 × Bool) := C_cCommand N y0 y1 y2 y3 y4 y5 y6 y7 y8 y9 y10 (fun r0 r1 => some (r0, r1))
noncomputable def cx_cCommand (N : Nat) : Cx := cxO [⟨60, e_clone (s_clone N)⟩] [⟨43, e_cMade (s_cMade N)⟩]
theorem C_cCommand_ok {R : Type} (N : Nat) (y0 y1 y2 y3 y4 y5 y6 y7 y8 y9 y10 K : _) : bodyK (R := R) (cx_cCommand N) Try.f19 [.ptr 1 0 0] [frOf 0 [g1a y0 y1 y2 y3 y4 y5 y6 y7 y8 y9 y10]] (r_cCommand K) = C_cCommand N y0 y1 y2 y3 y4 y5 y6 y7 y8 y9 y10 (fun r0 r1 => K r0 r1 y0 y1 y2 y3 y4 y5 y6 y7 y8 y9 y10) := by
  kernel_rfl
abbrev Q_cCommand (s : Ty15) : Prop := ∀ y0 y1 y2 y3 y4 y5 y6 y7 y8 y9 y10 r0 r1, s y0 y1 y2 y3 y4 y5 y6 y7 y8 y9 y10 = some (r0, r1) -> ViewRet Try.prog T 19 [.ptr 1 0 0] [g1a y0 y1 y2 y3 y4 y5 y6 y7 y8 y9 y10] [dY r0, dB r1] [g1a y0 y1 y2 y3 y4 y5 y6 y7 y8 y9 y10]
theorem eo_cCommand (s : Ty15) (hs : Q_cCommand s) : MEntOK Try.prog T ⟨19, e_cCommand s⟩ := by
  refine ⟨goes_of Try.func19 (by kernel_rfl) (c := bodyOf Try.f19) (by kernel_rfl), fun R dst ds m K r h => ?_⟩
  simp only [e_cCommand] at h
  split at h
  . obtain ⟨Bs, a1, a2, a3, h⟩ := viewK_some h
    split at h
    . obtain ⟨r0, r1, h1, h2⟩ := bnd2_some h
      rw [putAllK_eq] at h2
      exact ⟨_, _, h2, ViewRet.weakIn (hs _ _ _ _ _ _ _ _ _ _ _ _ _ h1) (by exact ⟨⟨rfl, .inl rfl, .inl rfl, .inl rfl, .inl rfl, .inl rfl, .inr ⟨_, _, rfl, rfl⟩, .inl rfl, .inr ⟨_, _, rfl, rfl⟩, .inl rfl, .inl rfl, .inr ⟨_, _, rfl, rfl⟩, trivial⟩, trivial⟩) rfl _ _ m dst a1 a2 a3 ⟨aren_ptr _ rfl, trivial⟩⟩
    . cases h
  . cases h
open Classical in
theorem p_cCommand (N : Nat) : Q_cCommand (s_cCommand N) := fun y0 y1 y2 y3 y4 y5 y6 y7 y8 y9 y10 r0 r1 h => by
  refine view_ofW (cx := cx_cCommand N) (by kernel_rfl) (cxO_ok ⟨eo_clone _ (p_clone N), trivial⟩ ⟨eo_cMade _ (p_cMade N), trivial⟩) Try.func19 (by kernel_rfl) (by kernel_rfl) (loopsOK_of (k := 0) (by kernel_rfl) trivial) (by rfl) (by rfl) (by rfl) (rf := r_cCommand (fun r0' r1' z'0 z'1 z'2 z'3 z'4 z'5 z'6 z'7 z'8 z'9 z'10 => if z'0 = y0 /\ z'1 = y1 /\ z'2 = y2 /\ z'3 = y3 /\ z'4 = y4 /\ z'5 = y5 /\ z'6 = y6 /\ z'7 = y7 /\ z'8 = y8 /\ z'9 = y9 /\ z'10 = y10 then some (r0', r1') else none)) (r := (r0, r1)) ?_ ?_
  . exact (C_cCommand_ok ..).trans ((congrArg (fun K => C_cCommand N y0 y1 y2 y3 y4 y5 y6 y7 y8 y9 y10 K) (funext fun r0' => funext fun r1' => if_pos ⟨rfl, rfl, rfl, rfl, rfl, rfl, rfl, rfl, rfl, rfl, rfl⟩)).trans h)
  . intro rs' m' hx
    unfold r_cCommand at hx
    split at hx
    . dsimp only at hx
      split at hx
      . rename_i hk
        obtain ⟨rfl, rfl, rfl, rfl, rfl, rfl, rfl, rfl, rfl, rfl, rfl⟩ := hk
        cases hx; exact ⟨rfl, rfl, _, [⟨77, [_, _, _, _, _, _, _, _, _, _, _]⟩], rfl, rfl, ⟨⟨rfl, .inl rfl, .inl rfl, .inl rfl, .inl rfl, .inl rfl, .inr ⟨_, _, rfl, rfl⟩, .inl rfl, .inr ⟨_, _, rfl, rfl⟩, .inl rfl, .inl rfl, .inr ⟨_, _, rfl, rfl⟩, trivial⟩, trivial⟩⟩
      . cases hx
    . cases hx
abbrev Ty16 := List UInt8 -> Int -> Int -> Int -> Int -> Int -> List UInt8 -> Int -> List V -> List UInt8 -> Int -> List UInt8 -> Option (List UInt8 × Int × List UInt8 × Int × List V × Int)
noncomputable def e_cReply {R : Type} (s : Ty16) (dst : Nat) (ds : List D) (m : Mem) (K : List D -> Mem -> Option R) : Option R :=
  match ds with
  | [.ptr (kv0 + 1) sv0 0, .v (.bytes x0) .no] => viewK [(kv0, sv0)] m fun Bs => (match Bs with
    | [⟨77, [.v (.int .i64 y0) .no, .v (.int .i64 y1) .no, .v (.int .i64 y2) .no, .v (.int .i64 y3) .no, .v (.int .i64 y4) .no, .v (.bytes y5) _, .v (.int .i64 y6) .no, .v (.sl 27 y7) _, .v (.bytes y8) (.own (.slot 0) 5), .v (.int .i64 y9) .no, .v (.bytes y10) _]⟩] => bnd6 (s x0 y0 y1 y2 y3 y4 y5 y6 y7 y8 y9 y10) fun r0 z4 z5 z6 z7 z9 => putAllK [(kv0, sv0)] [⟨77, [.v (.int .i64 y0) .no, .v (.int .i64 y1) .no, .v (.int .i64 y2) .no, .v (.int .i64 y3) .no, .v (.int .i64 z4) .no, .v (.bytes z5) .no, .v (.int .i64 z6) .no, .v (.sl 27 z7) .no, .v (.bytes y8) (.own (.slot 0) 5), .v (.int .i64 z9) .no, .v (.bytes y10) .no]⟩] m fun m' => K [.v (.bytes r0) .no] m'
    | _ => none)
  | _ => none
noncomputable def C_cReply {R : Type} (N : Nat) (x0 : List UInt8) (y0 y1 y2 y3 y4 : Int) (y5 : List UInt8) (y6 : Int) (y7 : List V) (y8 : List UInt8) (y9 : Int) (y10 : List UInt8) (K0 : List UInt8 -> Int -> List UInt8 -> Int -> List V -> Int -> Option R) : Option R := bnd1 (s_cMade N y0 y1 y2 y3 y4 y5 y6 y7 y8 y9 y10) fun b0 => br (!b0) (K0 [] y4 y5 y6 y7 y9) (br (!decide (y9 = 2)) (K0 [] y4 y5 y6 y7 y9) (bnd5 (s_cSend N x0 y0 y1 y2 y3 y4 y5 y6 y7 y8 4 y10) fun l1 n2 l3 n4 l5 => K0 l1 n2 l3 n4 l5 4))
noncomputable def s_cReply (N : Nat) (x0 : List UInt8) (y0 y1 y2 y3 y4 : Int) (y5 : List UInt8) (y6 : Int) (y7 : List V) (y8 : List UInt8) (y9 : Int) (y10 : List UInt8) : Option (List UInt8 × Int × List UInt8 × Int × List V × Int) := C_cReply N x0 y0 y1 y2 y3 y4 y5 y6 y7 y8 y9 y10 (fun r0 z4 z5 z6 z7 z9 => some (r0, z4, z5, z6, z7, z9))
noncomputable def cx_cReply (N : Nat) : Cx := cxO [] [⟨43, e_cMade (s_cMade N)⟩, ⟨58, e_cSend (s_cSend N)⟩]
theorem C_cReply_ok {R : Type} (N : Nat) (x0 y0 y1 y2 y3 y4 y5 y6 y7 y8 y9 y10 K : _) : bodyK (R := R) (cx_cReply N) Try.f15 [.ptr 1 0 0, dY x0] [frOf 0 [g1a y0 y1 y2 y3 y4 y5 y6 y7 y8 y9 y10]] (r_cEnc K) = C_cReply N x0 y0 y1 y2 y3 y4 y5 y6 y7 y8 y9 y10 (fun r0 z4 z5 z6 z7 z9 => K r0 y0 y1 y2 y3 z4 z5 z6 z7 y8 z9 y10) := by
  kernel_rfl
abbrev Q_cReply (s : Ty16) : Prop := ∀ x0 y0 y1 y2 y3 y4 y5 y6 y7 y8 y9 y10 r0 z4 z5 z6 z7 z9, s x0 y0 y1 y2 y3 y4 y5 y6 y7 y8 y9 y10 = some (r0, z4, z5, z6, z7, z9) -> ViewRet Try.prog T 15 [.ptr 1 0 0, dY x0] [g1a y0 y1 y2 y3 y4 y5 y6 y7 y8 y9 y10] [dY r0] [g1a y0 y1 y2 y3 z4 z5 z6 z7 y8 z9 y10]
theorem eo_cReply (s : Ty16) (hs : Q_cReply s) : MEntOK Try.prog T ⟨15, e_cReply s⟩ := by
  refine ⟨goes_of Try.func15 (by kernel_rfl) (c := bodyOf Try.f15) (by kernel_rfl), fun R dst ds m K r h => ?_⟩
  simp only [e_cReply] at h
  split at h
  . obtain ⟨Bs, a1, a2, a3, h⟩ := viewK_some h
    split at h
    . obtain ⟨r0, z4, z5, z6, z7, z9, h1, h2⟩ := bnd6_some h
      rw [putAllK_eq] at h2
      exact ⟨_, _, h2, ViewRet.weakIn (hs _ _ _ _ _ _ _ _ _ _ _ _ _ _ _ _ _ _ h1) (by exact ⟨⟨rfl, .inl rfl, .inl rfl, .inl rfl, .inl rfl, .inl rfl, .inr ⟨_, _, rfl, rfl⟩, .inl rfl, .inr ⟨_, _, rfl, rfl⟩, .inl rfl, .inl rfl, .inr ⟨_, _, rfl, rfl⟩, trivial⟩, trivial⟩) rfl _ _ m dst a1 a2 a3 ⟨aren_ptr _ rfl, aren_v _, trivial⟩⟩
    . cases h
  . cases h
open Classical in
theorem p_cReply (N : Nat) : Q_cReply (s_cReply N) := fun x0 y0 y1 y2 y3 y4 y5 y6 y7 y8 y9 y10 r0 z4 z5 z6 z7 z9 h => by
  refine view_ofW (cx := cx_cReply N) (by kernel_rfl) (cxO_ok trivial ⟨eo_cMade _ (p_cMade N), eo_cSend _ (p_cSend N), trivial⟩) Try.func15 (by kernel_rfl) (by kernel_rfl) (loopsOK_of (k := 0) (by kernel_rfl) trivial) (by rfl) (by rfl) (by rfl) (rf := r_cEnc (fun r0' z'0 z'1 z'2 z'3 z'4 z'5 z'6 z'7 z'8 z'9 z'10 => if z'0 = y0 /\ z'1 = y1 /\ z'2 = y2 /\ z'3 = y3 /\ z'8 = y8 /\ z'10 = y10 then some (r0', z'4, z'5, z'6, z'7, z'9) else none)) (r := (r0, z4, z5, z6, z7, z9)) ?_ ?_
  . exact (C_cReply_ok ..).trans ((congrArg (fun K => C_cReply N x0 y0 y1 y2 y3 y4 y5 y6 y7 y8 y9 y10 K) (funext fun r0' => funext fun z'4 => funext fun z'5 => funext fun z'6 => funext fun z'7 => funext fun z'9 => if_pos ⟨rfl, rfl, rfl, rfl, rfl, rfl⟩)).trans h)
  . intro rs' m' hx
    unfold r_cEnc at hx
    split at hx
    . dsimp only at hx
      split at hx
      . rename_i hk
        obtain ⟨rfl, rfl, rfl, rfl, rfl, rfl⟩ := hk
        cases hx; exact ⟨rfl, rfl, _, [⟨77, [_, _, _, _, _, _, _, _, _, _, _]⟩], rfl, rfl, ⟨⟨rfl, .inl rfl, .inl rfl, .inl rfl, .inl rfl, .inl rfl, .inr ⟨_, _, rfl, rfl⟩, .inl rfl, .inr ⟨_, _, rfl, rfl⟩, .inl rfl, .inl rfl, .inr ⟨_, _, rfl, rfl⟩, trivial⟩, trivial⟩⟩
      . cases hx
    . cases hx
abbrev Ty17 := Int -> Int -> Int -> Int -> Int -> List UInt8 -> Int -> List V -> List UInt8 -> Int -> Int -> List UInt8 -> Bool -> Int -> Option (Bool)
noncomputable def e_tMade {R : Type} (s : Ty17) (dst : Nat) (ds : List D) (m : Mem) (K : List D -> Mem -> Option R) : Option R :=
  match ds with
  | [.ptr (kv0 + 1) sv0 0] => viewK [(kv0, sv0)] m fun Bs => (match Bs with
    | [⟨95, [.v (.int .i64 y0) .no, .v (.int .i64 y1) .no, .v (.int .i64 y2) .no, .v (.int .i64 y3) .no, .v (.int .i64 y4) .no, .v (.bytes y5) _, .v (.int .i64 y6) .no, .v (.sl 27 y7) _, .v (.bytes y8) (.own (.slot 0) 5), .v (.int .i64 y9) .no, .v (.int .i64 y10) .no, .v (.bytes y11) _, .v (.bool y12) .no, .v (.int .i64 y13) .no]⟩] => bnd1 (s y0 y1 y2 y3 y4 y5 y6 y7 y8 y9 y10 y11 y12 y13) fun r0 => putAllK [(kv0, sv0)] [⟨95, [.v (.int .i64 y0) .no, .v (.int .i64 y1) .no, .v (.int .i64 y2) .no, .v (.int .i64 y3) .no, .v (.int .i64 y4) .no, .v (.bytes y5) .no, .v (.int .i64 y6) .no, .v (.sl 27 y7) .no, .v (.bytes y8) (.own (.slot 0) 5), .v (.int .i64 y9) .no, .v (.int .i64 y10) .no, .v (.bytes y11) .no, .v (.bool y12) .no, .v (.int .i64 y13) .no]⟩] m fun m' => K [.v (.bool r0) .no] m'
    | _ => none)
  | _ => none
noncomputable def r_tMade {α : Type} (K : Bool -> Int -> Int -> Int -> Int -> Int -> List UInt8 -> Int -> List V -> List UInt8 -> Int -> Int -> List UInt8 -> Bool -> Int -> Option α) (rs : List D) (m : Mem) : Option α :=
  match rs, m with
  | [.v (.bool r0) _], [_, [(0, ⟨95, [.v (.int .i64 z0) .no, .v (.int .i64 z1) .no, .v (.int .i64 z2) .no, .v (.int .i64 z3) .no, .v (.int .i64 z4) .no, .v (.bytes z5) _, .v (.int .i64 z6) .no, .v (.sl 27 z7) _, .v (.bytes z8) (.own (.slot 0) 5), .v (.int .i64 z9) .no, .v (.int .i64 z10) .no, .v (.bytes z11) _, .v (.bool z12) .no, .v (.int .i64 z13) .no]⟩)]] => K r0 z0 z1 z2 z3 z4 z5 z6 z7 z8 z9 z10 z11 z12 z13
  | _, _ => none
noncomputable def C_tMade {R : Type} (N : Nat) (y0 y1 y2 y3 y4 : Int) (y5 : List UInt8) (y6 : Int) (y7 : List V) (y8 : List UInt8) (y9 y10 : Int) (y11 : List UInt8) (y12 : Bool) (y13 : Int) (K0 : Bool -> Option R) : Option R := K0 (decide (0 < y1))
noncomputable def s_tMade (N : Nat) (y0 y1 y2 y3 y4 : Int) (y5 : List UInt8) (y6 : Int) (y7 : List V) (y8 : List UInt8) (y9 y10 : Int) (y11 : List UInt8) (y12 : Bool) (y13 : Int) : Option (Bool) := C_tMade N y0 y1 y2 y3 y4 y5 y6 y7 y8 y9 y10 y11 y12 y13 (fun r0 => some r0)
noncomputable def cx_tMade (N : Nat) : Cx := cxO [] []
abbrev g2a (a0 a1 a2 a3 a4 : Int) (a5 : List UInt8) (a6 : Int) (a7 : List V) (a8 : List UInt8) (a9 a10 : Int) (a11 : List UInt8) (a12 : Bool) (a13 : Int) : Bx := ⟨95, [dI a0, dI a1, dI a2, dI a3, dI a4, dY a5, dI a6, .v (.sl 27 a7) .no, .v (.bytes a8) (.own (.slot 0) 5), dI a9, dI a10, dY a11, dB a12, dI a13]⟩
theorem C_tMade_ok {R : Type} (N : Nat) (y0 y1 y2 y3 y4 y5 y6 y7 y8 y9 y10 y11 y12 y13 K : _) : bodyK (R := R) (cx_tMade N) Try.f62 [.ptr 1 0 0] [frOf 0 [g2a y0 y1 y2 y3 y4 y5 y6 y7 y8 y9 y10 y11 y12 y13]] (r_tMade K) = C_tMade N y0 y1 y2 y3 y4 y5 y6 y7 y8 y9 y10 y11 y12 y13 (fun r0 => K r0 y0 y1 y2 y3 y4 y5 y6 y7 y8 y9 y10 y11 y12 y13) := by
  kernel_rfl
abbrev Q_tMade (s : Ty17) : Prop := ∀ y0 y1 y2 y3 y4 y5 y6 y7 y8 y9 y10 y11 y12 y13 r0, s y0 y1 y2 y3 y4 y5 y6 y7 y8 y9 y10 y11 y12 y13 = some r0 -> ViewRet Try.prog T 62 [.ptr 1 0 0] [g2a y0 y1 y2 y3 y4 y5 y6 y7 y8 y9 y10 y11 y12 y13] [dB r0] [g2a y0 y1 y2 y3 y4 y5 y6 y7 y8 y9 y10 y11 y12 y13]
theorem eo_tMade (s : Ty17) (hs : Q_tMade s) : MEntOK Try.prog T ⟨62, e_tMade s⟩ := by
  refine ⟨goes_of Try.func62 (by kernel_rfl) (c := bodyOf Try.f62) (by kernel_rfl), fun R dst ds m K r h => ?_⟩
  simp only [e_tMade] at h
  split at h
  . obtain ⟨Bs, a1, a2, a3, h⟩ := viewK_some h
    split at h
    . obtain ⟨r0, h1, h2⟩ := bnd1_some h
      rw [putAllK_eq] at h2
      exact ⟨_, _, h2, ViewRet.weakIn (hs _ _ _ _ _ _ _ _ _ _ _ _ _ _ _ h1) (by exact ⟨⟨rfl, .inl rfl, .inl rfl, .inl rfl, .inl rfl, .inl rfl, .inr ⟨_, _, rfl, rfl⟩, .inl rfl, .inr ⟨_, _, rfl, rfl⟩, .inl rfl, .inl rfl, .inl rfl, .inr ⟨_, _, rfl, rfl⟩, .inl rfl, .inl rfl, trivial⟩, trivial⟩) rfl _ _ m dst a1 a2 a3 ⟨aren_ptr _ rfl, trivial⟩⟩
    . cases h
  . cases h
open Classical in
theorem p_tMade (N : Nat) : Q_tMade (s_tMade N) := fun y0 y1 y2 y3 y4 y5 y6 y7 y8 y9 y10 y11 y12 y13 r0 h => by
  refine view_ofW (cx := cx_tMade N) (by kernel_rfl) (cxO_ok trivial trivial) Try.func62 (by kernel_rfl) (by kernel_rfl) (loopsOK_of (k := 0) (by kernel_rfl) trivial) (by rfl) (by rfl) (by rfl) (rf := r_tMade (fun r0' z'0 z'1 z'2 z'3 z'4 z'5 z'6 z'7 z'8 z'9 z'10 z'11 z'12 z'13 => if z'0 = y0 /\ z'1 = y1 /\ z'2 = y2 /\ z'3 = y3 /\ z'4 = y4 /\ z'5 = y5 /\ z'6 = y6 /\ z'7 = y7 /\ z'8 = y8 /\ z'9 = y9 /\ z'10 = y10 /\ z'11 = y11 /\ z'12 = y12 /\ z'13 = y13 then some r0' else none)) (r := r0) ?_ ?_
  . exact (C_tMade_ok ..).trans ((congrArg (fun K => C_tMade N y0 y1 y2 y3 y4 y5 y6 y7 y8 y9 y10 y11 y12 y13 K) (funext fun r0' => if_pos ⟨rfl, rfl, rfl, rfl, rfl, rfl, rfl, rfl, rfl, rfl, rfl, rfl, rfl, rfl⟩)).trans h)
  . intro rs' m' hx
    unfold r_tMade at hx
    split at hx
    . dsimp only at hx
      split at hx
      . rename_i hk
        obtain ⟨rfl, rfl, rfl, rfl, rfl, rfl, rfl, rfl, rfl, rfl, rfl, rfl, rfl, rfl⟩ := hk
        cases hx; exact ⟨rfl, rfl, _, [⟨95, [_, _, _, _, _, _, _, _, _, _, _, _, _, _]⟩], rfl, rfl, ⟨⟨rfl, .inl rfl, .inl rfl, .inl rfl, .inl rfl, .inl rfl, .inr ⟨_, _, rfl, rfl⟩, .inl rfl, .inr ⟨_, _, rfl, rfl⟩, .inl rfl, .inl rfl, .inl rfl, .inr ⟨_, _, rfl, rfl⟩, .inl rfl, .inl rfl, trivial⟩, trivial⟩⟩
      . cases hx
    . cases hx
abbrev Ty18 := Int -> Int -> Int -> Bool -> Int -> Bool -> List UInt8 -> Int -> Int -> Int -> Int -> Int -> List UInt8 -> Int -> List V -> List UInt8 -> Int -> Int -> List UInt8 -> Bool -> Int -> Option (List UInt8)
noncomputable def e_tEnc {R : Type} (s : Ty18) (dst : Nat) (ds : List D) (m : Mem) (K : List D -> Mem -> Option R) : Option R :=
  match ds with
  | [.ptr (kv0 + 1) sv0 0, .agg [.v (.int .i64 x0) .no, .v (.int .i64 x1) .no, .v (.int .i64 x2) .no, .v (.bool x3) .no, .v (.int .i64 x4) .no, .v (.bool x5) .no, .v (.bytes x6) .no]] => viewK [(kv0, sv0)] m fun Bs => (match Bs with
    | [⟨95, [.v (.int .i64 y0) .no, .v (.int .i64 y1) .no, .v (.int .i64 y2) .no, .v (.int .i64 y3) .no, .v (.int .i64 y4) .no, .v (.bytes y5) _, .v (.int .i64 y6) .no, .v (.sl 27 y7) _, .v (.bytes y8) (.own (.slot 0) 5), .v (.int .i64 y9) .no, .v (.int .i64 y10) .no, .v (.bytes y11) _, .v (.bool y12) .no, .v (.int .i64 y13) .no]⟩] => bnd1 (s x0 x1 x2 x3 x4 x5 x6 y0 y1 y2 y3 y4 y5 y6 y7 y8 y9 y10 y11 y12 y13) fun r0 => putAllK [(kv0, sv0)] [⟨95, [.v (.int .i64 y0) .no, .v (.int .i64 y1) .no, .v (.int .i64 y2) .no, .v (.int .i64 y3) .no, .v (.int .i64 y4) .no, .v (.bytes y5) .no, .v (.int .i64 y6) .no, .v (.sl 27 y7) .no, .v (.bytes y8) (.own (.slot 0) 5), .v (.int .i64 y9) .no, .v (.int .i64 y10) .no, .v (.bytes y11) .no, .v (.bool y12) .no, .v (.int .i64 y13) .no]⟩] m fun m' => K [.v (.bytes r0) .no] m'
    | _ => none)
  | _ => none
noncomputable def r_tEnc {α : Type} (K : List UInt8 -> Int -> Int -> Int -> Int -> Int -> List UInt8 -> Int -> List V -> List UInt8 -> Int -> Int -> List UInt8 -> Bool -> Int -> Option α) (rs : List D) (m : Mem) : Option α :=
  match rs, m with
  | [.v (.bytes r0) _], [_, [(0, ⟨95, [.v (.int .i64 z0) .no, .v (.int .i64 z1) .no, .v (.int .i64 z2) .no, .v (.int .i64 z3) .no, .v (.int .i64 z4) .no, .v (.bytes z5) _, .v (.int .i64 z6) .no, .v (.sl 27 z7) _, .v (.bytes z8) (.own (.slot 0) 5), .v (.int .i64 z9) .no, .v (.int .i64 z10) .no, .v (.bytes z11) _, .v (.bool z12) .no, .v (.int .i64 z13) .no]⟩)]] => K r0 z0 z1 z2 z3 z4 z5 z6 z7 z8 z9 z10 z11 z12 z13
  | _, _ => none
noncomputable def C_tEnc {R : Type} (N : Nat) (x0 x1 x2 : Int) (x3 : Bool) (x4 : Int) (x5 : Bool) (x6 : List UInt8) (y0 y1 y2 y3 y4 : Int) (y5 : List UInt8) (y6 : Int) (y7 : List V) (y8 : List UInt8) (y9 y10 : Int) (y11 : List UInt8) (y12 : Bool) (y13 : Int) (K0 : List UInt8 -> Option R) : Option R := bnd2 (s_bEncode N x0 x1 x2 x3 x4 x5 x6 y0) fun l0 n1 => K0 l0
noncomputable def s_tEnc (N : Nat) (x0 x1 x2 : Int) (x3 : Bool) (x4 : Int) (x5 : Bool) (x6 : List UInt8) (y0 y1 y2 y3 y4 : Int) (y5 : List UInt8) (y6 : Int) (y7 : List V) (y8 : List UInt8) (y9 y10 : Int) (y11 : List UInt8) (y12 : Bool) (y13 : Int) : Option (List UInt8) := C_tEnc N x0 x1 x2 x3 x4 x5 x6 y0 y1 y2 y3 y4 y5 y6 y7 y8 y9 y10 y11 y12 y13 (fun r0 => some r0)
noncomputable def cx_tEnc (N : Nat) : Cx := cxO [⟨95, e_bEncode (s_bEncode N)⟩] []
theorem C_tEnc_ok {R : Type} (N : Nat) (x0 x1 x2 x3 x4 x5 x6 y0 y1 y2 y3 y4 y5 y6 y7 y8 y9 y10 y11 y12 y13 K : _) : bodyK (R := R) (cx_tEnc N) Try.f81 [.ptr 1 0 0, g0a x0 x1 x2 x3 x4 x5 x6] [frOf 0 [g2a y0 y1 y2 y3 y4 y5 y6 y7 y8 y9 y10 y11 y12 y13]] (r_tEnc K) = C_tEnc N x0 x1 x2 x3 x4 x5 x6 y0 y1 y2 y3 y4 y5 y6 y7 y8 y9 y10 y11 y12 y13 (fun r0 => K r0 y0 y1 y2 y3 y4 y5 y6 y7 y8 y9 y10 y11 y12 y13) := by
  kernel_rfl
abbrev Q_tEnc (s : Ty18) : Prop := ∀ x0 x1 x2 x3 x4 x5 x6 y0 y1 y2 y3 y4 y5 y6 y7 y8 y9 y10 y11 y12 y13 r0, s x0 x1 x2 x3 x4 x5 x6 y0 y1 y2 y3 y4 y5 y6 y7 y8 y9 y10 y11 y12 y13 = some r0 -> ViewRet Try.prog T 81 [.ptr 1 0 0, g0a x0 x1 x2 x3 x4 x5 x6] [g2a y0 y1 y2 y3 y4 y5 y6 y7 y8 y9 y10 y11 y12 y13] [dY r0] [g2a y0 y1 y2 y3 y4 y5 y6 y7 y8 y9 y10 y11 y12 y13]
theorem eo_tEnc (s : Ty18) (hs : Q_tEnc s) : MEntOK Try.prog T ⟨81, e_tEnc s⟩ := by
  refine ⟨goes_of Try.func81 (by kernel_rfl) (c := bodyOf Try.f81) (by kernel_rfl), fun R dst ds m K r h => ?_⟩
  simp only [e_tEnc] at h
  split at h
  . obtain ⟨Bs, a1, a2, a3, h⟩ := viewK_some h
    split at h
    . obtain ⟨r0, h1, h2⟩ := bnd1_some h
      rw [putAllK_eq] at h2
      exact ⟨_, _, h2, ViewRet.weakIn (hs _ _ _ _ _ _ _ _ _ _ _ _ _ _ _ _ _ _ _ _ _ _ h1) (by exact ⟨⟨rfl, .inl rfl, .inl rfl, .inl rfl, .inl rfl, .inl rfl, .inr ⟨_, _, rfl, rfl⟩, .inl rfl, .inr ⟨_, _, rfl, rfl⟩, .inl rfl, .inl rfl, .inl rfl, .inr ⟨_, _, rfl, rfl⟩, .inl rfl, .inl rfl, trivial⟩, trivial⟩) rfl _ _ m dst a1 a2 a3 ⟨aren_ptr _ rfl, aren_agg ⟨aren_v _, aren_v _, aren_v _, aren_v _, aren_v _, aren_v _, aren_v _, trivial⟩, trivial⟩⟩
    . cases h
  . cases h
open Classical in
theorem p_tEnc (N : Nat) : Q_tEnc (s_tEnc N) := fun x0 x1 x2 x3 x4 x5 x6 y0 y1 y2 y3 y4 y5 y6 y7 y8 y9 y10 y11 y12 y13 r0 h => by
  refine view_ofW (cx := cx_tEnc N) (by kernel_rfl) (cxO_ok ⟨eo_bEncode _ (p_bEncode N), trivial⟩ trivial) Try.func81 (by kernel_rfl) (by kernel_rfl) (loopsOK_of (k := 0) (by kernel_rfl) trivial) (by rfl) (by rfl) (by rfl) (rf := r_tEnc (fun r0' z'0 z'1 z'2 z'3 z'4 z'5 z'6 z'7 z'8 z'9 z'10 z'11 z'12 z'13 => if z'0 = y0 /\ z'1 = y1 /\ z'2 = y2 /\ z'3 = y3 /\ z'4 = y4 /\ z'5 = y5 /\ z'6 = y6 /\ z'7 = y7 /\ z'8 = y8 /\ z'9 = y9 /\ z'10 = y10 /\ z'11 = y11 /\ z'12 = y12 /\ z'13 = y13 then some r0' else none)) (r := r0) ?_ ?_
  . exact (C_tEnc_ok ..).trans ((congrArg (fun K => C_tEnc N x0 x1 x2 x3 x4 x5 x6 y0 y1 y2 y3 y4 y5 y6 y7 y8 y9 y10 y11 y12 y13 K) (funext fun r0' => if_pos ⟨rfl, rfl, rfl, rfl, rfl, rfl, rfl, rfl, rfl, rfl, rfl, rfl, rfl, rfl⟩)).trans h)
  . intro rs' m' hx
    unfold r_tEnc at hx
    split at hx
    . dsimp only at hx
      split at hx
      . rename_i hk
        obtain ⟨rfl, rfl, rfl, rfl, rfl, rfl, rfl, rfl, rfl, rfl, rfl, rfl, rfl, rfl⟩ := hk
        cases hx; exact ⟨rfl, rfl, _, [⟨95, [_, _, _, _, _, _, _, _, _, _, _, _, _, _]⟩], rfl, rfl, ⟨⟨rfl, .inl rfl, .inl rfl, .inl rfl, .inl rfl, .inl rfl, .inr ⟨_, _, rfl, rfl⟩, .inl rfl, .inr ⟨_, _, rfl, rfl⟩, .inl rfl, .inl rfl, .inl rfl, .inr ⟨_, _, rfl, rfl⟩, .inl rfl, .inl rfl, trivial⟩, trivial⟩⟩
      . cases hx
    . cases hx
abbrev Ty19 := List UInt8 -> Int -> Int -> Int -> Int -> Int -> List UInt8 -> Int -> List V -> List UInt8 -> Int -> Int -> List UInt8 -> Bool -> Int -> Option (Int × Int × Int × Bool × Int × Bool × List UInt8 × Int)
noncomputable def e_tDecode {R : Type} (s : Ty19) (dst : Nat) (ds : List D) (m : Mem) (K : List D -> Mem -> Option R) : Option R :=
  match ds with
  | [.ptr (kv0 + 1) sv0 0, .v (.bytes x0) .no] => viewK [(kv0, sv0)] m fun Bs => (match Bs with
    | [⟨95, [.v (.int .i64 y0) .no, .v (.int .i64 y1) .no, .v (.int .i64 y2) .no, .v (.int .i64 y3) .no, .v (.int .i64 y4) .no, .v (.bytes y5) _, .v (.int .i64 y6) .no, .v (.sl 27 y7) _, .v (.bytes y8) (.own (.slot 0) 5), .v (.int .i64 y9) .no, .v (.int .i64 y10) .no, .v (.bytes y11) _, .v (.bool y12) .no, .v (.int .i64 y13) .no]⟩] => bnd8 (s x0 y0 y1 y2 y3 y4 y5 y6 y7 y8 y9 y10 y11 y12 y13) fun r0 r1 r2 r3 r4 r5 r6 r7 => putAllK [(kv0, sv0)] [⟨95, [.v (.int .i64 y0) .no, .v (.int .i64 y1) .no, .v (.int .i64 y2) .no, .v (.int .i64 y3) .no, .v (.int .i64 y4) .no, .v (.bytes y5) .no, .v (.int .i64 y6) .no, .v (.sl 27 y7) .no, .v (.bytes y8) (.own (.slot 0) 5), .v (.int .i64 y9) .no, .v (.int .i64 y10) .no, .v (.bytes y11) .no, .v (.bool y12) .no, .v (.int .i64 y13) .no]⟩] m fun m' => K [.agg [.v (.int .i64 r0) .no, .v (.int .i64 r1) .no, .v (.int .i64 r2) .no, .v (.bool r3) .no, .v (.int .i64 r4) .no, .v (.bool r5) .no, .v (.bytes r6) .no], .v (.int .i64 r7) .no] m'
    | _ => none)
  | _ => none
noncomputable def r_tDecode {α : Type} (K : Int -> Int -> Int -> Bool -> Int -> Bool -> List UInt8 -> Int -> Int -> Int -> Int -> Int -> Int -> List UInt8 -> Int -> List V -> List UInt8 -> Int -> Int -> List UInt8 -> Bool -> Int -> Option α) (rs : List D) (m : Mem) : Option α :=
  match rs, m with
  | [.agg [.v (.int .i64 r0) _, .v (.int .i64 r1) _, .v (.int .i64 r2) _, .v (.bool r3) _, .v (.int .i64 r4) _, .v (.bool r5) _, .v (.bytes r6) _], .v (.int .i64 r7) _], [_, [(0, ⟨95, [.v (.int .i64 z0) .no, .v (.int .i64 z1) .no, .v (.int .i64 z2) .no, .v (.int .i64 z3) .no, .v (.int .i64 z4) .no, .v (.bytes z5) _, .v (.int .i64 z6) .no, .v (.sl 27 z7) _, .v (.bytes z8) (.own (.slot 0) 5), .v (.int .i64 z9) .no, .v (.int .i64 z10) .no, .v (.bytes z11) _, .v (.bool z12) .no, .v (.int .i64 z13) .no]⟩)]] => K r0 r1 r2 r3 r4 r5 r6 r7 z0 z1 z2 z3 z4 z5 z6 z7 z8 z9 z10 z11 z12 z13
  | _, _ => none
noncomputable def C_tDecode {R : Type} (N : Nat) (x0 : List UInt8) (y0 y1 y2 y3 y4 : Int) (y5 : List UInt8) (y6 : Int) (y7 : List V) (y8 : List UInt8) (y9 y10 : Int) (y11 : List UInt8) (y12 : Bool) (y13 : Int) (K0 : Int -> Int -> Int -> Bool -> Int -> Bool -> List UInt8 -> Int -> Option R) : Option R := bnd8 (s_bDecode N x0 y0) fun n0 n1 n2 b3 n4 b5 l6 n7 => br (decide (n7 = 6)) (K0 n0 n1 n2 b3 n4 b5 l6 1) (br (!decide (n7 = 0)) (K0 n0 n1 n2 b3 n4 b5 l6 2) (br (!decide (n0 = 0)) (K0 n0 n1 n2 b3 n4 b5 l6 2) (br (decide (n1 = 0)) (br (decide (y1 < (l6.length : Int))) (K0 n0 n1 n2 b3 n4 b5 l6 2) (K0 n0 n1 n2 b3 n4 b5 l6 0)) (K0 n0 n1 n2 b3 n4 b5 l6 0))))
noncomputable def s_tDecode (N : Nat) (x0 : List UInt8) (y0 y1 y2 y3 y4 : Int) (y5 : List UInt8) (y6 : Int) (y7 : List V) (y8 : List UInt8) (y9 y10 : Int) (y11 : List UInt8) (y12 : Bool) (y13 : Int) : Option (Int × Int × Int × Bool × Int × Bool × List UInt8 × Int) := C_tDecode N x0 y0 y1 y2 y3 y4 y5 y6 y7 y8 y9 y10 y11 y12 y13 (fun r0 r1 r2 r3 r4 r5 r6 r7 => some (r0, r1, r2, r3, r4, r5, r6, r7))
noncomputable def cx_tDecode (N : Nat) : Cx := cxO [⟨79, e_bDecode (s_bDecode N)⟩] []
theorem C_tDecode_ok {R : Type} (N : Nat) (x0 y0 y1 y2 y3 y4 y5 y6 y7 y8 y9 y10 y11 y12 y13 K : _) : bodyK (R := R) (cx_tDecode N) Try.f44 [.ptr 1 0 0, dY x0] [frOf 0 [g2a y0 y1 y2 y3 y4 y5 y6 y7 y8 y9 y10 y11 y12 y13]] (r_tDecode K) = C_tDecode N x0 y0 y1 y2 y3 y4 y5 y6 y7 y8 y9 y10 y11 y12 y13 (fun r0 r1 r2 r3 r4 r5 r6 r7 => K r0 r1 r2 r3 r4 r5 r6 r7 y0 y1 y2 y3 y4 y5 y6 y7 y8 y9 y10 y11 y12 y13) := by
  kernel_rfl
abbrev Q_tDecode (s : Ty19) : Prop := ∀ x0 y0 y1 y2 y3 y4 y5 y6 y7 y8 y9 y10 y11 y12 y13 r0 r1 r2 r3 r4 r5 r6 r7, s x0 y0 y1 y2 y3 y4 y5 y6 y7 y8 y9 y10 y11 y12 y13 = some (r0, r1, r2, r3, r4, r5, r6, r7) -> ViewRet Try.prog T 44 [.ptr 1 0 0, dY x0] [g2a y0 y1 y2 y3 y4 y5 y6 y7 y8 y9 y10 y11 y12 y13] [g0a r0 r1 r2 r3 r4 r5 r6, dI r7] [g2a y0 y1 y2 y3 y4 y5 y6 y7 y8 y9 y10 y11 y12 y13]
theorem eo_tDecode (s : Ty19) (hs : Q_tDecode s) : MEntOK Try.prog T ⟨44, e_tDecode s⟩ := by
  refine ⟨goes_of Try.func44 (by kernel_rfl) (c := bodyOf Try.f44) (by kernel_rfl), fun R dst ds m K r h => ?_⟩
  simp only [e_tDecode] at h
  split at h
  . obtain ⟨Bs, a1, a2, a3, h⟩ := viewK_some h
    split at h
    . obtain ⟨r0, r1, r2, r3, r4, r5, r6, r7, h1, h2⟩ := bnd8_some h
      rw [putAllK_eq] at h2
      exact ⟨_, _, h2, ViewRet.weakIn (hs _ _ _ _ _ _ _ _ _ _ _ _ _ _ _ _ _ _ _ _ _ _ _ h1) (by exact ⟨⟨rfl, .inl rfl, .inl rfl, .inl rfl, .inl rfl, .inl rfl, .inr ⟨_, _, rfl, rfl⟩, .inl rfl, .inr ⟨_, _, rfl, rfl⟩, .inl rfl, .inl rfl, .inl rfl, .inr ⟨_, _, rfl, rfl⟩, .inl rfl, .inl rfl, trivial⟩, trivial⟩) rfl _ _ m dst a1 a2 a3 ⟨aren_ptr _ rfl, aren_v _, trivial⟩⟩
    . cases h
  . cases h
open Classical in
theorem p_tDecode (N : Nat) : Q_tDecode (s_tDecode N) := fun x0 y0 y1 y2 y3 y4 y5 y6 y7 y8 y9 y10 y11 y12 y13 r0 r1 r2 r3 r4 r5 r6 r7 h => by
  refine view_ofW (cx := cx_tDecode N) (by kernel_rfl) (cxO_ok ⟨eo_bDecode _ (p_bDecode N), trivial⟩ trivial) Try.func44 (by kernel_rfl) (by kernel_rfl) (loopsOK_of (k := 0) (by kernel_rfl) trivial) (by rfl) (by rfl) (by rfl) (rf := r_tDecode (fun r0' r1' r2' r3' r4' r5' r6' r7' z'0 z'1 z'2 z'3 z'4 z'5 z'6 z'7 z'8 z'9 z'10 z'11 z'12 z'13 => if z'0 = y0 /\ z'1 = y1 /\ z'2 = y2 /\ z'3 = y3 /\ z'4 = y4 /\ z'5 = y5 /\ z'6 = y6 /\ z'7 = y7 /\ z'8 = y8 /\ z'9 = y9 /\ z'10 = y10 /\ z'11 = y11 /\ z'12 = y12 /\ z'13 = y13 then some (r0', r1', r2', r3', r4', r5', r6', r7') else none)) (r := (r0, r1, r2, r3, r4, r5, r6, r7)) ?_ ?_
  . exact (C_tDecode_ok ..).trans ((congrArg (fun K => C_tDecode N x0 y0 y1 y2 y3 y4 y5 y6 y7 y8 y9 y10 y11 y12 y13 K) (funext fun r0' => funext fun r1' => funext fun r2' => funext fun r3' => funext fun r4' => funext fun r5' => funext fun r6' => funext fun r7' => if_pos ⟨rfl, rfl, rfl, rfl, rfl, rfl, rfl, rfl, rfl, rfl, rfl, rfl, rfl, rfl⟩)).trans h)
  . intro rs' m' hx
    unfold r_tDecode at hx
    split at hx
    . dsimp only at hx
      split at hx
      . rename_i hk
        obtain ⟨rfl, rfl, rfl, rfl, rfl, rfl, rfl, rfl, rfl, rfl, rfl, rfl, rfl, rfl⟩ := hk
        cases hx; exact ⟨rfl, rfl, _, [⟨95, [_, _, _, _, _, _, _, _, _, _, _, _, _, _]⟩], rfl, rfl, ⟨⟨rfl, .inl rfl, .inl rfl, .inl rfl, .inl rfl, .inl rfl, .inr ⟨_, _, rfl, rfl⟩, .inl rfl, .inr ⟨_, _, rfl, rfl⟩, .inl rfl, .inl rfl, .inl rfl, .inr ⟨_, _, rfl, rfl⟩, .inl rfl, .inl rfl, trivial⟩, trivial⟩⟩
      . cases hx
    . cases hx
abbrev Ty20 := Int -> Int -> Int -> Int -> Int -> Int -> List UInt8 -> Int -> List V -> List UInt8 -> Int -> Int -> List UInt8 -> Bool -> Int -> Option (List UInt8)
noncomputable def e_tReady {R : Type} (s : Ty20) (dst : Nat) (ds : List D) (m : Mem) (K : List D -> Mem -> Option R) : Option R :=
  match ds with
  | [.ptr (kv0 + 1) sv0 0, .v (.int .i64 x0) .no] => viewK [(kv0, sv0)] m fun Bs => (match Bs with
    | [⟨95, [.v (.int .i64 y0) .no, .v (.int .i64 y1) .no, .v (.int .i64 y2) .no, .v (.int .i64 y3) .no, .v (.int .i64 y4) .no, .v (.bytes y5) _, .v (.int .i64 y6) .no, .v (.sl 27 y7) _, .v (.bytes y8) (.own (.slot 0) 5), .v (.int .i64 y9) .no, .v (.int .i64 y10) .no, .v (.bytes y11) _, .v (.bool y12) .no, .v (.int .i64 y13) .no]⟩] => bnd1 (s x0 y0 y1 y2 y3 y4 y5 y6 y7 y8 y9 y10 y11 y12 y13) fun r0 => putAllK [(kv0, sv0)] [⟨95, [.v (.int .i64 y0) .no, .v (.int .i64 y1) .no, .v (.int .i64 y2) .no, .v (.int .i64 y3) .no, .v (.int .i64 y4) .no, .v (.bytes y5) .no, .v (.int .i64 y6) .no, .v (.sl 27 y7) .no, .v (.bytes y8) (.own (.slot 0) 5), .v (.int .i64 y9) .no, .v (.int .i64 y10) .no, .v (.bytes y11) .no, .v (.bool y12) .no, .v (.int .i64 y13) .no]⟩] m fun m' => K [.v (.bytes r0) .no] m'
    | _ => none)
  | _ => none
noncomputable def C_tReady {R : Type} (N : Nat) (x0 y0 y1 y2 y3 y4 : Int) (y5 : List UInt8) (y6 : Int) (y7 : List V) (y8 : List UInt8) (y9 y10 : Int) (y11 : List UInt8) (y12 : Bool) (y13 : Int) (K0 : List UInt8 -> Option R) : Option R := bnd1 (s_tEnc N 0 1 y3 false x0 false [] y0 y1 y2 y3 y4 y5 y6 y7 y8 y9 y10 y11 y12 y13) fun l0 => K0 l0
noncomputable def s_tReady (N : Nat) (x0 y0 y1 y2 y3 y4 : Int) (y5 : List UInt8) (y6 : Int) (y7 : List V) (y8 : List UInt8) (y9 y10 : Int) (y11 : List UInt8) (y12 : Bool) (y13 : Int) : Option (List UInt8) := C_tReady N x0 y0 y1 y2 y3 y4 y5 y6 y7 y8 y9 y10 y11 y12 y13 (fun r0 => some r0)
noncomputable def cx_tReady (N : Nat) : Cx := cxO [] [⟨81, e_tEnc (s_tEnc N)⟩]
theorem C_tReady_ok {R : Type} (N : Nat) (x0 y0 y1 y2 y3 y4 y5 y6 y7 y8 y9 y10 y11 y12 y13 K : _) : bodyK (R := R) (cx_tReady N) Try.f47 [.ptr 1 0 0, dI x0] [frOf 0 [g2a y0 y1 y2 y3 y4 y5 y6 y7 y8 y9 y10 y11 y12 y13]] (r_tEnc K) = C_tReady N x0 y0 y1 y2 y3 y4 y5 y6 y7 y8 y9 y10 y11 y12 y13 (fun r0 => K r0 y0 y1 y2 y3 y4 y5 y6 y7 y8 y9 y10 y11 y12 y13) := by
  kernel_rfl
abbrev Q_tReady (s : Ty20) : Prop := ∀ x0 y0 y1 y2 y3 y4 y5 y6 y7 y8 y9 y10 y11 y12 y13 r0, s x0 y0 y1 y2 y3 y4 y5 y6 y7 y8 y9 y10 y11 y12 y13 = some r0 -> ViewRet Try.prog T 47 [.ptr 1 0 0, dI x0] [g2a y0 y1 y2 y3 y4 y5 y6 y7 y8 y9 y10 y11 y12 y13] [dY r0] [g2a y0 y1 y2 y3 y4 y5 y6 y7 y8 y9 y10 y11 y12 y13]
theorem eo_tReady (s : Ty20) (hs : Q_tReady s) : MEntOK Try.prog T ⟨47, e_tReady s⟩ := by
  refine ⟨goes_of Try.func47 (by kernel_rfl) (c := bodyOf Try.f47) (by kernel_rfl), fun R dst ds m K r h => ?_⟩
  simp only [e_tReady] at h
  split at h
  . obtain ⟨Bs, a1, a2, a3, h⟩ := viewK_some h
    split at h
    . obtain ⟨r0, h1, h2⟩ := bnd1_some h
      rw [putAllK_eq] at h2
      exact ⟨_, _, h2, ViewRet.weakIn (hs _ _ _ _ _ _ _ _ _ _ _ _ _ _ _ _ h1) (by exact ⟨⟨rfl, .inl rfl, .inl rfl, .inl rfl, .inl rfl, .inl rfl, .inr ⟨_, _, rfl, rfl⟩, .inl rfl, .inr ⟨_, _, rfl, rfl⟩, .inl rfl, .inl rfl, .inl rfl, .inr ⟨_, _, rfl, rfl⟩, .inl rfl, .inl rfl, trivial⟩, trivial⟩) rfl _ _ m dst a1 a2 a3 ⟨aren_ptr _ rfl, aren_v _, trivial⟩⟩
    . cases h
  . cases h
open Classical in
theorem p_tReady (N : Nat) : Q_tReady (s_tReady N) := fun x0 y0 y1 y2 y3 y4 y5 y6 y7 y8 y9 y10 y11 y12 y13 r0 h => by
  refine view_ofW (cx := cx_tReady N) (by kernel_rfl) (cxO_ok trivial ⟨eo_tEnc _ (p_tEnc N), trivial⟩) Try.func47 (by kernel_rfl) (by kernel_rfl) (loopsOK_of (k := 0) (by kernel_rfl) trivial) (by rfl) (by rfl) (by rfl) (rf := r_tEnc (fun r0' z'0 z'1 z'2 z'3 z'4 z'5 z'6 z'7 z'8 z'9 z'10 z'11 z'12 z'13 => if z'0 = y0 /\ z'1 = y1 /\ z'2 = y2 /\ z'3 = y3 /\ z'4 = y4 /\ z'5 = y5 /\ z'6 = y6 /\ z'7 = y7 /\ z'8 = y8 /\ z'9 = y9 /\ z'10 = y10 /\ z'11 = y11 /\ z'12 = y12 /\ z'13 = y13 then some r0' else none)) (r := r0) ?_ ?_
  . exact (C_tReady_ok ..).trans ((congrArg (fun K => C_tReady N x0 y0 y1 y2 y3 y4 y5 y6 y7 y8 y9 y10 y11 y12 y13 K) (funext fun r0' => if_pos ⟨rfl, rfl, rfl, rfl, rfl, rfl, rfl, rfl, rfl, rfl, rfl, rfl, rfl, rfl⟩)).trans h)
  . intro rs' m' hx
    unfold r_tEnc at hx
    split at hx
    . dsimp only at hx
      split at hx
      . rename_i hk
        obtain ⟨rfl, rfl, rfl, rfl, rfl, rfl, rfl, rfl, rfl, rfl, rfl, rfl, rfl, rfl⟩ := hk
        cases hx; exact ⟨rfl, rfl, _, [⟨95, [_, _, _, _, _, _, _, _, _, _, _, _, _, _]⟩], rfl, rfl, ⟨⟨rfl, .inl rfl, .inl rfl, .inl rfl, .inl rfl, .inl rfl, .inr ⟨_, _, rfl, rfl⟩, .inl rfl, .inr ⟨_, _, rfl, rfl⟩, .inl rfl, .inl rfl, .inl rfl, .inr ⟨_, _, rfl, rfl⟩, .inl rfl, .inl rfl, trivial⟩, trivial⟩⟩
      . cases hx
    . cases hx
end Go.Proofs.Ytilfphdeacogmaa.En

/- Functions of the program in plain Lean, joined to the program by evaluation; printed by a program. -/
namespace Go.Proofs.Ytilfphdeacogmaa.En
open Go Go.Proofs
set_option maxRecDepth 100000
set_option maxHeartbeats 8000000
set_option linter.unusedVariables false
abbrev Ty21 := Int -> Bool -> List UInt8 -> Int -> Int -> Int -> Int -> Int -> List UInt8 -> Int -> List V -> List UInt8 -> Int -> Int -> List UInt8 -> Bool -> Int -> Option (List UInt8)
noncomputable def e_tSpecial {R : Type} (s : Ty21) (dst : Nat) (ds : List D) (m : Mem) (K : List D -> Mem -> Option R) : Option R :=
  match ds with
  | [.ptr (kv0 + 1) sv0 0, .v (.int .i64 x0) .no, .v (.bool x1) .no, .v (.bytes x2) .no] => viewK [(kv0, sv0)] m fun Bs => (match Bs with
    | [⟨95, [.v (.int .i64 y0) .no, .v (.int .i64 y1) .no, .v (.int .i64 y2) .no, .v (.int .i64 y3) .no, .v (.int .i64 y4) .no, .v (.bytes y5) _, .v (.int .i64 y6) .no, .v (.sl 27 y7) _, .v (.bytes y8) (.own (.slot 0) 5), .v (.int .i64 y9) .no, .v (.int .i64 y10) .no, .v (.bytes y11) _, .v (.bool y12) .no, .v (.int .i64 y13) .no]⟩] => bnd1 (s x0 x1 x2 y0 y1 y2 y3 y4 y5 y6 y7 y8 y9 y10 y11 y12 y13) fun r0 => putAllK [(kv0, sv0)] [⟨95, [.v (.int .i64 y0) .no, .v (.int .i64 y1) .no, .v (.int .i64 y2) .no, .v (.int .i64 y3) .no, .v (.int .i64 y4) .no, .v (.bytes y5) .no, .v (.int .i64 y6) .no, .v (.sl 27 y7) .no, .v (.bytes y8) (.own (.slot 0) 5), .v (.int .i64 y9) .no, .v (.int .i64 y10) .no, .v (.bytes y11) .no, .v (.bool y12) .no, .v (.int .i64 y13) .no]⟩] m fun m' => K [.v (.bytes r0) .no] m'
    | _ => none)
  | _ => none
noncomputable def C_tSpecial {R : Type} (N : Nat) (x0 : Int) (x1 : Bool) (x2 : List UInt8) (y0 y1 y2 y3 y4 : Int) (y5 : List UInt8) (y6 : Int) (y7 : List V) (y8 : List UInt8) (y9 y10 : Int) (y11 : List UInt8) (y12 : Bool) (y13 : Int) (K0 : List UInt8 -> Option R) : Option R := bnd1 (s_tEnc N 0 2 0 false x0 x1 x2 y0 y1 y2 y3 y4 y5 y6 y7 y8 y9 y10 y11 y12 y13) fun l0 => K0 l0
noncomputable def s_tSpecial (N : Nat) (x0 : Int) (x1 : Bool) (x2 : List UInt8) (y0 y1 y2 y3 y4 : Int) (y5 : List UInt8) (y6 : Int) (y7 : List V) (y8 : List UInt8) (y9 y10 : Int) (y11 : List UInt8) (y12 : Bool) (y13 : Int) : Option (List UInt8) := C_tSpecial N x0 x1 x2 y0 y1 y2 y3 y4 y5 y6 y7 y8 y9 y10 y11 y12 y13 (fun r0 => some r0)
noncomputable def cx_tSpecial (N : Nat) : Cx := cxO [] [⟨81, e_tEnc (s_tEnc N)⟩]
theorem C_tSpecial_ok {R : Type} (N : Nat) (x0 x1 x2 y0 y1 y2 y3 y4 y5 y6 y7 y8 y9 y10 y11 y12 y13 K : _) : bodyK (R := R) (cx_tSpecial N) Try.f46 [.ptr 1 0 0, dI x0, dB x1, dY x2] [frOf 0 [g2a y0 y1 y2 y3 y4 y5 y6 y7 y8 y9 y10 y11 y12 y13]] (r_tEnc K) = C_tSpecial N x0 x1 x2 y0 y1 y2 y3 y4 y5 y6 y7 y8 y9 y10 y11 y12 y13 (fun r0 => K r0 y0 y1 y2 y3 y4 y5 y6 y7 y8 y9 y10 y11 y12 y13) := by
  kernel_rfl
abbrev Q_tSpecial (s : Ty21) : Prop := ∀ x0 x1 x2 y0 y1 y2 y3 y4 y5 y6 y7 y8 y9 y10 y11 y12 y13 r0, s x0 x1 x2 y0 y1 y2 y3 y4 y5 y6 y7 y8 y9 y10 y11 y12 y13 = some r0 -> ViewRet Try.prog T 46 [.ptr 1 0 0, dI x0, dB x1, dY x2] [g2a y0 y1 y2 y3 y4 y5 y6 y7 y8 y9 y10 y11 y12 y13] [dY r0] [g2a y0 y1 y2 y3 y4 y5 y6 y7 y8 y9 y10 y11 y12 y13]
theorem eo_tSpecial (s : Ty21) (hs : Q_tSpecial s) : MEntOK Try.prog T ⟨46, e_tSpecial s⟩ := by
  refine ⟨goes_of Try.func46 (by kernel_rfl) (c := bodyOf Try.f46) (by kernel_rfl), fun R dst ds m K r h => ?_⟩
  simp only [e_tSpecial] at h
  split at h
  . obtain ⟨Bs, a1, a2, a3, h⟩ := viewK_some h
    split at h
    . obtain ⟨r0, h1, h2⟩ := bnd1_some h
      rw [putAllK_eq] at h2
      exact ⟨_, _, h2, ViewRet.weakIn (hs _ _ _ _ _ _ _ _ _ _ _ _ _ _ _ _ _ _ h1) (by exact ⟨⟨rfl, .inl rfl, .inl rfl, .inl rfl, .inl rfl, .inl rfl, .inr ⟨_, _, rfl, rfl⟩, .inl rfl, .inr ⟨_, _, rfl, rfl⟩, .inl rfl, .inl rfl, .inl rfl, .inr ⟨_, _, rfl, rfl⟩, .inl rfl, .inl rfl, trivial⟩, trivial⟩) rfl _ _ m dst a1 a2 a3 ⟨aren_ptr _ rfl, aren_v _, aren_v _, aren_v _, trivial⟩⟩
    . cases h
  . cases h
open Classical in
theorem p_tSpecial (N : Nat) : Q_tSpecial (s_tSpecial N) := fun x0 x1 x2 y0 y1 y2 y3 y4 y5 y6 y7 y8 y9 y10 y11 y12 y13 r0 h => by
  refine view_ofW (cx := cx_tSpecial N) (by kernel_rfl) (cxO_ok trivial ⟨eo_tEnc _ (p_tEnc N), trivial⟩) Try.func46 (by kernel_rfl) (by kernel_rfl) (loopsOK_of (k := 0) (by kernel_rfl) trivial) (by rfl) (by rfl) (by rfl) (rf := r_tEnc (fun r0' z'0 z'1 z'2 z'3 z'4 z'5 z'6 z'7 z'8 z'9 z'10 z'11 z'12 z'13 => if z'0 = y0 /\ z'1 = y1 /\ z'2 = y2 /\ z'3 = y3 /\ z'4 = y4 /\ z'5 = y5 /\ z'6 = y6 /\ z'7 = y7 /\ z'8 = y8 /\ z'9 = y9 /\ z'10 = y10 /\ z'11 = y11 /\ z'12 = y12 /\ z'13 = y13 then some r0' else none)) (r := r0) ?_ ?_
  . exact (C_tSpecial_ok ..).trans ((congrArg (fun K => C_tSpecial N x0 x1 x2 y0 y1 y2 y3 y4 y5 y6 y7 y8 y9 y10 y11 y12 y13 K) (funext fun r0' => if_pos ⟨rfl, rfl, rfl, rfl, rfl, rfl, rfl, rfl, rfl, rfl, rfl, rfl, rfl, rfl⟩)).trans h)
  . intro rs' m' hx
    unfold r_tEnc at hx
    split at hx
    . dsimp only at hx
      split at hx
      . rename_i hk
        obtain ⟨rfl, rfl, rfl, rfl, rfl, rfl, rfl, rfl, rfl, rfl, rfl, rfl, rfl, rfl⟩ := hk
        cases hx; exact ⟨rfl, rfl, _, [⟨95, [_, _, _, _, _, _, _, _, _, _, _, _, _, _]⟩], rfl, rfl, ⟨⟨rfl, .inl rfl, .inl rfl, .inl rfl, .inl rfl, .inl rfl, .inr ⟨_, _, rfl, rfl⟩, .inl rfl, .inr ⟨_, _, rfl, rfl⟩, .inl rfl, .inl rfl, .inl rfl, .inr ⟨_, _, rfl, rfl⟩, .inl rfl, .inl rfl, trivial⟩, trivial⟩⟩
      . cases hx
    . cases hx
abbrev Ty22 := Int -> Int -> Int -> Int -> Int -> List UInt8 -> Int -> List V -> List UInt8 -> Int -> Int -> List UInt8 -> Bool -> Int -> Option (List UInt8 × Int × List UInt8 × Int × List V)
noncomputable def e_tPiece {R : Type} (s : Ty22) (dst : Nat) (ds : List D) (m : Mem) (K : List D -> Mem -> Option R) : Option R :=
  match ds with
  | [.ptr (kv0 + 1) sv0 0] => viewK [(kv0, sv0)] m fun Bs => (match Bs with
    | [⟨95, [.v (.int .i64 y0) .no, .v (.int .i64 y1) .no, .v (.int .i64 y2) .no, .v (.int .i64 y3) .no, .v (.int .i64 y4) .no, .v (.bytes y5) _, .v (.int .i64 y6) .no, .v (.sl 27 y7) _, .v (.bytes y8) (.own (.slot 0) 5), .v (.int .i64 y9) .no, .v (.int .i64 y10) .no, .v (.bytes y11) _, .v (.bool y12) .no, .v (.int .i64 y13) .no]⟩] => bnd5 (s y0 y1 y2 y3 y4 y5 y6 y7 y8 y9 y10 y11 y12 y13) fun r0 z4 z5 z6 z7 => putAllK [(kv0, sv0)] [⟨95, [.v (.int .i64 y0) .no, .v (.int .i64 y1) .no, .v (.int .i64 y2) .no, .v (.int .i64 y3) .no, .v (.int .i64 z4) .no, .v (.bytes z5) .no, .v (.int .i64 z6) .no, .v (.sl 27 z7) .no, .v (.bytes y8) (.own (.slot 0) 5), .v (.int .i64 y9) .no, .v (.int .i64 y10) .no, .v (.bytes y11) .no, .v (.bool y12) .no, .v (.int .i64 y13) .no]⟩] m fun m' => K [.v (.bytes r0) .no] m'
    | _ => none)
  | _ => none
noncomputable def C_tPiece {R : Type} (N : Nat) (y0 y1 y2 y3 y4 : Int) (y5 : List UInt8) (y6 : Int) (y7 : List V) (y8 : List UInt8) (y9 y10 : Int) (y11 : List UInt8) (y12 : Bool) (y13 : Int) (K0 : List UInt8 -> Int -> List UInt8 -> Int -> List V -> Option R) : Option R := br (decide (0 < (y7.length : Int))) (at? y7 0 fun x0 => x0.unBytes fun l1 => br (decide (1 <= (y7.length : Int))) (bnd1 (s_tEnc N 0 0 y4 (decide (0 < ((List.drop 1 y7).length : Int))) 0 false l1 y0 y1 y2 y3 y4 y5 y6 (List.drop 1 y7) y8 y9 y10 y11 y12 y13) fun l2 => bnd1 (s_clone N l2) fun l3 => K0 l3 (IntKind.i64.wrap (1 - y4)) l2 y4 (List.drop 1 y7)) none) none
noncomputable def s_tPiece (N : Nat) (y0 y1 y2 y3 y4 : Int) (y5 : List UInt8) (y6 : Int) (y7 : List V) (y8 : List UInt8) (y9 y10 : Int) (y11 : List UInt8) (y12 : Bool) (y13 : Int) : Option (List UInt8 × Int × List UInt8 × Int × List V) := C_tPiece N y0 y1 y2 y3 y4 y5 y6 y7 y8 y9 y10 y11 y12 y13 (fun r0 z4 z5 z6 z7 => some (r0, z4, z5, z6, z7))
noncomputable def cx_tPiece (N : Nat) : Cx := cxO [⟨60, e_clone (s_clone N)⟩] [⟨81, e_tEnc (s_tEnc N)⟩]
theorem C_tPiece_ok {R : Type} (N : Nat) (y0 y1 y2 y3 y4 y5 y6 y7 y8 y9 y10 y11 y12 y13 K : _) : bodyK (R := R) (cx_tPiece N) Try.f82 [.ptr 1 0 0] [frOf 0 [g2a y0 y1 y2 y3 y4 y5 y6 y7 y8 y9 y10 y11 y12 y13]] (r_tEnc K) = C_tPiece N y0 y1 y2 y3 y4 y5 y6 y7 y8 y9 y10 y11 y12 y13 (fun r0 z4 z5 z6 z7 => K r0 y0 y1 y2 y3 z4 z5 z6 z7 y8 y9 y10 y11 y12 y13) := by
  kernel_rfl
abbrev Q_tPiece (s : Ty22) : Prop := ∀ y0 y1 y2 y3 y4 y5 y6 y7 y8 y9 y10 y11 y12 y13 r0 z4 z5 z6 z7, s y0 y1 y2 y3 y4 y5 y6 y7 y8 y9 y10 y11 y12 y13 = some (r0, z4, z5, z6, z7) -> ViewRet Try.prog T 82 [.ptr 1 0 0] [g2a y0 y1 y2 y3 y4 y5 y6 y7 y8 y9 y10 y11 y12 y13] [dY r0] [g2a y0 y1 y2 y3 z4 z5 z6 z7 y8 y9 y10 y11 y12 y13]
theorem eo_tPiece (s : Ty22) (hs : Q_tPiece s) : MEntOK Try.prog T ⟨82, e_tPiece s⟩ := by
  refine ⟨goes_of Try.func82 (by kernel_rfl) (c := bodyOf Try.f82) (by kernel_rfl), fun R dst ds m K r h => ?_⟩
  simp only [e_tPiece] at h
  split at h
  . obtain ⟨Bs, a1, a2, a3, h⟩ := viewK_some h
    split at h
    . obtain ⟨r0, z4, z5, z6, z7, h1, h2⟩ := bnd5_some h
      rw [putAllK_eq] at h2
      exact ⟨_, _, h2, ViewRet.weakIn (hs _ _ _ _ _ _ _ _ _ _ _ _ _ _ _ _ _ _ _ h1) (by exact ⟨⟨rfl, .inl rfl, .inl rfl, .inl rfl, .inl rfl, .inl rfl, .inr ⟨_, _, rfl, rfl⟩, .inl rfl, .inr ⟨_, _, rfl, rfl⟩, .inl rfl, .inl rfl, .inl rfl, .inr ⟨_, _, rfl, rfl⟩, .inl rfl, .inl rfl, trivial⟩, trivial⟩) rfl _ _ m dst a1 a2 a3 ⟨aren_ptr _ rfl, trivial⟩⟩
    . cases h
  . cases h
open Classical in
theorem p_tPiece (N : Nat) : Q_tPiece (s_tPiece N) := fun y0 y1 y2 y3 y4 y5 y6 y7 y8 y9 y10 y11 y12 y13 r0 z4 z5 z6 z7 h => by
  refine view_ofW (cx := cx_tPiece N) (by kernel_rfl) (cxO_ok ⟨eo_clone _ (p_clone N), trivial⟩ ⟨eo_tEnc _ (p_tEnc N), trivial⟩) Try.func82 (by kernel_rfl) (by kernel_rfl) (loopsOK_of (k := 0) (by kernel_rfl) trivial) (by rfl) (by rfl) (by rfl) (rf := r_tEnc (fun r0' z'0 z'1 z'2 z'3 z'4 z'5 z'6 z'7 z'8 z'9 z'10 z'11 z'12 z'13 => if z'0 = y0 /\ z'1 = y1 /\ z'2 = y2 /\ z'3 = y3 /\ z'8 = y8 /\ z'9 = y9 /\ z'10 = y10 /\ z'11 = y11 /\ z'12 = y12 /\ z'13 = y13 then some (r0', z'4, z'5, z'6, z'7) else none)) (r := (r0, z4, z5, z6, z7)) ?_ ?_
  . exact (C_tPiece_ok ..).trans ((congrArg (fun K => C_tPiece N y0 y1 y2 y3 y4 y5 y6 y7 y8 y9 y10 y11 y12 y13 K) (funext fun r0' => funext fun z'4 => funext fun z'5 => funext fun z'6 => funext fun z'7 => if_pos ⟨rfl, rfl, rfl, rfl, rfl, rfl, rfl, rfl, rfl, rfl⟩)).trans h)
  . intro rs' m' hx
    unfold r_tEnc at hx
    split at hx
    . dsimp only at hx
      split at hx
      . rename_i hk
        obtain ⟨rfl, rfl, rfl, rfl, rfl, rfl, rfl, rfl, rfl, rfl⟩ := hk
        cases hx; exact ⟨rfl, rfl, _, [⟨95, [_, _, _, _, _, _, _, _, _, _, _, _, _, _]⟩], rfl, rfl, ⟨⟨rfl, .inl rfl, .inl rfl, .inl rfl, .inl rfl, .inl rfl, .inr ⟨_, _, rfl, rfl⟩, .inl rfl, .inr ⟨_, _, rfl, rfl⟩, .inl rfl, .inl rfl, .inl rfl, .inr ⟨_, _, rfl, rfl⟩, .inl rfl, .inl rfl, trivial⟩, trivial⟩⟩
      . cases hx
    . cases hx
abbrev Ty23 := List UInt8 -> Int -> Int -> Int -> Int -> Int -> List UInt8 -> Int -> List V -> List UInt8 -> Int -> Int -> List UInt8 -> Bool -> Int -> Option (List UInt8 × Int × List UInt8 × Int × List V)
noncomputable def e_tSendC {R : Type} (s : Ty23) (dst : Nat) (ds : List D) (m : Mem) (K : List D -> Mem -> Option R) : Option R :=
  match ds with
  | [.ptr (kv0 + 1) sv0 0, .v (.bytes x0) .no] => viewK [(kv0, sv0)] m fun Bs => (match Bs with
    | [⟨95, [.v (.int .i64 y0) .no, .v (.int .i64 y1) .no, .v (.int .i64 y2) .no, .v (.int .i64 y3) .no, .v (.int .i64 y4) .no, .v (.bytes y5) _, .v (.int .i64 y6) .no, .v (.sl 27 y7) _, .v (.bytes y8) (.own (.slot 0) 5), .v (.int .i64 y9) .no, .v (.int .i64 y10) .no, .v (.bytes y11) _, .v (.bool y12) .no, .v (.int .i64 y13) .no]⟩] => bnd5 (s x0 y0 y1 y2 y3 y4 y5 y6 y7 y8 y9 y10 y11 y12 y13) fun r0 z4 z5 z6 z7 => putAllK [(kv0, sv0)] [⟨95, [.v (.int .i64 y0) .no, .v (.int .i64 y1) .no, .v (.int .i64 y2) .no, .v (.int .i64 y3) .no, .v (.int .i64 z4) .no, .v (.bytes z5) .no, .v (.int .i64 z6) .no, .v (.sl 27 z7) .no, .v (.bytes y8) (.own (.slot 0) 5), .v (.int .i64 y9) .no, .v (.int .i64 y10) .no, .v (.bytes y11) .no, .v (.bool y12) .no, .v (.int .i64 y13) .no]⟩] m fun m' => K [.v (.bytes r0) .no] m'
    | _ => none)
  | _ => none
noncomputable def C_tSendC {R : Type} (N : Nat) (x0 : List UInt8) (y0 y1 y2 y3 y4 : Int) (y5 : List UInt8) (y6 : Int) (y7 : List V) (y8 : List UInt8) (y9 y10 : Int) (y11 : List UInt8) (y12 : Bool) (y13 : Int) (K0 : List UInt8 -> Int -> List UInt8 -> Int -> List V -> Option R) : Option R := bnd2 (s_oSplit N x0 y2) fun l0 n1 => br (decide ((x0.length : Int) = 0)) (bnd5 (s_tPiece N y0 y1 y2 y3 y4 y5 y6 [V.bytes []] y8 y9 y10 y11 y12 y13) fun l2 n3 l4 n5 l6 => K0 l2 n3 l4 n5 l6) (bnd5 (s_tPiece N y0 y1 y2 y3 y4 y5 y6 l0 y8 y9 y10 y11 y12 y13) fun l7 n8 l9 n10 l11 => K0 l7 n8 l9 n10 l11)
noncomputable def s_tSendC (N : Nat) (x0 : List UInt8) (y0 y1 y2 y3 y4 : Int) (y5 : List UInt8) (y6 : Int) (y7 : List V) (y8 : List UInt8) (y9 y10 : Int) (y11 : List UInt8) (y12 : Bool) (y13 : Int) : Option (List UInt8 × Int × List UInt8 × Int × List V) := C_tSendC N x0 y0 y1 y2 y3 y4 y5 y6 y7 y8 y9 y10 y11 y12 y13 (fun r0 z4 z5 z6 z7 => some (r0, z4, z5, z6, z7))
noncomputable def cx_tSendC (N : Nat) : Cx := cxO [⟨85, e_oSplit (s_oSplit N)⟩] [⟨82, e_tPiece (s_tPiece N)⟩]
theorem C_tSendC_ok {R : Type} (N : Nat) (x0 y0 y1 y2 y3 y4 y5 y6 y7 y8 y9 y10 y11 y12 y13 K : _) : bodyK (R := R) (cx_tSendC N) Try.f58 [.ptr 1 0 0, dY x0] [frOf 0 [g2a y0 y1 y2 y3 y4 y5 y6 y7 y8 y9 y10 y11 y12 y13]] (r_tEnc K) = C_tSendC N x0 y0 y1 y2 y3 y4 y5 y6 y7 y8 y9 y10 y11 y12 y13 (fun r0 z4 z5 z6 z7 => K r0 y0 y1 y2 y3 z4 z5 z6 z7 y8 y9 y10 y11 y12 y13) := by
  kernel_rfl
abbrev Q_tSendC (s : Ty23) : Prop := ∀ x0 y0 y1 y2 y3 y4 y5 y6 y7 y8 y9 y10 y11 y12 y13 r0 z4 z5 z6 z7, s x0 y0 y1 y2 y3 y4 y5 y6 y7 y8 y9 y10 y11 y12 y13 = some (r0, z4, z5, z6, z7) -> ViewRet Try.prog T 58 [.ptr 1 0 0, dY x0] [g2a y0 y1 y2 y3 y4 y5 y6 y7 y8 y9 y10 y11 y12 y13] [dY r0] [g2a y0 y1 y2 y3 z4 z5 z6 z7 y8 y9 y10 y11 y12 y13]
theorem eo_tSendC (s : Ty23) (hs : Q_tSendC s) : MEntOK Try.prog T ⟨58, e_tSendC s⟩ := by
  refine ⟨goes_of Try.func58 (by kernel_rfl) (c := bodyOf Try.f58) (by kernel_rfl), fun R dst ds m K r h => ?_⟩
  simp only [e_tSendC] at h
  split at h
  . obtain ⟨Bs, a1, a2, a3, h⟩ := viewK_some h
    split at h
    . obtain ⟨r0, z4, z5, z6, z7, h1, h2⟩ := bnd5_some h
      rw [putAllK_eq] at h2
      exact ⟨_, _, h2, ViewRet.weakIn (hs _ _ _ _ _ _ _ _ _ _ _ _ _ _ _ _ _ _ _ _ h1) (by exact ⟨⟨rfl, .inl rfl, .inl rfl, .inl rfl, .inl rfl, .inl rfl, .inr ⟨_, _, rfl, rfl⟩, .inl rfl, .inr ⟨_, _, rfl, rfl⟩, .inl rfl, .inl rfl, .inl rfl, .inr ⟨_, _, rfl, rfl⟩, .inl rfl, .inl rfl, trivial⟩, trivial⟩) rfl _ _ m dst a1 a2 a3 ⟨aren_ptr _ rfl, aren_v _, trivial⟩⟩
    . cases h
  . cases h
open Classical in
theorem p_tSendC (N : Nat) : Q_tSendC (s_tSendC N) := fun x0 y0 y1 y2 y3 y4 y5 y6 y7 y8 y9 y10 y11 y12 y13 r0 z4 z5 z6 z7 h => by
  refine view_ofW (cx := cx_tSendC N) (by kernel_rfl) (cxO_ok ⟨eo_oSplit _ (p_oSplit N), trivial⟩ ⟨eo_tPiece _ (p_tPiece N), trivial⟩) Try.func58 (by kernel_rfl) (by kernel_rfl) (loopsOK_of (k := 0) (by kernel_rfl) trivial) (by rfl) (by rfl) (by rfl) (rf := r_tEnc (fun r0' z'0 z'1 z'2 z'3 z'4 z'5 z'6 z'7 z'8 z'9 z'10 z'11 z'12 z'13 => if z'0 = y0 /\ z'1 = y1 /\ z'2 = y2 /\ z'3 = y3 /\ z'8 = y8 /\ z'9 = y9 /\ z'10 = y10 /\ z'11 = y11 /\ z'12 = y12 /\ z'13 = y13 then some (r0', z'4, z'5, z'6, z'7) else none)) (r := (r0, z4, z5, z6, z7)) ?_ ?_
  . exact (C_tSendC_ok ..).trans ((congrArg (fun K => C_tSendC N x0 y0 y1 y2 y3 y4 y5 y6 y7 y8 y9 y10 y11 y12 y13 K) (funext fun r0' => funext fun z'4 => funext fun z'5 => funext fun z'6 => funext fun z'7 => if_pos ⟨rfl, rfl, rfl, rfl, rfl, rfl, rfl, rfl, rfl, rfl⟩)).trans h)
  . intro rs' m' hx
    unfold r_tEnc at hx
    split at hx
    . dsimp only at hx
      split at hx
      . rename_i hk
        obtain ⟨rfl, rfl, rfl, rfl, rfl, rfl, rfl, rfl, rfl, rfl⟩ := hk
        cases hx; exact ⟨rfl, rfl, _, [⟨95, [_, _, _, _, _, _, _, _, _, _, _, _, _, _]⟩], rfl, rfl, ⟨⟨rfl, .inl rfl, .inl rfl, .inl rfl, .inl rfl, .inl rfl, .inr ⟨_, _, rfl, rfl⟩, .inl rfl, .inr ⟨_, _, rfl, rfl⟩, .inl rfl, .inl rfl, .inl rfl, .inr ⟨_, _, rfl, rfl⟩, .inl rfl, .inl rfl, trivial⟩, trivial⟩⟩
      . cases hx
    . cases hx
abbrev Ty24 := Int -> Int -> Int -> Int -> Int -> Int -> List UInt8 -> Int -> List V -> List UInt8 -> Int -> Int -> List UInt8 -> Bool -> Int -> Option (List UInt8 × Int × Int)
noncomputable def e_tFail {R : Type} (s : Ty24) (dst : Nat) (ds : List D) (m : Mem) (K : List D -> Mem -> Option R) : Option R :=
  match ds with
  | [.ptr (kv0 + 1) sv0 0, .v (.int .i64 x0) .no] => viewK [(kv0, sv0)] m fun Bs => (match Bs with
    | [⟨95, [.v (.int .i64 y0) .no, .v (.int .i64 y1) .no, .v (.int .i64 y2) .no, .v (.int .i64 y3) .no, .v (.int .i64 y4) .no, .v (.bytes y5) _, .v (.int .i64 y6) .no, .v (.sl 27 y7) _, .v (.bytes y8) (.own (.slot 0) 5), .v (.int .i64 y9) .no, .v (.int .i64 y10) .no, .v (.bytes y11) _, .v (.bool y12) .no, .v (.int .i64 y13) .no]⟩] => bnd3 (s x0 y0 y1 y2 y3 y4 y5 y6 y7 y8 y9 y10 y11 y12 y13) fun r0 z9 z13 => putAllK [(kv0, sv0)] [⟨95, [.v (.int .i64 y0) .no, .v (.int .i64 y1) .no, .v (.int .i64 y2) .no, .v (.int .i64 y3) .no, .v (.int .i64 y4) .no, .v (.bytes y5) .no, .v (.int .i64 y6) .no, .v (.sl 27 y7) .no, .v (.bytes y8) (.own (.slot 0) 5), .v (.int .i64 z9) .no, .v (.int .i64 y10) .no, .v (.bytes y11) .no, .v (.bool y12) .no, .v (.int .i64 z13) .no]⟩] m fun m' => K [.v (.bytes r0) .no] m'
    | _ => none)
  | _ => none
noncomputable def C_tFail {R : Type} (N : Nat) (x0 y0 y1 y2 y3 y4 : Int) (y5 : List UInt8) (y6 : Int) (y7 : List V) (y8 : List UInt8) (y9 y10 : Int) (y11 : List UInt8) (y12 : Bool) (y13 : Int) (K0 : List UInt8 -> Int -> Int -> Option R) : Option R := K0 [] 3 x0
noncomputable def s_tFail (N : Nat) (x0 y0 y1 y2 y3 y4 : Int) (y5 : List UInt8) (y6 : Int) (y7 : List V) (y8 : List UInt8) (y9 y10 : Int) (y11 : List UInt8) (y12 : Bool) (y13 : Int) : Option (List UInt8 × Int × Int) := C_tFail N x0 y0 y1 y2 y3 y4 y5 y6 y7 y8 y9 y10 y11 y12 y13 (fun r0 z9 z13 => some (r0, z9, z13))
noncomputable def cx_tFail (N : Nat) : Cx := cxO [] []
theorem C_tFail_ok {R : Type} (N : Nat) (x0 y0 y1 y2 y3 y4 y5 y6 y7 y8 y9 y10 y11 y12 y13 K : _) : bodyK (R := R) (cx_tFail N) Try.f90 [.ptr 1 0 0, dI x0] [frOf 0 [g2a y0 y1 y2 y3 y4 y5 y6 y7 y8 y9 y10 y11 y12 y13]] (r_tEnc K) = C_tFail N x0 y0 y1 y2 y3 y4 y5 y6 y7 y8 y9 y10 y11 y12 y13 (fun r0 z9 z13 => K r0 y0 y1 y2 y3 y4 y5 y6 y7 y8 z9 y10 y11 y12 z13) := by
  kernel_rfl
abbrev Q_tFail (s : Ty24) : Prop := ∀ x0 y0 y1 y2 y3 y4 y5 y6 y7 y8 y9 y10 y11 y12 y13 r0 z9 z13, s x0 y0 y1 y2 y3 y4 y5 y6 y7 y8 y9 y10 y11 y12 y13 = some (r0, z9, z13) -> ViewRet Try.prog T 90 [.ptr 1 0 0, dI x0] [g2a y0 y1 y2 y3 y4 y5 y6 y7 y8 y9 y10 y11 y12 y13] [dY r0] [g2a y0 y1 y2 y3 y4 y5 y6 y7 y8 z9 y10 y11 y12 z13]
theorem eo_tFail (s : Ty24) (hs : Q_tFail s) : MEntOK Try.prog T ⟨90, e_tFail s⟩ := by
  refine ⟨goes_of Try.func90 (by kernel_rfl) (c := bodyOf Try.f90) (by kernel_rfl), fun R dst ds m K r h => ?_⟩
  simp only [e_tFail] at h
  split at h
  . obtain ⟨Bs, a1, a2, a3, h⟩ := viewK_some h
    split at h
    . obtain ⟨r0, z9, z13, h1, h2⟩ := bnd3_some h
      rw [putAllK_eq] at h2
      exact ⟨_, _, h2, ViewRet.weakIn (hs _ _ _ _ _ _ _ _ _ _ _ _ _ _ _ _ _ _ h1) (by exact ⟨⟨rfl, .inl rfl, .inl rfl, .inl rfl, .inl rfl, .inl rfl, .inr ⟨_, _, rfl, rfl⟩, .inl rfl, .inr ⟨_, _, rfl, rfl⟩, .inl rfl, .inl rfl, .inl rfl, .inr ⟨_, _, rfl, rfl⟩, .inl rfl, .inl rfl, trivial⟩, trivial⟩) rfl _ _ m dst a1 a2 a3 ⟨aren_ptr _ rfl, aren_v _, trivial⟩⟩
    . cases h
  . cases h
open Classical in
theorem p_tFail (N : Nat) : Q_tFail (s_tFail N) := fun x0 y0 y1 y2 y3 y4 y5 y6 y7 y8 y9 y10 y11 y12 y13 r0 z9 z13 h => by
  refine view_ofW (cx := cx_tFail N) (by kernel_rfl) (cxO_ok trivial trivial) Try.func90 (by kernel_rfl) (by kernel_rfl) (loopsOK_of (k := 0) (by kernel_rfl) trivial) (by rfl) (by rfl) (by rfl) (rf := r_tEnc (fun r0' z'0 z'1 z'2 z'3 z'4 z'5 z'6 z'7 z'8 z'9 z'10 z'11 z'12 z'13 => if z'0 = y0 /\ z'1 = y1 /\ z'2 = y2 /\ z'3 = y3 /\ z'4 = y4 /\ z'5 = y5 /\ z'6 = y6 /\ z'7 = y7 /\ z'8 = y8 /\ z'10 = y10 /\ z'11 = y11 /\ z'12 = y12 then some (r0', z'9, z'13) else none)) (r := (r0, z9, z13)) ?_ ?_
  . exact (C_tFail_ok ..).trans ((congrArg (fun K => C_tFail N x0 y0 y1 y2 y3 y4 y5 y6 y7 y8 y9 y10 y11 y12 y13 K) (funext fun r0' => funext fun z'9 => funext fun z'13 => if_pos ⟨rfl, rfl, rfl, rfl, rfl, rfl, rfl, rfl, rfl, rfl, rfl, rfl⟩)).trans h)
  . intro rs' m' hx
    unfold r_tEnc at hx
    split at hx
    . dsimp only at hx
      split at hx
      . rename_i hk
        obtain ⟨rfl, rfl, rfl, rfl, rfl, rfl, rfl, rfl, rfl, rfl, rfl, rfl⟩ := hk
        cases hx; exact ⟨rfl, rfl, _, [⟨95, [_, _, _, _, _, _, _, _, _, _, _, _, _, _]⟩], rfl, rfl, ⟨⟨rfl, .inl rfl, .inl rfl, .inl rfl, .inl rfl, .inl rfl, .inr ⟨_, _, rfl, rfl⟩, .inl rfl, .inr ⟨_, _, rfl, rfl⟩, .inl rfl, .inl rfl, .inl rfl, .inr ⟨_, _, rfl, rfl⟩, .inl rfl, .inl rfl, trivial⟩, trivial⟩⟩
      . cases hx
    . cases hx
abbrev Ty25 := Int -> List UInt8 -> Int -> Int -> Int -> Int -> Int -> List UInt8 -> Int -> List V -> List UInt8 -> Int -> Int -> List UInt8 -> Bool -> Int -> Option (List UInt8 × Int × Int × Int)
noncomputable def e_tFailure {R : Type} (s : Ty25) (dst : Nat) (ds : List D) (m : Mem) (K : List D -> Mem -> Option R) : Option R :=
  match ds with
  | [.ptr (kv0 + 1) sv0 0, .v (.int .i64 x0) .no, .v (.bytes x1) .no] => viewK [(kv0, sv0)] m fun Bs => (match Bs with
    | [⟨95, [.v (.int .i64 y0) .no, .v (.int .i64 y1) .no, .v (.int .i64 y2) .no, .v (.int .i64 y3) .no, .v (.int .i64 y4) .no, .v (.bytes y5) _, .v (.int .i64 y6) .no, .v (.sl 27 y7) _, .v (.bytes y8) (.own (.slot 0) 5), .v (.int .i64 y9) .no, .v (.int .i64 y10) .no, .v (.bytes y11) _, .v (.bool y12) .no, .v (.int .i64 y13) .no]⟩] => bnd4 (s x0 x1 y0 y1 y2 y3 y4 y5 y6 y7 y8 y9 y10 y11 y12 y13) fun r0 z9 z10 z13 => putAllK [(kv0, sv0)] [⟨95, [.v (.int .i64 y0) .no, .v (.int .i64 y1) .no, .v (.int .i64 y2) .no, .v (.int .i64 y3) .no, .v (.int .i64 y4) .no, .v (.bytes y5) .no, .v (.int .i64 y6) .no, .v (.sl 27 y7) .no, .v (.bytes y8) (.own (.slot 0) 5), .v (.int .i64 z9) .no, .v (.int .i64 z10) .no, .v (.bytes y11) .no, .v (.bool y12) .no, .v (.int .i64 z13) .no]⟩] m fun m' => K [.v (.bytes r0) .no] m'
    | _ => none)
  | _ => none
noncomputable def C_tFailure {R : Type} (N : Nat) (x0 : Int) (x1 : List UInt8) (y0 y1 y2 y3 y4 : Int) (y5 : List UInt8) (y6 : Int) (y7 : List V) (y8 : List UInt8) (y9 y10 : Int) (y11 : List UInt8) (y12 : Bool) (y13 : Int) (K0 : List UInt8 -> Int -> Int -> Int -> Option R) : Option R := br (decide (10 < IntKind.i64.wrap (y10 + 1))) (bnd3 (s_tFail N x0 y0 y1 y2 y3 y4 y5 y6 y7 y8 y9 (IntKind.i64.wrap (y10 + 1)) y11 y12 y13) fun l0 n1 n2 => K0 l0 n1 (IntKind.i64.wrap (y10 + 1)) n2) (K0 x1 y9 (IntKind.i64.wrap (y10 + 1)) y13)
noncomputable def s_tFailure (N : Nat) (x0 : Int) (x1 : List UInt8) (y0 y1 y2 y3 y4 : Int) (y5 : List UInt8) (y6 : Int) (y7 : List V) (y8 : List UInt8) (y9 y10 : Int) (y11 : List UInt8) (y12 : Bool) (y13 : Int) : Option (List UInt8 × Int × Int × Int) := C_tFailure N x0 x1 y0 y1 y2 y3 y4 y5 y6 y7 y8 y9 y10 y11 y12 y13 (fun r0 z9 z10 z13 => some (r0, z9, z10, z13))
noncomputable def cx_tFailure (N : Nat) : Cx := cxO [] [⟨90, e_tFail (s_tFail N)⟩]
theorem C_tFailure_ok {R : Type} (N : Nat) (x0 x1 y0 y1 y2 y3 y4 y5 y6 y7 y8 y9 y10 y11 y12 y13 K : _) : bodyK (R := R) (cx_tFailure N) Try.f67 [.ptr 1 0 0, dI x0, dY x1] [frOf 0 [g2a y0 y1 y2 y3 y4 y5 y6 y7 y8 y9 y10 y11 y12 y13]] (r_tEnc K) = C_tFailure N x0 x1 y0 y1 y2 y3 y4 y5 y6 y7 y8 y9 y10 y11 y12 y13 (fun r0 z9 z10 z13 => K r0 y0 y1 y2 y3 y4 y5 y6 y7 y8 z9 z10 y11 y12 z13) := by
  kernel_rfl
abbrev Q_tFailure (s : Ty25) : Prop := ∀ x0 x1 y0 y1 y2 y3 y4 y5 y6 y7 y8 y9 y10 y11 y12 y13 r0 z9 z10 z13, s x0 x1 y0 y1 y2 y3 y4 y5 y6 y7 y8 y9 y10 y11 y12 y13 = some (r0, z9, z10, z13) -> ViewRet Try.prog T 67 [.ptr 1 0 0, dI x0, dY x1] [g2a y0 y1 y2 y3 y4 y5 y6 y7 y8 y9 y10 y11 y12 y13] [dY r0] [g2a y0 y1 y2 y3 y4 y5 y6 y7 y8 z9 z10 y11 y12 z13]
theorem eo_tFailure (s : Ty25) (hs : Q_tFailure s) : MEntOK Try.prog T ⟨67, e_tFailure s⟩ := by
  refine ⟨goes_of Try.func67 (by kernel_rfl) (c := bodyOf Try.f67) (by kernel_rfl), fun R dst ds m K r h => ?_⟩
  simp only [e_tFailure] at h
  split at h
  . obtain ⟨Bs, a1, a2, a3, h⟩ := viewK_some h
    split at h
    . obtain ⟨r0, z9, z10, z13, h1, h2⟩ := bnd4_some h
      rw [putAllK_eq] at h2
      exact ⟨_, _, h2, ViewRet.weakIn (hs _ _ _ _ _ _ _ _ _ _ _ _ _ _ _ _ _ _ _ _ h1) (by exact ⟨⟨rfl, .inl rfl, .inl rfl, .inl rfl, .inl rfl, .inl rfl, .inr ⟨_, _, rfl, rfl⟩, .inl rfl, .inr ⟨_, _, rfl, rfl⟩, .inl rfl, .inl rfl, .inl rfl, .inr ⟨_, _, rfl, rfl⟩, .inl rfl, .inl rfl, trivial⟩, trivial⟩) rfl _ _ m dst a1 a2 a3 ⟨aren_ptr _ rfl, aren_v _, aren_v _, trivial⟩⟩
    . cases h
  . cases h
open Classical in
theorem p_tFailure (N : Nat) : Q_tFailure (s_tFailure N) := fun x0 x1 y0 y1 y2 y3 y4 y5 y6 y7 y8 y9 y10 y11 y12 y13 r0 z9 z10 z13 h => by
  refine view_ofW (cx := cx_tFailure N) (by kernel_rfl) (cxO_ok trivial ⟨eo_tFail _ (p_tFail N), trivial⟩) Try.func67 (by kernel_rfl) (by kernel_rfl) (loopsOK_of (k := 0) (by kernel_rfl) trivial) (by rfl) (by rfl) (by rfl) (rf := r_tEnc (fun r0' z'0 z'1 z'2 z'3 z'4 z'5 z'6 z'7 z'8 z'9 z'10 z'11 z'12 z'13 => if z'0 = y0 /\ z'1 = y1 /\ z'2 = y2 /\ z'3 = y3 /\ z'4 = y4 /\ z'5 = y5 /\ z'6 = y6 /\ z'7 = y7 /\ z'8 = y8 /\ z'11 = y11 /\ z'12 = y12 then some (r0', z'9, z'10, z'13) else none)) (r := (r0, z9, z10, z13)) ?_ ?_
  . exact (C_tFailure_ok ..).trans ((congrArg (fun K => C_tFailure N x0 x1 y0 y1 y2 y3 y4 y5 y6 y7 y8 y9 y10 y11 y12 y13 K) (funext fun r0' => funext fun z'9 => funext fun z'10 => funext fun z'13 => if_pos ⟨rfl, rfl, rfl, rfl, rfl, rfl, rfl, rfl, rfl, rfl, rfl⟩)).trans h)
  . intro rs' m' hx
    unfold r_tEnc at hx
    split at hx
    . dsimp only at hx
      split at hx
      . rename_i hk
        obtain ⟨rfl, rfl, rfl, rfl, rfl, rfl, rfl, rfl, rfl, rfl, rfl⟩ := hk
        cases hx; exact ⟨rfl, rfl, _, [⟨95, [_, _, _, _, _, _, _, _, _, _, _, _, _, _]⟩], rfl, rfl, ⟨⟨rfl, .inl rfl, .inl rfl, .inl rfl, .inl rfl, .inl rfl, .inr ⟨_, _, rfl, rfl⟩, .inl rfl, .inr ⟨_, _, rfl, rfl⟩, .inl rfl, .inl rfl, .inl rfl, .inr ⟨_, _, rfl, rfl⟩, .inl rfl, .inl rfl, trivial⟩, trivial⟩⟩
      . cases hx
    . cases hx
abbrev Ty26 := Int -> Int -> Int -> Bool -> Int -> Bool -> List UInt8 -> Int -> Int -> Int -> Int -> Int -> List UInt8 -> Int -> List V -> List UInt8 -> Int -> Int -> List UInt8 -> Bool -> Int -> Option (List UInt8 × Int × List UInt8 × Int × Int × Bool × Int)
noncomputable def e_tInfo {R : Type} (s : Ty26) (dst : Nat) (ds : List D) (m : Mem) (K : List D -> Mem -> Option R) : Option R :=
  match ds with
  | [.ptr (kv0 + 1) sv0 0, .agg [.v (.int .i64 x0) .no, .v (.int .i64 x1) .no, .v (.int .i64 x2) .no, .v (.bool x3) .no, .v (.int .i64 x4) .no, .v (.bool x5) .no, .v (.bytes x6) .no]] => viewK [(kv0, sv0)] m fun Bs => (match Bs with
    | [⟨95, [.v (.int .i64 y0) .no, .v (.int .i64 y1) .no, .v (.int .i64 y2) .no, .v (.int .i64 y3) .no, .v (.int .i64 y4) .no, .v (.bytes y5) _, .v (.int .i64 y6) .no, .v (.sl 27 y7) _, .v (.bytes y8) (.own (.slot 0) 5), .v (.int .i64 y9) .no, .v (.int .i64 y10) .no, .v (.bytes y11) _, .v (.bool y12) .no, .v (.int .i64 y13) .no]⟩] => bnd7 (s x0 x1 x2 x3 x4 x5 x6 y0 y1 y2 y3 y4 y5 y6 y7 y8 y9 y10 y11 y12 y13) fun r0 z3 z8 z9 z10 z12 z13 => putAllK [(kv0, sv0)] [⟨95, [.v (.int .i64 y0) .no, .v (.int .i64 y1) .no, .v (.int .i64 y2) .no, .v (.int .i64 z3) .no, .v (.int .i64 y4) .no, .v (.bytes y5) .no, .v (.int .i64 y6) .no, .v (.sl 27 y7) .no, .v (.bytes z8) (.own (.slot 0) 5), .v (.int .i64 z9) .no, .v (.int .i64 z10) .no, .v (.bytes y11) .no, .v (.bool z12) .no, .v (.int .i64 z13) .no]⟩] m fun m' => K [.v (.bytes r0) .no] m'
    | _ => none)
  | _ => none
noncomputable def C_tInfo {R : Type} (N : Nat) (x0 x1 x2 : Int) (x3 : Bool) (x4 : Int) (x5 : Bool) (x6 : List UInt8) (y0 y1 y2 y3 y4 : Int) (y5 : List UInt8) (y6 : Int) (y7 : List V) (y8 : List UInt8) (y9 y10 : Int) (y11 : List UInt8) (y12 : Bool) (y13 : Int) (K0 : List UInt8 -> Int -> List UInt8 -> Int -> Int -> Bool -> Int -> Option R) : Option R := br (!decide (x2 = y3)) (bnd1 (s_tReady N 2 y0 y1 y2 y3 y4 y5 y6 y7 y8 y9 y10 y11 y12 y13) fun l0 => bnd4 (s_tFailure N 28 l0 y0 y1 y2 y3 y4 y5 y6 y7 y8 y9 y10 y11 y12 y13) fun l1 n2 n3 n4 => K0 l1 y3 y8 n2 n3 y12 n4) (br (decide (0 < (y7.length : Int))) (bnd1 (s_tReady N 2 y0 y1 y2 y3 y4 y5 y6 y7 y8 y9 y10 y11 y12 y13) fun l5 => bnd4 (s_tFailure N 28 l5 y0 y1 y2 y3 y4 y5 y6 y7 y8 y9 y10 y11 y12 y13) fun l6 n7 n8 n9 => K0 l6 y3 y8 n7 n8 y12 n9) (br (decide ((y8.length + x6.length) * 1 <= 140737488355328)) (br (decide (65538 < ((y8 ++ x6).length : Int))) (bnd3 (s_tFail N 28 y0 y1 y2 (IntKind.i64.wrap (1 - y3)) y4 y5 y6 y7 (y8 ++ x6) y9 0 y11 y12 y13) fun l10 n11 n12 => K0 l10 (IntKind.i64.wrap (1 - y3)) (y8 ++ x6) n11 0 y12 n12) (br x3 (bnd1 (s_tReady N 0 y0 y1 y2 (IntKind.i64.wrap (1 - y3)) y4 y5 y6 y7 (y8 ++ x6) y9 0 y11 y12 y13) fun l13 => K0 l13 (IntKind.i64.wrap (1 - y3)) (y8 ++ x6) y9 0 y12 y13) (K0 [] (IntKind.i64.wrap (1 - y3)) (y8 ++ x6) 0 0 true y13))) none))
noncomputable def s_tInfo (N : Nat) (x0 x1 x2 : Int) (x3 : Bool) (x4 : Int) (x5 : Bool) (x6 : List UInt8) (y0 y1 y2 y3 y4 : Int) (y5 : List UInt8) (y6 : Int) (y7 : List V) (y8 : List UInt8) (y9 y10 : Int) (y11 : List UInt8) (y12 : Bool) (y13 : Int) : Option (List UInt8 × Int × List UInt8 × Int × Int × Bool × Int) := C_tInfo N x0 x1 x2 x3 x4 x5 x6 y0 y1 y2 y3 y4 y5 y6 y7 y8 y9 y10 y11 y12 y13 (fun r0 z3 z8 z9 z10 z12 z13 => some (r0, z3, z8, z9, z10, z12, z13))
noncomputable def cx_tInfo (N : Nat) : Cx := cxO [] [⟨47, e_tReady (s_tReady N)⟩, ⟨90, e_tFail (s_tFail N)⟩, ⟨67, e_tFailure (s_tFailure N)⟩]
theorem C_tInfo_ok {R : Type} (N : Nat) (x0 x1 x2 x3 x4 x5 x6 y0 y1 y2 y3 y4 y5 y6 y7 y8 y9 y10 y11 y12 y13 K : _) : bodyK (R := R) (cx_tInfo N) Try.f68 [.ptr 1 0 0, g0a x0 x1 x2 x3 x4 x5 x6] [frOf 0 [g2a y0 y1 y2 y3 y4 y5 y6 y7 y8 y9 y10 y11 y12 y13]] (r_tEnc K) = C_tInfo N x0 x1 x2 x3 x4 x5 x6 y0 y1 y2 y3 y4 y5 y6 y7 y8 y9 y10 y11 y12 y13 (fun r0 z3 z8 z9 z10 z12 z13 => K r0 y0 y1 y2 z3 y4 y5 y6 y7 z8 z9 z10 y11 z12 z13) := by
  kernel_rfl
abbrev Q_tInfo (s : Ty26) : Prop := ∀ x0 x1 x2 x3 x4 x5 x6 y0 y1 y2 y3 y4 y5 y6 y7 y8 y9 y10 y11 y12 y13 r0 z3 z8 z9 z10 z12 z13, s x0 x1 x2 x3 x4 x5 x6 y0 y1 y2 y3 y4 y5 y6 y7 y8 y9 y10 y11 y12 y13 = some (r0, z3, z8, z9, z10, z12, z13) -> ViewRet Try.prog T 68 [.ptr 1 0 0, g0a x0 x1 x2 x3 x4 x5 x6] [g2a y0 y1 y2 y3 y4 y5 y6 y7 y8 y9 y10 y11 y12 y13] [dY r0] [g2a y0 y1 y2 z3 y4 y5 y6 y7 z8 z9 z10 y11 z12 z13]
theorem eo_tInfo (s : Ty26) (hs : Q_tInfo s) : MEntOK Try.prog T ⟨68, e_tInfo s⟩ := by
  refine ⟨goes_of Try.func68 (by kernel_rfl) (c := bodyOf Try.f68) (by kernel_rfl), fun R dst ds m K r h => ?_⟩
  simp only [e_tInfo] at h
  split at h
  . obtain ⟨Bs, a1, a2, a3, h⟩ := viewK_some h
    split at h
    . obtain ⟨r0, z3, z8, z9, z10, z12, z13, h1, h2⟩ := bnd7_some h
      rw [putAllK_eq] at h2
      exact ⟨_, _, h2, ViewRet.weakIn (hs _ _ _ _ _ _ _ _ _ _ _ _ _ _ _ _ _ _ _ _ _ _ _ _ _ _ _ _ h1) (by exact ⟨⟨rfl, .inl rfl, .inl rfl, .inl rfl, .inl rfl, .inl rfl, .inr ⟨_, _, rfl, rfl⟩, .inl rfl, .inr ⟨_, _, rfl, rfl⟩, .inl rfl, .inl rfl, .inl rfl, .inr ⟨_, _, rfl, rfl⟩, .inl rfl, .inl rfl, trivial⟩, trivial⟩) rfl _ _ m dst a1 a2 a3 ⟨aren_ptr _ rfl, aren_agg ⟨aren_v _, aren_v _, aren_v _, aren_v _, aren_v _, aren_v _, aren_v _, trivial⟩, trivial⟩⟩
    . cases h
  . cases h
open Classical in
theorem p_tInfo (N : Nat) : Q_tInfo (s_tInfo N) := fun x0 x1 x2 x3 x4 x5 x6 y0 y1 y2 y3 y4 y5 y6 y7 y8 y9 y10 y11 y12 y13 r0 z3 z8 z9 z10 z12 z13 h => by
  refine view_ofW (cx := cx_tInfo N) (by kernel_rfl) (cxO_ok trivial ⟨eo_tReady _ (p_tReady N), eo_tFail _ (p_tFail N), eo_tFailure _ (p_tFailure N), trivial⟩) Try.func68 (by kernel_rfl) (by kernel_rfl) (loopsOK_of (k := 0) (by kernel_rfl) trivial) (by rfl) (by rfl) (by rfl) (rf := r_tEnc (fun r0' z'0 z'1 z'2 z'3 z'4 z'5 z'6 z'7 z'8 z'9 z'10 z'11 z'12 z'13 => if z'0 = y0 /\ z'1 = y1 /\ z'2 = y2 /\ z'4 = y4 /\ z'5 = y5 /\ z'6 = y6 /\ z'7 = y7 /\ z'11 = y11 then some (r0', z'3, z'8, z'9, z'10, z'12, z'13) else none)) (r := (r0, z3, z8, z9, z10, z12, z13)) ?_ ?_
  . exact (C_tInfo_ok ..).trans ((congrArg (fun K => C_tInfo N x0 x1 x2 x3 x4 x5 x6 y0 y1 y2 y3 y4 y5 y6 y7 y8 y9 y10 y11 y12 y13 K) (funext fun r0' => funext fun z'3 => funext fun z'8 => funext fun z'9 => funext fun z'10 => funext fun z'12 => funext fun z'13 => if_pos ⟨rfl, rfl, rfl, rfl, rfl, rfl, rfl, rfl⟩)).trans h)
  . intro rs' m' hx
    unfold r_tEnc at hx
    split at hx
    . dsimp only at hx
      split at hx
      . rename_i hk
        obtain ⟨rfl, rfl, rfl, rfl, rfl, rfl, rfl, rfl⟩ := hk
        cases hx; exact ⟨rfl, rfl, _, [⟨95, [_, _, _, _, _, _, _, _, _, _, _, _, _, _]⟩], rfl, rfl, ⟨⟨rfl, .inl rfl, .inl rfl, .inl rfl, .inl rfl, .inl rfl, .inr ⟨_, _, rfl, rfl⟩, .inl rfl, .inr ⟨_, _, rfl, rfl⟩, .inl rfl, .inl rfl, .inl rfl, .inr ⟨_, _, rfl, rfl⟩, .inl rfl, .inl rfl, trivial⟩, trivial⟩⟩
      . cases hx
    . cases hx
abbrev Ty27 := Int -> Int -> Int -> Bool -> Int -> Bool -> List UInt8 -> Int -> Int -> Int -> Int -> Int -> List UInt8 -> Int -> List V -> List UInt8 -> Int -> Int -> List UInt8 -> Bool -> Int -> Option (List UInt8 × Int × List UInt8 × Int × List V × Int × Int × Int)
noncomputable def e_tAgain {R : Type} (s : Ty27) (dst : Nat) (ds : List D) (m : Mem) (K : List D -> Mem -> Option R) : Option R :=
  match ds with
  | [.ptr (kv0 + 1) sv0 0, .agg [.v (.int .i64 x0) .no, .v (.int .i64 x1) .no, .v (.int .i64 x2) .no, .v (.bool x3) .no, .v (.int .i64 x4) .no, .v (.bool x5) .no, .v (.bytes x6) .no]] => viewK [(kv0, sv0)] m fun Bs => (match Bs with
    | [⟨95, [.v (.int .i64 y0) .no, .v (.int .i64 y1) .no, .v (.int .i64 y2) .no, .v (.int .i64 y3) .no, .v (.int .i64 y4) .no, .v (.bytes y5) _, .v (.int .i64 y6) .no, .v (.sl 27 y7) _, .v (.bytes y8) (.own (.slot 0) 5), .v (.int .i64 y9) .no, .v (.int .i64 y10) .no, .v (.bytes y11) _, .v (.bool y12) .no, .v (.int .i64 y13) .no]⟩] => bnd8 (s x0 x1 x2 x3 x4 x5 x6 y0 y1 y2 y3 y4 y5 y6 y7 y8 y9 y10 y11 y12 y13) fun r0 z4 z5 z6 z7 z9 z10 z13 => putAllK [(kv0, sv0)] [⟨95, [.v (.int .i64 y0) .no, .v (.int .i64 y1) .no, .v (.int .i64 y2) .no, .v (.int .i64 y3) .no, .v (.int .i64 z4) .no, .v (.bytes z5) .no, .v (.int .i64 z6) .no, .v (.sl 27 z7) .no, .v (.bytes y8) (.own (.slot 0) 5), .v (.int .i64 z9) .no, .v (.int .i64 z10) .no, .v (.bytes y11) .no, .v (.bool y12) .no, .v (.int .i64 z13) .no]⟩] m fun m' => K [.v (.bytes r0) .no] m'
    | _ => none)
  | _ => none
noncomputable def C_tAgain {R : Type} (N : Nat) (x0 x1 x2 : Int) (x3 : Bool) (x4 : Int) (x5 : Bool) (x6 : List UInt8) (y0 y1 y2 y3 y4 : Int) (y5 : List UInt8) (y6 : Int) (y7 : List V) (y8 : List UInt8) (y9 y10 : Int) (y11 : List UInt8) (y12 : Bool) (y13 : Int) (K0 : List UInt8 -> Int -> List UInt8 -> Int -> List V -> Int -> Int -> Int -> Option R) : Option R := br (decide (x2 = y6)) (bnd1 (s_clone N y5) fun l0 => bnd4 (s_tFailure N 28 l0 y0 y1 y2 y3 y4 y5 y6 y7 y8 y9 y10 y11 y12 y13) fun l1 n2 n3 n4 => K0 l1 y4 y5 y6 y7 n2 n3 n4) (br (decide (0 < (y7.length : Int))) (bnd5 (s_tPiece N y0 y1 y2 y3 y4 y5 y6 y7 y8 y9 0 y11 y12 y13) fun l5 n6 l7 n8 l9 => K0 l5 n6 l7 n8 l9 y9 0 y13) (bnd1 (s_tReady N 0 y0 y1 y2 y3 y4 y5 y6 y7 y8 y9 y10 y11 y12 y13) fun l10 => bnd4 (s_tFailure N 28 l10 y0 y1 y2 y3 y4 y5 y6 y7 y8 y9 y10 y11 y12 y13) fun l11 n12 n13 n14 => K0 l11 y4 y5 y6 y7 n12 n13 n14))
noncomputable def s_tAgain (N : Nat) (x0 x1 x2 : Int) (x3 : Bool) (x4 : Int) (x5 : Bool) (x6 : List UInt8) (y0 y1 y2 y3 y4 : Int) (y5 : List UInt8) (y6 : Int) (y7 : List V) (y8 : List UInt8) (y9 y10 : Int) (y11 : List UInt8) (y12 : Bool) (y13 : Int) : Option (List UInt8 × Int × List UInt8 × Int × List V × Int × Int × Int) := C_tAgain N x0 x1 x2 x3 x4 x5 x6 y0 y1 y2 y3 y4 y5 y6 y7 y8 y9 y10 y11 y12 y13 (fun r0 z4 z5 z6 z7 z9 z10 z13 => some (r0, z4, z5, z6, z7, z9, z10, z13))
noncomputable def cx_tAgain (N : Nat) : Cx := cxO [⟨60, e_clone (s_clone N)⟩] [⟨47, e_tReady (s_tReady N)⟩, ⟨82, e_tPiece (s_tPiece N)⟩, ⟨67, e_tFailure (s_tFailure N)⟩]
theorem C_tAgain_ok {R : Type} (N : Nat) (x0 x1 x2 x3 x4 x5 x6 y0 y1 y2 y3 y4 y5 y6 y7 y8 y9 y10 y11 y12 y13 K : _) : bodyK (R := R) (cx_tAgain N) Try.f69 [.ptr 1 0 0, g0a x0 x1 x2 x3 x4 x5 x6] [frOf 0 [g2a y0 y1 y2 y3 y4 y5 y6 y7 y8 y9 y10 y11 y12 y13]] (r_tEnc K) = C_tAgain N x0 x1 x2 x3 x4 x5 x6 y0 y1 y2 y3 y4 y5 y6 y7 y8 y9 y10 y11 y12 y13 (fun r0 z4 z5 z6 z7 z9 z10 z13 => K r0 y0 y1 y2 y3 z4 z5 z6 z7 y8 z9 z10 y11 y12 z13) := by
  kernel_rfl
abbrev Q_tAgain (s : Ty27) : Prop := ∀ x0 x1 x2 x3 x4 x5 x6 y0 y1 y2 y3 y4 y5 y6 y7 y8 y9 y10 y11 y12 y13 r0 z4 z5 z6 z7 z9 z10 z13, s x0 x1 x2 x3 x4 x5 x6 y0 y1 y2 y3 y4 y5 y6 y7 y8 y9 y10 y11 y12 y13 = some (r0, z4, z5, z6, z7, z9, z10, z13) -> ViewRet Try.prog T 69 [.ptr 1 0 0, g0a x0 x1 x2 x3 x4 x5 x6] [g2a y0 y1 y2 y3 y4 y5 y6 y7 y8 y9 y10 y11 y12 y13] [dY r0] [g2a y0 y1 y2 y3 z4 z5 z6 z7 y8 z9 z10 y11 y12 z13]
theorem eo_tAgain (s : Ty27) (hs : Q_tAgain s) : MEntOK Try.prog T ⟨69, e_tAgain s⟩ := by
  refine ⟨goes_of Try.func69 (by kernel_rfl) (c := bodyOf Try.f69) (by kernel_rfl), fun R dst ds m K r h => ?_⟩
  simp only [e_tAgain] at h
  split at h
  . obtain ⟨Bs, a1, a2, a3, h⟩ := viewK_some h
    split at h
    . obtain ⟨r0, z4, z5, z6, z7, z9, z10, z13, h1, h2⟩ := bnd8_some h
      rw [putAllK_eq] at h2
      exact ⟨_, _, h2, ViewRet.weakIn (hs _ _ _ _ _ _ _ _ _ _ _ _ _ _ _ _ _ _ _ _ _ _ _ _ _ _ _ _ _ h1) (by exact ⟨⟨rfl, .inl rfl, .inl rfl, .inl rfl, .inl rfl, .inl rfl, .inr ⟨_, _, rfl, rfl⟩, .inl rfl, .inr ⟨_, _, rfl, rfl⟩, .inl rfl, .inl rfl, .inl rfl, .inr ⟨_, _, rfl, rfl⟩, .inl rfl, .inl rfl, trivial⟩, trivial⟩) rfl _ _ m dst a1 a2 a3 ⟨aren_ptr _ rfl, aren_agg ⟨aren_v _, aren_v _, aren_v _, aren_v _, aren_v _, aren_v _, aren_v _, trivial⟩, trivial⟩⟩
    . cases h
  . cases h
open Classical in
theorem p_tAgain (N : Nat) : Q_tAgain (s_tAgain N) := fun x0 x1 x2 x3 x4 x5 x6 y0 y1 y2 y3 y4 y5 y6 y7 y8 y9 y10 y11 y12 y13 r0 z4 z5 z6 z7 z9 z10 z13 h => by
  refine view_ofW (cx := cx_tAgain N) (by kernel_rfl) (cxO_ok ⟨eo_clone _ (p_clone N), trivial⟩ ⟨eo_tReady _ (p_tReady N), eo_tPiece _ (p_tPiece N), eo_tFailure _ (p_tFailure N), trivial⟩) Try.func69 (by kernel_rfl) (by kernel_rfl) (loopsOK_of (k := 0) (by kernel_rfl) trivial) (by rfl) (by rfl) (by rfl) (rf := r_tEnc (fun r0' z'0 z'1 z'2 z'3 z'4 z'5 z'6 z'7 z'8 z'9 z'10 z'11 z'12 z'13 => if z'0 = y0 /\ z'1 = y1 /\ z'2 = y2 /\ z'3 = y3 /\ z'8 = y8 /\ z'11 = y11 /\ z'12 = y12 then some (r0', z'4, z'5, z'6, z'7, z'9, z'10, z'13) else none)) (r := (r0, z4, z5, z6, z7, z9, z10, z13)) ?_ ?_
  . exact (C_tAgain_ok ..).trans ((congrArg (fun K => C_tAgain N x0 x1 x2 x3 x4 x5 x6 y0 y1 y2 y3 y4 y5 y6 y7 y8 y9 y10 y11 y12 y13 K) (funext fun r0' => funext fun z'4 => funext fun z'5 => funext fun z'6 => funext fun z'7 => funext fun z'9 => funext fun z'10 => funext fun z'13 => if_pos ⟨rfl, rfl, rfl, rfl, rfl, rfl, rfl⟩)).trans h)
  . intro rs' m' hx
    unfold r_tEnc at hx
    split at hx
    . dsimp only at hx
      split at hx
      . rename_i hk
        obtain ⟨rfl, rfl, rfl, rfl, rfl, rfl, rfl⟩ := hk
        cases hx; exact ⟨rfl, rfl, _, [⟨95, [_, _, _, _, _, _, _, _, _, _, _, _, _, _]⟩], rfl, rfl, ⟨⟨rfl, .inl rfl, .inl rfl, .inl rfl, .inl rfl, .inl rfl, .inr ⟨_, _, rfl, rfl⟩, .inl rfl, .inr ⟨_, _, rfl, rfl⟩, .inl rfl, .inl rfl, .inl rfl, .inr ⟨_, _, rfl, rfl⟩, .inl rfl, .inl rfl, trivial⟩, trivial⟩⟩
      . cases hx
    . cases hx
abbrev Ty28 := Int -> Int -> Int -> Bool -> Int -> Bool -> List UInt8 -> Int -> Int -> Int -> Int -> Int -> List UInt8 -> Int -> List V -> List UInt8 -> Int -> Int -> List UInt8 -> Bool -> Int -> Option (List UInt8 × Int × Int × Int × Int)
noncomputable def e_tSuper {R : Type} (s : Ty28) (dst : Nat) (ds : List D) (m : Mem) (K : List D -> Mem -> Option R) : Option R :=
  match ds with
  | [.ptr (kv0 + 1) sv0 0, .agg [.v (.int .i64 x0) .no, .v (.int .i64 x1) .no, .v (.int .i64 x2) .no, .v (.bool x3) .no, .v (.int .i64 x4) .no, .v (.bool x5) .no, .v (.bytes x6) .no]] => viewK [(kv0, sv0)] m fun Bs => (match Bs with
    | [⟨95, [.v (.int .i64 y0) .no, .v (.int .i64 y1) .no, .v (.int .i64 y2) .no, .v (.int .i64 y3) .no, .v (.int .i64 y4) .no, .v (.bytes y5) _, .v (.int .i64 y6) .no, .v (.sl 27 y7) _, .v (.bytes y8) (.own (.slot 0) 5), .v (.int .i64 y9) .no, .v (.int .i64 y10) .no, .v (.bytes y11) _, .v (.bool y12) .no, .v (.int .i64 y13) .no]⟩] => bnd5 (s x0 x1 x2 x3 x4 x5 x6 y0 y1 y2 y3 y4 y5 y6 y7 y8 y9 y10 y11 y12 y13) fun r0 z2 z9 z10 z13 => putAllK [(kv0, sv0)] [⟨95, [.v (.int .i64 y0) .no, .v (.int .i64 y1) .no, .v (.int .i64 z2) .no, .v (.int .i64 y3) .no, .v (.int .i64 y4) .no, .v (.bytes y5) .no, .v (.int .i64 y6) .no, .v (.sl 27 y7) .no, .v (.bytes y8) (.own (.slot 0) 5), .v (.int .i64 z9) .no, .v (.int .i64 z10) .no, .v (.bytes y11) .no, .v (.bool y12) .no, .v (.int .i64 z13) .no]⟩] m fun m' => K [.v (.bytes r0) .no] m'
    | _ => none)
  | _ => none
noncomputable def C_tSuper {R : Type} (N : Nat) (x0 x1 x2 : Int) (x3 : Bool) (x4 : Int) (x5 : Bool) (x6 : List UInt8) (y0 y1 y2 y3 y4 : Int) (y5 : List UInt8) (y6 : Int) (y7 : List V) (y8 : List UInt8) (y9 y10 : Int) (y11 : List UInt8) (y12 : Bool) (y13 : Int) (K0 : List UInt8 -> Int -> Int -> Int -> Int -> Option R) : Option R := br (!x5) (br (decide (x4 = 2)) (bnd3 (s_tFail N 28 y0 y1 y2 y3 y4 y5 y6 y7 y8 y9 y10 y11 y12 y13) fun l0 n1 n2 => K0 l0 y2 n1 y10 n2) (br (!x5) (br (decide (x4 = 3)) (bnd1 (s_tSpecial N x4 true x6 y0 y1 y2 y3 y4 y5 y6 y7 y8 y9 0 y11 y12 y13) fun l3 => K0 l3 y2 y9 0 y13) (br (!x5) (br (decide (x4 = 1)) (bnd1 (s_tsize N x0 x1 x2 x3 x4 x5 x6) fun n4 => br (decide (0 < n4)) (bnd1 (s_tsize N x0 x1 x2 x3 x4 x5 x6) fun n5 => bnd1 (s_tSpecial N x4 true x6 y0 y1 n5 y3 y4 y5 y6 y7 y8 y9 0 y11 y12 y13) fun l6 => K0 l6 n5 y9 0 y13) (bnd1 (s_tReady N 2 y0 y1 y2 y3 y4 y5 y6 y7 y8 y9 y10 y11 y12 y13) fun l7 => bnd4 (s_tFailure N 28 l7 y0 y1 y2 y3 y4 y5 y6 y7 y8 y9 y10 y11 y12 y13) fun l8 n9 n10 n11 => K0 l8 y2 n9 n10 n11)) (bnd1 (s_tReady N 2 y0 y1 y2 y3 y4 y5 y6 y7 y8 y9 y10 y11 y12 y13) fun l12 => bnd4 (s_tFailure N 28 l12 y0 y1 y2 y3 y4 y5 y6 y7 y8 y9 y10 y11 y12 y13) fun l13 n14 n15 n16 => K0 l13 y2 n14 n15 n16)) (bnd1 (s_tReady N 2 y0 y1 y2 y3 y4 y5 y6 y7 y8 y9 y10 y11 y12 y13) fun l17 => bnd4 (s_tFailure N 28 l17 y0 y1 y2 y3 y4 y5 y6 y7 y8 y9 y10 y11 y12 y13) fun l18 n19 n20 n21 => K0 l18 y2 n19 n20 n21))) (br (!x5) (br (decide (x4 = 1)) (bnd1 (s_tsize N x0 x1 x2 x3 x4 x5 x6) fun n22 => br (decide (0 < n22)) (bnd1 (s_tsize N x0 x1 x2 x3 x4 x5 x6) fun n23 => bnd1 (s_tSpecial N x4 true x6 y0 y1 n23 y3 y4 y5 y6 y7 y8 y9 0 y11 y12 y13) fun l24 => K0 l24 n23 y9 0 y13) (bnd1 (s_tReady N 2 y0 y1 y2 y3 y4 y5 y6 y7 y8 y9 y10 y11 y12 y13) fun l25 => bnd4 (s_tFailure N 28 l25 y0 y1 y2 y3 y4 y5 y6 y7 y8 y9 y10 y11 y12 y13) fun l26 n27 n28 n29 => K0 l26 y2 n27 n28 n29)) (bnd1 (s_tReady N 2 y0 y1 y2 y3 y4 y5 y6 y7 y8 y9 y10 y11 y12 y13) fun l30 => bnd4 (s_tFailure N 28 l30 y0 y1 y2 y3 y4 y5 y6 y7 y8 y9 y10 y11 y12 y13) fun l31 n32 n33 n34 => K0 l31 y2 n32 n33 n34)) (bnd1 (s_tReady N 2 y0 y1 y2 y3 y4 y5 y6 y7 y8 y9 y10 y11 y12 y13) fun l35 => bnd4 (s_tFailure N 28 l35 y0 y1 y2 y3 y4 y5 y6 y7 y8 y9 y10 y11 y12 y13) fun l36 n37 n38 n39 => K0 l36 y2 n37 n38 n39)))) (br (!x5) (br (decide (x4 = 3)) (bnd1 (s_tSpecial N x4 true x6 y0 y1 y2 y3 y4 y5 y6 y7 y8 y9 0 y11 y12 y13) fun l40 => K0 l40 y2 y9 0 y13) (br (!x5) (br (decide (x4 = 1)) (bnd1 (s_tsize N x0 x1 x2 x3 x4 x5 x6) fun n41 => br (decide (0 < n41)) (bnd1 (s_tsize N x0 x1 x2 x3 x4 x5 x6) fun n42 => bnd1 (s_tSpecial N x4 true x6 y0 y1 n42 y3 y4 y5 y6 y7 y8 y9 0 y11 y12 y13) fun l43 => K0 l43 n42 y9 0 y13) (bnd1 (s_tReady N 2 y0 y1 y2 y3 y4 y5 y6 y7 y8 y9 y10 y11 y12 y13) fun l44 => bnd4 (s_tFailure N 28 l44 y0 y1 y2 y3 y4 y5 y6 y7 y8 y9 y10 y11 y12 y13) fun l45 n46 n47 n48 => K0 l45 y2 n46 n47 n48)) (bnd1 (s_tReady N 2 y0 y1 y2 y3 y4 y5 y6 y7 y8 y9 y10 y11 y12 y13) fun l49 => bnd4 (s_tFailure N 28 l49 y0 y1 y2 y3 y4 y5 y6 y7 y8 y9 y10 y11 y12 y13) fun l50 n51 n52 n53 => K0 l50 y2 n51 n52 n53)) (bnd1 (s_tReady N 2 y0 y1 y2 y3 y4 y5 y6 y7 y8 y9 y10 y11 y12 y13) fun l54 => bnd4 (s_tFailure N 28 l54 y0 y1 y2 y3 y4 y5 y6 y7 y8 y9 y10 y11 y12 y13) fun l55 n56 n57 n58 => K0 l55 y2 n56 n57 n58))) (br (!x5) (br (decide (x4 = 1)) (bnd1 (s_tsize N x0 x1 x2 x3 x4 x5 x6) fun n59 => br (decide (0 < n59)) (bnd1 (s_tsize N x0 x1 x2 x3 x4 x5 x6) fun n60 => bnd1 (s_tSpecial N x4 true x6 y0 y1 n60 y3 y4 y5 y6 y7 y8 y9 0 y11 y12 y13) fun l61 => K0 l61 n60 y9 0 y13) (bnd1 (s_tReady N 2 y0 y1 y2 y3 y4 y5 y6 y7 y8 y9 y10 y11 y12 y13) fun l62 => bnd4 (s_tFailure N 28 l62 y0 y1 y2 y3 y4 y5 y6 y7 y8 y9 y10 y11 y12 y13) fun l63 n64 n65 n66 => K0 l63 y2 n64 n65 n66)) (bnd1 (s_tReady N 2 y0 y1 y2 y3 y4 y5 y6 y7 y8 y9 y10 y11 y12 y13) fun l67 => bnd4 (s_tFailure N 28 l67 y0 y1 y2 y3 y4 y5 y6 y7 y8 y9 y10 y11 y12 y13) fun l68 n69 n70 n71 => K0 l68 y2 n69 n70 n71)) (bnd1 (s_tReady N 2 y0 y1 y2 y3 y4 y5 y6 y7 y8 y9 y10 y11 y12 y13) fun l72 => bnd4 (s_tFailure N 28 l72 y0 y1 y2 y3 y4 y5 y6 y7 y8 y9 y10 y11 y12 y13) fun l73 n74 n75 n76 => K0 l73 y2 n74 n75 n76)))
noncomputable def s_tSuper (N : Nat) (x0 x1 x2 : Int) (x3 : Bool) (x4 : Int) (x5 : Bool) (x6 : List UInt8) (y0 y1 y2 y3 y4 : Int) (y5 : List UInt8) (y6 : Int) (y7 : List V) (y8 : List UInt8) (y9 y10 : Int) (y11 : List UInt8) (y12 : Bool) (y13 : Int) : Option (List UInt8 × Int × Int × Int × Int) := C_tSuper N x0 x1 x2 x3 x4 x5 x6 y0 y1 y2 y3 y4 y5 y6 y7 y8 y9 y10 y11 y12 y13 (fun r0 z2 z9 z10 z13 => some (r0, z2, z9, z10, z13))
noncomputable def cx_tSuper (N : Nat) : Cx := cxO [⟨83, e_tsize (s_tsize N)⟩] [⟨47, e_tReady (s_tReady N)⟩, ⟨46, e_tSpecial (s_tSpecial N)⟩, ⟨90, e_tFail (s_tFail N)⟩, ⟨67, e_tFailure (s_tFailure N)⟩]
theorem C_tSuper_ok {R : Type} (N : Nat) (x0 x1 x2 x3 x4 x5 x6 y0 y1 y2 y3 y4 y5 y6 y7 y8 y9 y10 y11 y12 y13 K : _) : bodyK (R := R) (cx_tSuper N) Try.f70 [.ptr 1 0 0, g0a x0 x1 x2 x3 x4 x5 x6] [frOf 0 [g2a y0 y1 y2 y3 y4 y5 y6 y7 y8 y9 y10 y11 y12 y13]] (r_tEnc K) = C_tSuper N x0 x1 x2 x3 x4 x5 x6 y0 y1 y2 y3 y4 y5 y6 y7 y8 y9 y10 y11 y12 y13 (fun r0 z2 z9 z10 z13 => K r0 y0 y1 z2 y3 y4 y5 y6 y7 y8 z9 z10 y11 y12 z13) := by
  kernel_rfl
abbrev Q_tSuper (s : Ty28) : Prop := ∀ x0 x1 x2 x3 x4 x5 x6 y0 y1 y2 y3 y4 y5 y6 y7 y8 y9 y10 y11 y12 y13 r0 z2 z9 z10 z13, s x0 x1 x2 x3 x4 x5 x6 y0 y1 y2 y3 y4 y5 y6 y7 y8 y9 y10 y11 y12 y13 = some (r0, z2, z9, z10, z13) -> ViewRet Try.prog T 70 [.ptr 1 0 0, g0a x0 x1 x2 x3 x4 x5 x6] [g2a y0 y1 y2 y3 y4 y5 y6 y7 y8 y9 y10 y11 y12 y13] [dY r0] [g2a y0 y1 z2 y3 y4 y5 y6 y7 y8 z9 z10 y11 y12 z13]
theorem eo_tSuper (s : Ty28) (hs : Q_tSuper s) : MEntOK Try.prog T ⟨70, e_tSuper s⟩ := by
  refine ⟨goes_of Try.func70 (by kernel_rfl) (c := bodyOf Try.f70) (by kernel_rfl), fun R dst ds m K r h => ?_⟩
  simp only [e_tSuper] at h
  split at h
  . obtain ⟨Bs, a1, a2, a3, h⟩ := viewK_some h
    split at h
    . obtain ⟨r0, z2, z9, z10, z13, h1, h2⟩ := bnd5_some h
      rw [putAllK_eq] at h2
      exact ⟨_, _, h2, ViewRet.weakIn (hs _ _ _ _ _ _ _ _ _ _ _ _ _ _ _ _ _ _ _ _ _ _ _ _ _ _ h1) (by exact ⟨⟨rfl, .inl rfl, .inl rfl, .inl rfl, .inl rfl, .inl rfl, .inr ⟨_, _, rfl, rfl⟩, .inl rfl, .inr ⟨_, _, rfl, rfl⟩, .inl rfl, .inl rfl, .inl rfl, .inr ⟨_, _, rfl, rfl⟩, .inl rfl, .inl rfl, trivial⟩, trivial⟩) rfl _ _ m dst a1 a2 a3 ⟨aren_ptr _ rfl, aren_agg ⟨aren_v _, aren_v _, aren_v _, aren_v _, aren_v _, aren_v _, aren_v _, trivial⟩, trivial⟩⟩
    . cases h
  . cases h
open Classical in
theorem p_tSuper (N : Nat) : Q_tSuper (s_tSuper N) := fun x0 x1 x2 x3 x4 x5 x6 y0 y1 y2 y3 y4 y5 y6 y7 y8 y9 y10 y11 y12 y13 r0 z2 z9 z10 z13 h => by
  refine view_ofW (cx := cx_tSuper N) (by kernel_rfl) (cxO_ok ⟨eo_tsize _ (p_tsize N), trivial⟩ ⟨eo_tReady _ (p_tReady N), eo_tSpecial _ (p_tSpecial N), eo_tFail _ (p_tFail N), eo_tFailure _ (p_tFailure N), trivial⟩) Try.func70 (by kernel_rfl) (by kernel_rfl) (loopsOK_of (k := 0) (by kernel_rfl) trivial) (by rfl) (by rfl) (by rfl) (rf := r_tEnc (fun r0' z'0 z'1 z'2 z'3 z'4 z'5 z'6 z'7 z'8 z'9 z'10 z'11 z'12 z'13 => if z'0 = y0 /\ z'1 = y1 /\ z'3 = y3 /\ z'4 = y4 /\ z'5 = y5 /\ z'6 = y6 /\ z'7 = y7 /\ z'8 = y8 /\ z'11 = y11 /\ z'12 = y12 then some (r0', z'2, z'9, z'10, z'13) else none)) (r := (r0, z2, z9, z10, z13)) ?_ ?_
  . exact (C_tSuper_ok ..).trans ((congrArg (fun K => C_tSuper N x0 x1 x2 x3 x4 x5 x6 y0 y1 y2 y3 y4 y5 y6 y7 y8 y9 y10 y11 y12 y13 K) (funext fun r0' => funext fun z'2 => funext fun z'9 => funext fun z'10 => funext fun z'13 => if_pos ⟨rfl, rfl, rfl, rfl, rfl, rfl, rfl, rfl, rfl, rfl⟩)).trans h)
  . intro rs' m' hx
    unfold r_tEnc at hx
    split at hx
    . dsimp only at hx
      split at hx
      . rename_i hk
        obtain ⟨rfl, rfl, rfl, rfl, rfl, rfl, rfl, rfl, rfl, rfl⟩ := hk
        cases hx; exact ⟨rfl, rfl, _, [⟨95, [_, _, _, _, _, _, _, _, _, _, _, _, _, _]⟩], rfl, rfl, ⟨⟨rfl, .inl rfl, .inl rfl, .inl rfl, .inl rfl, .inl rfl, .inr ⟨_, _, rfl, rfl⟩, .inl rfl, .inr ⟨_, _, rfl, rfl⟩, .inl rfl, .inl rfl, .inl rfl, .inr ⟨_, _, rfl, rfl⟩, .inl rfl, .inl rfl, trivial⟩, trivial⟩⟩
      . cases hx
    . cases hx
abbrev Ty29 := List UInt8 -> Int -> Int -> Int -> Int -> Int -> List UInt8 -> Int -> List V -> List UInt8 -> Int -> Int -> List UInt8 -> Bool -> Int -> Option (List UInt8 × Int × Int × Int × Int × List UInt8 × Int × List V × List UInt8 × Int × Int × Bool × Int)
noncomputable def e_tReceive {R : Type} (s : Ty29) (dst : Nat) (ds : List D) (m : Mem) (K : List D -> Mem -> Option R) : Option R :=
  match ds with
  | [.ptr (kv0 + 1) sv0 0, .v (.bytes x0) .no] => viewK [(kv0, sv0)] m fun Bs => (match Bs with
    | [⟨95, [.v (.int .i64 y0) .no, .v (.int .i64 y1) .no, .v (.int .i64 y2) .no, .v (.int .i64 y3) .no, .v (.int .i64 y4) .no, .v (.bytes y5) _, .v (.int .i64 y6) .no, .v (.sl 27 y7) _, .v (.bytes y8) (.own (.slot 0) 5), .v (.int .i64 y9) .no, .v (.int .i64 y10) .no, .v (.bytes y11) _, .v (.bool y12) .no, .v (.int .i64 y13) .no]⟩] => bnd13 (s x0 y0 y1 y2 y3 y4 y5 y6 y7 y8 y9 y10 y11 y12 y13) fun r0 z1 z2 z3 z4 z5 z6 z7 z8 z9 z10 z12 z13 => putAllK [(kv0, sv0)] [⟨95, [.v (.int .i64 y0) .no, .v (.int .i64 z1) .no, .v (.int .i64 z2) .no, .v (.int .i64 z3) .no, .v (.int .i64 z4) .no, .v (.bytes z5) .no, .v (.int .i64 z6) .no, .v (.sl 27 z7) .no, .v (.bytes z8) (.own (.slot 0) 5), .v (.int .i64 z9) .no, .v (.int .i64 z10) .no, .v (.bytes y11) .no, .v (.bool z12) .no, .v (.int .i64 z13) .no]⟩] m fun m' => K [.v (.bytes r0) .no] m'
    | _ => none)
  | _ => none
noncomputable def C_tReceive {R : Type} (N : Nat) (x0 : List UInt8) (y0 y1 y2 y3 y4 : Int) (y5 : List UInt8) (y6 : Int) (y7 : List V) (y8 : List UInt8) (y9 y10 : Int) (y11 : List UInt8) (y12 : Bool) (y13 : Int) (K0 : List UInt8 -> Int -> Int -> Int -> Int -> List UInt8 -> Int -> List V -> List UInt8 -> Int -> Int -> Bool -> Int -> Option R) : Option R := bnd1 (s_tMade N y0 y1 y2 y3 y4 y5 y6 y7 y8 y9 y10 y11 y12 y13) fun b0 => br (!b0) (K0 [] y1 y2 y3 y4 y5 y6 y7 y8 y9 y10 y12 y13) (br (decide (y9 = 0)) (K0 [] y1 y2 y3 y4 y5 y6 y7 y8 y9 y10 y12 y13) (br (decide (y9 = 3)) (K0 [] y1 y2 y3 y4 y5 y6 y7 y8 y9 y10 y12 y13) (bnd8 (s_tDecode N x0 y0 y1 y2 y3 y4 y5 y6 y7 y8 y9 y10 y11 y12 y13) fun n1 n2 n3 b4 n5 b6 l7 n8 => br (decide (y9 = 1)) (br (decide (n8 = 0)) (bnd1 (s_bSame N n1 n2 n3 b4 n5 b6 l7 0 2 0 false 1 true y11) fun b9 => br b9 (br (decide (0 < (y11.length : Int))) (at? y11 0 fun u10 => K0 [] (IntKind.i64.wrap (u10.toNat : Int)) y2 y3 y4 y5 y6 y7 y8 0 y10 y12 y13) none) (bnd1 (s_tSpecial N 1 false y11 y0 y1 y2 y3 y4 y5 y6 y7 y8 y9 y10 y11 y12 y13) fun l11 => bnd4 (s_tFailure N 28 l11 y0 y1 y2 y3 y4 y5 y6 y7 y8 y9 y10 y11 y12 y13) fun l12 n13 n14 n15 => K0 l12 y1 y2 y3 y4 y5 y6 y7 y8 n13 n14 y12 n15)) (bnd1 (s_tSpecial N 1 false y11 y0 y1 y2 y3 y4 y5 y6 y7 y8 y9 y10 y11 y12 y13) fun l16 => bnd4 (s_tFailure N 28 l16 y0 y1 y2 y3 y4 y5 y6 y7 y8 y9 y10 y11 y12 y13) fun l17 n18 n19 n20 => K0 l17 y1 y2 y3 y4 y5 y6 y7 y8 n18 n19 y12 n20)) (br (!decide (n8 = 0)) (bnd1 (s_tReady N n8 y0 y1 y2 y3 y4 y5 y6 y7 y8 y9 y10 y11 y12 y13) fun l21 => bnd4 (s_tFailure N 28 l21 y0 y1 y2 y3 y4 y5 y6 y7 y8 y9 y10 y11 y12 y13) fun l22 n23 n24 n25 => K0 l22 y1 y2 y3 y4 y5 y6 y7 y8 n23 n24 y12 n25) (br (decide (n2 = 0)) (bnd7 (s_tInfo N n1 n2 n3 b4 n5 b6 l7 y0 y1 y2 y3 y4 y5 y6 y7 y8 y9 y10 y11 y12 y13) fun l26 n27 l28 n29 n30 b31 n32 => K0 l26 y1 y2 n27 y4 y5 y6 y7 l28 n29 n30 b31 n32) (br (decide (n2 = 1)) (bnd8 (s_tAgain N n1 n2 n3 b4 n5 b6 l7 y0 y1 y2 y3 y4 y5 y6 y7 y8 y9 y10 y11 y12 y13) fun l33 n34 l35 n36 l37 n38 n39 n40 => K0 l33 y1 y2 y3 n34 l35 n36 l37 y8 n38 n39 y12 n40) (bnd5 (s_tSuper N n1 n2 n3 b4 n5 b6 l7 y0 y1 y2 y3 y4 y5 y6 y7 y8 y9 y10 y11 y12 y13) fun l41 n42 n43 n44 n45 => K0 l41 y1 n42 y3 y4 y5 y6 y7 y8 n43 n44 y12 n45)))))))
noncomputable def s_tReceive (N : Nat) (x0 : List UInt8) (y0 y1 y2 y3 y4 : Int) (y5 : List UInt8) (y6 : Int) (y7 : List V) (y8 : List UInt8) (y9 y10 : Int) (y11 : List UInt8) (y12 : Bool) (y13 : Int) : Option (List UInt8 × Int × Int × Int × Int × List UInt8 × Int × List V × List UInt8 × Int × Int × Bool × Int) := C_tReceive N x0 y0 y1 y2 y3 y4 y5 y6 y7 y8 y9 y10 y11 y12 y13 (fun r0 z1 z2 z3 z4 z5 z6 z7 z8 z9 z10 z12 z13 => some (r0, z1, z2, z3, z4, z5, z6, z7, z8, z9, z10, z12, z13))
noncomputable def cx_tReceive (N : Nat) : Cx := cxO [⟨45, e_bSame (s_bSame N)⟩] [⟨62, e_tMade (s_tMade N)⟩, ⟨44, e_tDecode (s_tDecode N)⟩, ⟨46, e_tSpecial (s_tSpecial N)⟩, ⟨47, e_tReady (s_tReady N)⟩, ⟨68, e_tInfo (s_tInfo N)⟩, ⟨69, e_tAgain (s_tAgain N)⟩, ⟨70, e_tSuper (s_tSuper N)⟩, ⟨67, e_tFailure (s_tFailure N)⟩]
theorem C_tReceive_ok {R : Type} (N : Nat) (x0 y0 y1 y2 y3 y4 y5 y6 y7 y8 y9 y10 y11 y12 y13 K : _) : bodyK (R := R) (cx_tReceive N) Try.f27 [.ptr 1 0 0, dY x0] [frOf 0 [g2a y0 y1 y2 y3 y4 y5 y6 y7 y8 y9 y10 y11 y12 y13]] (r_tEnc K) = C_tReceive N x0 y0 y1 y2 y3 y4 y5 y6 y7 y8 y9 y10 y11 y12 y13 (fun r0 z1 z2 z3 z4 z5 z6 z7 z8 z9 z10 z12 z13 => K r0 y0 z1 z2 z3 z4 z5 z6 z7 z8 z9 z10 y11 z12 z13) := by
  kernel_rfl
abbrev Q_tReceive (s : Ty29) : Prop := ∀ x0 y0 y1 y2 y3 y4 y5 y6 y7 y8 y9 y10 y11 y12 y13 r0 z1 z2 z3 z4 z5 z6 z7 z8 z9 z10 z12 z13, s x0 y0 y1 y2 y3 y4 y5 y6 y7 y8 y9 y10 y11 y12 y13 = some (r0, z1, z2, z3, z4, z5, z6, z7, z8, z9, z10, z12, z13) -> ViewRet Try.prog T 27 [.ptr 1 0 0, dY x0] [g2a y0 y1 y2 y3 y4 y5 y6 y7 y8 y9 y10 y11 y12 y13] [dY r0] [g2a y0 z1 z2 z3 z4 z5 z6 z7 z8 z9 z10 y11 z12 z13]
theorem eo_tReceive (s : Ty29) (hs : Q_tReceive s) : MEntOK Try.prog T ⟨27, e_tReceive s⟩ := by
  refine ⟨goes_of Try.func27 (by kernel_rfl) (c := bodyOf Try.f27) (by kernel_rfl), fun R dst ds m K r h => ?_⟩
  simp only [e_tReceive] at h
  split at h
  . obtain ⟨Bs, a1, a2, a3, h⟩ := viewK_some h
    split at h
    . obtain ⟨r0, z1, z2, z3, z4, z5, z6, z7, z8, z9, z10, z12, z13, h1, h2⟩ := bnd13_some h
      rw [putAllK_eq] at h2
      exact ⟨_, _, h2, ViewRet.weakIn (hs _ _ _ _ _ _ _ _ _ _ _ _ _ _ _ _ _ _ _ _ _ _ _ _ _ _ _ _ h1) (by exact ⟨⟨rfl, .inl rfl, .inl rfl, .inl rfl, .inl rfl, .inl rfl, .inr ⟨_, _, rfl, rfl⟩, .inl rfl, .inr ⟨_, _, rfl, rfl⟩, .inl rfl, .inl rfl, .inl rfl, .inr ⟨_, _, rfl, rfl⟩, .inl rfl, .inl rfl, trivial⟩, trivial⟩) rfl _ _ m dst a1 a2 a3 ⟨aren_ptr _ rfl, aren_v _, trivial⟩⟩
    . cases h
  . cases h
open Classical in
theorem p_tReceive (N : Nat) : Q_tReceive (s_tReceive N) := fun x0 y0 y1 y2 y3 y4 y5 y6 y7 y8 y9 y10 y11 y12 y13 r0 z1 z2 z3 z4 z5 z6 z7 z8 z9 z10 z12 z13 h => by
  refine view_ofW (cx := cx_tReceive N) (by kernel_rfl) (cxO_ok ⟨eo_bSame _ (p_bSame N), trivial⟩ ⟨eo_tMade _ (p_tMade N), eo_tDecode _ (p_tDecode N), eo_tSpecial _ (p_tSpecial N), eo_tReady _ (p_tReady N), eo_tInfo _ (p_tInfo N), eo_tAgain _ (p_tAgain N), eo_tSuper _ (p_tSuper N), eo_tFailure _ (p_tFailure N), trivial⟩) Try.func27 (by kernel_rfl) (by kernel_rfl) (loopsOK_of (k := 0) (by kernel_rfl) trivial) (by rfl) (by rfl) (by rfl) (rf := r_tEnc (fun r0' z'0 z'1 z'2 z'3 z'4 z'5 z'6 z'7 z'8 z'9 z'10 z'11 z'12 z'13 => if z'0 = y0 /\ z'11 = y11 then some (r0', z'1, z'2, z'3, z'4, z'5, z'6, z'7, z'8, z'9, z'10, z'12, z'13) else none)) (r := (r0, z1, z2, z3, z4, z5, z6, z7, z8, z9, z10, z12, z13)) ?_ ?_
  . exact (C_tReceive_ok ..).trans ((congrArg (fun K => C_tReceive N x0 y0 y1 y2 y3 y4 y5 y6 y7 y8 y9 y10 y11 y12 y13 K) (funext fun r0' => funext fun z'1 => funext fun z'2 => funext fun z'3 => funext fun z'4 => funext fun z'5 => funext fun z'6 => funext fun z'7 => funext fun z'8 => funext fun z'9 => funext fun z'10 => funext fun z'12 => funext fun z'13 => if_pos ⟨rfl, rfl⟩)).trans h)
  . intro rs' m' hx
    unfold r_tEnc at hx
    split at hx
    . dsimp only at hx
      split at hx
      . rename_i hk
        obtain ⟨rfl, rfl⟩ := hk
        cases hx; exact ⟨rfl, rfl, _, [⟨95, [_, _, _, _, _, _, _, _, _, _, _, _, _, _]⟩], rfl, rfl, ⟨⟨rfl, .inl rfl, .inl rfl, .inl rfl, .inl rfl, .inl rfl, .inr ⟨_, _, rfl, rfl⟩, .inl rfl, .inr ⟨_, _, rfl, rfl⟩, .inl rfl, .inl rfl, .inl rfl, .inr ⟨_, _, rfl, rfl⟩, .inl rfl, .inl rfl, trivial⟩, trivial⟩⟩
      . cases hx
    . cases hx
abbrev Ty30 := Int -> Int -> Int -> Int -> Int -> List UInt8 -> Int -> List V -> List UInt8 -> Int -> Int -> List UInt8 -> Bool -> Int -> Option (List UInt8 × Int × Int × Int)
noncomputable def e_tTimeout {R : Type} (s : Ty30) (dst : Nat) (ds : List D) (m : Mem) (K : List D -> Mem -> Option R) : Option R :=
  match ds with
  | [.ptr (kv0 + 1) sv0 0] => viewK [(kv0, sv0)] m fun Bs => (match Bs with
    | [⟨95, [.v (.int .i64 y0) .no, .v (.int .i64 y1) .no, .v (.int .i64 y2) .no, .v (.int .i64 y3) .no, .v (.int .i64 y4) .no, .v (.bytes y5) _, .v (.int .i64 y6) .no, .v (.sl 27 y7) _, .v (.bytes y8) (.own (.slot 0) 5), .v (.int .i64 y9) .no, .v (.int .i64 y10) .no, .v (.bytes y11) _, .v (.bool y12) .no, .v (.int .i64 y13) .no]⟩] => bnd4 (s y0 y1 y2 y3 y4 y5 y6 y7 y8 y9 y10 y11 y12 y13) fun r0 z9 z10 z13 => putAllK [(kv0, sv0)] [⟨95, [.v (.int .i64 y0) .no, .v (.int .i64 y1) .no, .v (.int .i64 y2) .no, .v (.int .i64 y3) .no, .v (.int .i64 y4) .no, .v (.bytes y5) .no, .v (.int .i64 y6) .no, .v (.sl 27 y7) .no, .v (.bytes y8) (.own (.slot 0) 5), .v (.int .i64 z9) .no, .v (.int .i64 z10) .no, .v (.bytes y11) .no, .v (.bool y12) .no, .v (.int .i64 z13) .no]⟩] m fun m' => K [.v (.bytes r0) .no] m'
    | _ => none)
  | _ => none
noncomputable def C_tTimeout {R : Type} (N : Nat) (y0 y1 y2 y3 y4 : Int) (y5 : List UInt8) (y6 : Int) (y7 : List V) (y8 : List UInt8) (y9 y10 : Int) (y11 : List UInt8) (y12 : Bool) (y13 : Int) (K0 : List UInt8 -> Int -> Int -> Int -> Option R) : Option R := bnd1 (s_tMade N y0 y1 y2 y3 y4 y5 y6 y7 y8 y9 y10 y11 y12 y13) fun b0 => br (!b0) (K0 [] y9 y10 y13) (br (decide (y9 = 1)) (bnd1 (s_tSpecial N 1 false y11 y0 y1 y2 y3 y4 y5 y6 y7 y8 y9 y10 y11 y12 y13) fun l1 => bnd4 (s_tFailure N 29 l1 y0 y1 y2 y3 y4 y5 y6 y7 y8 y9 y10 y11 y12 y13) fun l2 n3 n4 n5 => K0 l2 n3 n4 n5) (br (decide (y9 = 2)) (bnd1 (s_tReady N 2 y0 y1 y2 y3 y4 y5 y6 y7 y8 y9 y10 y11 y12 y13) fun l6 => bnd4 (s_tFailure N 29 l6 y0 y1 y2 y3 y4 y5 y6 y7 y8 y9 y10 y11 y12 y13) fun l7 n8 n9 n10 => K0 l7 n8 n9 n10) (K0 [] y9 y10 y13)))
noncomputable def s_tTimeout (N : Nat) (y0 y1 y2 y3 y4 : Int) (y5 : List UInt8) (y6 : Int) (y7 : List V) (y8 : List UInt8) (y9 y10 : Int) (y11 : List UInt8) (y12 : Bool) (y13 : Int) : Option (List UInt8 × Int × Int × Int) := C_tTimeout N y0 y1 y2 y3 y4 y5 y6 y7 y8 y9 y10 y11 y12 y13 (fun r0 z9 z10 z13 => some (r0, z9, z10, z13))
noncomputable def cx_tTimeout (N : Nat) : Cx := cxO [] [⟨62, e_tMade (s_tMade N)⟩, ⟨67, e_tFailure (s_tFailure N)⟩, ⟨46, e_tSpecial (s_tSpecial N)⟩, ⟨47, e_tReady (s_tReady N)⟩]
theorem C_tTimeout_ok {R : Type} (N : Nat) (y0 y1 y2 y3 y4 y5 y6 y7 y8 y9 y10 y11 y12 y13 K : _) : bodyK (R := R) (cx_tTimeout N) Try.f26 [.ptr 1 0 0] [frOf 0 [g2a y0 y1 y2 y3 y4 y5 y6 y7 y8 y9 y10 y11 y12 y13]] (r_tEnc K) = C_tTimeout N y0 y1 y2 y3 y4 y5 y6 y7 y8 y9 y10 y11 y12 y13 (fun r0 z9 z10 z13 => K r0 y0 y1 y2 y3 y4 y5 y6 y7 y8 z9 z10 y11 y12 z13) := by
  kernel_rfl
abbrev Q_tTimeout (s : Ty30) : Prop := ∀ y0 y1 y2 y3 y4 y5 y6 y7 y8 y9 y10 y11 y12 y13 r0 z9 z10 z13, s y0 y1 y2 y3 y4 y5 y6 y7 y8 y9 y10 y11 y12 y13 = some (r0, z9, z10, z13) -> ViewRet Try.prog T 26 [.ptr 1 0 0] [g2a y0 y1 y2 y3 y4 y5 y6 y7 y8 y9 y10 y11 y12 y13] [dY r0] [g2a y0 y1 y2 y3 y4 y5 y6 y7 y8 z9 z10 y11 y12 z13]
theorem eo_tTimeout (s : Ty30) (hs : Q_tTimeout s) : MEntOK Try.prog T ⟨26, e_tTimeout s⟩ := by
  refine ⟨goes_of Try.func26 (by kernel_rfl) (c := bodyOf Try.f26) (by kernel_rfl), fun R dst ds m K r h => ?_⟩
  simp only [e_tTimeout] at h
  split at h
  . obtain ⟨Bs, a1, a2, a3, h⟩ := viewK_some h
    split at h
    . obtain ⟨r0, z9, z10, z13, h1, h2⟩ := bnd4_some h
      rw [putAllK_eq] at h2
      exact ⟨_, _, h2, ViewRet.weakIn (hs _ _ _ _ _ _ _ _ _ _ _ _ _ _ _ _ _ _ h1) (by exact ⟨⟨rfl, .inl rfl, .inl rfl, .inl rfl, .inl rfl, .inl rfl, .inr ⟨_, _, rfl, rfl⟩, .inl rfl, .inr ⟨_, _, rfl, rfl⟩, .inl rfl, .inl rfl, .inl rfl, .inr ⟨_, _, rfl, rfl⟩, .inl rfl, .inl rfl, trivial⟩, trivial⟩) rfl _ _ m dst a1 a2 a3 ⟨aren_ptr _ rfl, trivial⟩⟩
    . cases h
  . cases h
open Classical in
theorem p_tTimeout (N : Nat) : Q_tTimeout (s_tTimeout N) := fun y0 y1 y2 y3 y4 y5 y6 y7 y8 y9 y10 y11 y12 y13 r0 z9 z10 z13 h => by
  refine view_ofW (cx := cx_tTimeout N) (by kernel_rfl) (cxO_ok trivial ⟨eo_tMade _ (p_tMade N), eo_tFailure _ (p_tFailure N), eo_tSpecial _ (p_tSpecial N), eo_tReady _ (p_tReady N), trivial⟩) Try.func26 (by kernel_rfl) (by kernel_rfl) (loopsOK_of (k := 0) (by kernel_rfl) trivial) (by rfl) (by rfl) (by rfl) (rf := r_tEnc (fun r0' z'0 z'1 z'2 z'3 z'4 z'5 z'6 z'7 z'8 z'9 z'10 z'11 z'12 z'13 => if z'0 = y0 /\ z'1 = y1 /\ z'2 = y2 /\ z'3 = y3 /\ z'4 = y4 /\ z'5 = y5 /\ z'6 = y6 /\ z'7 = y7 /\ z'8 = y8 /\ z'11 = y11 /\ z'12 = y12 then some (r0', z'9, z'10, z'13) else none)) (r := (r0, z9, z10, z13)) ?_ ?_
  . exact (C_tTimeout_ok ..).trans ((congrArg (fun K => C_tTimeout N y0 y1 y2 y3 y4 y5 y6 y7 y8 y9 y10 y11 y12 y13 K) (funext fun r0' => funext fun z'9 => funext fun z'10 => funext fun z'13 => if_pos ⟨rfl, rfl, rfl, rfl, rfl, rfl, rfl, rfl, rfl, rfl, rfl⟩)).trans h)
  . intro rs' m' hx
    unfold r_tEnc at hx
    split at hx
    . dsimp only at hx
      split at hx
      . rename_i hk
        obtain ⟨rfl, rfl, rfl, rfl, rfl, rfl, rfl, rfl, rfl, rfl, rfl⟩ := hk
        cases hx; exact ⟨rfl, rfl, _, [⟨95, [_, _, _, _, _, _, _, _, _, _, _, _, _, _]⟩], rfl, rfl, ⟨⟨rfl, .inl rfl, .inl rfl, .inl rfl, .inl rfl, .inl rfl, .inr ⟨_, _, rfl, rfl⟩, .inl rfl, .inr ⟨_, _, rfl, rfl⟩, .inl rfl, .inl rfl, .inl rfl, .inr ⟨_, _, rfl, rfl⟩, .inl rfl, .inl rfl, trivial⟩, trivial⟩⟩
      . cases hx
    . cases hx
abbrev Ty31 := Int -> Int -> Int -> Int -> Int -> List UInt8 -> Int -> List V -> List UInt8 -> Int -> Int -> List UInt8 -> Bool -> Int -> Option (List UInt8 × Bool)
noncomputable def e_tResponse {R : Type} (s : Ty31) (dst : Nat) (ds : List D) (m : Mem) (K : List D -> Mem -> Option R) : Option R :=
  match ds with
  | [.ptr (kv0 + 1) sv0 0] => viewK [(kv0, sv0)] m fun Bs => (match Bs with
    | [⟨95, [.v (.int .i64 y0) .no, .v (.int .i64 y1) .no, .v (.int .i64 y2) .no, .v (.int .i64 y3) .no, .v (.int .i64 y4) .no, .v (.bytes y5) _, .v (.int .i64 y6) .no, .v (.sl 27 y7) _, .v (.bytes y8) (.own (.slot 0) 5), .v (.int .i64 y9) .no, .v (.int .i64 y10) .no, .v (.bytes y11) _, .v (.bool y12) .no, .v (.int .i64 y13) .no]⟩] => bnd2 (s y0 y1 y2 y3 y4 y5 y6 y7 y8 y9 y10 y11 y12 y13) fun r0 r1 => putAllK [(kv0, sv0)] [⟨95, [.v (.int .i64 y0) .no, .v (.int .i64 y1) .no, .v (.int .i64 y2) .no, .v (.int .i64 y3) .no, .v (.int .i64 y4) .no, .v (.bytes y5) .no, .v (.int .i64 y6) .no, .v (.sl 27 y7) .no, .v (.bytes y8) (.own (.slot 0) 5), .v (.int .i64 y9) .no, .v (.int .i64 y10) .no, .v (.bytes y11) .no, .v (.bool y12) .no, .v (.int .i64 y13) .no]⟩] m fun m' => K [.v (.bytes r0) .no, .v (.bool r1) .no] m'
    | _ => none)
  | _ => none
noncomputable def r_tResponse {α : Type} (K : List UInt8 -> Bool -> Int -> Int -> Int -> Int -> Int -> List UInt8 -> Int -> List V -> List UInt8 -> Int -> Int -> List UInt8 -> Bool -> Int -> Option α) (rs : List D) (m : Mem) : Option α :=
  match rs, m with
  | [.v (.bytes r0) _, .v (.bool r1) _], [_, [(0, ⟨95, [.v (.int .i64 z0) .no, .v (.int .i64 z1) .no, .v (.int .i64 z2) .no, .v (.int .i64 z3) .no, .v (.int .i64 z4) .no, .v (.bytes z5) _, .v (.int .i64 z6) .no, .v (.sl 27 z7) _, .v (.bytes z8) (.own (.slot 0) 5), .v (.int .i64 z9) .no, .v (.int .i64 z10) .no, .v (.bytes z11) _, .v (.bool z12) .no, .v (.int .i64 z13) .no]⟩)]] => K r0 r1 z0 z1 z2 z3 z4 z5 z6 z7 z8 z9 z10 z11 z12 z13
  | _, _ => none
noncomputable def C_tResponse {R : Type} (N : Nat) (y0 y1 y2 y3 y4 : Int) (y5 : List UInt8) (y6 : Int) (y7 : List V) (y8 : List UInt8) (y9 y10 : Int) (y11 : List UInt8) (y12 : Bool) (y13 : Int) (K0 : List UInt8 -> Bool -> Option R) : Option R := bnd1 (s_tMade N y0 y1 y2 y3 y4 y5 y6 y7 y8 y9 y10 y11 y12 y13) fun b0 => br (!b0) (K0 [] false) (br (!y12) (K0 [] false) (bnd1 (s_clone N y8) fun l1 => K0 l1 true))
noncomputable def s_tResponse (N : Nat) (y0 y1 y2 y3 y4 : Int) (y5 : List UInt8) (y6 : Int) (y7 : List V) (y8 : List UInt8) (y9 y10 : Int) (y11 : List UInt8) (y12 : Bool) (y13 : Int) : Option (List UInt8 × Bool) := C_tResponse N y0 y1 y2 y3 y4 y5 y6 y7 y8 y9 y10 y11 y12 y13 (fun r0 r1 => some (r0, r1))
noncomputable def cx_tResponse (N : Nat) : Cx := cxO [⟨60, e_clone (s_clone N)⟩] [⟨62, e_tMade (s_tMade N)⟩]
theorem C_tResponse_ok {R : Type} (N : Nat) (y0 y1 y2 y3 y4 y5 y6 y7 y8 y9 y10 y11 y12 y13 K : _) : bodyK (R := R) (cx_tResponse N) Try.f29 [.ptr 1 0 0] [frOf 0 [g2a y0 y1 y2 y3 y4 y5 y6 y7 y8 y9 y10 y11 y12 y13]] (r_tResponse K) = C_tResponse N y0 y1 y2 y3 y4 y5 y6 y7 y8 y9 y10 y11 y12 y13 (fun r0 r1 => K r0 r1 y0 y1 y2 y3 y4 y5 y6 y7 y8 y9 y10 y11 y12 y13) := by
  kernel_rfl
abbrev Q_tResponse (s : Ty31) : Prop := ∀ y0 y1 y2 y3 y4 y5 y6 y7 y8 y9 y10 y11 y12 y13 r0 r1, s y0 y1 y2 y3 y4 y5 y6 y7 y8 y9 y10 y11 y12 y13 = some (r0, r1) -> ViewRet Try.prog T 29 [.ptr 1 0 0] [g2a y0 y1 y2 y3 y4 y5 y6 y7 y8 y9 y10 y11 y12 y13] [dY r0, dB r1] [g2a y0 y1 y2 y3 y4 y5 y6 y7 y8 y9 y10 y11 y12 y13]
theorem eo_tResponse (s : Ty31) (hs : Q_tResponse s) : MEntOK Try.prog T ⟨29, e_tResponse s⟩ := by
  refine ⟨goes_of Try.func29 (by kernel_rfl) (c := bodyOf Try.f29) (by kernel_rfl), fun R dst ds m K r h => ?_⟩
  simp only [e_tResponse] at h
  split at h
  . obtain ⟨Bs, a1, a2, a3, h⟩ := viewK_some h
    split at h
    . obtain ⟨r0, r1, h1, h2⟩ := bnd2_some h
      rw [putAllK_eq] at h2
      exact ⟨_, _, h2, ViewRet.weakIn (hs _ _ _ _ _ _ _ _ _ _ _ _ _ _ _ _ h1) (by exact ⟨⟨rfl, .inl rfl, .inl rfl, .inl rfl, .inl rfl, .inl rfl, .inr ⟨_, _, rfl, rfl⟩, .inl rfl, .inr ⟨_, _, rfl, rfl⟩, .inl rfl, .inl rfl, .inl rfl, .inr ⟨_, _, rfl, rfl⟩, .inl rfl, .inl rfl, trivial⟩, trivial⟩) rfl _ _ m dst a1 a2 a3 ⟨aren_ptr _ rfl, trivial⟩⟩
    . cases h
  . cases h
open Classical in
theorem p_tResponse (N : Nat) : Q_tResponse (s_tResponse N) := fun y0 y1 y2 y3 y4 y5 y6 y7 y8 y9 y10 y11 y12 y13 r0 r1 h => by
  refine view_ofW (cx := cx_tResponse N) (by kernel_rfl) (cxO_ok ⟨eo_clone _ (p_clone N), trivial⟩ ⟨eo_tMade _ (p_tMade N), trivial⟩) Try.func29 (by kernel_rfl) (by kernel_rfl) (loopsOK_of (k := 0) (by kernel_rfl) trivial) (by rfl) (by rfl) (by rfl) (rf := r_tResponse (fun r0' r1' z'0 z'1 z'2 z'3 z'4 z'5 z'6 z'7 z'8 z'9 z'10 z'11 z'12 z'13 => if z'0 = y0 /\ z'1 = y1 /\ z'2 = y2 /\ z'3 = y3 /\ z'4 = y4 /\ z'5 = y5 /\ z'6 = y6 /\ z'7 = y7 /\ z'8 = y8 /\ z'9 = y9 /\ z'10 = y10 /\ z'11 = y11 /\ z'12 = y12 /\ z'13 = y13 then some (r0', r1') else none)) (r := (r0, r1)) ?_ ?_
  . exact (C_tResponse_ok ..).trans ((congrArg (fun K => C_tResponse N y0 y1 y2 y3 y4 y5 y6 y7 y8 y9 y10 y11 y12 y13 K) (funext fun r0' => funext fun r1' => if_pos ⟨rfl, rfl, rfl, rfl, rfl, rfl, rfl, rfl, rfl, rfl, rfl, rfl, rfl, rfl⟩)).trans h)
  . intro rs' m' hx
    unfold r_tResponse at hx
    split at hx
    . dsimp only at hx
      split at hx
      . rename_i hk
        obtain ⟨rfl, rfl, rfl, rfl, rfl, rfl, rfl, rfl, rfl, rfl, rfl, rfl, rfl, rfl⟩ := hk
        cases hx; exact ⟨rfl, rfl, _, [⟨95, [_, _, _, _, _, _, _, _, _, _, _, _, _, _]⟩], rfl, rfl, ⟨⟨rfl, .inl rfl, .inl rfl, .inl rfl, .inl rfl, .inl rfl, .inr ⟨_, _, rfl, rfl⟩, .inl rfl, .inr ⟨_, _, rfl, rfl⟩, .inl rfl, .inl rfl, .inl rfl, .inr ⟨_, _, rfl, rfl⟩, .inl rfl, .inl rfl, trivial⟩, trivial⟩⟩
      . cases hx
    . cases hx
abbrev Ty32 := Int -> Int -> Int -> Int -> Int -> Int -> List UInt8 -> Int -> List V -> List UInt8 -> Int -> Int -> List UInt8 -> Bool -> Int -> Option (List UInt8 × Int × Int × List UInt8)
noncomputable def e_tOffer {R : Type} (s : Ty32) (dst : Nat) (ds : List D) (m : Mem) (K : List D -> Mem -> Option R) : Option R :=
  match ds with
  | [.ptr (kv0 + 1) sv0 0, .v (.int .i64 x0) .no] => viewK [(kv0, sv0)] m fun Bs => (match Bs with
    | [⟨95, [.v (.int .i64 y0) .no, .v (.int .i64 y1) .no, .v (.int .i64 y2) .no, .v (.int .i64 y3) .no, .v (.int .i64 y4) .no, .v (.bytes y5) _, .v (.int .i64 y6) .no, .v (.sl 27 y7) _, .v (.bytes y8) (.own (.slot 0) 5), .v (.int .i64 y9) .no, .v (.int .i64 y10) .no, .v (.bytes y11) _, .v (.bool y12) .no, .v (.int .i64 y13) .no]⟩] => bnd4 (s x0 y0 y1 y2 y3 y4 y5 y6 y7 y8 y9 y10 y11 y12 y13) fun r0 z9 z10 z11 => putAllK [(kv0, sv0)] [⟨95, [.v (.int .i64 y0) .no, .v (.int .i64 y1) .no, .v (.int .i64 y2) .no, .v (.int .i64 y3) .no, .v (.int .i64 y4) .no, .v (.bytes y5) .no, .v (.int .i64 y6) .no, .v (.sl 27 y7) .no, .v (.bytes y8) (.own (.slot 0) 5), .v (.int .i64 z9) .no, .v (.int .i64 z10) .no, .v (.bytes z11) .no, .v (.bool y12) .no, .v (.int .i64 y13) .no]⟩] m fun m' => K [.v (.bytes r0) .no] m'
    | _ => none)
  | _ => none
noncomputable def C_tOffer {R : Type} (N : Nat) (x0 y0 y1 y2 y3 y4 : Int) (y5 : List UInt8) (y6 : Int) (y7 : List V) (y8 : List UInt8) (y9 y10 : Int) (y11 : List UInt8) (y12 : Bool) (y13 : Int) (K0 : List UInt8 -> Int -> Int -> List UInt8 -> Option R) : Option R := bnd1 (s_tMade N y0 y1 y2 y3 y4 y5 y6 y7 y8 y9 y10 y11 y12 y13) fun b0 => br (!b0) (K0 [] y9 y10 y11) (br (!decide (y9 = 0)) (K0 [] y9 y10 y11) (br (decide (x0 < 1)) (K0 [] y9 y10 y11) (br (decide (254 < x0)) (K0 [] y9 y10 y11) (bnd1 (s_tSpecial N 1 false [UInt8.ofNat (IntKind.u8.wrap x0).toNat] y0 y1 y2 y3 y4 y5 y6 y7 y8 1 0 [UInt8.ofNat (IntKind.u8.wrap x0).toNat] y12 y13) fun l1 => K0 l1 1 0 [UInt8.ofNat (IntKind.u8.wrap x0).toNat]))))
noncomputable def s_tOffer (N : Nat) (x0 y0 y1 y2 y3 y4 : Int) (y5 : List UInt8) (y6 : Int) (y7 : List V) (y8 : List UInt8) (y9 y10 : Int) (y11 : List UInt8) (y12 : Bool) (y13 : Int) : Option (List UInt8 × Int × Int × List UInt8) := C_tOffer N x0 y0 y1 y2 y3 y4 y5 y6 y7 y8 y9 y10 y11 y12 y13 (fun r0 z9 z10 z11 => some (r0, z9, z10, z11))
noncomputable def cx_tOffer (N : Nat) : Cx := cxO [] [⟨62, e_tMade (s_tMade N)⟩, ⟨46, e_tSpecial (s_tSpecial N)⟩]
theorem C_tOffer_ok {R : Type} (N : Nat) (x0 y0 y1 y2 y3 y4 y5 y6 y7 y8 y9 y10 y11 y12 y13 K : _) : bodyK (R := R) (cx_tOffer N) Try.f33 [.ptr 1 0 0, dI x0] [frOf 0 [g2a y0 y1 y2 y3 y4 y5 y6 y7 y8 y9 y10 y11 y12 y13]] (r_tEnc K) = C_tOffer N x0 y0 y1 y2 y3 y4 y5 y6 y7 y8 y9 y10 y11 y12 y13 (fun r0 z9 z10 z11 => K r0 y0 y1 y2 y3 y4 y5 y6 y7 y8 z9 z10 z11 y12 y13) := by
  kernel_rfl
abbrev Q_tOffer (s : Ty32) : Prop := ∀ x0 y0 y1 y2 y3 y4 y5 y6 y7 y8 y9 y10 y11 y12 y13 r0 z9 z10 z11, s x0 y0 y1 y2 y3 y4 y5 y6 y7 y8 y9 y10 y11 y12 y13 = some (r0, z9, z10, z11) -> ViewRet Try.prog T 33 [.ptr 1 0 0, dI x0] [g2a y0 y1 y2 y3 y4 y5 y6 y7 y8 y9 y10 y11 y12 y13] [dY r0] [g2a y0 y1 y2 y3 y4 y5 y6 y7 y8 z9 z10 z11 y12 y13]
theorem eo_tOffer (s : Ty32) (hs : Q_tOffer s) : MEntOK Try.prog T ⟨33, e_tOffer s⟩ := by
  refine ⟨goes_of Try.func33 (by kernel_rfl) (c := bodyOf Try.f33) (by kernel_rfl), fun R dst ds m K r h => ?_⟩
  simp only [e_tOffer] at h
  split at h
  . obtain ⟨Bs, a1, a2, a3, h⟩ := viewK_some h
    split at h
    . obtain ⟨r0, z9, z10, z11, h1, h2⟩ := bnd4_some h
      rw [putAllK_eq] at h2
      exact ⟨_, _, h2, ViewRet.weakIn (hs _ _ _ _ _ _ _ _ _ _ _ _ _ _ _ _ _ _ _ h1) (by exact ⟨⟨rfl, .inl rfl, .inl rfl, .inl rfl, .inl rfl, .inl rfl, .inr ⟨_, _, rfl, rfl⟩, .inl rfl, .inr ⟨_, _, rfl, rfl⟩, .inl rfl, .inl rfl, .inl rfl, .inr ⟨_, _, rfl, rfl⟩, .inl rfl, .inl rfl, trivial⟩, trivial⟩) rfl _ _ m dst a1 a2 a3 ⟨aren_ptr _ rfl, aren_v _, trivial⟩⟩
    . cases h
  . cases h
open Classical in
theorem p_tOffer (N : Nat) : Q_tOffer (s_tOffer N) := fun x0 y0 y1 y2 y3 y4 y5 y6 y7 y8 y9 y10 y11 y12 y13 r0 z9 z10 z11 h => by
  refine view_ofW (cx := cx_tOffer N) (by kernel_rfl) (cxO_ok trivial ⟨eo_tMade _ (p_tMade N), eo_tSpecial _ (p_tSpecial N), trivial⟩) Try.func33 (by kernel_rfl) (by kernel_rfl) (loopsOK_of (k := 0) (by kernel_rfl) trivial) (by rfl) (by rfl) (by rfl) (rf := r_tEnc (fun r0' z'0 z'1 z'2 z'3 z'4 z'5 z'6 z'7 z'8 z'9 z'10 z'11 z'12 z'13 => if z'0 = y0 /\ z'1 = y1 /\ z'2 = y2 /\ z'3 = y3 /\ z'4 = y4 /\ z'5 = y5 /\ z'6 = y6 /\ z'7 = y7 /\ z'8 = y8 /\ z'12 = y12 /\ z'13 = y13 then some (r0', z'9, z'10, z'11) else none)) (r := (r0, z9, z10, z11)) ?_ ?_
  . exact (C_tOffer_ok ..).trans ((congrArg (fun K => C_tOffer N x0 y0 y1 y2 y3 y4 y5 y6 y7 y8 y9 y10 y11 y12 y13 K) (funext fun r0' => funext fun z'9 => funext fun z'10 => funext fun z'11 => if_pos ⟨rfl, rfl, rfl, rfl, rfl, rfl, rfl, rfl, rfl, rfl, rfl⟩)).trans h)
  . intro rs' m' hx
    unfold r_tEnc at hx
    split at hx
    . dsimp only at hx
      split at hx
      . rename_i hk
        obtain ⟨rfl, rfl, rfl, rfl, rfl, rfl, rfl, rfl, rfl, rfl, rfl⟩ := hk
        cases hx; exact ⟨rfl, rfl, _, [⟨95, [_, _, _, _, _, _, _, _, _, _, _, _, _, _]⟩], rfl, rfl, ⟨⟨rfl, .inl rfl, .inl rfl, .inl rfl, .inl rfl, .inl rfl, .inr ⟨_, _, rfl, rfl⟩, .inl rfl, .inr ⟨_, _, rfl, rfl⟩, .inl rfl, .inl rfl, .inl rfl, .inr ⟨_, _, rfl, rfl⟩, .inl rfl, .inl rfl, trivial⟩, trivial⟩⟩
      . cases hx
    . cases hx
abbrev Ty33 := List UInt8 -> Int -> Int -> Int -> Int -> Int -> List UInt8 -> Int -> List V -> List UInt8 -> Int -> Int -> List UInt8 -> Bool -> Int -> Option (List UInt8 × Int × List UInt8 × Int × List V × List UInt8 × Int × Int × Bool)
noncomputable def e_tSend {R : Type} (s : Ty33) (dst : Nat) (ds : List D) (m : Mem) (K : List D -> Mem -> Option R) : Option R :=
  match ds with
  | [.ptr (kv0 + 1) sv0 0, .v (.bytes x0) .no] => viewK [(kv0, sv0)] m fun Bs => (match Bs with
    | [⟨95, [.v (.int .i64 y0) .no, .v (.int .i64 y1) .no, .v (.int .i64 y2) .no, .v (.int .i64 y3) .no, .v (.int .i64 y4) .no, .v (.bytes y5) _, .v (.int .i64 y6) .no, .v (.sl 27 y7) _, .v (.bytes y8) (.own (.slot 0) 5), .v (.int .i64 y9) .no, .v (.int .i64 y10) .no, .v (.bytes y11) _, .v (.bool y12) .no, .v (.int .i64 y13) .no]⟩] => bnd9 (s x0 y0 y1 y2 y3 y4 y5 y6 y7 y8 y9 y10 y11 y12 y13) fun r0 z4 z5 z6 z7 z8 z9 z10 z12 => putAllK [(kv0, sv0)] [⟨95, [.v (.int .i64 y0) .no, .v (.int .i64 y1) .no, .v (.int .i64 y2) .no, .v (.int .i64 y3) .no, .v (.int .i64 z4) .no, .v (.bytes z5) .no, .v (.int .i64 z6) .no, .v (.sl 27 z7) .no, .v (.bytes z8) (.own (.slot 0) 5), .v (.int .i64 z9) .no, .v (.int .i64 z10) .no, .v (.bytes y11) .no, .v (.bool z12) .no, .v (.int .i64 y13) .no]⟩] m fun m' => K [.v (.bytes r0) .no] m'
    | _ => none)
  | _ => none
noncomputable def C_tSend {R : Type} (N : Nat) (x0 : List UInt8) (y0 y1 y2 y3 y4 : Int) (y5 : List UInt8) (y6 : Int) (y7 : List V) (y8 : List UInt8) (y9 y10 : Int) (y11 : List UInt8) (y12 : Bool) (y13 : Int) (K0 : List UInt8 -> Int -> List UInt8 -> Int -> List V -> List UInt8 -> Int -> Int -> Bool -> Option R) : Option R := bnd1 (s_tMade N y0 y1 y2 y3 y4 y5 y6 y7 y8 y9 y10 y11 y12 y13) fun b0 => br (!b0) (K0 [] y4 y5 y6 y7 y8 y9 y10 y12) (br (!decide (y9 = 0)) (K0 [] y4 y5 y6 y7 y8 y9 y10 y12) (bnd5 (s_tSendC N x0 y0 y1 y2 y3 y4 y5 y6 y7 [] 2 0 y11 false y13) fun l1 n2 l3 n4 l5 => K0 l1 n2 l3 n4 l5 [] 2 0 false))
noncomputable def s_tSend (N : Nat) (x0 : List UInt8) (y0 y1 y2 y3 y4 : Int) (y5 : List UInt8) (y6 : Int) (y7 : List V) (y8 : List UInt8) (y9 y10 : Int) (y11 : List UInt8) (y12 : Bool) (y13 : Int) : Option (List UInt8 × Int × List UInt8 × Int × List V × List UInt8 × Int × Int × Bool) := C_tSend N x0 y0 y1 y2 y3 y4 y5 y6 y7 y8 y9 y10 y11 y12 y13 (fun r0 z4 z5 z6 z7 z8 z9 z10 z12 => some (r0, z4, z5, z6, z7, z8, z9, z10, z12))
noncomputable def cx_tSend (N : Nat) : Cx := cxO [] [⟨62, e_tMade (s_tMade N)⟩, ⟨58, e_tSendC (s_tSendC N)⟩]
theorem C_tSend_ok {R : Type} (N : Nat) (x0 y0 y1 y2 y3 y4 y5 y6 y7 y8 y9 y10 y11 y12 y13 K : _) : bodyK (R := R) (cx_tSend N) Try.f24 [.ptr 1 0 0, dY x0] [frOf 0 [g2a y0 y1 y2 y3 y4 y5 y6 y7 y8 y9 y10 y11 y12 y13]] (r_tEnc K) = C_tSend N x0 y0 y1 y2 y3 y4 y5 y6 y7 y8 y9 y10 y11 y12 y13 (fun r0 z4 z5 z6 z7 z8 z9 z10 z12 => K r0 y0 y1 y2 y3 z4 z5 z6 z7 z8 z9 z10 y11 z12 y13) := by
  kernel_rfl
abbrev Q_tSend (s : Ty33) : Prop := ∀ x0 y0 y1 y2 y3 y4 y5 y6 y7 y8 y9 y10 y11 y12 y13 r0 z4 z5 z6 z7 z8 z9 z10 z12, s x0 y0 y1 y2 y3 y4 y5 y6 y7 y8 y9 y10 y11 y12 y13 = some (r0, z4, z5, z6, z7, z8, z9, z10, z12) -> ViewRet Try.prog T 24 [.ptr 1 0 0, dY x0] [g2a y0 y1 y2 y3 y4 y5 y6 y7 y8 y9 y10 y11 y12 y13] [dY r0] [g2a y0 y1 y2 y3 z4 z5 z6 z7 z8 z9 z10 y11 z12 y13]
theorem eo_tSend (s : Ty33) (hs : Q_tSend s) : MEntOK Try.prog T ⟨24, e_tSend s⟩ := by
  refine ⟨goes_of Try.func24 (by kernel_rfl) (c := bodyOf Try.f24) (by kernel_rfl), fun R dst ds m K r h => ?_⟩
  simp only [e_tSend] at h
  split at h
  . obtain ⟨Bs, a1, a2, a3, h⟩ := viewK_some h
    split at h
    . obtain ⟨r0, z4, z5, z6, z7, z8, z9, z10, z12, h1, h2⟩ := bnd9_some h
      rw [putAllK_eq] at h2
      exact ⟨_, _, h2, ViewRet.weakIn (hs _ _ _ _ _ _ _ _ _ _ _ _ _ _ _ _ _ _ _ _ _ _ _ _ h1) (by exact ⟨⟨rfl, .inl rfl, .inl rfl, .inl rfl, .inl rfl, .inl rfl, .inr ⟨_, _, rfl, rfl⟩, .inl rfl, .inr ⟨_, _, rfl, rfl⟩, .inl rfl, .inl rfl, .inl rfl, .inr ⟨_, _, rfl, rfl⟩, .inl rfl, .inl rfl, trivial⟩, trivial⟩) rfl _ _ m dst a1 a2 a3 ⟨aren_ptr _ rfl, aren_v _, trivial⟩⟩
    . cases h
  . cases h
open Classical in
theorem p_tSend (N : Nat) : Q_tSend (s_tSend N) := fun x0 y0 y1 y2 y3 y4 y5 y6 y7 y8 y9 y10 y11 y12 y13 r0 z4 z5 z6 z7 z8 z9 z10 z12 h => by
  refine view_ofW (cx := cx_tSend N) (by kernel_rfl) (cxO_ok trivial ⟨eo_tMade _ (p_tMade N), eo_tSendC _ (p_tSendC N), trivial⟩) Try.func24 (by kernel_rfl) (by kernel_rfl) (loopsOK_of (k := 0) (by kernel_rfl) trivial) (by rfl) (by rfl) (by rfl) (rf := r_tEnc (fun r0' z'0 z'1 z'2 z'3 z'4 z'5 z'6 z'7 z'8 z'9 z'10 z'11 z'12 z'13 => if z'0 = y0 /\ z'1 = y1 /\ z'2 = y2 /\ z'3 = y3 /\ z'11 = y11 /\ z'13 = y13 then some (r0', z'4, z'5, z'6, z'7, z'8, z'9, z'10, z'12) else none)) (r := (r0, z4, z5, z6, z7, z8, z9, z10, z12)) ?_ ?_
  . exact (C_tSend_ok ..).trans ((congrArg (fun K => C_tSend N x0 y0 y1 y2 y3 y4 y5 y6 y7 y8 y9 y10 y11 y12 y13 K) (funext fun r0' => funext fun z'4 => funext fun z'5 => funext fun z'6 => funext fun z'7 => funext fun z'8 => funext fun z'9 => funext fun z'10 => funext fun z'12 => if_pos ⟨rfl, rfl, rfl, rfl, rfl, rfl⟩)).trans h)
  . intro rs' m' hx
    unfold r_tEnc at hx
    split at hx
    . dsimp only at hx
      split at hx
      . rename_i hk
        obtain ⟨rfl, rfl, rfl, rfl, rfl, rfl⟩ := hk
        cases hx; exact ⟨rfl, rfl, _, [⟨95, [_, _, _, _, _, _, _, _, _, _, _, _, _, _]⟩], rfl, rfl, ⟨⟨rfl, .inl rfl, .inl rfl, .inl rfl, .inl rfl, .inl rfl, .inr ⟨_, _, rfl, rfl⟩, .inl rfl, .inr ⟨_, _, rfl, rfl⟩, .inl rfl, .inl rfl, .inl rfl, .inr ⟨_, _, rfl, rfl⟩, .inl rfl, .inl rfl, trivial⟩, trivial⟩⟩
      . cases hx
    . cases hx
noncomputable def e_rright {R : Type} (s : Int -> Int -> Option (Bool)) (ds : List D) (K : List D -> Option R) : Option R :=
  match ds with
  | [.v (.int .i64 x0) .no, .v (.int .i64 x1) .no] => bnd1 (s x0 x1) fun r0 => K [dB r0]
  | _ => none
noncomputable def s_rright (N : Nat) (x0 x1 : Int) : Option (Bool) := br (decide (1 <= x0)) (br (decide (x0 <= 254)) (br (decide (x1 = 0)) (some true) (some (decide (x1 = 1)))) (some false)) (some false)
noncomputable def cx_rright (N : Nat) : Cx := cxO [] []
theorem s_rright_ok (N : Nat) (x0 x1 : _) : bodyK (cx_rright N) Try.f42 [dI x0, dI x1] [] r_valid = s_rright N x0 x1 := by
  kernel_rfl
abbrev Q_rright (s : Int -> Int -> Option (Bool)) : Prop := ∀ x0 x1 r0, s x0 x1 = some r0 -> PureRet Try.prog T 42 [dI x0, dI x1] [dB r0]
theorem eo_rright (s : Int -> Int -> Option (Bool)) (hs : Q_rright s) : EntOK Try.prog T ⟨42, e_rright s⟩ := by
  refine ⟨goes_of Try.func42 (by kernel_rfl) (c := bodyOf Try.f42) (by kernel_rfl), fun R ds K r h => ?_, fun R ds K => ?_⟩
  . simp only [e_rright] at h
    split at h
    . obtain ⟨r0, h1, h2⟩ := bnd1_some h
      exact ⟨_, h2, hs _ _ _ h1⟩
    . cases h
  . simp only [e_rright]
    split
    . rw [bnd1_b]; rfl
    . rfl
theorem p_rright (N : Nat) : Q_rright (s_rright N) := fun x0 x1 r0 h => pure_of (cx := cx_rright N) (by kernel_rfl) (cxO_ok trivial trivial) Try.func42 (by kernel_rfl) (by kernel_rfl) (loopsOK_of (k := 0) (by kernel_rfl) trivial) (by rfl) (by rfl) (by rfl) (rf := r_valid) ((s_rright_ok ..).trans h) (fun rs' m h => by
    unfold r_valid at h
    split at h
    . cases h; exact ⟨rfl, rfl⟩
    . cases h)
abbrev Ty34 := Int -> Int -> Option (Int × Int × Int × Int × Int × Bool × Int × Int × Int × Bool × Int × Bool × List UInt8 × List V × List UInt8 × Int × Int × Int × Bool × Int × Bool)
noncomputable def e_rNewTerm {R : Type} (s : Ty34) (ds : List D) (K : List D -> Option R) : Option R :=
  match ds with
  | [.v (.int .i64 x0) .no, .v (.int .i64 x1) .no] => bnd21 (s x0 x1) fun r0 r1 r2 r3 r4 r5 r6 r7 r8 r9 r10 r11 r12 r13 r14 r15 r16 r17 r18 r19 r20 => K [.agg [dI r0, dI r1, dI r2, dI r3, dI r4, dB r5, dI r6, dI r7, dI r8, dB r9, dI r10, dB r11, dY r12, .v (.sl 27 r13) .no, dY r14, dI r15, dI r16, dI r17, dB r18, dI r19], dB r20]
  | _ => none
noncomputable def r_rNewTerm (rs : List D) (_ : Mem) : Option (Int × Int × Int × Int × Int × Bool × Int × Int × Int × Bool × Int × Bool × List UInt8 × List V × List UInt8 × Int × Int × Int × Bool × Int × Bool) :=
  match rs with
  | [.agg [.v (.int .i64 r0) _, .v (.int .i64 r1) _, .v (.int .i64 r2) _, .v (.int .i64 r3) _, .v (.int .i64 r4) _, .v (.bool r5) _, .v (.int .i64 r6) _, .v (.int .i64 r7) _, .v (.int .i64 r8) _, .v (.bool r9) _, .v (.int .i64 r10) _, .v (.bool r11) _, .v (.bytes r12) _, .v (.sl 27 r13) _, .v (.bytes r14) _, .v (.int .i64 r15) _, .v (.int .i64 r16) _, .v (.int .i64 r17) _, .v (.bool r18) _, .v (.int .i64 r19) _], .v (.bool r20) _] => some (r0, r1, r2, r3, r4, r5, r6, r7, r8, r9, r10, r11, r12, r13, r14, r15, r16, r17, r18, r19, r20)
  | _ => none
noncomputable def s_rNewTerm (N : Nat) (x0 x1 : Int) : Option (Int × Int × Int × Int × Int × Bool × Int × Int × Int × Bool × Int × Bool × List UInt8 × List V × List UInt8 × Int × Int × Int × Bool × Int × Bool) := bnd1 (s_rright N x0 x1) fun b0 => br (!b0) (some (0, 0, 0, 0, 0, false, 0, 0, 0, false, 0, false, [], [], [], 0, 0, 0, false, 0, false)) (some (x1, 32, x0, 0, 0, false, 0, 0, 0, false, 0, false, [], [], [], 0, 0, 0, false, 0, true))
noncomputable def cx_rNewTerm (N : Nat) : Cx := cxO [⟨42, e_rright (s_rright N)⟩] []
theorem s_rNewTerm_ok (N : Nat) (x0 x1 : _) : bodyK (cx_rNewTerm N) Try.f30 [dI x0, dI x1] [] r_rNewTerm = s_rNewTerm N x0 x1 := by
  kernel_rfl
abbrev g3a (a0 a1 a2 a3 a4 : Int) (a5 : Bool) (a6 a7 a8 : Int) (a9 : Bool) (a10 : Int) (a11 : Bool) (a12 : List UInt8) (a13 : List V) (a14 : List UInt8) (a15 a16 a17 : Int) (a18 : Bool) (a19 : Int) : D := .agg [dI a0, dI a1, dI a2, dI a3, dI a4, dB a5, dI a6, dI a7, dI a8, dB a9, dI a10, dB a11, dY a12, .v (.sl 27 a13) .no, dY a14, dI a15, dI a16, dI a17, dB a18, dI a19]
abbrev Q_rNewTerm (s : Ty34) : Prop := ∀ x0 x1 r0 r1 r2 r3 r4 r5 r6 r7 r8 r9 r10 r11 r12 r13 r14 r15 r16 r17 r18 r19 r20, s x0 x1 = some (r0, r1, r2, r3, r4, r5, r6, r7, r8, r9, r10, r11, r12, r13, r14, r15, r16, r17, r18, r19, r20) -> PureRet Try.prog T 30 [dI x0, dI x1] [g3a r0 r1 r2 r3 r4 r5 r6 r7 r8 r9 r10 r11 r12 r13 r14 r15 r16 r17 r18 r19, dB r20]
theorem eo_rNewTerm (s : Ty34) (hs : Q_rNewTerm s) : EntOK Try.prog T ⟨30, e_rNewTerm s⟩ := by
  refine ⟨goes_of Try.func30 (by kernel_rfl) (c := bodyOf Try.f30) (by kernel_rfl), fun R ds K r h => ?_, fun R ds K => ?_⟩
  . simp only [e_rNewTerm] at h
    split at h
    . obtain ⟨r0, r1, r2, r3, r4, r5, r6, r7, r8, r9, r10, r11, r12, r13, r14, r15, r16, r17, r18, r19, r20, h1, h2⟩ := bnd21_some h
      exact ⟨_, h2, hs _ _ _ _ _ _ _ _ _ _ _ _ _ _ _ _ _ _ _ _ _ _ _ h1⟩
    . cases h
  . simp only [e_rNewTerm]
    split
    . rw [bnd21_b]; rfl
    . rfl
theorem p_rNewTerm (N : Nat) : Q_rNewTerm (s_rNewTerm N) := fun x0 x1 r0 r1 r2 r3 r4 r5 r6 r7 r8 r9 r10 r11 r12 r13 r14 r15 r16 r17 r18 r19 r20 h => pure_of (cx := cx_rNewTerm N) (by kernel_rfl) (cxO_ok ⟨eo_rright _ (p_rright N), trivial⟩ trivial) Try.func30 (by kernel_rfl) (by kernel_rfl) (loopsOK_of (k := 0) (by kernel_rfl) trivial) (by rfl) (by rfl) (by rfl) (rf := r_rNewTerm) ((s_rNewTerm_ok ..).trans h) (fun rs' m h => by
    unfold r_rNewTerm at h
    split at h
    . cases h; exact ⟨rfl, rfl⟩
    . cases h)
abbrev Ty35 := Int -> Int -> Int -> Int -> Int -> Bool -> Int -> Int -> Int -> Bool -> Int -> Bool -> List UInt8 -> List V -> List UInt8 -> Int -> Int -> Int -> Bool -> Int -> Bool -> List UInt8 -> Option (List UInt8)
noncomputable def e_rput {R : Type} (s : Ty35) (ds : List D) (K : List D -> Option R) : Option R :=
  match ds with
  | [.agg [.v (.int .i64 x0) .no, .v (.int .i64 x1) .no, .v (.int .i64 x2) .no, .v (.int .i64 x3) .no, .v (.int .i64 x4) .no, .v (.bool x5) .no, .v (.int .i64 x6) .no, .v (.int .i64 x7) .no, .v (.int .i64 x8) .no, .v (.bool x9) .no, .v (.int .i64 x10) .no, .v (.bool x11) .no, .v (.bytes x12) .no, .v (.sl 27 x13) .no, .v (.bytes x14) .no], .agg [.v (.int .i64 x15) .no, .v (.int .i64 x16) .no, .v (.int .i64 x17) .no, .v (.bool x18) .no, .v (.int .i64 x19) .no, .v (.bool x20) .no, .v (.bytes x21) .no]] => bnd1 (s x0 x1 x2 x3 x4 x5 x6 x7 x8 x9 x10 x11 x12 x13 x14 x15 x16 x17 x18 x19 x20 x21) fun r0 => K [dY r0]
  | _ => none
noncomputable def r_rput (rs : List D) (_ : Mem) : Option (List UInt8) :=
  match rs with
  | [.v (.bytes r0) _] => some (r0)
  | _ => none
noncomputable def s_rput (N : Nat) (x0 x1 x2 x3 x4 : Int) (x5 : Bool) (x6 x7 x8 : Int) (x9 : Bool) (x10 : Int) (x11 : Bool) (x12 : List UInt8) (x13 : List V) (x14 : List UInt8) (x15 x16 x17 : Int) (x18 : Bool) (x19 : Int) (x20 : Bool) (x21 : List UInt8) : Option (List UInt8) := bnd2 (s_rEncode6 N x15 x16 x17 x18 x19 x20 x21 x0) fun l0 n1 => some l0
noncomputable def cx_rput (N : Nat) : Cx := cxO [⟨25, e_rEncode6 (s_rEncode6 N)⟩] []
abbrev g4a (a0 a1 a2 a3 a4 : Int) (a5 : Bool) (a6 a7 a8 : Int) (a9 : Bool) (a10 : Int) (a11 : Bool) (a12 : List UInt8) (a13 : List V) (a14 : List UInt8) : D := .agg [dI a0, dI a1, dI a2, dI a3, dI a4, dB a5, dI a6, dI a7, dI a8, dB a9, dI a10, dB a11, dY a12, .v (.sl 27 a13) .no, dY a14]
theorem s_rput_ok (N : Nat) (x0 x1 x2 x3 x4 x5 x6 x7 x8 x9 x10 x11 x12 x13 x14 x15 x16 x17 x18 x19 x20 x21 : _) : bodyK (cx_rput N) Try.f55 [g4a x0 x1 x2 x3 x4 x5 x6 x7 x8 x9 x10 x11 x12 x13 x14, g0a x15 x16 x17 x18 x19 x20 x21] [] r_rput = s_rput N x0 x1 x2 x3 x4 x5 x6 x7 x8 x9 x10 x11 x12 x13 x14 x15 x16 x17 x18 x19 x20 x21 := by
  kernel_rfl
abbrev Q_rput (s : Ty35) : Prop := ∀ x0 x1 x2 x3 x4 x5 x6 x7 x8 x9 x10 x11 x12 x13 x14 x15 x16 x17 x18 x19 x20 x21 r0, s x0 x1 x2 x3 x4 x5 x6 x7 x8 x9 x10 x11 x12 x13 x14 x15 x16 x17 x18 x19 x20 x21 = some r0 -> PureRet Try.prog T 55 [g4a x0 x1 x2 x3 x4 x5 x6 x7 x8 x9 x10 x11 x12 x13 x14, g0a x15 x16 x17 x18 x19 x20 x21] [dY r0]
theorem eo_rput (s : Ty35) (hs : Q_rput s) : EntOK Try.prog T ⟨55, e_rput s⟩ := by
  refine ⟨goes_of Try.func55 (by kernel_rfl) (c := bodyOf Try.f55) (by kernel_rfl), fun R ds K r h => ?_, fun R ds K => ?_⟩
  . simp only [e_rput] at h
    split at h
    . obtain ⟨r0, h1, h2⟩ := bnd1_some h
      exact ⟨_, h2, hs _ _ _ _ _ _ _ _ _ _ _ _ _ _ _ _ _ _ _ _ _ _ _ h1⟩
    . cases h
  . simp only [e_rput]
    split
    . rw [bnd1_b]; rfl
    . rfl
theorem p_rput (N : Nat) : Q_rput (s_rput N) := fun x0 x1 x2 x3 x4 x5 x6 x7 x8 x9 x10 x11 x12 x13 x14 x15 x16 x17 x18 x19 x20 x21 r0 h => pure_of (cx := cx_rput N) (by kernel_rfl) (cxO_ok ⟨eo_rEncode6 _ (p_rEncode6 N), trivial⟩ trivial) Try.func55 (by kernel_rfl) (by kernel_rfl) (loopsOK_of (k := 0) (by kernel_rfl) trivial) (by rfl) (by rfl) (by rfl) (rf := r_rput) ((s_rput_ok ..).trans h) (fun rs' m h => by
    unfold r_rput at h
    split at h
    . cases h; exact ⟨rfl, rfl⟩
    . cases h)
abbrev Ty36 := Int -> Int -> Int -> Int -> Int -> Bool -> Int -> Int -> Int -> Bool -> Int -> Bool -> List UInt8 -> List V -> List UInt8 -> Int -> Option (List UInt8)
noncomputable def e_rready {R : Type} (s : Ty36) (ds : List D) (K : List D -> Option R) : Option R :=
  match ds with
  | [.agg [.v (.int .i64 x0) .no, .v (.int .i64 x1) .no, .v (.int .i64 x2) .no, .v (.int .i64 x3) .no, .v (.int .i64 x4) .no, .v (.bool x5) .no, .v (.int .i64 x6) .no, .v (.int .i64 x7) .no, .v (.int .i64 x8) .no, .v (.bool x9) .no, .v (.int .i64 x10) .no, .v (.bool x11) .no, .v (.bytes x12) .no, .v (.sl 27 x13) .no, .v (.bytes x14) .no], .v (.int .i64 x15) .no] => bnd1 (s x0 x1 x2 x3 x4 x5 x6 x7 x8 x9 x10 x11 x12 x13 x14 x15) fun r0 => K [dY r0]
  | _ => none
noncomputable def s_rready (N : Nat) (x0 x1 x2 x3 x4 : Int) (x5 : Bool) (x6 x7 x8 : Int) (x9 : Bool) (x10 : Int) (x11 : Bool) (x12 : List UInt8) (x13 : List V) (x14 : List UInt8) (x15 : Int) : Option (List UInt8) := bnd1 (s_rput N x0 x1 x2 x3 x4 x5 x6 x7 x8 x9 x10 x11 x12 x13 x14 0 1 x3 false x15 false []) fun l0 => some l0
noncomputable def cx_rready (N : Nat) : Cx := cxO [⟨55, e_rput (s_rput N)⟩] []
theorem s_rready_ok (N : Nat) (x0 x1 x2 x3 x4 x5 x6 x7 x8 x9 x10 x11 x12 x13 x14 x15 : _) : bodyK (cx_rready N) Try.f53 [g4a x0 x1 x2 x3 x4 x5 x6 x7 x8 x9 x10 x11 x12 x13 x14, dI x15] [] r_rput = s_rready N x0 x1 x2 x3 x4 x5 x6 x7 x8 x9 x10 x11 x12 x13 x14 x15 := by
  kernel_rfl
abbrev Q_rready (s : Ty36) : Prop := ∀ x0 x1 x2 x3 x4 x5 x6 x7 x8 x9 x10 x11 x12 x13 x14 x15 r0, s x0 x1 x2 x3 x4 x5 x6 x7 x8 x9 x10 x11 x12 x13 x14 x15 = some r0 -> PureRet Try.prog T 53 [g4a x0 x1 x2 x3 x4 x5 x6 x7 x8 x9 x10 x11 x12 x13 x14, dI x15] [dY r0]
theorem eo_rready (s : Ty36) (hs : Q_rready s) : EntOK Try.prog T ⟨53, e_rready s⟩ := by
  refine ⟨goes_of Try.func53 (by kernel_rfl) (c := bodyOf Try.f53) (by kernel_rfl), fun R ds K r h => ?_, fun R ds K => ?_⟩
  . simp only [e_rready] at h
    split at h
    . obtain ⟨r0, h1, h2⟩ := bnd1_some h
      exact ⟨_, h2, hs _ _ _ _ _ _ _ _ _ _ _ _ _ _ _ _ _ h1⟩
    . cases h
  . simp only [e_rready]
    split
    . rw [bnd1_b]; rfl
    . rfl
theorem p_rready (N : Nat) : Q_rready (s_rready N) := fun x0 x1 x2 x3 x4 x5 x6 x7 x8 x9 x10 x11 x12 x13 x14 x15 r0 h => pure_of (cx := cx_rready N) (by kernel_rfl) (cxO_ok ⟨eo_rput _ (p_rput N), trivial⟩ trivial) Try.func53 (by kernel_rfl) (by kernel_rfl) (loopsOK_of (k := 0) (by kernel_rfl) trivial) (by rfl) (by rfl) (by rfl) (rf := r_rput) ((s_rready_ok ..).trans h) (fun rs' m h => by
    unfold r_rput at h
    split at h
    . cases h; exact ⟨rfl, rfl⟩
    . cases h)
abbrev Ty37 := Int -> Int -> Int -> Int -> Int -> Bool -> Int -> Int -> Int -> Bool -> Int -> Bool -> List UInt8 -> List V -> List UInt8 -> Option (Int × Int × Int × Int × Int × Bool × Int × Int × Int × Bool × Int × Bool × List UInt8 × List V × List UInt8 × List UInt8)
noncomputable def e_rpiece {R : Type} (s : Ty37) (ds : List D) (K : List D -> Option R) : Option R :=
  match ds with
  | [.agg [.v (.int .i64 x0) .no, .v (.int .i64 x1) .no, .v (.int .i64 x2) .no, .v (.int .i64 x3) .no, .v (.int .i64 x4) .no, .v (.bool x5) .no, .v (.int .i64 x6) .no, .v (.int .i64 x7) .no, .v (.int .i64 x8) .no, .v (.bool x9) .no, .v (.int .i64 x10) .no, .v (.bool x11) .no, .v (.bytes x12) .no, .v (.sl 27 x13) .no, .v (.bytes x14) .no]] => bnd16 (s x0 x1 x2 x3 x4 x5 x6 x7 x8 x9 x10 x11 x12 x13 x14) fun r0 r1 r2 r3 r4 r5 r6 r7 r8 r9 r10 r11 r12 r13 r14 r15 => K [.agg [dI r0, dI r1, dI r2, dI r3, dI r4, dB r5, dI r6, dI r7, dI r8, dB r9, dI r10, dB r11, dY r12, .v (.sl 27 r13) .no, dY r14], dY r15]
  | _ => none
noncomputable def r_rpiece (rs : List D) (_ : Mem) : Option (Int × Int × Int × Int × Int × Bool × Int × Int × Int × Bool × Int × Bool × List UInt8 × List V × List UInt8 × List UInt8) :=
  match rs with
  | [.agg [.v (.int .i64 r0) _, .v (.int .i64 r1) _, .v (.int .i64 r2) _, .v (.int .i64 r3) _, .v (.int .i64 r4) _, .v (.bool r5) _, .v (.int .i64 r6) _, .v (.int .i64 r7) _, .v (.int .i64 r8) _, .v (.bool r9) _, .v (.int .i64 r10) _, .v (.bool r11) _, .v (.bytes r12) _, .v (.sl 27 r13) _, .v (.bytes r14) _], .v (.bytes r15) _] => some (r0, r1, r2, r3, r4, r5, r6, r7, r8, r9, r10, r11, r12, r13, r14, r15)
  | _ => none
noncomputable def s_rpiece (N : Nat) (x0 x1 x2 x3 x4 : Int) (x5 : Bool) (x6 x7 x8 : Int) (x9 : Bool) (x10 : Int) (x11 : Bool) (x12 : List UInt8) (x13 : List V) (x14 : List UInt8) : Option (Int × Int × Int × Int × Int × Bool × Int × Int × Int × Bool × Int × Bool × List UInt8 × List V × List UInt8 × List UInt8) := br (decide (0 < (x13.length : Int))) (at? x13 0 fun x0_1 => x0_1.unBytes fun l1 => br (decide (1 <= (x13.length : Int))) (bnd1 (s_rput N x0 x1 x2 x3 (IntKind.i64.wrap (1 - x4)) true 0 0 x4 (decide (1 < (x13.length : Int))) 0 false l1 (List.drop 1 x13) x14 0 0 x4 (decide (1 < (x13.length : Int))) 0 false l1) fun l2 => some (x0, x1, x2, x3, IntKind.i64.wrap (1 - x4), true, 0, 0, x4, decide (1 < (x13.length : Int)), 0, false, l1, List.drop 1 x13, x14, l2)) none) none
noncomputable def cx_rpiece (N : Nat) : Cx := cxO [⟨55, e_rput (s_rput N)⟩] []
theorem s_rpiece_ok (N : Nat) (x0 x1 x2 x3 x4 x5 x6 x7 x8 x9 x10 x11 x12 x13 x14 : _) : bodyK (cx_rpiece N) Try.f56 [g4a x0 x1 x2 x3 x4 x5 x6 x7 x8 x9 x10 x11 x12 x13 x14] [] r_rpiece = s_rpiece N x0 x1 x2 x3 x4 x5 x6 x7 x8 x9 x10 x11 x12 x13 x14 := by
  kernel_rfl
abbrev Q_rpiece (s : Ty37) : Prop := ∀ x0 x1 x2 x3 x4 x5 x6 x7 x8 x9 x10 x11 x12 x13 x14 r0 r1 r2 r3 r4 r5 r6 r7 r8 r9 r10 r11 r12 r13 r14 r15, s x0 x1 x2 x3 x4 x5 x6 x7 x8 x9 x10 x11 x12 x13 x14 = some (r0, r1, r2, r3, r4, r5, r6, r7, r8, r9, r10, r11, r12, r13, r14, r15) -> PureRet Try.prog T 56 [g4a x0 x1 x2 x3 x4 x5 x6 x7 x8 x9 x10 x11 x12 x13 x14] [g4a r0 r1 r2 r3 r4 r5 r6 r7 r8 r9 r10 r11 r12 r13 r14, dY r15]
theorem eo_rpiece (s : Ty37) (hs : Q_rpiece s) : EntOK Try.prog T ⟨56, e_rpiece s⟩ := by
  refine ⟨goes_of Try.func56 (by kernel_rfl) (c := bodyOf Try.f56) (by kernel_rfl), fun R ds K r h => ?_, fun R ds K => ?_⟩
  . simp only [e_rpiece] at h
    split at h
    . obtain ⟨r0, r1, r2, r3, r4, r5, r6, r7, r8, r9, r10, r11, r12, r13, r14, r15, h1, h2⟩ := bnd16_some h
      exact ⟨_, h2, hs _ _ _ _ _ _ _ _ _ _ _ _ _ _ _ _ _ _ _ _ _ _ _ _ _ _ _ _ _ _ _ h1⟩
    . cases h
  . simp only [e_rpiece]
    split
    . rw [bnd16_b]; rfl
    . rfl
theorem p_rpiece (N : Nat) : Q_rpiece (s_rpiece N) := fun x0 x1 x2 x3 x4 x5 x6 x7 x8 x9 x10 x11 x12 x13 x14 r0 r1 r2 r3 r4 r5 r6 r7 r8 r9 r10 r11 r12 r13 r14 r15 h => pure_of (cx := cx_rpiece N) (by kernel_rfl) (cxO_ok ⟨eo_rput _ (p_rput N), trivial⟩ trivial) Try.func56 (by kernel_rfl) (by kernel_rfl) (loopsOK_of (k := 0) (by kernel_rfl) trivial) (by rfl) (by rfl) (by rfl) (rf := r_rpiece) ((s_rpiece_ok ..).trans h) (fun rs' m h => by
    unfold r_rpiece at h
    split at h
    . cases h; exact ⟨rfl, rfl⟩
    . cases h)
end Go.Proofs.Ytilfphdeacogmaa.En
