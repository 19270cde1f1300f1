/- Several texts in one. -/
import Derived.Test.YtilfphdeacogmaaC4

set_option linter.unusedSimpArgs false
set_option linter.unusedVariables false
set_option linter.unusedSectionVars false
/- Functions of the program in plain Lean, joined to the program by evaluation; printed by a program. -/
namespace Go.Proofs.Ytilfphdeacogmaa.En
open Go Go.Proofs
set_option maxRecDepth 100000
set_option maxHeartbeats 8000000
set_option linter.unusedVariables false
noncomputable def e_clone {R : Type} (s : List UInt8 -> Option (List UInt8)) (ds : List D) (K : List D -> Option R) : Option R :=
  match ds with
  | [.v (.bytes x0) .no] => bnd1 (s x0) fun r0 => K [dY r0]
  | _ => none
abbrev Q_clone (s : List UInt8 -> Option (List UInt8)) : Prop := ∀ x0 r0, s x0 = some r0 -> PureRet Try.prog T 60 [dY x0] [dY r0]
theorem eo_clone (s : List UInt8 -> Option (List UInt8)) (hs : Q_clone s) : EntOK Try.prog T ⟨60, e_clone s⟩ := by
  refine ⟨goes_of Try.func60 (by kernel_rfl) (c := bodyOf Try.f60) (by kernel_rfl), fun R ds K r h => ?_, fun R ds K => ?_⟩
  . simp only [e_clone] at h
    split at h
    . obtain ⟨r0, h1, h2⟩ := bnd1_some h
      exact ⟨_, h2, hs _ _ h1⟩
    . cases h
  . simp only [e_clone]
    split
    . rw [bnd1_b]; rfl
    . rfl
abbrev Ty0 := Int -> Int -> Int -> Bool -> Int -> Bool -> List UInt8 -> Int -> Option (List UInt8 × Int)
noncomputable def e_bEncode {R : Type} (s : Ty0) (ds : List D) (K : List D -> Option R) : Option R :=
  match ds with
  | [.agg [.v (.int .i64 x0) .no, .v (.int .i64 x1) .no, .v (.int .i64 x2) .no, .v (.bool x3) .no, .v (.int .i64 x4) .no, .v (.bool x5) .no, .v (.bytes x6) .no], .v (.int .i64 x7) .no] => bnd2 (s x0 x1 x2 x3 x4 x5 x6 x7) fun r0 r1 => K [dY r0, dI r1]
  | _ => none
abbrev Q_bEncode (s : Ty0) : Prop := ∀ x0 x1 x2 x3 x4 x5 x6 x7 r0 r1, s x0 x1 x2 x3 x4 x5 x6 x7 = some (r0, r1) -> PureRet Try.prog T 95 [g0a x0 x1 x2 x3 x4 x5 x6, dI x7] [dY r0, dI r1]
theorem eo_bEncode (s : Ty0) (hs : Q_bEncode s) : EntOK Try.prog T ⟨95, e_bEncode s⟩ := by
  refine ⟨goes_of Try.func95 (by kernel_rfl) (c := bodyOf Try.f95) (by kernel_rfl), fun R ds K r h => ?_, fun R ds K => ?_⟩
  . simp only [e_bEncode] at h
    split at h
    . obtain ⟨r0, r1, h1, h2⟩ := bnd2_some h
      exact ⟨_, h2, hs _ _ _ _ _ _ _ _ _ _ h1⟩
    . cases h
  . simp only [e_bEncode]
    split
    . rw [bnd2_b]; rfl
    . rfl
abbrev Ty1 := List UInt8 -> Int -> Option (Int × Int × Int × Bool × Int × Bool × List UInt8 × Int)
noncomputable def e_bDecode {R : Type} (s : Ty1) (ds : List D) (K : List D -> Option R) : Option R :=
  match ds with
  | [.v (.bytes x0) .no, .v (.int .i64 x1) .no] => bnd8 (s x0 x1) fun r0 r1 r2 r3 r4 r5 r6 r7 => K [.agg [dI r0, dI r1, dI r2, dB r3, dI r4, dB r5, dY r6], dI r7]
  | _ => none
abbrev Q_bDecode (s : Ty1) : Prop := ∀ x0 x1 r0 r1 r2 r3 r4 r5 r6 r7, s x0 x1 = some (r0, r1, r2, r3, r4, r5, r6, r7) -> PureRet Try.prog T 79 [dY x0, dI x1] [g0a r0 r1 r2 r3 r4 r5 r6, dI r7]
theorem eo_bDecode (s : Ty1) (hs : Q_bDecode s) : EntOK Try.prog T ⟨79, e_bDecode s⟩ := by
  refine ⟨goes_of Try.func79 (by kernel_rfl) (c := bodyOf Try.f79) (by kernel_rfl), fun R ds K r h => ?_, fun R ds K => ?_⟩
  . simp only [e_bDecode] at h
    split at h
    . obtain ⟨r0, r1, r2, r3, r4, r5, r6, r7, h1, h2⟩ := bnd8_some h
      exact ⟨_, h2, hs _ _ _ _ _ _ _ _ _ _ h1⟩
    . cases h
  . simp only [e_bDecode]
    split
    . rw [bnd8_b]; rfl
    . rfl
abbrev Ty2 := Int -> Int -> Int -> Bool -> Int -> Bool -> List UInt8 -> Int -> Int -> Int -> Bool -> Int -> Bool -> List UInt8 -> Option (Bool)
noncomputable def e_bSame {R : Type} (s : Ty2) (ds : List D) (K : List D -> Option R) : Option R :=
  match ds with
  | [.agg [.v (.int .i64 x0) .no, .v (.int .i64 x1) .no, .v (.int .i64 x2) .no, .v (.bool x3) .no, .v (.int .i64 x4) .no, .v (.bool x5) .no, .v (.bytes x6) .no], .agg [.v (.int .i64 x7) .no, .v (.int .i64 x8) .no, .v (.int .i64 x9) .no, .v (.bool x10) .no, .v (.int .i64 x11) .no, .v (.bool x12) .no, .v (.bytes x13) .no]] => bnd1 (s x0 x1 x2 x3 x4 x5 x6 x7 x8 x9 x10 x11 x12 x13) fun r0 => K [dB r0]
  | _ => none
abbrev Q_bSame (s : Ty2) : Prop := ∀ x0 x1 x2 x3 x4 x5 x6 x7 x8 x9 x10 x11 x12 x13 r0, s x0 x1 x2 x3 x4 x5 x6 x7 x8 x9 x10 x11 x12 x13 = some r0 -> PureRet Try.prog T 45 [g0a x0 x1 x2 x3 x4 x5 x6, g0a x7 x8 x9 x10 x11 x12 x13] [dB r0]
theorem eo_bSame (s : Ty2) (hs : Q_bSame s) : EntOK Try.prog T ⟨45, e_bSame s⟩ := by
  refine ⟨goes_of Try.func45 (by kernel_rfl) (c := bodyOf Try.f45) (by kernel_rfl), fun R ds K r h => ?_, fun R ds K => ?_⟩
  . simp only [e_bSame] at h
    split at h
    . obtain ⟨r0, h1, h2⟩ := bnd1_some h
      exact ⟨_, h2, hs _ _ _ _ _ _ _ _ _ _ _ _ _ _ _ h1⟩
    . cases h
  . simp only [e_bSame]
    split
    . rw [bnd1_b]; rfl
    . rfl
noncomputable def e_rEncode6 {R : Type} (s : Ty0) (ds : List D) (K : List D -> Option R) : Option R :=
  match ds with
  | [.agg [.v (.int .i64 x0) .no, .v (.int .i64 x1) .no, .v (.int .i64 x2) .no, .v (.bool x3) .no, .v (.int .i64 x4) .no, .v (.bool x5) .no, .v (.bytes x6) .no], .v (.int .i64 x7) .no] => bnd2 (s x0 x1 x2 x3 x4 x5 x6 x7) fun r0 r1 => K [dY r0, dI r1]
  | _ => none
abbrev Q_rEncode6 (s : Ty0) : Prop := ∀ x0 x1 x2 x3 x4 x5 x6 x7 r0 r1, s x0 x1 x2 x3 x4 x5 x6 x7 = some (r0, r1) -> PureRet Try.prog T 25 [g0a x0 x1 x2 x3 x4 x5 x6, dI x7] [dY r0, dI r1]
theorem eo_rEncode6 (s : Ty0) (hs : Q_rEncode6 s) : EntOK Try.prog T ⟨25, e_rEncode6 s⟩ := by
  refine ⟨goes_of Try.func25 (by kernel_rfl) (c := bodyOf Try.f25) (by kernel_rfl), fun R ds K r h => ?_, fun R ds K => ?_⟩
  . simp only [e_rEncode6] at h
    split at h
    . obtain ⟨r0, r1, h1, h2⟩ := bnd2_some h
      exact ⟨_, h2, hs _ _ _ _ _ _ _ _ _ _ h1⟩
    . cases h
  . simp only [e_rEncode6]
    split
    . rw [bnd2_b]; rfl
    . rfl
noncomputable def e_rDecode6 {R : Type} (s : Ty1) (ds : List D) (K : List D -> Option R) : Option R :=
  match ds with
  | [.v (.bytes x0) .no, .v (.int .i64 x1) .no] => bnd8 (s x0 x1) fun r0 r1 r2 r3 r4 r5 r6 r7 => K [.agg [dI r0, dI r1, dI r2, dB r3, dI r4, dB r5, dY r6], dI r7]
  | _ => none
abbrev Q_rDecode6 (s : Ty1) : Prop := ∀ x0 x1 r0 r1 r2 r3 r4 r5 r6 r7, s x0 x1 = some (r0, r1, r2, r3, r4, r5, r6, r7) -> PureRet Try.prog T 61 [dY x0, dI x1] [g0a r0 r1 r2 r3 r4 r5 r6, dI r7]
theorem eo_rDecode6 (s : Ty1) (hs : Q_rDecode6 s) : EntOK Try.prog T ⟨61, e_rDecode6 s⟩ := by
  refine ⟨goes_of Try.func61 (by kernel_rfl) (c := bodyOf Try.f61) (by kernel_rfl), fun R ds K r h => ?_, fun R ds K => ?_⟩
  . simp only [e_rDecode6] at h
    split at h
    . obtain ⟨r0, r1, r2, r3, r4, r5, r6, r7, h1, h2⟩ := bnd8_some h
      exact ⟨_, h2, hs _ _ _ _ _ _ _ _ _ _ h1⟩
    . cases h
  . simp only [e_rDecode6]
    split
    . rw [bnd8_b]; rfl
    . rfl
noncomputable def e_cSize {R : Type} (s : Int -> Option (Int)) (ds : List D) (K : List D -> Option R) : Option R :=
  match ds with
  | [.v (.int .i64 x0) .no] => bnd1 (s x0) fun r0 => K [dI r0]
  | _ => none
noncomputable def r_cSize (rs : List D) (_ : Mem) : Option (Int) :=
  match rs with
  | [.v (.int .i64 r0) _] => some (r0)
  | _ => none
noncomputable def s_cSize (N : Nat) (x0 : Int) : Option (Int) := br (decide (x0 = 0)) (some 1) (br (decide (x0 = 1)) (some 2) (some 0))
noncomputable def cx_cSize (N : Nat) : Cx := cxO [] []
theorem s_cSize_ok (N : Nat) (x0 : _) : bodyK (cx_cSize N) Try.f78 [dI x0] [] r_cSize = s_cSize N x0 := by
  kernel_rfl
abbrev Q_cSize (s : Int -> Option (Int)) : Prop := ∀ x0 r0, s x0 = some r0 -> PureRet Try.prog T 78 [dI x0] [dI r0]
theorem eo_cSize (s : Int -> Option (Int)) (hs : Q_cSize s) : EntOK Try.prog T ⟨78, e_cSize s⟩ := by
  refine ⟨goes_of Try.func78 (by kernel_rfl) (c := bodyOf Try.f78) (by kernel_rfl), fun R ds K r h => ?_, fun R ds K => ?_⟩
  . simp only [e_cSize] at h
    split at h
    . obtain ⟨r0, h1, h2⟩ := bnd1_some h
      exact ⟨_, h2, hs _ _ h1⟩
    . cases h
  . simp only [e_cSize]
    split
    . rw [bnd1_b]; rfl
    . rfl
theorem p_cSize (N : Nat) : Q_cSize (s_cSize N) := fun x0 r0 h => pure_of (cx := cx_cSize N) (by kernel_rfl) (cxO_ok trivial trivial) Try.func78 (by kernel_rfl) (by kernel_rfl) (loopsOK_of (k := 0) (by kernel_rfl) trivial) (by rfl) (by rfl) (by rfl) (rf := r_cSize) ((s_cSize_ok ..).trans h) (fun rs' m h => by
    unfold r_cSize at h
    split at h
    . cases h; exact ⟨rfl, rfl⟩
    . cases h)
noncomputable def e_oSplit {R : Type} (s : List UInt8 -> Int -> Option (List V × Int)) (ds : List D) (K : List D -> Option R) : Option R :=
  match ds with
  | [.v (.bytes x0) .no, .v (.int .i64 x1) .no] => bnd2 (s x0 x1) fun r0 r1 => K [.v (.sl 27 r0) .no, dI r1]
  | _ => none
noncomputable def r_oSplit (rs : List D) (_ : Mem) : Option (List V × Int) :=
  match rs with
  | [.v (.sl 27 r0) _, .v (.int .i64 r1) _] => some (r0, r1)
  | _ => none
noncomputable def F_oSplit_5 {R : Type} (N : Nat) (n0 : Int) (Lq : List V -> List UInt8 -> Option R) (K0 : List V -> Option R) (vs1 : List V) (l2 : List UInt8) : Option R := br (decide (0 < (l2.length : Int))) (br (decide (0 <= match false with | true => max n0 (l2.length : Int) | false => min n0 (l2.length : Int)) && decide ((match false with | true => max n0 (l2.length : Int) | false => min n0 (l2.length : Int)) <= (l2.length : Int))) (bnd1 (s_clone N (List.take (match false with | true => max n0 (l2.length : Int) | false => min n0 (l2.length : Int)).toNat l2)) fun l0 => br (decide ((vs1.length + [V.bytes l0].length) * 24 <= 140737488355328)) (br (decide (0 <= match false with | true => max n0 (l2.length : Int) | false => min n0 (l2.length : Int)) && decide ((match false with | true => max n0 (l2.length : Int) | false => min n0 (l2.length : Int)) <= (l2.length : Int))) (Lq (vs1 ++ [V.bytes l0]) (List.drop (match false with | true => max n0 (l2.length : Int) | false => min n0 (l2.length : Int)).toNat l2)) none) none) none) (K0 vs1)
noncomputable def S_oSplit_5 {R : Type} (N : Nat) (n0 : Int) : Nat -> List V -> List UInt8 -> (List V -> Option R) -> Option R | 0, _, _, _ => none | t + 1, vs1, l2, K0 => F_oSplit_5 N n0 (fun vs1 l2 => S_oSplit_5 N n0 t vs1 l2 K0) K0 vs1 l2
noncomputable def l_oSplit_5 {R : Type} (N : Nat) (ds : List D) (m : Mem) (K : Ex -> List D -> Mem -> Option R) : Option R :=
  match ds, m with
  | [(.v (.int .i64 n0) .no), (.v (.sl 27 vs1) (.own (.slot 6) 27)), (.v (.bytes l2) .no)], [[]] => S_oSplit_5 N n0 N vs1 l2 (fun a0 => K (.exit 0) [(.v (.sl 27 a0) (.own (.slot 6) 27))] [[]])
  | _, _ => none
noncomputable def s_oSplit (N : Nat) (x0 : List UInt8) (x1 : Int) : Option (List V × Int) := br (decide (x1 < 1)) (some ([], 1)) (S_oSplit_5 N x1 N [] x0 fun l0 => some (l0, 0))
noncomputable def cx_oSplit (N : Nat) : Cx := { T := T, isPure := tabP [⟨60, e_clone (s_clone N)⟩], pureK := fun g ds K => tabK [⟨60, e_clone (s_clone N)⟩] g ds K, memK := fun g dst ds m K => tabMK [] g dst ds m K, meth := tabM [], keep := fun r => match r with | 5 => [1, 6, 7] | _ => [], keepX := fun r => match r with | 5 => [6] | _ => [], loopT := fun r ds m K => match r with | 5 => l_oSplit_5 N ds m K | _ => none, jumps := 9 }
theorem F_oSplit_5_ok {R : Type} (N : Nat) (n0 : Int) (vs1 : List V) (l2 : List UInt8) (L : List D -> Mem -> Option R) (K : Ex -> List D -> Mem -> Option R) :
    roundK (fun st K => codeK (cx_oSplit N) (loopN Try.f85 0) st K) 30 [1, 6, 7] [6] L [(dI n0), (.v (.sl 27 vs1) (.own (.slot 6) 27)), (dY l2)] [[]] K = F_oSplit_5 N n0 (fun vs1 l2 => L [(dI n0), (.v (.sl 27 vs1) (.own (.slot 6) 27)), (dY l2)] [[]]) (fun a0 => K (.exit 0) [(.v (.sl 27 a0) (.own (.slot 6) 27))] [[]]) vs1 l2 := by
  kernel_rfl
theorem S_oSplit_5_ok {R : Type} (N : Nat) (n0 : Int) (K : Ex -> List D -> Mem -> Option R) : ∀ (t : Nat) (vs1 : List V) (l2 : List UInt8),
    loopK (fun st K => codeK (cx_oSplit N) (loopN Try.f85 0) st K) 30 [1, 6, 7] [6] t [(dI n0), (.v (.sl 27 vs1) (.own (.slot 6) 27)), (dY l2)] [[]] K = S_oSplit_5 N n0 t vs1 l2 (fun a0 => K (.exit 0) [(.v (.sl 27 a0) (.own (.slot 6) 27))] [[]])
  | 0, vs1, l2 => rfl
  | t + 1, vs1, l2 => (F_oSplit_5_ok N n0 vs1 l2 _ K).trans (congrArg (fun L => F_oSplit_5 N n0 L (fun a0 => K (.exit 0) [(.v (.sl 27 a0) (.own (.slot 6) 27))] [[]]) vs1 l2) (funext fun vs1 => funext fun l2 => S_oSplit_5_ok N n0 K t vs1 l2))
theorem s_oSplit_ok (N : Nat) (x0 x1 : _) : bodyK (cx_oSplit N) Try.f85 [dY x0, dI x1] [] r_oSplit = s_oSplit N x0 x1 := by
  kernel_rfl
abbrev Q_oSplit (s : List UInt8 -> Int -> Option (List V × Int)) : Prop := ∀ x0 x1 r0 r1, s x0 x1 = some (r0, r1) -> PureRet Try.prog T 85 [dY x0, dI x1] [.v (.sl 27 r0) .no, dI r1]
theorem eo_oSplit (s : List UInt8 -> Int -> Option (List V × Int)) (hs : Q_oSplit s) : EntOK Try.prog T ⟨85, e_oSplit s⟩ := by
  refine ⟨goes_of Try.func85 (by kernel_rfl) (c := bodyOf Try.f85) (by kernel_rfl), fun R ds K r h => ?_, fun R ds K => ?_⟩
  . simp only [e_oSplit] at h
    split at h
    . obtain ⟨r0, r1, h1, h2⟩ := bnd2_some h
      exact ⟨_, h2, hs _ _ _ _ h1⟩
    . cases h
  . simp only [e_oSplit]
    split
    . rw [bnd2_b]; rfl
    . rfl
theorem co_oSplit (N : Nat) : CxOK Try.prog (cx_oSplit N) :=
  cxOK_of2 (es := [⟨60, e_clone (s_clone N)⟩]) (me := []) (ms := []) T_ok ⟨eo_clone _ (p_clone N), trivial⟩ trivial trivial rfl (fun _ _ _ _ => rfl) (fun _ _ _ _ _ _ => rfl) rfl
theorem lk_oSplit_5 (N : Nat) : LoopOK (cx_oSplit N) 30 (loopN Try.f85 0) := by
  refine loopOK_of (rid := 5) (by kernel_rfl) rfl rfl fun R ds m K r h => ?_
  have h : l_oSplit_5 N ds m K = some r := h
  unfold l_oSplit_5 at h
  split at h
  . exact ⟨N, Eq.trans (S_oSplit_5_ok ..) h⟩
  . cases h
theorem lo_oSplit (N : Nat) : LoopsOK (cx_oSplit N) Try.f85.ntmps (bodyOf Try.f85) :=
  loopsOK_of (k := 1) (by kernel_rfl) ⟨trivial, lk_oSplit_5 N⟩
theorem p_oSplit (N : Nat) : Q_oSplit (s_oSplit N) := fun x0 x1 r0 r1 h => pure_of (cx := cx_oSplit N) (by kernel_rfl) (co_oSplit N) Try.func85 (by kernel_rfl) (by kernel_rfl) (lo_oSplit N) (by rfl) (by rfl) (by rfl) (rf := r_oSplit) ((s_oSplit_ok ..).trans h) (fun rs' m h => by
    unfold r_oSplit at h
    split at h
    . cases h; exact ⟨rfl, rfl⟩
    . cases h)
noncomputable def e_valid {R : Type} (s : Int -> Int -> Option (Bool)) (ds : List D) (K : List D -> Option R) : Option R :=
  match ds with
  | [.v (.int .i64 x0) .no, .v (.int .i64 x1) .no] => bnd1 (s x0 x1) fun r0 => K [dB r0]
  | _ => none
noncomputable def r_valid (rs : List D) (_ : Mem) : Option (Bool) :=
  match rs with
  | [.v (.bool r0) _] => some (r0)
  | _ => none
noncomputable def s_valid (N : Nat) (x0 x1 : Int) : Option (Bool) := br (decide (1 <= x0)) (br (decide (x0 <= 254)) (bnd1 (s_cSize N x1) fun n0 => some (decide (0 < n0))) (some false)) (some false)
noncomputable def cx_valid (N : Nat) : Cx := cxO [⟨78, e_cSize (s_cSize N)⟩] []
theorem s_valid_ok (N : Nat) (x0 x1 : _) : bodyK (cx_valid N) Try.f41 [dI x0, dI x1] [] r_valid = s_valid N x0 x1 := by
  kernel_rfl
abbrev Q_valid (s : Int -> Int -> Option (Bool)) : Prop := ∀ x0 x1 r0, s x0 x1 = some r0 -> PureRet Try.prog T 41 [dI x0, dI x1] [dB r0]
theorem eo_valid (s : Int -> Int -> Option (Bool)) (hs : Q_valid s) : EntOK Try.prog T ⟨41, e_valid s⟩ := by
  refine ⟨goes_of Try.func41 (by kernel_rfl) (c := bodyOf Try.f41) (by kernel_rfl), fun R ds K r h => ?_, fun R ds K => ?_⟩
  . simp only [e_valid] at h
    split at h
    . obtain ⟨r0, h1, h2⟩ := bnd1_some h
      exact ⟨_, h2, hs _ _ _ h1⟩
    . cases h
  . simp only [e_valid]
    split
    . rw [bnd1_b]; rfl
    . rfl
theorem p_valid (N : Nat) : Q_valid (s_valid N) := fun x0 x1 r0 h => pure_of (cx := cx_valid N) (by kernel_rfl) (cxO_ok ⟨eo_cSize _ (p_cSize N), trivial⟩ trivial) Try.func41 (by kernel_rfl) (by kernel_rfl) (loopsOK_of (k := 0) (by kernel_rfl) trivial) (by rfl) (by rfl) (by rfl) (rf := r_valid) ((s_valid_ok ..).trans h) (fun rs' m h => by
    unfold r_valid at h
    split at h
    . cases h; exact ⟨rfl, rfl⟩
    . cases h)
abbrev Ty3 := Int -> Int -> Int -> Bool -> Int -> Bool -> List UInt8 -> Option (Int)
noncomputable def e_tsize {R : Type} (s : Ty3) (ds : List D) (K : List D -> Option R) : Option R :=
  match ds with
  | [.agg [.v (.int .i64 x0) .no, .v (.int .i64 x1) .no, .v (.int .i64 x2) .no, .v (.bool x3) .no, .v (.int .i64 x4) .no, .v (.bool x5) .no, .v (.bytes x6) .no]] => bnd1 (s x0 x1 x2 x3 x4 x5 x6) fun r0 => K [dI r0]
  | _ => none
noncomputable def s_tsize (N : Nat) (x0 x1 x2 : Int) (x3 : Bool) (x4 : Int) (x5 : Bool) (x6 : List UInt8) : Option (Int) := br (!decide ((x6.length : Int) = 1)) (some 0) (br (decide (0 < (x6.length : Int))) (at? x6 0 fun u0 => br (decide (254 < IntKind.i64.wrap (u0.toNat : Int))) (some 0) (br (decide (0 < (x6.length : Int))) (at? x6 0 fun u1 => some (IntKind.i64.wrap (u1.toNat : Int))) none)) none)
noncomputable def cx_tsize (N : Nat) : Cx := cxO [] []
theorem s_tsize_ok (N : Nat) (x0 x1 x2 x3 x4 x5 x6 : _) : bodyK (cx_tsize N) Try.f83 [g0a x0 x1 x2 x3 x4 x5 x6] [] r_cSize = s_tsize N x0 x1 x2 x3 x4 x5 x6 := by
  kernel_rfl
abbrev Q_tsize (s : Ty3) : Prop := ∀ x0 x1 x2 x3 x4 x5 x6 r0, s x0 x1 x2 x3 x4 x5 x6 = some r0 -> PureRet Try.prog T 83 [g0a x0 x1 x2 x3 x4 x5 x6] [dI r0]
theorem eo_tsize (s : Ty3) (hs : Q_tsize s) : EntOK Try.prog T ⟨83, e_tsize s⟩ := by
  refine ⟨goes_of Try.func83 (by kernel_rfl) (c := bodyOf Try.f83) (by kernel_rfl), fun R ds K r h => ?_, fun R ds K => ?_⟩
  . simp only [e_tsize] at h
    split at h
    . obtain ⟨r0, h1, h2⟩ := bnd1_some h
      exact ⟨_, h2, hs _ _ _ _ _ _ _ _ h1⟩
    . cases h
  . simp only [e_tsize]
    split
    . rw [bnd1_b]; rfl
    . rfl
theorem p_tsize (N : Nat) : Q_tsize (s_tsize N) := fun x0 x1 x2 x3 x4 x5 x6 r0 h => pure_of (cx := cx_tsize N) (by kernel_rfl) (cxO_ok trivial trivial) Try.func83 (by kernel_rfl) (by kernel_rfl) (loopsOK_of (k := 0) (by kernel_rfl) trivial) (by rfl) (by rfl) (by rfl) (rf := r_cSize) ((s_tsize_ok ..).trans h) (fun rs' m h => by
    unfold r_cSize at h
    split at h
    . cases h; exact ⟨rfl, rfl⟩
    . cases h)
abbrev Ty4 := Int -> Int -> Int -> Int -> Int -> List UInt8 -> Int -> List V -> List UInt8 -> Int -> List UInt8 -> Option (Bool)
noncomputable def e_cMade {R : Type} (s : Ty4) (dst : Nat) (ds : List D) (m : Mem) (K : List D -> Mem -> Option R) : Option R :=
  match ds with
  | [.ptr (kv0 + 1) sv0 0] => viewK [(kv0, sv0)] m fun Bs => (match Bs with
    | [⟨77, [.v (.int .i64 y0) .no, .v (.int .i64 y1) .no, .v (.int .i64 y2) .no, .v (.int .i64 y3) .no, .v (.int .i64 y4) .no, .v (.bytes y5) _, .v (.int .i64 y6) .no, .v (.sl 27 y7) _, .v (.bytes y8) (.own (.slot 0) 5), .v (.int .i64 y9) .no, .v (.bytes y10) _]⟩] => bnd1 (s y0 y1 y2 y3 y4 y5 y6 y7 y8 y9 y10) fun r0 => putAllK [(kv0, sv0)] [⟨77, [.v (.int .i64 y0) .no, .v (.int .i64 y1) .no, .v (.int .i64 y2) .no, .v (.int .i64 y3) .no, .v (.int .i64 y4) .no, .v (.bytes y5) .no, .v (.int .i64 y6) .no, .v (.sl 27 y7) .no, .v (.bytes y8) (.own (.slot 0) 5), .v (.int .i64 y9) .no, .v (.bytes y10) .no]⟩] m fun m' => K [.v (.bool r0) .no] m'
    | _ => none)
  | _ => none
noncomputable def r_cMade {α : Type} (K : Bool -> Int -> Int -> Int -> Int -> Int -> List UInt8 -> Int -> List V -> List UInt8 -> Int -> List UInt8 -> Option α) (rs : List D) (m : Mem) : Option α :=
  match rs, m with
  | [.v (.bool r0) _], [_, [(0, ⟨77, [.v (.int .i64 z0) .no, .v (.int .i64 z1) .no, .v (.int .i64 z2) .no, .v (.int .i64 z3) .no, .v (.int .i64 z4) .no, .v (.bytes z5) _, .v (.int .i64 z6) .no, .v (.sl 27 z7) _, .v (.bytes z8) (.own (.slot 0) 5), .v (.int .i64 z9) .no, .v (.bytes z10) _]⟩)]] => K r0 z0 z1 z2 z3 z4 z5 z6 z7 z8 z9 z10
  | _, _ => none
noncomputable def C_cMade {R : Type} (N : Nat) (y0 y1 y2 y3 y4 : Int) (y5 : List UInt8) (y6 : Int) (y7 : List V) (y8 : List UInt8) (y9 : Int) (y10 : List UInt8) (K0 : Bool -> Option R) : Option R := K0 (decide (0 < y1))
noncomputable def s_cMade (N : Nat) (y0 y1 y2 y3 y4 : Int) (y5 : List UInt8) (y6 : Int) (y7 : List V) (y8 : List UInt8) (y9 : Int) (y10 : List UInt8) : Option (Bool) := C_cMade N y0 y1 y2 y3 y4 y5 y6 y7 y8 y9 y10 (fun r0 => some r0)
noncomputable def cx_cMade (N : Nat) : Cx := cxO [] []
abbrev g1a (a0 a1 a2 a3 a4 : Int) (a5 : List UInt8) (a6 : Int) (a7 : List V) (a8 : List UInt8) (a9 : Int) (a10 : List UInt8) : Bx := ⟨77, [dI a0, dI a1, dI a2, dI a3, dI a4, dY a5, dI a6, .v (.sl 27 a7) .no, .v (.bytes a8) (.own (.slot 0) 5), dI a9, dY a10]⟩
theorem C_cMade_ok {R : Type} (N : Nat) (y0 y1 y2 y3 y4 y5 y6 y7 y8 y9 y10 K : _) : bodyK (R := R) (cx_cMade N) Try.f43 [.ptr 1 0 0] [frOf 0 [g1a y0 y1 y2 y3 y4 y5 y6 y7 y8 y9 y10]] (r_cMade K) = C_cMade N y0 y1 y2 y3 y4 y5 y6 y7 y8 y9 y10 (fun r0 => K r0 y0 y1 y2 y3 y4 y5 y6 y7 y8 y9 y10) := by
  kernel_rfl
abbrev Q_cMade (s : Ty4) : Prop := ∀ y0 y1 y2 y3 y4 y5 y6 y7 y8 y9 y10 r0, s y0 y1 y2 y3 y4 y5 y6 y7 y8 y9 y10 = some r0 -> ViewRet Try.prog T 43 [.ptr 1 0 0] [g1a y0 y1 y2 y3 y4 y5 y6 y7 y8 y9 y10] [dB r0] [g1a y0 y1 y2 y3 y4 y5 y6 y7 y8 y9 y10]
theorem eo_cMade (s : Ty4) (hs : Q_cMade s) : MEntOK Try.prog T ⟨43, e_cMade s⟩ := by
  refine ⟨goes_of Try.func43 (by kernel_rfl) (c := bodyOf Try.f43) (by kernel_rfl), fun R dst ds m K r h => ?_⟩
  simp only [e_cMade] at h
  split at h
  . obtain ⟨Bs, a1, a2, a3, h⟩ := viewK_some h
    split at h
    . obtain ⟨r0, h1, h2⟩ := bnd1_some h
      rw [putAllK_eq] at h2
      exact ⟨_, _, h2, ViewRet.weakIn (hs _ _ _ _ _ _ _ _ _ _ _ _ h1) (by exact ⟨⟨rfl, .inl rfl, .inl rfl, .inl rfl, .inl rfl, .inl rfl, .inr ⟨_, _, rfl, rfl⟩, .inl rfl, .inr ⟨_, _, rfl, rfl⟩, .inl rfl, .inl rfl, .inr ⟨_, _, rfl, rfl⟩, trivial⟩, trivial⟩) rfl _ _ m dst a1 a2 a3 ⟨aren_ptr _ rfl, trivial⟩⟩
    . cases h
  . cases h
open Classical in
theorem p_cMade (N : Nat) : Q_cMade (s_cMade N) := fun y0 y1 y2 y3 y4 y5 y6 y7 y8 y9 y10 r0 h => by
  refine view_ofW (cx := cx_cMade N) (by kernel_rfl) (cxO_ok trivial trivial) Try.func43 (by kernel_rfl) (by kernel_rfl) (loopsOK_of (k := 0) (by kernel_rfl) trivial) (by rfl) (by rfl) (by rfl) (rf := r_cMade (fun r0' z'0 z'1 z'2 z'3 z'4 z'5 z'6 z'7 z'8 z'9 z'10 => if z'0 = y0 /\ z'1 = y1 /\ z'2 = y2 /\ z'3 = y3 /\ z'4 = y4 /\ z'5 = y5 /\ z'6 = y6 /\ z'7 = y7 /\ z'8 = y8 /\ z'9 = y9 /\ z'10 = y10 then some r0' else none)) (r := r0) ?_ ?_
  . exact (C_cMade_ok ..).trans ((congrArg (fun K => C_cMade N y0 y1 y2 y3 y4 y5 y6 y7 y8 y9 y10 K) (funext fun r0' => if_pos ⟨rfl, rfl, rfl, rfl, rfl, rfl, rfl, rfl, rfl, rfl, rfl⟩)).trans h)
  . intro rs' m' hx
    unfold r_cMade at hx
    split at hx
    . dsimp only at hx
      split at hx
      . rename_i hk
        obtain ⟨rfl, rfl, rfl, rfl, rfl, rfl, rfl, rfl, rfl, rfl, rfl⟩ := hk
        cases hx; exact ⟨rfl, rfl, _, [⟨77, [_, _, _, _, _, _, _, _, _, _, _]⟩], rfl, rfl, ⟨⟨rfl, .inl rfl, .inl rfl, .inl rfl, .inl rfl, .inl rfl, .inr ⟨_, _, rfl, rfl⟩, .inl rfl, .inr ⟨_, _, rfl, rfl⟩, .inl rfl, .inl rfl, .inr ⟨_, _, rfl, rfl⟩, trivial⟩, trivial⟩⟩
      . cases hx
    . cases hx
abbrev Ty5 := Int -> Int -> Int -> Bool -> Int -> Bool -> List UInt8 -> Int -> Int -> Int -> Int -> Int -> List UInt8 -> Int -> List V -> List UInt8 -> Int -> List UInt8 -> Option (List UInt8)
noncomputable def e_cEnc {R : Type} (s : Ty5) (dst : Nat) (ds : List D) (m : Mem) (K : List D -> Mem -> Option R) : Option R :=
  match ds with
  | [.ptr (kv0 + 1) sv0 0, .agg [.v (.int .i64 x0) .no, .v (.int .i64 x1) .no, .v (.int .i64 x2) .no, .v (.bool x3) .no, .v (.int .i64 x4) .no, .v (.bool x5) .no, .v (.bytes x6) .no]] => viewK [(kv0, sv0)] m fun Bs => (match Bs with
    | [⟨77, [.v (.int .i64 y0) .no, .v (.int .i64 y1) .no, .v (.int .i64 y2) .no, .v (.int .i64 y3) .no, .v (.int .i64 y4) .no, .v (.bytes y5) _, .v (.int .i64 y6) .no, .v (.sl 27 y7) _, .v (.bytes y8) (.own (.slot 0) 5), .v (.int .i64 y9) .no, .v (.bytes y10) _]⟩] => bnd1 (s x0 x1 x2 x3 x4 x5 x6 y0 y1 y2 y3 y4 y5 y6 y7 y8 y9 y10) fun r0 => putAllK [(kv0, sv0)] [⟨77, [.v (.int .i64 y0) .no, .v (.int .i64 y1) .no, .v (.int .i64 y2) .no, .v (.int .i64 y3) .no, .v (.int .i64 y4) .no, .v (.bytes y5) .no, .v (.int .i64 y6) .no, .v (.sl 27 y7) .no, .v (.bytes y8) (.own (.slot 0) 5), .v (.int .i64 y9) .no, .v (.bytes y10) .no]⟩] m fun m' => K [.v (.bytes r0) .no] m'
    | _ => none)
  | _ => none
noncomputable def r_cEnc {α : Type} (K : List UInt8 -> Int -> Int -> Int -> Int -> Int -> List UInt8 -> Int -> List V -> List UInt8 -> Int -> List UInt8 -> Option α) (rs : List D) (m : Mem) : Option α :=
  match rs, m with
  | [.v (.bytes r0) _], [_, [(0, ⟨77, [.v (.int .i64 z0) .no, .v (.int .i64 z1) .no, .v (.int .i64 z2) .no, .v (.int .i64 z3) .no, .v (.int .i64 z4) .no, .v (.bytes z5) _, .v (.int .i64 z6) .no, .v (.sl 27 z7) _, .v (.bytes z8) (.own (.slot 0) 5), .v (.int .i64 z9) .no, .v (.bytes z10) _]⟩)]] => K r0 z0 z1 z2 z3 z4 z5 z6 z7 z8 z9 z10
  | _, _ => none
noncomputable def C_cEnc {R : Type} (N : Nat) (x0 x1 x2 : Int) (x3 : Bool) (x4 : Int) (x5 : Bool) (x6 : List UInt8) (y0 y1 y2 y3 y4 : Int) (y5 : List UInt8) (y6 : Int) (y7 : List V) (y8 : List UInt8) (y9 : Int) (y10 : List UInt8) (K0 : List UInt8 -> Option R) : Option R := bnd2 (s_bEncode N x0 x1 x2 x3 x4 x5 x6 y0) fun l0 n1 => K0 l0
noncomputable def s_cEnc (N : Nat) (x0 x1 x2 : Int) (x3 : Bool) (x4 : Int) (x5 : Bool) (x6 : List UInt8) (y0 y1 y2 y3 y4 : Int) (y5 : List UInt8) (y6 : Int) (y7 : List V) (y8 : List UInt8) (y9 : Int) (y10 : List UInt8) : Option (List UInt8) := C_cEnc N x0 x1 x2 x3 x4 x5 x6 y0 y1 y2 y3 y4 y5 y6 y7 y8 y9 y10 (fun r0 => some r0)
noncomputable def cx_cEnc (N : Nat) : Cx := cxO [⟨95, e_bEncode (s_bEncode N)⟩] []
theorem C_cEnc_ok {R : Type} (N : Nat) (x0 x1 x2 x3 x4 x5 x6 y0 y1 y2 y3 y4 y5 y6 y7 y8 y9 y10 K : _) : bodyK (R := R) (cx_cEnc N) Try.f81 [.ptr 1 0 0, g0a x0 x1 x2 x3 x4 x5 x6] [frOf 0 [g1a y0 y1 y2 y3 y4 y5 y6 y7 y8 y9 y10]] (r_cEnc K) = C_cEnc N x0 x1 x2 x3 x4 x5 x6 y0 y1 y2 y3 y4 y5 y6 y7 y8 y9 y10 (fun r0 => K r0 y0 y1 y2 y3 y4 y5 y6 y7 y8 y9 y10) := by
  kernel_rfl
abbrev Q_cEnc (s : Ty5) : Prop := ∀ x0 x1 x2 x3 x4 x5 x6 y0 y1 y2 y3 y4 y5 y6 y7 y8 y9 y10 r0, s x0 x1 x2 x3 x4 x5 x6 y0 y1 y2 y3 y4 y5 y6 y7 y8 y9 y10 = some r0 -> ViewRet Try.prog T 81 [.ptr 1 0 0, g0a x0 x1 x2 x3 x4 x5 x6] [g1a y0 y1 y2 y3 y4 y5 y6 y7 y8 y9 y10] [dY r0] [g1a y0 y1 y2 y3 y4 y5 y6 y7 y8 y9 y10]
theorem eo_cEnc (s : Ty5) (hs : Q_cEnc s) : MEntOK Try.prog T ⟨81, e_cEnc s⟩ := by
  refine ⟨goes_of Try.func81 (by kernel_rfl) (c := bodyOf Try.f81) (by kernel_rfl), fun R dst ds m K r h => ?_⟩
  simp only [e_cEnc] at h
  split at h
  . obtain ⟨Bs, a1, a2, a3, h⟩ := viewK_some h
    split at h
    . obtain ⟨r0, h1, h2⟩ := bnd1_some h
      rw [putAllK_eq] at h2
      exact ⟨_, _, h2, ViewRet.weakIn (hs _ _ _ _ _ _ _ _ _ _ _ _ _ _ _ _ _ _ _ h1) (by exact ⟨⟨rfl, .inl rfl, .inl rfl, .inl rfl, .inl rfl, .inl rfl, .inr ⟨_, _, rfl, rfl⟩, .inl rfl, .inr ⟨_, _, rfl, rfl⟩, .inl rfl, .inl rfl, .inr ⟨_, _, rfl, rfl⟩, trivial⟩, trivial⟩) rfl _ _ m dst a1 a2 a3 ⟨aren_ptr _ rfl, aren_agg ⟨aren_v _, aren_v _, aren_v _, aren_v _, aren_v _, aren_v _, aren_v _, trivial⟩, trivial⟩⟩
    . cases h
  . cases h
open Classical in
theorem p_cEnc (N : Nat) : Q_cEnc (s_cEnc N) := fun x0 x1 x2 x3 x4 x5 x6 y0 y1 y2 y3 y4 y5 y6 y7 y8 y9 y10 r0 h => by
  refine view_ofW (cx := cx_cEnc N) (by kernel_rfl) (cxO_ok ⟨eo_bEncode _ (p_bEncode N), trivial⟩ trivial) Try.func81 (by kernel_rfl) (by kernel_rfl) (loopsOK_of (k := 0) (by kernel_rfl) trivial) (by rfl) (by rfl) (by rfl) (rf := r_cEnc (fun r0' z'0 z'1 z'2 z'3 z'4 z'5 z'6 z'7 z'8 z'9 z'10 => if z'0 = y0 /\ z'1 = y1 /\ z'2 = y2 /\ z'3 = y3 /\ z'4 = y4 /\ z'5 = y5 /\ z'6 = y6 /\ z'7 = y7 /\ z'8 = y8 /\ z'9 = y9 /\ z'10 = y10 then some r0' else none)) (r := r0) ?_ ?_
  . exact (C_cEnc_ok ..).trans ((congrArg (fun K => C_cEnc N x0 x1 x2 x3 x4 x5 x6 y0 y1 y2 y3 y4 y5 y6 y7 y8 y9 y10 K) (funext fun r0' => if_pos ⟨rfl, rfl, rfl, rfl, rfl, rfl, rfl, rfl, rfl, rfl, rfl⟩)).trans h)
  . intro rs' m' hx
    unfold r_cEnc at hx
    split at hx
    . dsimp only at hx
      split at hx
      . rename_i hk
        obtain ⟨rfl, rfl, rfl, rfl, rfl, rfl, rfl, rfl, rfl, rfl, rfl⟩ := hk
        cases hx; exact ⟨rfl, rfl, _, [⟨77, [_, _, _, _, _, _, _, _, _, _, _]⟩], rfl, rfl, ⟨⟨rfl, .inl rfl, .inl rfl, .inl rfl, .inl rfl, .inl rfl, .inr ⟨_, _, rfl, rfl⟩, .inl rfl, .inr ⟨_, _, rfl, rfl⟩, .inl rfl, .inl rfl, .inr ⟨_, _, rfl, rfl⟩, trivial⟩, trivial⟩⟩
      . cases hx
    . cases hx
abbrev Ty6 := List UInt8 -> Int -> Int -> Int -> Int -> Int -> List UInt8 -> Int -> List V -> List UInt8 -> Int -> List UInt8 -> Option (Int × Int × Int × Bool × Int × Bool × List UInt8 × Int)
noncomputable def e_cDecode {R : Type} (s : Ty6) (dst : Nat) (ds : List D) (m : Mem) (K : List D -> Mem -> Option R) : Option R :=
  match ds with
  | [.ptr (kv0 + 1) sv0 0, .v (.bytes x0) .no] => viewK [(kv0, sv0)] m fun Bs => (match Bs with
    | [⟨77, [.v (.int .i64 y0) .no, .v (.int .i64 y1) .no, .v (.int .i64 y2) .no, .v (.int .i64 y3) .no, .v (.int .i64 y4) .no, .v (.bytes y5) _, .v (.int .i64 y6) .no, .v (.sl 27 y7) _, .v (.bytes y8) (.own (.slot 0) 5), .v (.int .i64 y9) .no, .v (.bytes y10) _]⟩] => bnd8 (s x0 y0 y1 y2 y3 y4 y5 y6 y7 y8 y9 y10) fun r0 r1 r2 r3 r4 r5 r6 r7 => putAllK [(kv0, sv0)] [⟨77, [.v (.int .i64 y0) .no, .v (.int .i64 y1) .no, .v (.int .i64 y2) .no, .v (.int .i64 y3) .no, .v (.int .i64 y4) .no, .v (.bytes y5) .no, .v (.int .i64 y6) .no, .v (.sl 27 y7) .no, .v (.bytes y8) (.own (.slot 0) 5), .v (.int .i64 y9) .no, .v (.bytes y10) .no]⟩] m fun m' => K [.agg [.v (.int .i64 r0) .no, .v (.int .i64 r1) .no, .v (.int .i64 r2) .no, .v (.bool r3) .no, .v (.int .i64 r4) .no, .v (.bool r5) .no, .v (.bytes r6) .no], .v (.int .i64 r7) .no] m'
    | _ => none)
  | _ => none
noncomputable def r_cDecode {α : Type} (K : Int -> Int -> Int -> Bool -> Int -> Bool -> List UInt8 -> Int -> Int -> Int -> Int -> Int -> Int -> List UInt8 -> Int -> List V -> List UInt8 -> Int -> List UInt8 -> Option α) (rs : List D) (m : Mem) : Option α :=
  match rs, m with
  | [.agg [.v (.int .i64 r0) _, .v (.int .i64 r1) _, .v (.int .i64 r2) _, .v (.bool r3) _, .v (.int .i64 r4) _, .v (.bool r5) _, .v (.bytes r6) _], .v (.int .i64 r7) _], [_, [(0, ⟨77, [.v (.int .i64 z0) .no, .v (.int .i64 z1) .no, .v (.int .i64 z2) .no, .v (.int .i64 z3) .no, .v (.int .i64 z4) .no, .v (.bytes z5) _, .v (.int .i64 z6) .no, .v (.sl 27 z7) _, .v (.bytes z8) (.own (.slot 0) 5), .v (.int .i64 z9) .no, .v (.bytes z10) _]⟩)]] => K r0 r1 r2 r3 r4 r5 r6 r7 z0 z1 z2 z3 z4 z5 z6 z7 z8 z9 z10
  | _, _ => none
noncomputable def C_cDecode {R : Type} (N : Nat) (x0 : List UInt8) (y0 y1 y2 y3 y4 : Int) (y5 : List UInt8) (y6 : Int) (y7 : List V) (y8 : List UInt8) (y9 : Int) (y10 : List UInt8) (K0 : Int -> Int -> Int -> Bool -> Int -> Bool -> List UInt8 -> Int -> Option R) : Option R := bnd8 (s_bDecode N x0 y0) fun n0 n1 n2 b3 n4 b5 l6 n7 => br (decide (n7 = 6)) (K0 n0 n1 n2 b3 n4 b5 l6 1) (br (!decide (n7 = 0)) (K0 n0 n1 n2 b3 n4 b5 l6 2) (br (!decide (n0 = 0)) (K0 n0 n1 n2 b3 n4 b5 l6 2) (br (decide (n1 = 0)) (br (decide (y1 < (l6.length : Int))) (K0 n0 n1 n2 b3 n4 b5 l6 2) (K0 n0 n1 n2 b3 n4 b5 l6 0)) (K0 n0 n1 n2 b3 n4 b5 l6 0))))
noncomputable def s_cDecode (N : Nat) (x0 : List UInt8) (y0 y1 y2 y3 y4 : Int) (y5 : List UInt8) (y6 : Int) (y7 : List V) (y8 : List UInt8) (y9 : Int) (y10 : List UInt8) : Option (Int × Int × Int × Bool × Int × Bool × List UInt8 × Int) := C_cDecode N x0 y0 y1 y2 y3 y4 y5 y6 y7 y8 y9 y10 (fun r0 r1 r2 r3 r4 r5 r6 r7 => some (r0, r1, r2, r3, r4, r5, r6, r7))
noncomputable def cx_cDecode (N : Nat) : Cx := cxO [⟨79, e_bDecode (s_bDecode N)⟩] []
theorem C_cDecode_ok {R : Type} (N : Nat) (x0 y0 y1 y2 y3 y4 y5 y6 y7 y8 y9 y10 K : _) : bodyK (R := R) (cx_cDecode N) Try.f44 [.ptr 1 0 0, dY x0] [frOf 0 [g1a y0 y1 y2 y3 y4 y5 y6 y7 y8 y9 y10]] (r_cDecode K) = C_cDecode N x0 y0 y1 y2 y3 y4 y5 y6 y7 y8 y9 y10 (fun r0 r1 r2 r3 r4 r5 r6 r7 => K r0 r1 r2 r3 r4 r5 r6 r7 y0 y1 y2 y3 y4 y5 y6 y7 y8 y9 y10) := by
  kernel_rfl
abbrev Q_cDecode (s : Ty6) : Prop := ∀ x0 y0 y1 y2 y3 y4 y5 y6 y7 y8 y9 y10 r0 r1 r2 r3 r4 r5 r6 r7, s x0 y0 y1 y2 y3 y4 y5 y6 y7 y8 y9 y10 = some (r0, r1, r2, r3, r4, r5, r6, r7) -> ViewRet Try.prog T 44 [.ptr 1 0 0, dY x0] [g1a y0 y1 y2 y3 y4 y5 y6 y7 y8 y9 y10] [g0a r0 r1 r2 r3 r4 r5 r6, dI r7] [g1a y0 y1 y2 y3 y4 y5 y6 y7 y8 y9 y10]
theorem eo_cDecode (s : Ty6) (hs : Q_cDecode s) : MEntOK Try.prog T ⟨44, e_cDecode s⟩ := by
  refine ⟨goes_of Try.func44 (by kernel_rfl) (c := bodyOf Try.f44) (by kernel_rfl), fun R dst ds m K r h => ?_⟩
  simp only [e_cDecode] at h
  split at h
  . obtain ⟨Bs, a1, a2, a3, h⟩ := viewK_some h
    split at h
    . obtain ⟨r0, r1, r2, r3, r4, r5, r6, r7, h1, h2⟩ := bnd8_some h
      rw [putAllK_eq] at h2
      exact ⟨_, _, h2, ViewRet.weakIn (hs _ _ _ _ _ _ _ _ _ _ _ _ _ _ _ _ _ _ _ _ h1) (by exact ⟨⟨rfl, .inl rfl, .inl rfl, .inl rfl, .inl rfl, .inl rfl, .inr ⟨_, _, rfl, rfl⟩, .inl rfl, .inr ⟨_, _, rfl, rfl⟩, .inl rfl, .inl rfl, .inr ⟨_, _, rfl, rfl⟩, trivial⟩, trivial⟩) rfl _ _ m dst a1 a2 a3 ⟨aren_ptr _ rfl, aren_v _, trivial⟩⟩
    . cases h
  . cases h
open Classical in
theorem p_cDecode (N : Nat) : Q_cDecode (s_cDecode N) := fun x0 y0 y1 y2 y3 y4 y5 y6 y7 y8 y9 y10 r0 r1 r2 r3 r4 r5 r6 r7 h => by
  refine view_ofW (cx := cx_cDecode N) (by kernel_rfl) (cxO_ok ⟨eo_bDecode _ (p_bDecode N), trivial⟩ trivial) Try.func44 (by kernel_rfl) (by kernel_rfl) (loopsOK_of (k := 0) (by kernel_rfl) trivial) (by rfl) (by rfl) (by rfl) (rf := r_cDecode (fun r0' r1' r2' r3' r4' r5' r6' r7' z'0 z'1 z'2 z'3 z'4 z'5 z'6 z'7 z'8 z'9 z'10 => if z'0 = y0 /\ z'1 = y1 /\ z'2 = y2 /\ z'3 = y3 /\ z'4 = y4 /\ z'5 = y5 /\ z'6 = y6 /\ z'7 = y7 /\ z'8 = y8 /\ z'9 = y9 /\ z'10 = y10 then some (r0', r1', r2', r3', r4', r5', r6', r7') else none)) (r := (r0, r1, r2, r3, r4, r5, r6, r7)) ?_ ?_
  . exact (C_cDecode_ok ..).trans ((congrArg (fun K => C_cDecode N x0 y0 y1 y2 y3 y4 y5 y6 y7 y8 y9 y10 K) (funext fun r0' => funext fun r1' => funext fun r2' => funext fun r3' => funext fun r4' => funext fun r5' => funext fun r6' => funext fun r7' => if_pos ⟨rfl, rfl, rfl, rfl, rfl, rfl, rfl, rfl, rfl, rfl, rfl⟩)).trans h)
  . intro rs' m' hx
    unfold r_cDecode at hx
    split at hx
    . dsimp only at hx
      split at hx
      . rename_i hk
        obtain ⟨rfl, rfl, rfl, rfl, rfl, rfl, rfl, rfl, rfl, rfl, rfl⟩ := hk
        cases hx; exact ⟨rfl, rfl, _, [⟨77, [_, _, _, _, _, _, _, _, _, _, _]⟩], rfl, rfl, ⟨⟨rfl, .inl rfl, .inl rfl, .inl rfl, .inl rfl, .inl rfl, .inr ⟨_, _, rfl, rfl⟩, .inl rfl, .inr ⟨_, _, rfl, rfl⟩, .inl rfl, .inl rfl, .inr ⟨_, _, rfl, rfl⟩, trivial⟩, trivial⟩⟩
      . cases hx
    . cases hx
abbrev Ty7 := Int -> Int -> Int -> Int -> Int -> Int -> List UInt8 -> Int -> List V -> List UInt8 -> Int -> List UInt8 -> Option (List UInt8)
noncomputable def e_cReady {R : Type} (s : Ty7) (dst : Nat) (ds : List D) (m : Mem) (K : List D -> Mem -> Option R) : Option R :=
  match ds with
  | [.ptr (kv0 + 1) sv0 0, .v (.int .i64 x0) .no] => viewK [(kv0, sv0)] m fun Bs => (match Bs with
    | [⟨77, [.v (.int .i64 y0) .no, .v (.int .i64 y1) .no, .v (.int .i64 y2) .no, .v (.int .i64 y3) .no, .v (.int .i64 y4) .no, .v (.bytes y5) _, .v (.int .i64 y6) .no, .v (.sl 27 y7) _, .v (.bytes y8) (.own (.slot 0) 5), .v (.int .i64 y9) .no, .v (.bytes y10) _]⟩] => bnd1 (s x0 y0 y1 y2 y3 y4 y5 y6 y7 y8 y9 y10) fun r0 => putAllK [(kv0, sv0)] [⟨77, [.v (.int .i64 y0) .no, .v (.int .i64 y1) .no, .v (.int .i64 y2) .no, .v (.int .i64 y3) .no, .v (.int .i64 y4) .no, .v (.bytes y5) .no, .v (.int .i64 y6) .no, .v (.sl 27 y7) .no, .v (.bytes y8) (.own (.slot 0) 5), .v (.int .i64 y9) .no, .v (.bytes y10) .no]⟩] m fun m' => K [.v (.bytes r0) .no] m'
    | _ => none)
  | _ => none
noncomputable def C_cReady {R : Type} (N : Nat) (x0 y0 y1 y2 y3 y4 : Int) (y5 : List UInt8) (y6 : Int) (y7 : List V) (y8 : List UInt8) (y9 : Int) (y10 : List UInt8) (K0 : List UInt8 -> Option R) : Option R := bnd1 (s_cEnc N 0 1 y3 false x0 false [] y0 y1 y2 y3 y4 y5 y6 y7 y8 y9 y10) fun l0 => K0 l0
noncomputable def s_cReady (N : Nat) (x0 y0 y1 y2 y3 y4 : Int) (y5 : List UInt8) (y6 : Int) (y7 : List V) (y8 : List UInt8) (y9 : Int) (y10 : List UInt8) : Option (List UInt8) := C_cReady N x0 y0 y1 y2 y3 y4 y5 y6 y7 y8 y9 y10 (fun r0 => some r0)
noncomputable def cx_cReady (N : Nat) : Cx := cxO [] [⟨81, e_cEnc (s_cEnc N)⟩]
theorem C_cReady_ok {R : Type} (N : Nat) (x0 y0 y1 y2 y3 y4 y5 y6 y7 y8 y9 y10 K : _) : bodyK (R := R) (cx_cReady N) Try.f47 [.ptr 1 0 0, dI x0] [frOf 0 [g1a y0 y1 y2 y3 y4 y5 y6 y7 y8 y9 y10]] (r_cEnc K) = C_cReady N x0 y0 y1 y2 y3 y4 y5 y6 y7 y8 y9 y10 (fun r0 => K r0 y0 y1 y2 y3 y4 y5 y6 y7 y8 y9 y10) := by
  kernel_rfl
abbrev Q_cReady (s : Ty7) : Prop := ∀ x0 y0 y1 y2 y3 y4 y5 y6 y7 y8 y9 y10 r0, s x0 y0 y1 y2 y3 y4 y5 y6 y7 y8 y9 y10 = some r0 -> ViewRet Try.prog T 47 [.ptr 1 0 0, dI x0] [g1a y0 y1 y2 y3 y4 y5 y6 y7 y8 y9 y10] [dY r0] [g1a y0 y1 y2 y3 y4 y5 y6 y7 y8 y9 y10]
theorem eo_cReady (s : Ty7) (hs : Q_cReady s) : MEntOK Try.prog T ⟨47, e_cReady s⟩ := by
  refine ⟨goes_of Try.func47 (by kernel_rfl) (c := bodyOf Try.f47) (by kernel_rfl), fun R dst ds m K r h => ?_⟩
  simp only [e_cReady] at h
  split at h
  . obtain ⟨Bs, a1, a2, a3, h⟩ := viewK_some h
    split at h
    . obtain ⟨r0, h1, h2⟩ := bnd1_some h
      rw [putAllK_eq] at h2
      exact ⟨_, _, h2, ViewRet.weakIn (hs _ _ _ _ _ _ _ _ _ _ _ _ _ h1) (by exact ⟨⟨rfl, .inl rfl, .inl rfl, .inl rfl, .inl rfl, .inl rfl, .inr ⟨_, _, rfl, rfl⟩, .inl rfl, .inr ⟨_, _, rfl, rfl⟩, .inl rfl, .inl rfl, .inr ⟨_, _, rfl, rfl⟩, trivial⟩, trivial⟩) rfl _ _ m dst a1 a2 a3 ⟨aren_ptr _ rfl, aren_v _, trivial⟩⟩
    . cases h
  . cases h
open Classical in
theorem p_cReady (N : Nat) : Q_cReady (s_cReady N) := fun x0 y0 y1 y2 y3 y4 y5 y6 y7 y8 y9 y10 r0 h => by
  refine view_ofW (cx := cx_cReady N) (by kernel_rfl) (cxO_ok trivial ⟨eo_cEnc _ (p_cEnc N), trivial⟩) Try.func47 (by kernel_rfl) (by kernel_rfl) (loopsOK_of (k := 0) (by kernel_rfl) trivial) (by rfl) (by rfl) (by rfl) (rf := r_cEnc (fun r0' z'0 z'1 z'2 z'3 z'4 z'5 z'6 z'7 z'8 z'9 z'10 => if z'0 = y0 /\ z'1 = y1 /\ z'2 = y2 /\ z'3 = y3 /\ z'4 = y4 /\ z'5 = y5 /\ z'6 = y6 /\ z'7 = y7 /\ z'8 = y8 /\ z'9 = y9 /\ z'10 = y10 then some r0' else none)) (r := r0) ?_ ?_
  . exact (C_cReady_ok ..).trans ((congrArg (fun K => C_cReady N x0 y0 y1 y2 y3 y4 y5 y6 y7 y8 y9 y10 K) (funext fun r0' => if_pos ⟨rfl, rfl, rfl, rfl, rfl, rfl, rfl, rfl, rfl, rfl, rfl⟩)).trans h)
  . intro rs' m' hx
    unfold r_cEnc at hx
    split at hx
    . dsimp only at hx
      split at hx
      . rename_i hk
        obtain ⟨rfl, rfl, rfl, rfl, rfl, rfl, rfl, rfl, rfl, rfl, rfl⟩ := hk
        cases hx; exact ⟨rfl, rfl, _, [⟨77, [_, _, _, _, _, _, _, _, _, _, _]⟩], rfl, rfl, ⟨⟨rfl, .inl rfl, .inl rfl, .inl rfl, .inl rfl, .inl rfl, .inr ⟨_, _, rfl, rfl⟩, .inl rfl, .inr ⟨_, _, rfl, rfl⟩, .inl rfl, .inl rfl, .inr ⟨_, _, rfl, rfl⟩, trivial⟩, trivial⟩⟩
      . cases hx
    . cases hx
abbrev Ty8 := Int -> Bool -> List UInt8 -> Int -> Int -> Int -> Int -> Int -> List UInt8 -> Int -> List V -> List UInt8 -> Int -> List UInt8 -> Option (List UInt8)
noncomputable def e_cSpecial {R : Type} (s : Ty8) (dst : Nat) (ds : List D) (m : Mem) (K : List D -> Mem -> Option R) : Option R :=
  match ds with
  | [.ptr (kv0 + 1) sv0 0, .v (.int .i64 x0) .no, .v (.bool x1) .no, .v (.bytes x2) .no] => viewK [(kv0, sv0)] m fun Bs => (match Bs with
    | [⟨77, [.v (.int .i64 y0) .no, .v (.int .i64 y1) .no, .v (.int .i64 y2) .no, .v (.int .i64 y3) .no, .v (.int .i64 y4) .no, .v (.bytes y5) _, .v (.int .i64 y6) .no, .v (.sl 27 y7) _, .v (.bytes y8) (.own (.slot 0) 5), .v (.int .i64 y9) .no, .v (.bytes y10) _]⟩] => bnd1 (s x0 x1 x2 y0 y1 y2 y3 y4 y5 y6 y7 y8 y9 y10) fun r0 => putAllK [(kv0, sv0)] [⟨77, [.v (.int .i64 y0) .no, .v (.int .i64 y1) .no, .v (.int .i64 y2) .no, .v (.int .i64 y3) .no, .v (.int .i64 y4) .no, .v (.bytes y5) .no, .v (.int .i64 y6) .no, .v (.sl 27 y7) .no, .v (.bytes y8) (.own (.slot 0) 5), .v (.int .i64 y9) .no, .v (.bytes y10) .no]⟩] m fun m' => K [.v (.bytes r0) .no] m'
    | _ => none)
  | _ => none
noncomputable def C_cSpecial {R : Type} (N : Nat) (x0 : Int) (x1 : Bool) (x2 : List UInt8) (y0 y1 y2 y3 y4 : Int) (y5 : List UInt8) (y6 : Int) (y7 : List V) (y8 : List UInt8) (y9 : Int) (y10 : List UInt8) (K0 : List UInt8 -> Option R) : Option R := bnd1 (s_cEnc N 0 2 0 false x0 x1 x2 y0 y1 y2 y3 y4 y5 y6 y7 y8 y9 y10) fun l0 => K0 l0
noncomputable def s_cSpecial (N : Nat) (x0 : Int) (x1 : Bool) (x2 : List UInt8) (y0 y1 y2 y3 y4 : Int) (y5 : List UInt8) (y6 : Int) (y7 : List V) (y8 : List UInt8) (y9 : Int) (y10 : List UInt8) : Option (List UInt8) := C_cSpecial N x0 x1 x2 y0 y1 y2 y3 y4 y5 y6 y7 y8 y9 y10 (fun r0 => some r0)
noncomputable def cx_cSpecial (N : Nat) : Cx := cxO [] [⟨81, e_cEnc (s_cEnc N)⟩]
theorem C_cSpecial_ok {R : Type} (N : Nat) (x0 x1 x2 y0 y1 y2 y3 y4 y5 y6 y7 y8 y9 y10 K : _) : bodyK (R := R) (cx_cSpecial N) Try.f46 [.ptr 1 0 0, dI x0, dB x1, dY x2] [frOf 0 [g1a y0 y1 y2 y3 y4 y5 y6 y7 y8 y9 y10]] (r_cEnc K) = C_cSpecial N x0 x1 x2 y0 y1 y2 y3 y4 y5 y6 y7 y8 y9 y10 (fun r0 => K r0 y0 y1 y2 y3 y4 y5 y6 y7 y8 y9 y10) := by
  kernel_rfl
abbrev Q_cSpecial (s : Ty8) : Prop := ∀ x0 x1 x2 y0 y1 y2 y3 y4 y5 y6 y7 y8 y9 y10 r0, s x0 x1 x2 y0 y1 y2 y3 y4 y5 y6 y7 y8 y9 y10 = some r0 -> ViewRet Try.prog T 46 [.ptr 1 0 0, dI x0, dB x1, dY x2] [g1a y0 y1 y2 y3 y4 y5 y6 y7 y8 y9 y10] [dY r0] [g1a y0 y1 y2 y3 y4 y5 y6 y7 y8 y9 y10]
theorem eo_cSpecial (s : Ty8) (hs : Q_cSpecial s) : MEntOK Try.prog T ⟨46, e_cSpecial s⟩ := by
  refine ⟨goes_of Try.func46 (by kernel_rfl) (c := bodyOf Try.f46) (by kernel_rfl), fun R dst ds m K r h => ?_⟩
  simp only [e_cSpecial] at h
  split at h
  . obtain ⟨Bs, a1, a2, a3, h⟩ := viewK_some h
    split at h
    . obtain ⟨r0, h1, h2⟩ := bnd1_some h
      rw [putAllK_eq] at h2
      exact ⟨_, _, h2, ViewRet.weakIn (hs _ _ _ _ _ _ _ _ _ _ _ _ _ _ _ h1) (by exact ⟨⟨rfl, .inl rfl, .inl rfl, .inl rfl, .inl rfl, .inl rfl, .inr ⟨_, _, rfl, rfl⟩, .inl rfl, .inr ⟨_, _, rfl, rfl⟩, .inl rfl, .inl rfl, .inr ⟨_, _, rfl, rfl⟩, trivial⟩, trivial⟩) rfl _ _ m dst a1 a2 a3 ⟨aren_ptr _ rfl, aren_v _, aren_v _, aren_v _, trivial⟩⟩
    . cases h
  . cases h
open Classical in
theorem p_cSpecial (N : Nat) : Q_cSpecial (s_cSpecial N) := fun x0 x1 x2 y0 y1 y2 y3 y4 y5 y6 y7 y8 y9 y10 r0 h => by
  refine view_ofW (cx := cx_cSpecial N) (by kernel_rfl) (cxO_ok trivial ⟨eo_cEnc _ (p_cEnc N), trivial⟩) Try.func46 (by kernel_rfl) (by kernel_rfl) (loopsOK_of (k := 0) (by kernel_rfl) trivial) (by rfl) (by rfl) (by rfl) (rf := r_cEnc (fun r0' z'0 z'1 z'2 z'3 z'4 z'5 z'6 z'7 z'8 z'9 z'10 => if z'0 = y0 /\ z'1 = y1 /\ z'2 = y2 /\ z'3 = y3 /\ z'4 = y4 /\ z'5 = y5 /\ z'6 = y6 /\ z'7 = y7 /\ z'8 = y8 /\ z'9 = y9 /\ z'10 = y10 then some r0' else none)) (r := r0) ?_ ?_
  . exact (C_cSpecial_ok ..).trans ((congrArg (fun K => C_cSpecial N x0 x1 x2 y0 y1 y2 y3 y4 y5 y6 y7 y8 y9 y10 K) (funext fun r0' => if_pos ⟨rfl, rfl, rfl, rfl, rfl, rfl, rfl, rfl, rfl, rfl, rfl⟩)).trans h)
  . intro rs' m' hx
    unfold r_cEnc at hx
    split at hx
    . dsimp only at hx
      split at hx
      . rename_i hk
        obtain ⟨rfl, rfl, rfl, rfl, rfl, rfl, rfl, rfl, rfl, rfl, rfl⟩ := hk
        cases hx; exact ⟨rfl, rfl, _, [⟨77, [_, _, _, _, _, _, _, _, _, _, _]⟩], rfl, rfl, ⟨⟨rfl, .inl rfl, .inl rfl, .inl rfl, .inl rfl, .inl rfl, .inr ⟨_, _, rfl, rfl⟩, .inl rfl, .inr ⟨_, _, rfl, rfl⟩, .inl rfl, .inl rfl, .inr ⟨_, _, rfl, rfl⟩, trivial⟩, trivial⟩⟩
      . cases hx
    . cases hx
abbrev Ty9 := Int -> Int -> Int -> Int -> Int -> List UInt8 -> Int -> List V -> List UInt8 -> Int -> List UInt8 -> Option (List UInt8 × Int × List UInt8 × Int × List V)
noncomputable def e_cPiece {R : Type} (s : Ty9) (dst : Nat) (ds : List D) (m : Mem) (K : List D -> Mem -> Option R) : Option R :=
  match ds with
  | [.ptr (kv0 + 1) sv0 0] => viewK [(kv0, sv0)] m fun Bs => (match Bs with
    | [⟨77, [.v (.int .i64 y0) .no, .v (.int .i64 y1) .no, .v (.int .i64 y2) .no, .v (.int .i64 y3) .no, .v (.int .i64 y4) .no, .v (.bytes y5) _, .v (.int .i64 y6) .no, .v (.sl 27 y7) _, .v (.bytes y8) (.own (.slot 0) 5), .v (.int .i64 y9) .no, .v (.bytes y10) _]⟩] => bnd5 (s y0 y1 y2 y3 y4 y5 y6 y7 y8 y9 y10) fun r0 z4 z5 z6 z7 => putAllK [(kv0, sv0)] [⟨77, [.v (.int .i64 y0) .no, .v (.int .i64 y1) .no, .v (.int .i64 y2) .no, .v (.int .i64 y3) .no, .v (.int .i64 z4) .no, .v (.bytes z5) .no, .v (.int .i64 z6) .no, .v (.sl 27 z7) .no, .v (.bytes y8) (.own (.slot 0) 5), .v (.int .i64 y9) .no, .v (.bytes y10) .no]⟩] m fun m' => K [.v (.bytes r0) .no] m'
    | _ => none)
  | _ => none
noncomputable def C_cPiece {R : Type} (N : Nat) (y0 y1 y2 y3 y4 : Int) (y5 : List UInt8) (y6 : Int) (y7 : List V) (y8 : List UInt8) (y9 : Int) (y10 : List UInt8) (K0 : List UInt8 -> Int -> List UInt8 -> Int -> List V -> Option R) : Option R := br (decide (0 < (y7.length : Int))) (at? y7 0 fun x0 => x0.unBytes fun l1 => br (decide (1 <= (y7.length : Int))) (bnd1 (s_cEnc N 0 0 y4 (decide (0 < ((List.drop 1 y7).length : Int))) 0 false l1 y0 y1 y2 y3 y4 y5 y6 (List.drop 1 y7) y8 y9 y10) fun l2 => bnd1 (s_clone N l2) fun l3 => K0 l3 (IntKind.i64.wrap (1 - y4)) l2 y4 (List.drop 1 y7)) none) none
noncomputable def s_cPiece (N : Nat) (y0 y1 y2 y3 y4 : Int) (y5 : List UInt8) (y6 : Int) (y7 : List V) (y8 : List UInt8) (y9 : Int) (y10 : List UInt8) : Option (List UInt8 × Int × List UInt8 × Int × List V) := C_cPiece N y0 y1 y2 y3 y4 y5 y6 y7 y8 y9 y10 (fun r0 z4 z5 z6 z7 => some (r0, z4, z5, z6, z7))
noncomputable def cx_cPiece (N : Nat) : Cx := cxO [⟨60, e_clone (s_clone N)⟩] [⟨81, e_cEnc (s_cEnc N)⟩]
theorem C_cPiece_ok {R : Type} (N : Nat) (y0 y1 y2 y3 y4 y5 y6 y7 y8 y9 y10 K : _) : bodyK (R := R) (cx_cPiece N) Try.f82 [.ptr 1 0 0] [frOf 0 [g1a y0 y1 y2 y3 y4 y5 y6 y7 y8 y9 y10]] (r_cEnc K) = C_cPiece N y0 y1 y2 y3 y4 y5 y6 y7 y8 y9 y10 (fun r0 z4 z5 z6 z7 => K r0 y0 y1 y2 y3 z4 z5 z6 z7 y8 y9 y10) := by
  kernel_rfl
abbrev Q_cPiece (s : Ty9) : Prop := ∀ y0 y1 y2 y3 y4 y5 y6 y7 y8 y9 y10 r0 z4 z5 z6 z7, s y0 y1 y2 y3 y4 y5 y6 y7 y8 y9 y10 = some (r0, z4, z5, z6, z7) -> ViewRet Try.prog T 82 [.ptr 1 0 0] [g1a y0 y1 y2 y3 y4 y5 y6 y7 y8 y9 y10] [dY r0] [g1a y0 y1 y2 y3 z4 z5 z6 z7 y8 y9 y10]
theorem eo_cPiece (s : Ty9) (hs : Q_cPiece s) : MEntOK Try.prog T ⟨82, e_cPiece s⟩ := by
  refine ⟨goes_of Try.func82 (by kernel_rfl) (c := bodyOf Try.f82) (by kernel_rfl), fun R dst ds m K r h => ?_⟩
  simp only [e_cPiece] at h
  split at h
  . obtain ⟨Bs, a1, a2, a3, h⟩ := viewK_some h
    split at h
    . obtain ⟨r0, z4, z5, z6, z7, h1, h2⟩ := bnd5_some h
      rw [putAllK_eq] at h2
      exact ⟨_, _, h2, ViewRet.weakIn (hs _ _ _ _ _ _ _ _ _ _ _ _ _ _ _ _ h1) (by exact ⟨⟨rfl, .inl rfl, .inl rfl, .inl rfl, .inl rfl, .inl rfl, .inr ⟨_, _, rfl, rfl⟩, .inl rfl, .inr ⟨_, _, rfl, rfl⟩, .inl rfl, .inl rfl, .inr ⟨_, _, rfl, rfl⟩, trivial⟩, trivial⟩) rfl _ _ m dst a1 a2 a3 ⟨aren_ptr _ rfl, trivial⟩⟩
    . cases h
  . cases h
open Classical in
theorem p_cPiece (N : Nat) : Q_cPiece (s_cPiece N) := fun y0 y1 y2 y3 y4 y5 y6 y7 y8 y9 y10 r0 z4 z5 z6 z7 h => by
  refine view_ofW (cx := cx_cPiece N) (by kernel_rfl) (cxO_ok ⟨eo_clone _ (p_clone N), trivial⟩ ⟨eo_cEnc _ (p_cEnc N), trivial⟩) Try.func82 (by kernel_rfl) (by kernel_rfl) (loopsOK_of (k := 0) (by kernel_rfl) trivial) (by rfl) (by rfl) (by rfl) (rf := r_cEnc (fun r0' z'0 z'1 z'2 z'3 z'4 z'5 z'6 z'7 z'8 z'9 z'10 => if z'0 = y0 /\ z'1 = y1 /\ z'2 = y2 /\ z'3 = y3 /\ z'8 = y8 /\ z'9 = y9 /\ z'10 = y10 then some (r0', z'4, z'5, z'6, z'7) else none)) (r := (r0, z4, z5, z6, z7)) ?_ ?_
  . exact (C_cPiece_ok ..).trans ((congrArg (fun K => C_cPiece N y0 y1 y2 y3 y4 y5 y6 y7 y8 y9 y10 K) (funext fun r0' => funext fun z'4 => funext fun z'5 => funext fun z'6 => funext fun z'7 => if_pos ⟨rfl, rfl, rfl, rfl, rfl, rfl, rfl⟩)).trans h)
  . intro rs' m' hx
    unfold r_cEnc at hx
    split at hx
    . dsimp only at hx
      split at hx
      . rename_i hk
        obtain ⟨rfl, rfl, rfl, rfl, rfl, rfl, rfl⟩ := hk
        cases hx; exact ⟨rfl, rfl, _, [⟨77, [_, _, _, _, _, _, _, _, _, _, _]⟩], rfl, rfl, ⟨⟨rfl, .inl rfl, .inl rfl, .inl rfl, .inl rfl, .inl rfl, .inr ⟨_, _, rfl, rfl⟩, .inl rfl, .inr ⟨_, _, rfl, rfl⟩, .inl rfl, .inl rfl, .inr ⟨_, _, rfl, rfl⟩, trivial⟩, trivial⟩⟩
      . cases hx
    . cases hx
abbrev Ty10 := List UInt8 -> Int -> Int -> Int -> Int -> Int -> List UInt8 -> Int -> List V -> List UInt8 -> Int -> List UInt8 -> Option (List UInt8 × Int × List UInt8 × Int × List V)
noncomputable def e_cSend {R : Type} (s : Ty10) (dst : Nat) (ds : List D) (m : Mem) (K : List D -> Mem -> Option R) : Option R :=
  match ds with
  | [.ptr (kv0 + 1) sv0 0, .v (.bytes x0) .no] => viewK [(kv0, sv0)] m fun Bs => (match Bs with
    | [⟨77, [.v (.int .i64 y0) .no, .v (.int .i64 y1) .no, .v (.int .i64 y2) .no, .v (.int .i64 y3) .no, .v (.int .i64 y4) .no, .v (.bytes y5) _, .v (.int .i64 y6) .no, .v (.sl 27 y7) _, .v (.bytes y8) (.own (.slot 0) 5), .v (.int .i64 y9) .no, .v (.bytes y10) _]⟩] => bnd5 (s x0 y0 y1 y2 y3 y4 y5 y6 y7 y8 y9 y10) fun r0 z4 z5 z6 z7 => putAllK [(kv0, sv0)] [⟨77, [.v (.int .i64 y0) .no, .v (.int .i64 y1) .no, .v (.int .i64 y2) .no, .v (.int .i64 y3) .no, .v (.int .i64 z4) .no, .v (.bytes z5) .no, .v (.int .i64 z6) .no, .v (.sl 27 z7) .no, .v (.bytes y8) (.own (.slot 0) 5), .v (.int .i64 y9) .no, .v (.bytes y10) .no]⟩] m fun m' => K [.v (.bytes r0) .no] m'
    | _ => none)
  | _ => none
noncomputable def C_cSend {R : Type} (N : Nat) (x0 : List UInt8) (y0 y1 y2 y3 y4 : Int) (y5 : List UInt8) (y6 : Int) (y7 : List V) (y8 : List UInt8) (y9 : Int) (y10 : List UInt8) (K0 : List UInt8 -> Int -> List UInt8 -> Int -> List V -> Option R) : Option R := bnd2 (s_oSplit N x0 y2) fun l0 n1 => br (decide ((x0.length : Int) = 0)) (bnd5 (s_cPiece N y0 y1 y2 y3 y4 y5 y6 [V.bytes []] y8 y9 y10) fun l2 n3 l4 n5 l6 => K0 l2 n3 l4 n5 l6) (bnd5 (s_cPiece N y0 y1 y2 y3 y4 y5 y6 l0 y8 y9 y10) fun l7 n8 l9 n10 l11 => K0 l7 n8 l9 n10 l11)
noncomputable def s_cSend (N : Nat) (x0 : List UInt8) (y0 y1 y2 y3 y4 : Int) (y5 : List UInt8) (y6 : Int) (y7 : List V) (y8 : List UInt8) (y9 : Int) (y10 : List UInt8) : Option (List UInt8 × Int × List UInt8 × Int × List V) := C_cSend N x0 y0 y1 y2 y3 y4 y5 y6 y7 y8 y9 y10 (fun r0 z4 z5 z6 z7 => some (r0, z4, z5, z6, z7))
noncomputable def cx_cSend (N : Nat) : Cx := cxO [⟨85, e_oSplit (s_oSplit N)⟩] [⟨82, e_cPiece (s_cPiece N)⟩]
theorem C_cSend_ok {R : Type} (N : Nat) (x0 y0 y1 y2 y3 y4 y5 y6 y7 y8 y9 y10 K : _) : bodyK (R := R) (cx_cSend N) Try.f58 [.ptr 1 0 0, dY x0] [frOf 0 [g1a y0 y1 y2 y3 y4 y5 y6 y7 y8 y9 y10]] (r_cEnc K) = C_cSend N x0 y0 y1 y2 y3 y4 y5 y6 y7 y8 y9 y10 (fun r0 z4 z5 z6 z7 => K r0 y0 y1 y2 y3 z4 z5 z6 z7 y8 y9 y10) := by
  kernel_rfl
abbrev Q_cSend (s : Ty10) : Prop := ∀ x0 y0 y1 y2 y3 y4 y5 y6 y7 y8 y9 y10 r0 z4 z5 z6 z7, s x0 y0 y1 y2 y3 y4 y5 y6 y7 y8 y9 y10 = some (r0, z4, z5, z6, z7) -> ViewRet Try.prog T 58 [.ptr 1 0 0, dY x0] [g1a y0 y1 y2 y3 y4 y5 y6 y7 y8 y9 y10] [dY r0] [g1a y0 y1 y2 y3 z4 z5 z6 z7 y8 y9 y10]
theorem eo_cSend (s : Ty10) (hs : Q_cSend s) : MEntOK Try.prog T ⟨58, e_cSend s⟩ := by
  refine ⟨goes_of Try.func58 (by kernel_rfl) (c := bodyOf Try.f58) (by kernel_rfl), fun R dst ds m K r h => ?_⟩
  simp only [e_cSend] at h
  split at h
  . obtain ⟨Bs, a1, a2, a3, h⟩ := viewK_some h
    split at h
    . obtain ⟨r0, z4, z5, z6, z7, h1, h2⟩ := bnd5_some h
      rw [putAllK_eq] at h2
      exact ⟨_, _, h2, ViewRet.weakIn (hs _ _ _ _ _ _ _ _ _ _ _ _ _ _ _ _ _ h1) (by exact ⟨⟨rfl, .inl rfl, .inl rfl, .inl rfl, .inl rfl, .inl rfl, .inr ⟨_, _, rfl, rfl⟩, .inl rfl, .inr ⟨_, _, rfl, rfl⟩, .inl rfl, .inl rfl, .inr ⟨_, _, rfl, rfl⟩, trivial⟩, trivial⟩) rfl _ _ m dst a1 a2 a3 ⟨aren_ptr _ rfl, aren_v _, trivial⟩⟩
    . cases h
  . cases h
open Classical in
theorem p_cSend (N : Nat) : Q_cSend (s_cSend N) := fun x0 y0 y1 y2 y3 y4 y5 y6 y7 y8 y9 y10 r0 z4 z5 z6 z7 h => by
  refine view_ofW (cx := cx_cSend N) (by kernel_rfl) (cxO_ok ⟨eo_oSplit _ (p_oSplit N), trivial⟩ ⟨eo_cPiece _ (p_cPiece N), trivial⟩) Try.func58 (by kernel_rfl) (by kernel_rfl) (loopsOK_of (k := 0) (by kernel_rfl) trivial) (by rfl) (by rfl) (by rfl) (rf := r_cEnc (fun r0' z'0 z'1 z'2 z'3 z'4 z'5 z'6 z'7 z'8 z'9 z'10 => if z'0 = y0 /\ z'1 = y1 /\ z'2 = y2 /\ z'3 = y3 /\ z'8 = y8 /\ z'9 = y9 /\ z'10 = y10 then some (r0', z'4, z'5, z'6, z'7) else none)) (r := (r0, z4, z5, z6, z7)) ?_ ?_
  . exact (C_cSend_ok ..).trans ((congrArg (fun K => C_cSend N x0 y0 y1 y2 y3 y4 y5 y6 y7 y8 y9 y10 K) (funext fun r0' => funext fun z'4 => funext fun z'5 => funext fun z'6 => funext fun z'7 => if_pos ⟨rfl, rfl, rfl, rfl, rfl, rfl, rfl⟩)).trans h)
  . intro rs' m' hx
    unfold r_cEnc at hx
    split at hx
    . dsimp only at hx
      split at hx
      . rename_i hk
        obtain ⟨rfl, rfl, rfl, rfl, rfl, rfl, rfl⟩ := hk
        cases hx; exact ⟨rfl, rfl, _, [⟨77, [_, _, _, _, _, _, _, _, _, _, _]⟩], rfl, rfl, ⟨⟨rfl, .inl rfl, .inl rfl, .inl rfl, .inl rfl, .inl rfl, .inr ⟨_, _, rfl, rfl⟩, .inl rfl, .inr ⟨_, _, rfl, rfl⟩, .inl rfl, .inl rfl, .inr ⟨_, _, rfl, rfl⟩, trivial⟩, trivial⟩⟩
      . cases hx
    . cases hx
abbrev Ty11 := Int -> Int -> Int -> Bool -> Int -> Bool -> List UInt8 -> Int -> Int -> Int -> Int -> Int -> List UInt8 -> Int -> List V -> List UInt8 -> Int -> List UInt8 -> Option (List UInt8 × Int × List UInt8 × Int)
noncomputable def e_cInfo {R : Type} (s : Ty11) (dst : Nat) (ds : List D) (m : Mem) (K : List D -> Mem -> Option R) : Option R :=
  match ds with
  | [.ptr (kv0 + 1) sv0 0, .agg [.v (.int .i64 x0) .no, .v (.int .i64 x1) .no, .v (.int .i64 x2) .no, .v (.bool x3) .no, .v (.int .i64 x4) .no, .v (.bool x5) .no, .v (.bytes x6) .no]] => viewK [(kv0, sv0)] m fun Bs => (match Bs with
    | [⟨77, [.v (.int .i64 y0) .no, .v (.int .i64 y1) .no, .v (.int .i64 y2) .no, .v (.int .i64 y3) .no, .v (.int .i64 y4) .no, .v (.bytes y5) _, .v (.int .i64 y6) .no, .v (.sl 27 y7) _, .v (.bytes y8) (.own (.slot 0) 5), .v (.int .i64 y9) .no, .v (.bytes y10) _]⟩] => bnd4 (s x0 x1 x2 x3 x4 x5 x6 y0 y1 y2 y3 y4 y5 y6 y7 y8 y9 y10) fun r0 z3 z8 z9 => putAllK [(kv0, sv0)] [⟨77, [.v (.int .i64 y0) .no, .v (.int .i64 y1) .no, .v (.int .i64 y2) .no, .v (.int .i64 z3) .no, .v (.int .i64 y4) .no, .v (.bytes y5) .no, .v (.int .i64 y6) .no, .v (.sl 27 y7) .no, .v (.bytes z8) (.own (.slot 0) 5), .v (.int .i64 z9) .no, .v (.bytes y10) .no]⟩] m fun m' => K [.v (.bytes r0) .no] m'
    | _ => none)
  | _ => none
noncomputable def C_cInfo {R : Type} (N : Nat) (x0 x1 x2 : Int) (x3 : Bool) (x4 : Int) (x5 : Bool) (x6 : List UInt8) (y0 y1 y2 y3 y4 : Int) (y5 : List UInt8) (y6 : Int) (y7 : List V) (y8 : List UInt8) (y9 : Int) (y10 : List UInt8) (K0 : List UInt8 -> Int -> List UInt8 -> Int -> Option R) : Option R := br (!decide (x2 = y3)) (bnd1 (s_cReady N 2 y0 y1 y2 y3 y4 y5 y6 y7 y8 y9 y10) fun l0 => K0 l0 y3 y8 y9) (br (decide (y9 = 4)) (br (decide (0 < (y7.length : Int))) (bnd1 (s_cReady N 2 y0 y1 y2 y3 y4 y5 y6 y7 y8 y9 y10) fun l1 => K0 l1 y3 y8 y9) (br (!decide (y9 = 1)) (br (decide ((0 + x6.length) * 1 <= 140737488355328)) (br (decide (65552 < (([] ++ x6).length : Int))) (bnd1 (s_cReady N 2 y0 y1 y2 (IntKind.i64.wrap (1 - y3)) y4 y5 y6 y7 [] 0 y10) fun l2 => K0 l2 (IntKind.i64.wrap (1 - y3)) [] 0) (br x3 (bnd1 (s_cReady N 0 y0 y1 y2 (IntKind.i64.wrap (1 - y3)) y4 y5 y6 y7 ([] ++ x6) 1 y10) fun l3 => K0 l3 (IntKind.i64.wrap (1 - y3)) ([] ++ x6) 1) (K0 [] (IntKind.i64.wrap (1 - y3)) ([] ++ x6) 2))) none) (br (decide ((y8.length + x6.length) * 1 <= 140737488355328)) (br (decide (65552 < ((y8 ++ x6).length : Int))) (bnd1 (s_cReady N 2 y0 y1 y2 (IntKind.i64.wrap (1 - y3)) y4 y5 y6 y7 [] 0 y10) fun l4 => K0 l4 (IntKind.i64.wrap (1 - y3)) [] 0) (br x3 (bnd1 (s_cReady N 0 y0 y1 y2 (IntKind.i64.wrap (1 - y3)) y4 y5 y6 y7 (y8 ++ x6) 1 y10) fun l5 => K0 l5 (IntKind.i64.wrap (1 - y3)) (y8 ++ x6) 1) (K0 [] (IntKind.i64.wrap (1 - y3)) (y8 ++ x6) 2))) none))) (br (!decide (y9 = 1)) (br (decide ((0 + x6.length) * 1 <= 140737488355328)) (br (decide (65552 < (([] ++ x6).length : Int))) (bnd1 (s_cReady N 2 y0 y1 y2 (IntKind.i64.wrap (1 - y3)) y4 y5 y6 y7 [] 0 y10) fun l6 => K0 l6 (IntKind.i64.wrap (1 - y3)) [] 0) (br x3 (bnd1 (s_cReady N 0 y0 y1 y2 (IntKind.i64.wrap (1 - y3)) y4 y5 y6 y7 ([] ++ x6) 1 y10) fun l7 => K0 l7 (IntKind.i64.wrap (1 - y3)) ([] ++ x6) 1) (K0 [] (IntKind.i64.wrap (1 - y3)) ([] ++ x6) 2))) none) (br (decide ((y8.length + x6.length) * 1 <= 140737488355328)) (br (decide (65552 < ((y8 ++ x6).length : Int))) (bnd1 (s_cReady N 2 y0 y1 y2 (IntKind.i64.wrap (1 - y3)) y4 y5 y6 y7 [] 0 y10) fun l8 => K0 l8 (IntKind.i64.wrap (1 - y3)) [] 0) (br x3 (bnd1 (s_cReady N 0 y0 y1 y2 (IntKind.i64.wrap (1 - y3)) y4 y5 y6 y7 (y8 ++ x6) 1 y10) fun l9 => K0 l9 (IntKind.i64.wrap (1 - y3)) (y8 ++ x6) 1) (K0 [] (IntKind.i64.wrap (1 - y3)) (y8 ++ x6) 2))) none)))
noncomputable def s_cInfo (N : Nat) (x0 x1 x2 : Int) (x3 : Bool) (x4 : Int) (x5 : Bool) (x6 : List UInt8) (y0 y1 y2 y3 y4 : Int) (y5 : List UInt8) (y6 : Int) (y7 : List V) (y8 : List UInt8) (y9 : Int) (y10 : List UInt8) : Option (List UInt8 × Int × List UInt8 × Int) := C_cInfo N x0 x1 x2 x3 x4 x5 x6 y0 y1 y2 y3 y4 y5 y6 y7 y8 y9 y10 (fun r0 z3 z8 z9 => some (r0, z3, z8, z9))
noncomputable def cx_cInfo (N : Nat) : Cx := cxO [] [⟨47, e_cReady (s_cReady N)⟩]
theorem C_cInfo_ok {R : Type} (N : Nat) (x0 x1 x2 x3 x4 x5 x6 y0 y1 y2 y3 y4 y5 y6 y7 y8 y9 y10 K : _) : bodyK (R := R) (cx_cInfo N) Try.f48 [.ptr 1 0 0, g0a x0 x1 x2 x3 x4 x5 x6] [frOf 0 [g1a y0 y1 y2 y3 y4 y5 y6 y7 y8 y9 y10]] (r_cEnc K) = C_cInfo N x0 x1 x2 x3 x4 x5 x6 y0 y1 y2 y3 y4 y5 y6 y7 y8 y9 y10 (fun r0 z3 z8 z9 => K r0 y0 y1 y2 z3 y4 y5 y6 y7 z8 z9 y10) := by
  kernel_rfl
abbrev Q_cInfo (s : Ty11) : Prop := ∀ x0 x1 x2 x3 x4 x5 x6 y0 y1 y2 y3 y4 y5 y6 y7 y8 y9 y10 r0 z3 z8 z9, s x0 x1 x2 x3 x4 x5 x6 y0 y1 y2 y3 y4 y5 y6 y7 y8 y9 y10 = some (r0, z3, z8, z9) -> ViewRet Try.prog T 48 [.ptr 1 0 0, g0a x0 x1 x2 x3 x4 x5 x6] [g1a y0 y1 y2 y3 y4 y5 y6 y7 y8 y9 y10] [dY r0] [g1a y0 y1 y2 z3 y4 y5 y6 y7 z8 z9 y10]
theorem eo_cInfo (s : Ty11) (hs : Q_cInfo s) : MEntOK Try.prog T ⟨48, e_cInfo s⟩ := by
  refine ⟨goes_of Try.func48 (by kernel_rfl) (c := bodyOf Try.f48) (by kernel_rfl), fun R dst ds m K r h => ?_⟩
  simp only [e_cInfo] at h
  split at h
  . obtain ⟨Bs, a1, a2, a3, h⟩ := viewK_some h
    split at h
    . obtain ⟨r0, z3, z8, z9, h1, h2⟩ := bnd4_some h
      rw [putAllK_eq] at h2
      exact ⟨_, _, h2, ViewRet.weakIn (hs _ _ _ _ _ _ _ _ _ _ _ _ _ _ _ _ _ _ _ _ _ _ h1) (by exact ⟨⟨rfl, .inl rfl, .inl rfl, .inl rfl, .inl rfl, .inl rfl, .inr ⟨_, _, rfl, rfl⟩, .inl rfl, .inr ⟨_, _, rfl, rfl⟩, .inl rfl, .inl rfl, .inr ⟨_, _, rfl, rfl⟩, trivial⟩, trivial⟩) rfl _ _ m dst a1 a2 a3 ⟨aren_ptr _ rfl, aren_agg ⟨aren_v _, aren_v _, aren_v _, aren_v _, aren_v _, aren_v _, aren_v _, trivial⟩, trivial⟩⟩
    . cases h
  . cases h
open Classical in
theorem p_cInfo (N : Nat) : Q_cInfo (s_cInfo N) := fun x0 x1 x2 x3 x4 x5 x6 y0 y1 y2 y3 y4 y5 y6 y7 y8 y9 y10 r0 z3 z8 z9 h => by
  refine view_ofW (cx := cx_cInfo N) (by kernel_rfl) (cxO_ok trivial ⟨eo_cReady _ (p_cReady N), trivial⟩) Try.func48 (by kernel_rfl) (by kernel_rfl) (loopsOK_of (k := 0) (by kernel_rfl) trivial) (by rfl) (by rfl) (by rfl) (rf := r_cEnc (fun r0' z'0 z'1 z'2 z'3 z'4 z'5 z'6 z'7 z'8 z'9 z'10 => if z'0 = y0 /\ z'1 = y1 /\ z'2 = y2 /\ z'4 = y4 /\ z'5 = y5 /\ z'6 = y6 /\ z'7 = y7 /\ z'10 = y10 then some (r0', z'3, z'8, z'9) else none)) (r := (r0, z3, z8, z9)) ?_ ?_
  . exact (C_cInfo_ok ..).trans ((congrArg (fun K => C_cInfo N x0 x1 x2 x3 x4 x5 x6 y0 y1 y2 y3 y4 y5 y6 y7 y8 y9 y10 K) (funext fun r0' => funext fun z'3 => funext fun z'8 => funext fun z'9 => if_pos ⟨rfl, rfl, rfl, rfl, rfl, rfl, rfl, rfl⟩)).trans h)
  . intro rs' m' hx
    unfold r_cEnc at hx
    split at hx
    . dsimp only at hx
      split at hx
      . rename_i hk
        obtain ⟨rfl, rfl, rfl, rfl, rfl, rfl, rfl, rfl⟩ := hk
        cases hx; exact ⟨rfl, rfl, _, [⟨77, [_, _, _, _, _, _, _, _, _, _, _]⟩], rfl, rfl, ⟨⟨rfl, .inl rfl, .inl rfl, .inl rfl, .inl rfl, .inl rfl, .inr ⟨_, _, rfl, rfl⟩, .inl rfl, .inr ⟨_, _, rfl, rfl⟩, .inl rfl, .inl rfl, .inr ⟨_, _, rfl, rfl⟩, trivial⟩, trivial⟩⟩
      . cases hx
    . cases hx
abbrev Ty12 := Int -> Int -> Int -> Bool -> Int -> Bool -> List UInt8 -> Int -> Int -> Int -> Int -> Int -> List UInt8 -> Int -> List V -> List UInt8 -> Int -> List UInt8 -> Option (List UInt8 × Int × List UInt8 × Int × List V)
noncomputable def e_cAgain {R : Type} (s : Ty12) (dst : Nat) (ds : List D) (m : Mem) (K : List D -> Mem -> Option R) : Option R :=
  match ds with
  | [.ptr (kv0 + 1) sv0 0, .agg [.v (.int .i64 x0) .no, .v (.int .i64 x1) .no, .v (.int .i64 x2) .no, .v (.bool x3) .no, .v (.int .i64 x4) .no, .v (.bool x5) .no, .v (.bytes x6) .no]] => viewK [(kv0, sv0)] m fun Bs => (match Bs with
    | [⟨77, [.v (.int .i64 y0) .no, .v (.int .i64 y1) .no, .v (.int .i64 y2) .no, .v (.int .i64 y3) .no, .v (.int .i64 y4) .no, .v (.bytes y5) _, .v (.int .i64 y6) .no, .v (.sl 27 y7) _, .v (.bytes y8) (.own (.slot 0) 5), .v (.int .i64 y9) .no, .v (.bytes y10) _]⟩] => bnd5 (s x0 x1 x2 x3 x4 x5 x6 y0 y1 y2 y3 y4 y5 y6 y7 y8 y9 y10) fun r0 z4 z5 z6 z7 => putAllK [(kv0, sv0)] [⟨77, [.v (.int .i64 y0) .no, .v (.int .i64 y1) .no, .v (.int .i64 y2) .no, .v (.int .i64 y3) .no, .v (.int .i64 z4) .no, .v (.bytes z5) .no, .v (.int .i64 z6) .no, .v (.sl 27 z7) .no, .v (.bytes y8) (.own (.slot 0) 5), .v (.int .i64 y9) .no, .v (.bytes y10) .no]⟩] m fun m' => K [.v (.bytes r0) .no] m'
    | _ => none)
  | _ => none
noncomputable def C_cAgain {R : Type} (N : Nat) (x0 x1 x2 : Int) (x3 : Bool) (x4 : Int) (x5 : Bool) (x6 : List UInt8) (y0 y1 y2 y3 y4 : Int) (y5 : List UInt8) (y6 : Int) (y7 : List V) (y8 : List UInt8) (y9 : Int) (y10 : List UInt8) (K0 : List UInt8 -> Int -> List UInt8 -> Int -> List V -> Option R) : Option R := br (decide (y9 = 4)) (br (decide (x2 = y6)) (bnd1 (s_clone N y5) fun l0 => K0 l0 y4 y5 y6 y7) (br (decide (y9 = 4)) (br (decide (0 < (y7.length : Int))) (bnd5 (s_cPiece N y0 y1 y2 y3 y4 y5 y6 y7 y8 y9 y10) fun l1 n2 l3 n4 l5 => K0 l1 n2 l3 n4 l5) (bnd1 (s_cReady N 0 y0 y1 y2 y3 y4 y5 y6 y7 y8 y9 y10) fun l6 => K0 l6 y4 y5 y6 y7)) (bnd1 (s_cReady N 0 y0 y1 y2 y3 y4 y5 y6 y7 y8 y9 y10) fun l7 => K0 l7 y4 y5 y6 y7))) (br (decide (y9 = 4)) (br (decide (0 < (y7.length : Int))) (bnd5 (s_cPiece N y0 y1 y2 y3 y4 y5 y6 y7 y8 y9 y10) fun l8 n9 l10 n11 l12 => K0 l8 n9 l10 n11 l12) (bnd1 (s_cReady N 0 y0 y1 y2 y3 y4 y5 y6 y7 y8 y9 y10) fun l13 => K0 l13 y4 y5 y6 y7)) (bnd1 (s_cReady N 0 y0 y1 y2 y3 y4 y5 y6 y7 y8 y9 y10) fun l14 => K0 l14 y4 y5 y6 y7))
noncomputable def s_cAgain (N : Nat) (x0 x1 x2 : Int) (x3 : Bool) (x4 : Int) (x5 : Bool) (x6 : List UInt8) (y0 y1 y2 y3 y4 : Int) (y5 : List UInt8) (y6 : Int) (y7 : List V) (y8 : List UInt8) (y9 : Int) (y10 : List UInt8) : Option (List UInt8 × Int × List UInt8 × Int × List V) := C_cAgain N x0 x1 x2 x3 x4 x5 x6 y0 y1 y2 y3 y4 y5 y6 y7 y8 y9 y10 (fun r0 z4 z5 z6 z7 => some (r0, z4, z5, z6, z7))
noncomputable def cx_cAgain (N : Nat) : Cx := cxO [⟨60, e_clone (s_clone N)⟩] [⟨47, e_cReady (s_cReady N)⟩, ⟨82, e_cPiece (s_cPiece N)⟩]
theorem C_cAgain_ok {R : Type} (N : Nat) (x0 x1 x2 x3 x4 x5 x6 y0 y1 y2 y3 y4 y5 y6 y7 y8 y9 y10 K : _) : bodyK (R := R) (cx_cAgain N) Try.f49 [.ptr 1 0 0, g0a x0 x1 x2 x3 x4 x5 x6] [frOf 0 [g1a y0 y1 y2 y3 y4 y5 y6 y7 y8 y9 y10]] (r_cEnc K) = C_cAgain N x0 x1 x2 x3 x4 x5 x6 y0 y1 y2 y3 y4 y5 y6 y7 y8 y9 y10 (fun r0 z4 z5 z6 z7 => K r0 y0 y1 y2 y3 z4 z5 z6 z7 y8 y9 y10) := by
  kernel_rfl
abbrev Q_cAgain (s : Ty12) : Prop := ∀ x0 x1 x2 x3 x4 x5 x6 y0 y1 y2 y3 y4 y5 y6 y7 y8 y9 y10 r0 z4 z5 z6 z7, s x0 x1 x2 x3 x4 x5 x6 y0 y1 y2 y3 y4 y5 y6 y7 y8 y9 y10 = some (r0, z4, z5, z6, z7) -> ViewRet Try.prog T 49 [.ptr 1 0 0, g0a x0 x1 x2 x3 x4 x5 x6] [g1a y0 y1 y2 y3 y4 y5 y6 y7 y8 y9 y10] [dY r0] [g1a y0 y1 y2 y3 z4 z5 z6 z7 y8 y9 y10]
theorem eo_cAgain (s : Ty12) (hs : Q_cAgain s) : MEntOK Try.prog T ⟨49, e_cAgain s⟩ := by
  refine ⟨goes_of Try.func49 (by kernel_rfl) (c := bodyOf Try.f49) (by kernel_rfl), fun R dst ds m K r h => ?_⟩
  simp only [e_cAgain] at h
  split at h
  . obtain ⟨Bs, a1, a2, a3, h⟩ := viewK_some h
    split at h
    . obtain ⟨r0, z4, z5, z6, z7, h1, h2⟩ := bnd5_some h
      rw [putAllK_eq] at h2
      exact ⟨_, _, h2, ViewRet.weakIn (hs _ _ _ _ _ _ _ _ _ _ _ _ _ _ _ _ _ _ _ _ _ _ _ h1) (by exact ⟨⟨rfl, .inl rfl, .inl rfl, .inl rfl, .inl rfl, .inl rfl, .inr ⟨_, _, rfl, rfl⟩, .inl rfl, .inr ⟨_, _, rfl, rfl⟩, .inl rfl, .inl rfl, .inr ⟨_, _, rfl, rfl⟩, trivial⟩, trivial⟩) rfl _ _ m dst a1 a2 a3 ⟨aren_ptr _ rfl, aren_agg ⟨aren_v _, aren_v _, aren_v _, aren_v _, aren_v _, aren_v _, aren_v _, trivial⟩, trivial⟩⟩
    . cases h
  . cases h
open Classical in
theorem p_cAgain (N : Nat) : Q_cAgain (s_cAgain N) := fun x0 x1 x2 x3 x4 x5 x6 y0 y1 y2 y3 y4 y5 y6 y7 y8 y9 y10 r0 z4 z5 z6 z7 h => by
  refine view_ofW (cx := cx_cAgain N) (by kernel_rfl) (cxO_ok ⟨eo_clone _ (p_clone N), trivial⟩ ⟨eo_cReady _ (p_cReady N), eo_cPiece _ (p_cPiece N), trivial⟩) Try.func49 (by kernel_rfl) (by kernel_rfl) (loopsOK_of (k := 0) (by kernel_rfl) trivial) (by rfl) (by rfl) (by rfl) (rf := r_cEnc (fun r0' z'0 z'1 z'2 z'3 z'4 z'5 z'6 z'7 z'8 z'9 z'10 => if z'0 = y0 /\ z'1 = y1 /\ z'2 = y2 /\ z'3 = y3 /\ z'8 = y8 /\ z'9 = y9 /\ z'10 = y10 then some (r0', z'4, z'5, z'6, z'7) else none)) (r := (r0, z4, z5, z6, z7)) ?_ ?_
  . exact (C_cAgain_ok ..).trans ((congrArg (fun K => C_cAgain N x0 x1 x2 x3 x4 x5 x6 y0 y1 y2 y3 y4 y5 y6 y7 y8 y9 y10 K) (funext fun r0' => funext fun z'4 => funext fun z'5 => funext fun z'6 => funext fun z'7 => if_pos ⟨rfl, rfl, rfl, rfl, rfl, rfl, rfl⟩)).trans h)
  . intro rs' m' hx
    unfold r_cEnc at hx
    split at hx
    . dsimp only at hx
      split at hx
      . rename_i hk
        obtain ⟨rfl, rfl, rfl, rfl, rfl, rfl, rfl⟩ := hk
        cases hx; exact ⟨rfl, rfl, _, [⟨77, [_, _, _, _, _, _, _, _, _, _, _]⟩], rfl, rfl, ⟨⟨rfl, .inl rfl, .inl rfl, .inl rfl, .inl rfl, .inl rfl, .inr ⟨_, _, rfl, rfl⟩, .inl rfl, .inr ⟨_, _, rfl, rfl⟩, .inl rfl, .inl rfl, .inr ⟨_, _, rfl, rfl⟩, trivial⟩, trivial⟩⟩
      . cases hx
    . cases hx
abbrev Ty13 := Int -> Int -> Int -> Bool -> Int -> Bool -> List UInt8 -> Int -> Int -> Int -> Int -> Int -> List UInt8 -> Int -> List V -> List UInt8 -> Int -> List UInt8 -> Option (List UInt8 × Int × Int × Int × List UInt8 × List V × List UInt8 × Int)
noncomputable def e_cSuper {R : Type} (s : Ty13) (dst : Nat) (ds : List D) (m : Mem) (K : List D -> Mem -> Option R) : Option R :=
  match ds with
  | [.ptr (kv0 + 1) sv0 0, .agg [.v (.int .i64 x0) .no, .v (.int .i64 x1) .no, .v (.int .i64 x2) .no, .v (.bool x3) .no, .v (.int .i64 x4) .no, .v (.bool x5) .no, .v (.bytes x6) .no]] => viewK [(kv0, sv0)] m fun Bs => (match Bs with
    | [⟨77, [.v (.int .i64 y0) .no, .v (.int .i64 y1) .no, .v (.int .i64 y2) .no, .v (.int .i64 y3) .no, .v (.int .i64 y4) .no, .v (.bytes y5) _, .v (.int .i64 y6) .no, .v (.sl 27 y7) _, .v (.bytes y8) (.own (.slot 0) 5), .v (.int .i64 y9) .no, .v (.bytes y10) _]⟩] => bnd8 (s x0 x1 x2 x3 x4 x5 x6 y0 y1 y2 y3 y4 y5 y6 y7 y8 y9 y10) fun r0 z2 z3 z4 z5 z7 z8 z9 => putAllK [(kv0, sv0)] [⟨77, [.v (.int .i64 y0) .no, .v (.int .i64 y1) .no, .v (.int .i64 z2) .no, .v (.int .i64 z3) .no, .v (.int .i64 z4) .no, .v (.bytes z5) .no, .v (.int .i64 y6) .no, .v (.sl 27 z7) .no, .v (.bytes z8) (.own (.slot 0) 5), .v (.int .i64 z9) .no, .v (.bytes y10) .no]⟩] m fun m' => K [.v (.bytes r0) .no] m'
    | _ => none)
  | _ => none
noncomputable def C_cSuper {R : Type} (N : Nat) (x0 x1 x2 : Int) (x3 : Bool) (x4 : Int) (x5 : Bool) (x6 : List UInt8) (y0 y1 y2 y3 y4 : Int) (y5 : List UInt8) (y6 : Int) (y7 : List V) (y8 : List UInt8) (y9 : Int) (y10 : List UInt8) (K0 : List UInt8 -> Int -> Int -> Int -> List UInt8 -> List V -> List UInt8 -> Int -> Option R) : Option R := br x5 (bnd1 (s_cReady N 2 y0 y1 y2 y3 y4 y5 y6 y7 y8 y9 y10) fun l0 => K0 l0 y2 y3 y4 y5 y7 y8 y9) (br (decide (x4 = 0)) (bnd1 (s_cSpecial N x4 true x6 y0 y1 y2 0 0 [] y6 [] [] 0 y10) fun l1 => K0 l1 y2 0 0 [] [] [] 0) (br (decide (x4 = 1)) (bnd1 (s_tsize N x0 x1 x2 x3 x4 x5 x6) fun n2 => br (decide (0 < n2)) (bnd1 (s_tsize N x0 x1 x2 x3 x4 x5 x6) fun n3 => bnd1 (s_cSpecial N x4 true x6 y0 y1 n3 y3 y4 y5 y6 y7 y8 y9 y10) fun l4 => K0 l4 n3 y3 y4 y5 y7 y8 y9) (br (decide (x4 = 2)) (bnd1 (s_cSpecial N x4 true x6 y0 y1 y2 y3 y4 y5 y6 [] [] 0 y10) fun l5 => K0 l5 y2 y3 y4 y5 [] [] 0) (bnd1 (s_cReady N 2 y0 y1 y2 y3 y4 y5 y6 y7 y8 y9 y10) fun l6 => K0 l6 y2 y3 y4 y5 y7 y8 y9))) (br (decide (x4 = 2)) (bnd1 (s_cSpecial N x4 true x6 y0 y1 y2 y3 y4 y5 y6 [] [] 0 y10) fun l7 => K0 l7 y2 y3 y4 y5 [] [] 0) (bnd1 (s_cReady N 2 y0 y1 y2 y3 y4 y5 y6 y7 y8 y9 y10) fun l8 => K0 l8 y2 y3 y4 y5 y7 y8 y9))))
noncomputable def s_cSuper (N : Nat) (x0 x1 x2 : Int) (x3 : Bool) (x4 : Int) (x5 : Bool) (x6 : List UInt8) (y0 y1 y2 y3 y4 : Int) (y5 : List UInt8) (y6 : Int) (y7 : List V) (y8 : List UInt8) (y9 : Int) (y10 : List UInt8) : Option (List UInt8 × Int × Int × Int × List UInt8 × List V × List UInt8 × Int) := C_cSuper N x0 x1 x2 x3 x4 x5 x6 y0 y1 y2 y3 y4 y5 y6 y7 y8 y9 y10 (fun r0 z2 z3 z4 z5 z7 z8 z9 => some (r0, z2, z3, z4, z5, z7, z8, z9))
noncomputable def cx_cSuper (N : Nat) : Cx := cxO [⟨83, e_tsize (s_tsize N)⟩] [⟨47, e_cReady (s_cReady N)⟩, ⟨46, e_cSpecial (s_cSpecial N)⟩]
theorem C_cSuper_ok {R : Type} (N : Nat) (x0 x1 x2 x3 x4 x5 x6 y0 y1 y2 y3 y4 y5 y6 y7 y8 y9 y10 K : _) : bodyK (R := R) (cx_cSuper N) Try.f50 [.ptr 1 0 0, g0a x0 x1 x2 x3 x4 x5 x6] [frOf 0 [g1a y0 y1 y2 y3 y4 y5 y6 y7 y8 y9 y10]] (r_cEnc K) = C_cSuper N x0 x1 x2 x3 x4 x5 x6 y0 y1 y2 y3 y4 y5 y6 y7 y8 y9 y10 (fun r0 z2 z3 z4 z5 z7 z8 z9 => K r0 y0 y1 z2 z3 z4 z5 y6 z7 z8 z9 y10) := by
  kernel_rfl
abbrev Q_cSuper (s : Ty13) : Prop := ∀ x0 x1 x2 x3 x4 x5 x6 y0 y1 y2 y3 y4 y5 y6 y7 y8 y9 y10 r0 z2 z3 z4 z5 z7 z8 z9, s x0 x1 x2 x3 x4 x5 x6 y0 y1 y2 y3 y4 y5 y6 y7 y8 y9 y10 = some (r0, z2, z3, z4, z5, z7, z8, z9) -> ViewRet Try.prog T 50 [.ptr 1 0 0, g0a x0 x1 x2 x3 x4 x5 x6] [g1a y0 y1 y2 y3 y4 y5 y6 y7 y8 y9 y10] [dY r0] [g1a y0 y1 z2 z3 z4 z5 y6 z7 z8 z9 y10]
theorem eo_cSuper (s : Ty13) (hs : Q_cSuper s) : MEntOK Try.prog T ⟨50, e_cSuper s⟩ := by
  refine ⟨goes_of Try.func50 (by kernel_rfl) (c := bodyOf Try.f50) (by kernel_rfl), fun R dst ds m K r h => ?_⟩
  simp only [e_cSuper] at h
  split at h
  . obtain ⟨Bs, a1, a2, a3, h⟩ := viewK_some h
    split at h
    . obtain ⟨r0, z2, z3, z4, z5, z7, z8, z9, h1, h2⟩ := bnd8_some h
      rw [putAllK_eq] at h2
      exact ⟨_, _, h2, ViewRet.weakIn (hs _ _ _ _ _ _ _ _ _ _ _ _ _ _ _ _ _ _ _ _ _ _ _ _ _ _ h1) (by exact ⟨⟨rfl, .inl rfl, .inl rfl, .inl rfl, .inl rfl, .inl rfl, .inr ⟨_, _, rfl, rfl⟩, .inl rfl, .inr ⟨_, _, rfl, rfl⟩, .inl rfl, .inl rfl, .inr ⟨_, _, rfl, rfl⟩, trivial⟩, trivial⟩) rfl _ _ m dst a1 a2 a3 ⟨aren_ptr _ rfl, aren_agg ⟨aren_v _, aren_v _, aren_v _, aren_v _, aren_v _, aren_v _, aren_v _, trivial⟩, trivial⟩⟩
    . cases h
  . cases h
open Classical in
theorem p_cSuper (N : Nat) : Q_cSuper (s_cSuper N) := fun x0 x1 x2 x3 x4 x5 x6 y0 y1 y2 y3 y4 y5 y6 y7 y8 y9 y10 r0 z2 z3 z4 z5 z7 z8 z9 h => by
  refine view_ofW (cx := cx_cSuper N) (by kernel_rfl) (cxO_ok ⟨eo_tsize _ (p_tsize N), trivial⟩ ⟨eo_cReady _ (p_cReady N), eo_cSpecial _ (p_cSpecial N), trivial⟩) Try.func50 (by kernel_rfl) (by kernel_rfl) (loopsOK_of (k := 0) (by kernel_rfl) trivial) (by rfl) (by rfl) (by rfl) (rf := r_cEnc (fun r0' z'0 z'1 z'2 z'3 z'4 z'5 z'6 z'7 z'8 z'9 z'10 => if z'0 = y0 /\ z'1 = y1 /\ z'6 = y6 /\ z'10 = y10 then some (r0', z'2, z'3, z'4, z'5, z'7, z'8, z'9) else none)) (r := (r0, z2, z3, z4, z5, z7, z8, z9)) ?_ ?_
  . exact (C_cSuper_ok ..).trans ((congrArg (fun K => C_cSuper N x0 x1 x2 x3 x4 x5 x6 y0 y1 y2 y3 y4 y5 y6 y7 y8 y9 y10 K) (funext fun r0' => funext fun z'2 => funext fun z'3 => funext fun z'4 => funext fun z'5 => funext fun z'7 => funext fun z'8 => funext fun z'9 => if_pos ⟨rfl, rfl, rfl, rfl⟩)).trans h)
  . intro rs' m' hx
    unfold r_cEnc at hx
    split at hx
    . dsimp only at hx
      split at hx
      . rename_i hk
        obtain ⟨rfl, rfl, rfl, rfl⟩ := hk
        cases hx; exact ⟨rfl, rfl, _, [⟨77, [_, _, _, _, _, _, _, _, _, _, _]⟩], rfl, rfl, ⟨⟨rfl, .inl rfl, .inl rfl, .inl rfl, .inl rfl, .inl rfl, .inr ⟨_, _, rfl, rfl⟩, .inl rfl, .inr ⟨_, _, rfl, rfl⟩, .inl rfl, .inl rfl, .inr ⟨_, _, rfl, rfl⟩, trivial⟩, trivial⟩⟩
      . cases hx
    . cases hx
abbrev Ty14 := List UInt8 -> Int -> Int -> Int -> Int -> Int -> List UInt8 -> Int -> List V -> List UInt8 -> Int -> List UInt8 -> Option (List UInt8 × Int × Int × Int × List UInt8 × Int × List V × List UInt8 × Int)
noncomputable def e_cReceive {R : Type} (s : Ty14) (dst : Nat) (ds : List D) (m : Mem) (K : List D -> Mem -> Option R) : Option R :=
  match ds with
  | [.ptr (kv0 + 1) sv0 0, .v (.bytes x0) .no] => viewK [(kv0, sv0)] m fun Bs => (match Bs with
    | [⟨77, [.v (.int .i64 y0) .no, .v (.int .i64 y1) .no, .v (.int .i64 y2) .no, .v (.int .i64 y3) .no, .v (.int .i64 y4) .no, .v (.bytes y5) _, .v (.int .i64 y6) .no, .v (.sl 27 y7) _, .v (.bytes y8) (.own (.slot 0) 5), .v (.int .i64 y9) .no, .v (.bytes y10) _]⟩] => bnd9 (s x0 y0 y1 y2 y3 y4 y5 y6 y7 y8 y9 y10) fun r0 z2 z3 z4 z5 z6 z7 z8 z9 => putAllK [(kv0, sv0)] [⟨77, [.v (.int .i64 y0) .no, .v (.int .i64 y1) .no, .v (.int .i64 z2) .no, .v (.int .i64 z3) .no, .v (.int .i64 z4) .no, .v (.bytes z5) .no, .v (.int .i64 z6) .no, .v (.sl 27 z7) .no, .v (.bytes z8) (.own (.slot 0) 5), .v (.int .i64 z9) .no, .v (.bytes y10) .no]⟩] m fun m' => K [.v (.bytes r0) .no] m'
    | _ => none)
  | _ => none
noncomputable def C_cReceive {R : Type} (N : Nat) (x0 : List UInt8) (y0 y1 y2 y3 y4 : Int) (y5 : List UInt8) (y6 : Int) (y7 : List V) (y8 : List UInt8) (y9 : Int) (y10 : List UInt8) (K0 : List UInt8 -> Int -> Int -> Int -> List UInt8 -> Int -> List V -> List UInt8 -> Int -> Option R) : Option R := bnd1 (s_cMade N y0 y1 y2 y3 y4 y5 y6 y7 y8 y9 y10) fun b0 => br (!b0) (K0 [] y2 y3 y4 y5 y6 y7 y8 y9) (br (decide (y9 = 2)) (K0 [] y2 y3 y4 y5 y6 y7 y8 y9) (bnd8 (s_cDecode N x0 y0 y1 y2 y3 y4 y5 y6 y7 y8 y9 y10) fun n1 n2 n3 b4 n5 b6 l7 n8 => br (decide (y9 = 3)) (br (decide (n8 = 0)) (bnd1 (s_bSame N n1 n2 n3 b4 n5 b6 l7 0 2 0 false 3 true y10) fun b9 => br b9 (K0 [] y2 y3 y4 y5 y6 y7 y8 2) (bnd1 (s_cSpecial N 3 false y10 y0 y1 y2 y3 y4 y5 y6 y7 y8 y9 y10) fun l10 => K0 l10 y2 y3 y4 y5 y6 y7 y8 y9)) (bnd1 (s_cSpecial N 3 false y10 y0 y1 y2 y3 y4 y5 y6 y7 y8 y9 y10) fun l11 => K0 l11 y2 y3 y4 y5 y6 y7 y8 y9)) (br (!decide (n8 = 0)) (bnd1 (s_cReady N n8 y0 y1 y2 y3 y4 y5 y6 y7 y8 y9 y10) fun l12 => K0 l12 y2 y3 y4 y5 y6 y7 y8 y9) (br (decide (n2 = 0)) (bnd4 (s_cInfo N n1 n2 n3 b4 n5 b6 l7 y0 y1 y2 y3 y4 y5 y6 y7 y8 y9 y10) fun l13 n14 l15 n16 => K0 l13 y2 n14 y4 y5 y6 y7 l15 n16) (br (decide (n2 = 1)) (bnd5 (s_cAgain N n1 n2 n3 b4 n5 b6 l7 y0 y1 y2 y3 y4 y5 y6 y7 y8 y9 y10) fun l17 n18 l19 n20 l21 => K0 l17 y2 y3 n18 l19 n20 l21 y8 y9) (bnd8 (s_cSuper N n1 n2 n3 b4 n5 b6 l7 y0 y1 y2 y3 y4 y5 y6 y7 y8 y9 y10) fun l22 n23 n24 n25 l26 l27 l28 n29 => K0 l22 n23 n24 n25 l26 y6 l27 l28 n29))))))
noncomputable def s_cReceive (N : Nat) (x0 : List UInt8) (y0 y1 y2 y3 y4 : Int) (y5 : List UInt8) (y6 : Int) (y7 : List V) (y8 : List UInt8) (y9 : Int) (y10 : List UInt8) : Option (List UInt8 × Int × Int × Int × List UInt8 × Int × List V × List UInt8 × Int) := C_cReceive N x0 y0 y1 y2 y3 y4 y5 y6 y7 y8 y9 y10 (fun r0 z2 z3 z4 z5 z6 z7 z8 z9 => some (r0, z2, z3, z4, z5, z6, z7, z8, z9))
noncomputable def cx_cReceive (N : Nat) : Cx := cxO [⟨45, e_bSame (s_bSame N)⟩] [⟨43, e_cMade (s_cMade N)⟩, ⟨44, e_cDecode (s_cDecode N)⟩, ⟨46, e_cSpecial (s_cSpecial N)⟩, ⟨47, e_cReady (s_cReady N)⟩, ⟨48, e_cInfo (s_cInfo N)⟩, ⟨49, e_cAgain (s_cAgain N)⟩, ⟨50, e_cSuper (s_cSuper N)⟩]
theorem C_cReceive_ok {R : Type} (N : Nat) (x0 y0 y1 y2 y3 y4 y5 y6 y7 y8 y9 y10 K : _) : bodyK (R := R) (cx_cReceive N) Try.f13 [.ptr 1 0 0, dY x0] [frOf 0 [g1a y0 y1 y2 y3 y4 y5 y6 y7 y8 y9 y10]] (r_cEnc K) = C_cReceive N x0 y0 y1 y2 y3 y4 y5 y6 y7 y8 y9 y10 (fun r0 z2 z3 z4 z5 z6 z7 z8 z9 => K r0 y0 y1 z2 z3 z4 z5 z6 z7 z8 z9 y10) := by
  kernel_rfl
abbrev Q_cReceive (s : Ty14) : Prop := ∀ x0 y0 y1 y2 y3 y4 y5 y6 y7 y8 y9 y10 r0 z2 z3 z4 z5 z6 z7 z8 z9, s x0 y0 y1 y2 y3 y4 y5 y6 y7 y8 y9 y10 = some (r0, z2, z3, z4, z5, z6, z7, z8, z9) -> ViewRet Try.prog T 13 [.ptr 1 0 0, dY x0] [g1a y0 y1 y2 y3 y4 y5 y6 y7 y8 y9 y10] [dY r0] [g1a y0 y1 z2 z3 z4 z5 z6 z7 z8 z9 y10]
theorem eo_cReceive (s : Ty14) (hs : Q_cReceive s) : MEntOK Try.prog T ⟨13, e_cReceive s⟩ := by
  refine ⟨goes_of Try.func13 (by kernel_rfl) (c := bodyOf Try.f13) (by kernel_rfl), fun R dst ds m K r h => ?_⟩
  simp only [e_cReceive] at h
  split at h
  . obtain ⟨Bs, a1, a2, a3, h⟩ := viewK_some h
    split at h
    . obtain ⟨r0, z2, z3, z4, z5, z6, z7, z8, z9, h1, h2⟩ := bnd9_some h
      rw [putAllK_eq] at h2
      exact ⟨_, _, h2, ViewRet.weakIn (hs _ _ _ _ _ _ _ _ _ _ _ _ _ _ _ _ _ _ _ _ _ h1) (by exact ⟨⟨rfl, .inl rfl, .inl rfl, .inl rfl, .inl rfl, .inl rfl, .inr ⟨_, _, rfl, rfl⟩, .inl rfl, .inr ⟨_, _, rfl, rfl⟩, .inl rfl, .inl rfl, .inr ⟨_, _, rfl, rfl⟩, trivial⟩, trivial⟩) rfl _ _ m dst a1 a2 a3 ⟨aren_ptr _ rfl, aren_v _, trivial⟩⟩
    . cases h
  . cases h
open Classical in
theorem p_cReceive (N : Nat) : Q_cReceive (s_cReceive N) := fun x0 y0 y1 y2 y3 y4 y5 y6 y7 y8 y9 y10 r0 z2 z3 z4 z5 z6 z7 z8 z9 h => by
  refine view_ofW (cx := cx_cReceive N) (by kernel_rfl) (cxO_ok ⟨eo_bSame _ (p_bSame N), trivial⟩ ⟨eo_cMade _ (p_cMade N), eo_cDecode _ (p_cDecode N), eo_cSpecial _ (p_cSpecial N), eo_cReady _ (p_cReady N), eo_cInfo _ (p_cInfo N), eo_cAgain _ (p_cAgain N), eo_cSuper _ (p_cSuper N), trivial⟩) Try.func13 (by kernel_rfl) (by kernel_rfl) (loopsOK_of (k := 0) (by kernel_rfl) trivial) (by rfl) (by rfl) (by rfl) (rf := r_cEnc (fun r0' z'0 z'1 z'2 z'3 z'4 z'5 z'6 z'7 z'8 z'9 z'10 => if z'0 = y0 /\ z'1 = y1 /\ z'10 = y10 then some (r0', z'2, z'3, z'4, z'5, z'6, z'7, z'8, z'9) else none)) (r := (r0, z2, z3, z4, z5, z6, z7, z8, z9)) ?_ ?_
  . exact (C_cReceive_ok ..).trans ((congrArg (fun K => C_cReceive N x0 y0 y1 y2 y3 y4 y5 y6 y7 y8 y9 y10 K) (funext fun r0' => funext fun z'2 => funext fun z'3 => funext fun z'4 => funext fun z'5 => funext fun z'6 => funext fun z'7 => funext fun z'8 => funext fun z'9 => if_pos ⟨rfl, rfl, rfl⟩)).trans h)
  . intro rs' m' hx
    unfold r_cEnc at hx
    split at hx
    . dsimp only at hx
      split at hx
      . rename_i hk
        obtain ⟨rfl, rfl, rfl⟩ := hk
        cases hx; exact ⟨rfl, rfl, _, [⟨77, [_, _, _, _, _, _, _, _, _, _, _]⟩], rfl, rfl, ⟨⟨rfl, .inl rfl, .inl rfl, .inl rfl, .inl rfl, .inl rfl, .inr ⟨_, _, rfl, rfl⟩, .inl rfl, .inr ⟨_, _, rfl, rfl⟩, .inl rfl, .inl rfl, .inr ⟨_, _, rfl, rfl⟩, trivial⟩, trivial⟩⟩
      . cases hx
    . cases hx
abbrev Ty15 := Int -> Int -> Int -> Int -> Int -> List UInt8 -> Int -> List V -> List UInt8 -> Int -> List UInt8 -> Option (List UInt8 × Bool)
noncomputable def e_cCommand {R : Type} (s : Ty15) (dst : Nat) (ds : List D) (m : Mem) (K : List D -> Mem -> Option R) : Option R :=
  match ds with
  | [.ptr (kv0 + 1) sv0 0] => viewK [(kv0, sv0)] m fun Bs => (match Bs with
    | [⟨77, [.v (.int .i64 y0) .no, .v (.int .i64 y1) .no, .v (.int .i64 y2) .no, .v (.int .i64 y3) .no, .v (.int .i64 y4) .no, .v (.bytes y5) _, .v (.int .i64 y6) .no, .v (.sl 27 y7) _, .v (.bytes y8) (.own (.slot 0) 5), .v (.int .i64 y9) .no, .v (.bytes y10) _]⟩] => bnd2 (s y0 y1 y2 y3 y4 y5 y6 y7 y8 y9 y10) fun r0 r1 => putAllK [(kv0, sv0)] [⟨77, [.v (.int .i64 y0) .no, .v (.int .i64 y1) .no, .v (.int .i64 y2) .no, .v (.int .i64 y3) .no, .v (.int .i64 y4) .no, .v (.bytes y5) .no, .v (.int .i64 y6) .no, .v (.sl 27 y7) .no, .v (.bytes y8) (.own (.slot 0) 5), .v (.int .i64 y9) .no, .v (.bytes y10) .no]⟩] m fun m' => K [.v (.bytes r0) .no, .v (.bool r1) .no] m'
    | _ => none)
  | _ => none
noncomputable def r_cCommand {α : Type} (K : List UInt8 -> Bool -> Int -> Int -> Int -> Int -> Int -> List UInt8 -> Int -> List V -> List UInt8 -> Int -> List UInt8 -> Option α) (rs : List D) (m : Mem) : Option α :=
  match rs, m with
  | [.v (.bytes r0) _, .v (.bool r1) _], [_, [(0, ⟨77, [.v (.int .i64 z0) .no, .v (.int .i64 z1) .no, .v (.int .i64 z2) .no, .v (.int .i64 z3) .no, .v (.int .i64 z4) .no, .v (.bytes z5) _, .v (.int .i64 z6) .no, .v (.sl 27 z7) _, .v (.bytes z8) (.own (.slot 0) 5), .v (.int .i64 z9) .no, .v (.bytes z10) _]⟩)]] => K r0 r1 z0 z1 z2 z3 z4 z5 z6 z7 z8 z9 z10
  | _, _ => none
noncomputable def C_cCommand {R : Type} (N : Nat) (y0 y1 y2 y3 y4 : Int) (y5 : List UInt8) (y6 : Int) (y7 : List V) (y8 : List UInt8) (y9 : Int) (y10 : List UInt8) (K0 : List UInt8 -> Bool -> Option R) : Option R := bnd1 (s_cMade N y0 y1 y2 y3 y4 y5 y6 y7 y8 y9 y10) fun b0 => br (!b0) (K0 [] false) (br (!decide (y9 = 2)) (br (!decide (y9 = 3)) (K0 [] false) (bnd1 (s_clone N y8) fun l1 => K0 l1 true)) (bnd1 (s_clone N y8) fun l2 => K0 l2 true))
noncomputable def s_cCommand (N : Nat) (y0 y1 y2 y3 y4 : Int) (y5 : List UInt8) (y6 : Int) (y7 : List V) (y8 : List UInt8) (y9 : Int) (y10 : List UInt8) : Option (List UInt8 × Bool) := C_cCommand N y0 y1 y2 y3 y4 y5 y6 y7 y8 y9 y10 (fun r0 r1 => some (r0, r1))
noncomputable def cx_cCommand (N : Nat) : Cx := cxO [⟨60, e_clone (s_clone N)⟩] [⟨43, e_cMade (s_cMade N)⟩]
theorem C_cCommand_ok {R : Type} (N : Nat) (y0 y1 y2 y3 y4 y5 y6 y7 y8 y9 y10 K : _) : bodyK (R := R) (cx_cCommand N) Try.f19 [.ptr 1 0 0] [frOf 0 [g1a y0 y1 y2 y3 y4 y5 y6 y7 y8 y9 y10]] (r_cCommand K) = C_cCommand N y0 y1 y2 y3 y4 y5 y6 y7 y8 y9 y10 (fun r0 r1 => K r0 r1 y0 y1 y2 y3 y4 y5 y6 y7 y8 y9 y10) := by
  kernel_rfl
abbrev Q_cCommand (s : Ty15) : Prop := ∀ y0 y1 y2 y3 y4 y5 y6 y7 y8 y9 y10 r0 r1, s y0 y1 y2 y3 y4 y5 y6 y7 y8 y9 y10 = some (r0, r1) -> ViewRet Try.prog T 19 [.ptr 1 0 0] [g1a y0 y1 y2 y3 y4 y5 y6 y7 y8 y9 y10] [dY r0, dB r1] [g1a y0 y1 y2 y3 y4 y5 y6 y7 y8 y9 y10]
theorem eo_cCommand (s : Ty15) (hs : Q_cCommand s) : MEntOK Try.prog T ⟨19, e_cCommand s⟩ := by
  refine ⟨goes_of Try.func19 (by kernel_rfl) (c := bodyOf Try.f19) (by kernel_rfl), fun R dst ds m K r h => ?_⟩
  simp only [e_cCommand] at h
  split at h
  . obtain ⟨Bs, a1, a2, a3, h⟩ := viewK_some h
    split at h
    . obtain ⟨r0, r1, h1, h2⟩ := bnd2_some h
      rw [putAllK_eq] at h2
      exact ⟨_, _, h2, ViewRet.weakIn (hs _ _ _ _ _ _ _ _ _ _ _ _ _ h1) (by exact ⟨⟨rfl, .inl rfl, .inl rfl, .inl rfl, .inl rfl, .inl rfl, .inr ⟨_, _, rfl, rfl⟩, .inl rfl, .inr ⟨_, _, rfl, rfl⟩, .inl rfl, .inl rfl, .inr ⟨_, _, rfl, rfl⟩, trivial⟩, trivial⟩) rfl _ _ m dst a1 a2 a3 ⟨aren_ptr _ rfl, trivial⟩⟩
    . cases h
  . cases h
open Classical in
theorem p_cCommand (N : Nat) : Q_cCommand (s_cCommand N) := fun y0 y1 y2 y3 y4 y5 y6 y7 y8 y9 y10 r0 r1 h => by
  refine view_ofW (cx := cx_cCommand N) (by kernel_rfl) (cxO_ok ⟨eo_clone _ (p_clone N), trivial⟩ ⟨eo_cMade _ (p_cMade N), trivial⟩) Try.func19 (by kernel_rfl) (by kernel_rfl) (loopsOK_of (k := 0) (by kernel_rfl) trivial) (by rfl) (by rfl) (by rfl) (rf := r_cCommand (fun r0' r1' z'0 z'1 z'2 z'3 z'4 z'5 z'6 z'7 z'8 z'9 z'10 => if z'0 = y0 /\ z'1 = y1 /\ z'2 = y2 /\ z'3 = y3 /\ z'4 = y4 /\ z'5 = y5 /\ z'6 = y6 /\ z'7 = y7 /\ z'8 = y8 /\ z'9 = y9 /\ z'10 = y10 then some (r0', r1') else none)) (r := (r0, r1)) ?_ ?_
  . exact (C_cCommand_ok ..).trans ((congrArg (fun K => C_cCommand N y0 y1 y2 y3 y4 y5 y6 y7 y8 y9 y10 K) (funext fun r0' => funext fun r1' => if_pos ⟨rfl, rfl, rfl, rfl, rfl, rfl, rfl, rfl, rfl, rfl, rfl⟩)).trans h)
  . intro rs' m' hx
    unfold r_cCommand at hx
    split at hx
    . dsimp only at hx
      split at hx
      . rename_i hk
        obtain ⟨rfl, rfl, rfl, rfl, rfl, rfl, rfl, rfl, rfl, rfl, rfl⟩ := hk
        cases hx; exact ⟨rfl, rfl, _, [⟨77, [_, _, _, _, _, _, _, _, _, _, _]⟩], rfl, rfl, ⟨⟨rfl, .inl rfl, .inl rfl, .inl rfl, .inl rfl, .inl rfl, .inr ⟨_, _, rfl, rfl⟩, .inl rfl, .inr ⟨_, _, rfl, rfl⟩, .inl rfl, .inl rfl, .inr ⟨_, _, rfl, rfl⟩, trivial⟩, trivial⟩⟩
      . cases hx
    . cases hx
abbrev Ty16 := List UInt8 -> Int -> Int -> Int -> Int -> Int -> List UInt8 -> Int -> List V -> List UInt8 -> Int -> List UInt8 -> Option (List UInt8 × Int × List UInt8 × Int × List V × Int)
noncomputable def e_cReply {R : Type} (s : Ty16) (dst : Nat) (ds : List D) (m : Mem) (K : List D -> Mem -> Option R) : Option R :=
  match ds with
  | [.ptr (kv0 + 1) sv0 0, .v (.bytes x0) .no] => viewK [(kv0, sv0)] m fun Bs => (match Bs with
    | [⟨77, [.v (.int .i64 y0) .no, .v (.int .i64 y1) .no, .v (.int .i64 y2) .no, .v (.int .i64 y3) .no, .v (.int .i64 y4) .no, .v (.bytes y5) _, .v (.int .i64 y6) .no, .v (.sl 27 y7) _, .v (.bytes y8) (.own (.slot 0) 5), .v (.int .i64 y9) .no, .v (.bytes y10) _]⟩] => bnd6 (s x0 y0 y1 y2 y3 y4 y5 y6 y7 y8 y9 y10) fun r0 z4 z5 z6 z7 z9 => putAllK [(kv0, sv0)] [⟨77, [.v (.int .i64 y0) .no, .v (.int .i64 y1) .no, .v (.int .i64 y2) .no, .v (.int .i64 y3) .no, .v (.int .i64 z4) .no, .v (.bytes z5) .no, .v (.int .i64 z6) .no, .v (.sl 27 z7) .no, .v (.bytes y8) (.own (.slot 0) 5), .v (.int .i64 z9) .no, .v (.bytes y10) .no]⟩] m fun m' => K [.v (.bytes r0) .no] m'
    | _ => none)
  | _ => none
noncomputable def C_cReply {R : Type} (N : Nat) (x0 : List UInt8) (y0 y1 y2 y3 y4 : Int) (y5 : List UInt8) (y6 : Int) (y7 : List V) (y8 : List UInt8) (y9 : Int) (y10 : List UInt8) (K0 : List UInt8 -> Int -> List UInt8 -> Int -> List V -> Int -> Option R) : Option R := bnd1 (s_cMade N y0 y1 y2 y3 y4 y5 y6 y7 y8 y9 y10) fun b0 => br (!b0) (K0 [] y4 y5 y6 y7 y9) (br (!decide (y9 = 2)) (K0 [] y4 y5 y6 y7 y9) (bnd5 (s_cSend N x0 y0 y1 y2 y3 y4 y5 y6 y7 y8 4 y10) fun l1 n2 l3 n4 l5 => K0 l1 n2 l3 n4 l5 4))
noncomputable def s_cReply (N : Nat) (x0 : List UInt8) (y0 y1 y2 y3 y4 : Int) (y5 : List UInt8) (y6 : Int) (y7 : List V) (y8 : List UInt8) (y9 : Int) (y10 : List UInt8) : Option (List UInt8 × Int × List UInt8 × Int × List V × Int) := C_cReply N x0 y0 y1 y2 y3 y4 y5 y6 y7 y8 y9 y10 (fun r0 z4 z5 z6 z7 z9 => some (r0, z4, z5, z6, z7, z9))
noncomputable def cx_cReply (N : Nat) : Cx := cxO [] [⟨43, e_cMade (s_cMade N)⟩, ⟨58, e_cSend (s_cSend N)⟩]
theorem C_cReply_ok {R : Type} (N : Nat) (x0 y0 y1 y2 y3 y4 y5 y6 y7 y8 y9 y10 K : _) : bodyK (R := R) (cx_cReply N) Try.f15 [.ptr 1 0 0, dY x0] [frOf 0 [g1a y0 y1 y2 y3 y4 y5 y6 y7 y8 y9 y10]] (r_cEnc K) = C_cReply N x0 y0 y1 y2 y3 y4 y5 y6 y7 y8 y9 y10 (fun r0 z4 z5 z6 z7 z9 => K r0 y0 y1 y2 y3 z4 z5 z6 z7 y8 z9 y10) := by
  kernel_rfl
abbrev Q_cReply (s : Ty16) : Prop := ∀ x0 y0 y1 y2 y3 y4 y5 y6 y7 y8 y9 y10 r0 z4 z5 z6 z7 z9, s x0 y0 y1 y2 y3 y4 y5 y6 y7 y8 y9 y10 = some (r0, z4, z5, z6, z7, z9) -> ViewRet Try.prog T 15 [.ptr 1 0 0, dY x0] [g1a y0 y1 y2 y3 y4 y5 y6 y7 y8 y9 y10] [dY r0] [g1a y0 y1 y2 y3 z4 z5 z6 z7 y8 z9 y10]
theorem eo_cReply (s : Ty16) (hs : Q_cReply s) : MEntOK Try.prog T ⟨15, e_cReply s⟩ := by
  refine ⟨goes_of Try.func15 (by kernel_rfl) (c := bodyOf Try.f15) (by kernel_rfl), fun R dst ds m K r h => ?_⟩
  simp only [e_cReply] at h
  split at h
  . obtain ⟨Bs, a1, a2, a3, h⟩ := viewK_some h
    split at h
    . obtain ⟨r0, z4, z5, z6, z7, z9, h1, h2⟩ := bnd6_some h
      rw [putAllK_eq] at h2
      exact ⟨_, _, h2, ViewRet.weakIn (hs _ _ _ _ _ _ _ _ _ _ _ _ _ _ _ _ _ _ h1) (by exact ⟨⟨rfl, .inl rfl, .inl rfl, .inl rfl, .inl rfl, .inl rfl, .inr ⟨_, _, rfl, rfl⟩, .inl rfl, .inr ⟨_, _, rfl, rfl⟩, .inl rfl, .inl rfl, .inr ⟨_, _, rfl, rfl⟩, trivial⟩, trivial⟩) rfl _ _ m dst a1 a2 a3 ⟨aren_ptr _ rfl, aren_v _, trivial⟩⟩
    . cases h
  . cases h
open Classical in
theorem p_cReply (N : Nat) : Q_cReply (s_cReply N) := fun x0 y0 y1 y2 y3 y4 y5 y6 y7 y8 y9 y10 r0 z4 z5 z6 z7 z9 h => by
  refine view_ofW (cx := cx_cReply N) (by kernel_rfl) (cxO_ok trivial ⟨eo_cMade _ (p_cMade N), eo_cSend _ (p_cSend N), trivial⟩) Try.func15 (by kernel_rfl) (by kernel_rfl) (loopsOK_of (k := 0) (by kernel_rfl) trivial) (by rfl) (by rfl) (by rfl) (rf := r_cEnc (fun r0' z'0 z'1 z'2 z'3 z'4 z'5 z'6 z'7 z'8 z'9 z'10 => if z'0 = y0 /\ z'1 = y1 /\ z'2 = y2 /\ z'3 = y3 /\ z'8 = y8 /\ z'10 = y10 then some (r0', z'4, z'5, z'6, z'7, z'9) else none)) (r := (r0, z4, z5, z6, z7, z9)) ?_ ?_
  . exact (C_cReply_ok ..).trans ((congrArg (fun K => C_cReply N x0 y0 y1 y2 y3 y4 y5 y6 y7 y8 y9 y10 K) (funext fun r0' => funext fun z'4 => funext fun z'5 => funext fun z'6 => funext fun z'7 => funext fun z'9 => if_pos ⟨rfl, rfl, rfl, rfl, rfl, rfl⟩)).trans h)
  . intro rs' m' hx
    unfold r_cEnc at hx
    split at hx
    . dsimp only at hx
      split at hx
      . rename_i hk
        obtain ⟨rfl, rfl, rfl, rfl, rfl, rfl⟩ := hk
        cases hx; exact ⟨rfl, rfl, _, [⟨77, [_, _, _, _, _, _, _, _, _, _, _]⟩], rfl, rfl, ⟨⟨rfl, .inl rfl, .inl rfl, .inl rfl, .inl rfl, .inl rfl, .inr ⟨_, _, rfl, rfl⟩, .inl rfl, .inr ⟨_, _, rfl, rfl⟩, .inl rfl, .inl rfl, .inr ⟨_, _, rfl, rfl⟩, trivial⟩, trivial⟩⟩
      . cases hx
    . cases hx
abbrev Ty17 := Int -> Int -> Int -> Int -> Int -> Int -> List UInt8 -> Int -> List V -> List UInt8 -> Int -> List UInt8 -> Option (List UInt8 × Int × List UInt8)
noncomputable def e_cExtend {R : Type} (s : Ty17) (dst : Nat) (ds : List D) (m : Mem) (K : List D -> Mem -> Option R) : Option R :=
  match ds with
  | [.ptr (kv0 + 1) sv0 0, .v (.int .i64 x0) .no] => viewK [(kv0, sv0)] m fun Bs => (match Bs with
    | [⟨77, [.v (.int .i64 y0) .no, .v (.int .i64 y1) .no, .v (.int .i64 y2) .no, .v (.int .i64 y3) .no, .v (.int .i64 y4) .no, .v (.bytes y5) _, .v (.int .i64 y6) .no, .v (.sl 27 y7) _, .v (.bytes y8) (.own (.slot 0) 5), .v (.int .i64 y9) .no, .v (.bytes y10) _]⟩] => bnd3 (s x0 y0 y1 y2 y3 y4 y5 y6 y7 y8 y9 y10) fun r0 z9 z10 => putAllK [(kv0, sv0)] [⟨77, [.v (.int .i64 y0) .no, .v (.int .i64 y1) .no, .v (.int .i64 y2) .no, .v (.int .i64 y3) .no, .v (.int .i64 y4) .no, .v (.bytes y5) .no, .v (.int .i64 y6) .no, .v (.sl 27 y7) .no, .v (.bytes y8) (.own (.slot 0) 5), .v (.int .i64 z9) .no, .v (.bytes z10) .no]⟩] m fun m' => K [.v (.bytes r0) .no] m'
    | _ => none)
  | _ => none
noncomputable def C_cExtend {R : Type} (N : Nat) (x0 y0 y1 y2 y3 y4 : Int) (y5 : List UInt8) (y6 : Int) (y7 : List V) (y8 : List UInt8) (y9 : Int) (y10 : List UInt8) (K0 : List UInt8 -> Int -> List UInt8 -> Option R) : Option R := bnd1 (s_cMade N y0 y1 y2 y3 y4 y5 y6 y7 y8 y9 y10) fun b0 => br (!b0) (K0 [] y9 y10) (br (!decide (y9 = 2)) (K0 [] y9 y10) (br (decide (x0 < 1)) (K0 [] y9 y10) (br (decide (255 < x0)) (K0 [] y9 y10) (bnd1 (s_cSpecial N 3 false [UInt8.ofNat (IntKind.u8.wrap x0).toNat] y0 y1 y2 y3 y4 y5 y6 y7 y8 3 [UInt8.ofNat (IntKind.u8.wrap x0).toNat]) fun l1 => K0 l1 3 [UInt8.ofNat (IntKind.u8.wrap x0).toNat]))))
noncomputable def s_cExtend (N : Nat) (x0 y0 y1 y2 y3 y4 : Int) (y5 : List UInt8) (y6 : Int) (y7 : List V) (y8 : List UInt8) (y9 : Int) (y10 : List UInt8) : Option (List UInt8 × Int × List UInt8) := C_cExtend N x0 y0 y1 y2 y3 y4 y5 y6 y7 y8 y9 y10 (fun r0 z9 z10 => some (r0, z9, z10))
noncomputable def cx_cExtend (N : Nat) : Cx := cxO [] [⟨43, e_cMade (s_cMade N)⟩, ⟨46, e_cSpecial (s_cSpecial N)⟩]
theorem C_cExtend_ok {R : Type} (N : Nat) (x0 y0 y1 y2 y3 y4 y5 y6 y7 y8 y9 y10 K : _) : bodyK (R := R) (cx_cExtend N) Try.f17 [.ptr 1 0 0, dI x0] [frOf 0 [g1a y0 y1 y2 y3 y4 y5 y6 y7 y8 y9 y10]] (r_cEnc K) = C_cExtend N x0 y0 y1 y2 y3 y4 y5 y6 y7 y8 y9 y10 (fun r0 z9 z10 => K r0 y0 y1 y2 y3 y4 y5 y6 y7 y8 z9 z10) := by
  kernel_rfl
abbrev Q_cExtend (s : Ty17) : Prop := ∀ x0 y0 y1 y2 y3 y4 y5 y6 y7 y8 y9 y10 r0 z9 z10, s x0 y0 y1 y2 y3 y4 y5 y6 y7 y8 y9 y10 = some (r0, z9, z10) -> ViewRet Try.prog T 17 [.ptr 1 0 0, dI x0] [g1a y0 y1 y2 y3 y4 y5 y6 y7 y8 y9 y10] [dY r0] [g1a y0 y1 y2 y3 y4 y5 y6 y7 y8 z9 z10]
theorem eo_cExtend (s : Ty17) (hs : Q_cExtend s) : MEntOK Try.prog T ⟨17, e_cExtend s⟩ := by
  refine ⟨goes_of Try.func17 (by kernel_rfl) (c := bodyOf Try.f17) (by kernel_rfl), fun R dst ds m K r h => ?_⟩
  simp only [e_cExtend] at h
  split at h
  . obtain ⟨Bs, a1, a2, a3, h⟩ := viewK_some h
    split at h
    . obtain ⟨r0, z9, z10, h1, h2⟩ := bnd3_some h
      rw [putAllK_eq] at h2
      exact ⟨_, _, h2, ViewRet.weakIn (hs _ _ _ _ _ _ _ _ _ _ _ _ _ _ _ h1) (by exact ⟨⟨rfl, .inl rfl, .inl rfl, .inl rfl, .inl rfl, .inl rfl, .inr ⟨_, _, rfl, rfl⟩, .inl rfl, .inr ⟨_, _, rfl, rfl⟩, .inl rfl, .inl rfl, .inr ⟨_, _, rfl, rfl⟩, trivial⟩, trivial⟩) rfl _ _ m dst a1 a2 a3 ⟨aren_ptr _ rfl, aren_v _, trivial⟩⟩
    . cases h
  . cases h
open Classical in
theorem p_cExtend (N : Nat) : Q_cExtend (s_cExtend N) := fun x0 y0 y1 y2 y3 y4 y5 y6 y7 y8 y9 y10 r0 z9 z10 h => by
  refine view_ofW (cx := cx_cExtend N) (by kernel_rfl) (cxO_ok trivial ⟨eo_cMade _ (p_cMade N), eo_cSpecial _ (p_cSpecial N), trivial⟩) Try.func17 (by kernel_rfl) (by kernel_rfl) (loopsOK_of (k := 0) (by kernel_rfl) trivial) (by rfl) (by rfl) (by rfl) (rf := r_cEnc (fun r0' z'0 z'1 z'2 z'3 z'4 z'5 z'6 z'7 z'8 z'9 z'10 => if z'0 = y0 /\ z'1 = y1 /\ z'2 = y2 /\ z'3 = y3 /\ z'4 = y4 /\ z'5 = y5 /\ z'6 = y6 /\ z'7 = y7 /\ z'8 = y8 then some (r0', z'9, z'10) else none)) (r := (r0, z9, z10)) ?_ ?_
  . exact (C_cExtend_ok ..).trans ((congrArg (fun K => C_cExtend N x0 y0 y1 y2 y3 y4 y5 y6 y7 y8 y9 y10 K) (funext fun r0' => funext fun z'9 => funext fun z'10 => if_pos ⟨rfl, rfl, rfl, rfl, rfl, rfl, rfl, rfl, rfl⟩)).trans h)
  . intro rs' m' hx
    unfold r_cEnc at hx
    split at hx
    . dsimp only at hx
      split at hx
      . rename_i hk
        obtain ⟨rfl, rfl, rfl, rfl, rfl, rfl, rfl, rfl, rfl⟩ := hk
        cases hx; exact ⟨rfl, rfl, _, [⟨77, [_, _, _, _, _, _, _, _, _, _, _]⟩], rfl, rfl, ⟨⟨rfl, .inl rfl, .inl rfl, .inl rfl, .inl rfl, .inl rfl, .inr ⟨_, _, rfl, rfl⟩, .inl rfl, .inr ⟨_, _, rfl, rfl⟩, .inl rfl, .inl rfl, .inr ⟨_, _, rfl, rfl⟩, trivial⟩, trivial⟩⟩
      . cases hx
    . cases hx
abbrev Ty18 := Int -> Int -> Int -> Int -> Int -> List UInt8 -> Int -> List V -> List UInt8 -> Int -> Int -> List UInt8 -> Bool -> Int -> Option (Bool)
noncomputable def e_tMade {R : Type} (s : Ty18) (dst : Nat) (ds : List D) (m : Mem) (K : List D -> Mem -> Option R) : Option R :=
  match ds with
  | [.ptr (kv0 + 1) sv0 0] => viewK [(kv0, sv0)] m fun Bs => (match Bs with
    | [⟨95, [.v (.int .i64 y0) .no, .v (.int .i64 y1) .no, .v (.int .i64 y2) .no, .v (.int .i64 y3) .no, .v (.int .i64 y4) .no, .v (.bytes y5) _, .v (.int .i64 y6) .no, .v (.sl 27 y7) _, .v (.bytes y8) (.own (.slot 0) 5), .v (.int .i64 y9) .no, .v (.int .i64 y10) .no, .v (.bytes y11) _, .v (.bool y12) .no, .v (.int .i64 y13) .no]⟩] => bnd1 (s y0 y1 y2 y3 y4 y5 y6 y7 y8 y9 y10 y11 y12 y13) fun r0 => putAllK [(kv0, sv0)] [⟨95, [.v (.int .i64 y0) .no, .v (.int .i64 y1) .no, .v (.int .i64 y2) .no, .v (.int .i64 y3) .no, .v (.int .i64 y4) .no, .v (.bytes y5) .no, .v (.int .i64 y6) .no, .v (.sl 27 y7) .no, .v (.bytes y8) (.own (.slot 0) 5), .v (.int .i64 y9) .no, .v (.int .i64 y10) .no, .v (.bytes y11) .no, .v (.bool y12) .no, .v (.int .i64 y13) .no]⟩] m fun m' => K [.v (.bool r0) .no] m'
    | _ => none)
  | _ => none
noncomputable def r_tMade {α : Type} (K : Bool -> Int -> Int -> Int -> Int -> Int -> List UInt8 -> Int -> List V -> List UInt8 -> Int -> Int -> List UInt8 -> Bool -> Int -> Option α) (rs : List D) (m : Mem) : Option α :=
  match rs, m with
  | [.v (.bool r0) _], [_, [(0, ⟨95, [.v (.int .i64 z0) .no, .v (.int .i64 z1) .no, .v (.int .i64 z2) .no, .v (.int .i64 z3) .no, .v (.int .i64 z4) .no, .v (.bytes z5) _, .v (.int .i64 z6) .no, .v (.sl 27 z7) _, .v (.bytes z8) (.own (.slot 0) 5), .v (.int .i64 z9) .no, .v (.int .i64 z10) .no, .v (.bytes z11) _, .v (.bool z12) .no, .v (.int .i64 z13) .no]⟩)]] => K r0 z0 z1 z2 z3 z4 z5 z6 z7 z8 z9 z10 z11 z12 z13
  | _, _ => none
noncomputable def C_tMade {R : Type} (N : Nat) (y0 y1 y2 y3 y4 : Int) (y5 : List UInt8) (y6 : Int) (y7 : List V) (y8 : List UInt8) (y9 y10 : Int) (y11 : List UInt8) (y12 : Bool) (y13 : Int) (K0 : Bool -> Option R) : Option R := K0 (decide (0 < y1))
noncomputable def s_tMade (N : Nat) (y0 y1 y2 y3 y4 : Int) (y5 : List UInt8) (y6 : Int) (y7 : List V) (y8 : List UInt8) (y9 y10 : Int) (y11 : List UInt8) (y12 : Bool) (y13 : Int) : Option (Bool) := C_tMade N y0 y1 y2 y3 y4 y5 y6 y7 y8 y9 y10 y11 y12 y13 (fun r0 => some r0)
noncomputable def cx_tMade (N : Nat) : Cx := cxO [] []
abbrev g2a (a0 a1 a2 a3 a4 : Int) (a5 : List UInt8) (a6 : Int) (a7 : List V) (a8 : List UInt8) (a9 a10 : Int) (a11 : List UInt8) (a12 : Bool) (a13 : Int) : Bx := ⟨95, [dI a0, dI a1, dI a2, dI a3, dI a4, dY a5, dI a6, .v (.sl 27 a7) .no, .v (.bytes a8) (.own (.slot 0) 5), dI a9, dI a10, dY a11, dB a12, dI a13]⟩
theorem C_tMade_ok {R : Type} (N : Nat) (y0 y1 y2 y3 y4 y5 y6 y7 y8 y9 y10 y11 y12 y13 K : _) : bodyK (R := R) (cx_tMade N) Try.f62 [.ptr 1 0 0] [frOf 0 [g2a y0 y1 y2 y3 y4 y5 y6 y7 y8 y9 y10 y11 y12 y13]] (r_tMade K) = C_tMade N y0 y1 y2 y3 y4 y5 y6 y7 y8 y9 y10 y11 y12 y13 (fun r0 => K r0 y0 y1 y2 y3 y4 y5 y6 y7 y8 y9 y10 y11 y12 y13) := by
  kernel_rfl
abbrev Q_tMade (s : Ty18) : Prop := ∀ y0 y1 y2 y3 y4 y5 y6 y7 y8 y9 y10 y11 y12 y13 r0, s y0 y1 y2 y3 y4 y5 y6 y7 y8 y9 y10 y11 y12 y13 = some r0 -> ViewRet Try.prog T 62 [.ptr 1 0 0] [g2a y0 y1 y2 y3 y4 y5 y6 y7 y8 y9 y10 y11 y12 y13] [dB r0] [g2a y0 y1 y2 y3 y4 y5 y6 y7 y8 y9 y10 y11 y12 y13]
theorem eo_tMade (s : Ty18) (hs : Q_tMade s) : MEntOK Try.prog T ⟨62, e_tMade s⟩ := by
  refine ⟨goes_of Try.func62 (by kernel_rfl) (c := bodyOf Try.f62) (by kernel_rfl), fun R dst ds m K r h => ?_⟩
  simp only [e_tMade] at h
  split at h
  . obtain ⟨Bs, a1, a2, a3, h⟩ := viewK_some h
    split at h
    . obtain ⟨r0, h1, h2⟩ := bnd1_some h
      rw [putAllK_eq] at h2
      exact ⟨_, _, h2, ViewRet.weakIn (hs _ _ _ _ _ _ _ _ _ _ _ _ _ _ _ h1) (by exact ⟨⟨rfl, .inl rfl, .inl rfl, .inl rfl, .inl rfl, .inl rfl, .inr ⟨_, _, rfl, rfl⟩, .inl rfl, .inr ⟨_, _, rfl, rfl⟩, .inl rfl, .inl rfl, .inl rfl, .inr ⟨_, _, rfl, rfl⟩, .inl rfl, .inl rfl, trivial⟩, trivial⟩) rfl _ _ m dst a1 a2 a3 ⟨aren_ptr _ rfl, trivial⟩⟩
    . cases h
  . cases h
open Classical in
theorem p_tMade (N : Nat) : Q_tMade (s_tMade N) := fun y0 y1 y2 y3 y4 y5 y6 y7 y8 y9 y10 y11 y12 y13 r0 h => by
  refine view_ofW (cx := cx_tMade N) (by kernel_rfl) (cxO_ok trivial trivial) Try.func62 (by kernel_rfl) (by kernel_rfl) (loopsOK_of (k := 0) (by kernel_rfl) trivial) (by rfl) (by rfl) (by rfl) (rf := r_tMade (fun r0' z'0 z'1 z'2 z'3 z'4 z'5 z'6 z'7 z'8 z'9 z'10 z'11 z'12 z'13 => if z'0 = y0 /\ z'1 = y1 /\ z'2 = y2 /\ z'3 = y3 /\ z'4 = y4 /\ z'5 = y5 /\ z'6 = y6 /\ z'7 = y7 /\ z'8 = y8 /\ z'9 = y9 /\ z'10 = y10 /\ z'11 = y11 /\ z'12 = y12 /\ z'13 = y13 then some r0' else none)) (r := r0) ?_ ?_
  . exact (C_tMade_ok ..).trans ((congrArg (fun K => C_tMade N y0 y1 y2 y3 y4 y5 y6 y7 y8 y9 y10 y11 y12 y13 K) (funext fun r0' => if_pos ⟨rfl, rfl, rfl, rfl, rfl, rfl, rfl, rfl, rfl, rfl, rfl, rfl, rfl, rfl⟩)).trans h)
  . intro rs' m' hx
    unfold r_tMade at hx
    split at hx
    . dsimp only at hx
      split at hx
      . rename_i hk
        obtain ⟨rfl, rfl, rfl, rfl, rfl, rfl, rfl, rfl, rfl, rfl, rfl, rfl, rfl, rfl⟩ := hk
        cases hx; exact ⟨rfl, rfl, _, [⟨95, [_, _, _, _, _, _, _, _, _, _, _, _, _, _]⟩], rfl, rfl, ⟨⟨rfl, .inl rfl, .inl rfl, .inl rfl, .inl rfl, .inl rfl, .inr ⟨_, _, rfl, rfl⟩, .inl rfl, .inr ⟨_, _, rfl, rfl⟩, .inl rfl, .inl rfl, .inl rfl, .inr ⟨_, _, rfl, rfl⟩, .inl rfl, .inl rfl, trivial⟩, trivial⟩⟩
      . cases hx
    . cases hx
abbrev Ty19 := Int -> Int -> Int -> Bool -> Int -> Bool -> List UInt8 -> Int -> Int -> Int -> Int -> Int -> List UInt8 -> Int -> List V -> List UInt8 -> Int -> Int -> List UInt8 -> Bool -> Int -> Option (List UInt8)
noncomputable def e_tEnc {R : Type} (s : Ty19) (dst : Nat) (ds : List D) (m : Mem) (K : List D -> Mem -> Option R) : Option R :=
  match ds with
  | [.ptr (kv0 + 1) sv0 0, .agg [.v (.int .i64 x0) .no, .v (.int .i64 x1) .no, .v (.int .i64 x2) .no, .v (.bool x3) .no, .v (.int .i64 x4) .no, .v (.bool x5) .no, .v (.bytes x6) .no]] => viewK [(kv0, sv0)] m fun Bs => (match Bs with
    | [⟨95, [.v (.int .i64 y0) .no, .v (.int .i64 y1) .no, .v (.int .i64 y2) .no, .v (.int .i64 y3) .no, .v (.int .i64 y4) .no, .v (.bytes y5) _, .v (.int .i64 y6) .no, .v (.sl 27 y7) _, .v (.bytes y8) (.own (.slot 0) 5), .v (.int .i64 y9) .no, .v (.int .i64 y10) .no, .v (.bytes y11) _, .v (.bool y12) .no, .v (.int .i64 y13) .no]⟩] => bnd1 (s x0 x1 x2 x3 x4 x5 x6 y0 y1 y2 y3 y4 y5 y6 y7 y8 y9 y10 y11 y12 y13) fun r0 => putAllK [(kv0, sv0)] [⟨95, [.v (.int .i64 y0) .no, .v (.int .i64 y1) .no, .v (.int .i64 y2) .no, .v (.int .i64 y3) .no, .v (.int .i64 y4) .no, .v (.bytes y5) .no, .v (.int .i64 y6) .no, .v (.sl 27 y7) .no, .v (.bytes y8) (.own (.slot 0) 5), .v (.int .i64 y9) .no, .v (.int .i64 y10) .no, .v (.bytes y11) .no, .v (.bool y12) .no, .v (.int .i64 y13) .no]⟩] m fun m' => K [.v (.bytes r0) .no] m'
    | _ => none)
  | _ => none
noncomputable def r_tEnc {α : Type} (K : List UInt8 -> Int -> Int -> Int -> Int -> Int -> List UInt8 -> Int -> List V -> List UInt8 -> Int -> Int -> List UInt8 -> Bool -> Int -> Option α) (rs : List D) (m : Mem) : Option α :=
  match rs, m with
  | [.v (.bytes r0) _], [_, [(0, ⟨95, [.v (.int .i64 z0) .no, .v (.int .i64 z1) .no, .v (.int .i64 z2) .no, .v (.int .i64 z3) .no, .v (.int .i64 z4) .no, .v (.bytes z5) _, .v (.int .i64 z6) .no, .v (.sl 27 z7) _, .v (.bytes z8) (.own (.slot 0) 5), .v (.int .i64 z9) .no, .v (.int .i64 z10) .no, .v (.bytes z11) _, .v (.bool z12) .no, .v (.int .i64 z13) .no]⟩)]] => K r0 z0 z1 z2 z3 z4 z5 z6 z7 z8 z9 z10 z11 z12 z13
  | _, _ => none
noncomputable def C_tEnc {R : Type} (N : Nat) (x0 x1 x2 : Int) (x3 : Bool) (x4 : Int) (x5 : Bool) (x6 : List UInt8) (y0 y1 y2 y3 y4 : Int) (y5 : List UInt8) (y6 : Int) (y7 : List V) (y8 : List UInt8) (y9 y10 : Int) (y11 : List UInt8) (y12 : Bool) (y13 : Int) (K0 : List UInt8 -> Option R) : Option R := bnd2 (s_bEncode N x0 x1 x2 x3 x4 x5 x6 y0) fun l0 n1 => K0 l0
noncomputable def s_tEnc (N : Nat) (x0 x1 x2 : Int) (x3 : Bool) (x4 : Int) (x5 : Bool) (x6 : List UInt8) (y0 y1 y2 y3 y4 : Int) (y5 : List UInt8) (y6 : Int) (y7 : List V) (y8 : List UInt8) (y9 y10 : Int) (y11 : List UInt8) (y12 : Bool) (y13 : Int) : Option (List UInt8) := C_tEnc N x0 x1 x2 x3 x4 x5 x6 y0 y1 y2 y3 y4 y5 y6 y7 y8 y9 y10 y11 y12 y13 (fun r0 => some r0)
noncomputable def cx_tEnc (N : Nat) : Cx := cxO [⟨95, e_bEncode (s_bEncode N)⟩] []
theorem C_tEnc_ok {R : Type} (N : Nat) (x0 x1 x2 x3 x4 x5 x6 y0 y1 y2 y3 y4 y5 y6 y7 y8 y9 y10 y11 y12 y13 K : _) : bodyK (R := R) (cx_tEnc N) Try.f81 [.ptr 1 0 0, g0a x0 x1 x2 x3 x4 x5 x6] [frOf 0 [g2a y0 y1 y2 y3 y4 y5 y6 y7 y8 y9 y10 y11 y12 y13]] (r_tEnc K) = C_tEnc N x0 x1 x2 x3 x4 x5 x6 y0 y1 y2 y3 y4 y5 y6 y7 y8 y9 y10 y11 y12 y13 (fun r0 => K r0 y0 y1 y2 y3 y4 y5 y6 y7 y8 y9 y10 y11 y12 y13) := by
  kernel_rfl
abbrev Q_tEnc (s : Ty19) : Prop := ∀ x0 x1 x2 x3 x4 x5 x6 y0 y1 y2 y3 y4 y5 y6 y7 y8 y9 y10 y11 y12 y13 r0, s x0 x1 x2 x3 x4 x5 x6 y0 y1 y2 y3 y4 y5 y6 y7 y8 y9 y10 y11 y12 y13 = some r0 -> ViewRet Try.prog T 81 [.ptr 1 0 0, g0a x0 x1 x2 x3 x4 x5 x6] [g2a y0 y1 y2 y3 y4 y5 y6 y7 y8 y9 y10 y11 y12 y13] [dY r0] [g2a y0 y1 y2 y3 y4 y5 y6 y7 y8 y9 y10 y11 y12 y13]
theorem eo_tEnc (s : Ty19) (hs : Q_tEnc s) : MEntOK Try.prog T ⟨81, e_tEnc s⟩ := by
  refine ⟨goes_of Try.func81 (by kernel_rfl) (c := bodyOf Try.f81) (by kernel_rfl), fun R dst ds m K r h => ?_⟩
  simp only [e_tEnc] at h
  split at h
  . obtain ⟨Bs, a1, a2, a3, h⟩ := viewK_some h
    split at h
    . obtain ⟨r0, h1, h2⟩ := bnd1_some h
      rw [putAllK_eq] at h2
      exact ⟨_, _, h2, ViewRet.weakIn (hs _ _ _ _ _ _ _ _ _ _ _ _ _ _ _ _ _ _ _ _ _ _ h1) (by exact ⟨⟨rfl, .inl rfl, .inl rfl, .inl rfl, .inl rfl, .inl rfl, .inr ⟨_, _, rfl, rfl⟩, .inl rfl, .inr ⟨_, _, rfl, rfl⟩, .inl rfl, .inl rfl, .inl rfl, .inr ⟨_, _, rfl, rfl⟩, .inl rfl, .inl rfl, trivial⟩, trivial⟩) rfl _ _ m dst a1 a2 a3 ⟨aren_ptr _ rfl, aren_agg ⟨aren_v _, aren_v _, aren_v _, aren_v _, aren_v _, aren_v _, aren_v _, trivial⟩, trivial⟩⟩
    . cases h
  . cases h
open Classical in
theorem p_tEnc (N : Nat) : Q_tEnc (s_tEnc N) := fun x0 x1 x2 x3 x4 x5 x6 y0 y1 y2 y3 y4 y5 y6 y7 y8 y9 y10 y11 y12 y13 r0 h => by
  refine view_ofW (cx := cx_tEnc N) (by kernel_rfl) (cxO_ok ⟨eo_bEncode _ (p_bEncode N), trivial⟩ trivial) Try.func81 (by kernel_rfl) (by kernel_rfl) (loopsOK_of (k := 0) (by kernel_rfl) trivial) (by rfl) (by rfl) (by rfl) (rf := r_tEnc (fun r0' z'0 z'1 z'2 z'3 z'4 z'5 z'6 z'7 z'8 z'9 z'10 z'11 z'12 z'13 => if z'0 = y0 /\ z'1 = y1 /\ z'2 = y2 /\ z'3 = y3 /\ z'4 = y4 /\ z'5 = y5 /\ z'6 = y6 /\ z'7 = y7 /\ z'8 = y8 /\ z'9 = y9 /\ z'10 = y10 /\ z'11 = y11 /\ z'12 = y12 /\ z'13 = y13 then some r0' else none)) (r := r0) ?_ ?_
  . exact (C_tEnc_ok ..).trans ((congrArg (fun K => C_tEnc N x0 x1 x2 x3 x4 x5 x6 y0 y1 y2 y3 y4 y5 y6 y7 y8 y9 y10 y11 y12 y13 K) (funext fun r0' => if_pos ⟨rfl, rfl, rfl, rfl, rfl, rfl, rfl, rfl, rfl, rfl, rfl, rfl, rfl, rfl⟩)).trans h)
  . intro rs' m' hx
    unfold r_tEnc at hx
    split at hx
    . dsimp only at hx
      split at hx
      . rename_i hk
        obtain ⟨rfl, rfl, rfl, rfl, rfl, rfl, rfl, rfl, rfl, rfl, rfl, rfl, rfl, rfl⟩ := hk
        cases hx; exact ⟨rfl, rfl, _, [⟨95, [_, _, _, _, _, _, _, _, _, _, _, _, _, _]⟩], rfl, rfl, ⟨⟨rfl, .inl rfl, .inl rfl, .inl rfl, .inl rfl, .inl rfl, .inr ⟨_, _, rfl, rfl⟩, .inl rfl, .inr ⟨_, _, rfl, rfl⟩, .inl rfl, .inl rfl, .inl rfl, .inr ⟨_, _, rfl, rfl⟩, .inl rfl, .inl rfl, trivial⟩, trivial⟩⟩
      . cases hx
    . cases hx
abbrev Ty20 := List UInt8 -> Int -> Int -> Int -> Int -> Int -> List UInt8 -> Int -> List V -> List UInt8 -> Int -> Int -> List UInt8 -> Bool -> Int -> Option (Int × Int × Int × Bool × Int × Bool × List UInt8 × Int)
noncomputable def e_tDecode {R : Type} (s : Ty20) (dst : Nat) (ds : List D) (m : Mem) (K : List D -> Mem -> Option R) : Option R :=
  match ds with
  | [.ptr (kv0 + 1) sv0 0, .v (.bytes x0) .no] => viewK [(kv0, sv0)] m fun Bs => (match Bs with
    | [⟨95, [.v (.int .i64 y0) .no, .v (.int .i64 y1) .no, .v (.int .i64 y2) .no, .v (.int .i64 y3) .no, .v (.int .i64 y4) .no, .v (.bytes y5) _, .v (.int .i64 y6) .no, .v (.sl 27 y7) _, .v (.bytes y8) (.own (.slot 0) 5), .v (.int .i64 y9) .no, .v (.int .i64 y10) .no, .v (.bytes y11) _, .v (.bool y12) .no, .v (.int .i64 y13) .no]⟩] => bnd8 (s x0 y0 y1 y2 y3 y4 y5 y6 y7 y8 y9 y10 y11 y12 y13) fun r0 r1 r2 r3 r4 r5 r6 r7 => putAllK [(kv0, sv0)] [⟨95, [.v (.int .i64 y0) .no, .v (.int .i64 y1) .no, .v (.int .i64 y2) .no, .v (.int .i64 y3) .no, .v (.int .i64 y4) .no, .v (.bytes y5) .no, .v (.int .i64 y6) .no, .v (.sl 27 y7) .no, .v (.bytes y8) (.own (.slot 0) 5), .v (.int .i64 y9) .no, .v (.int .i64 y10) .no, .v (.bytes y11) .no, .v (.bool y12) .no, .v (.int .i64 y13) .no]⟩] m fun m' => K [.agg [.v (.int .i64 r0) .no, .v (.int .i64 r1) .no, .v (.int .i64 r2) .no, .v (.bool r3) .no, .v (.int .i64 r4) .no, .v (.bool r5) .no, .v (.bytes r6) .no], .v (.int .i64 r7) .no] m'
    | _ => none)
  | _ => none
noncomputable def r_tDecode {α : Type} (K : Int -> Int -> Int -> Bool -> Int -> Bool -> List UInt8 -> Int -> Int -> Int -> Int -> Int -> Int -> List UInt8 -> Int -> List V -> List UInt8 -> Int -> Int -> List UInt8 -> Bool -> Int -> Option α) (rs : List D) (m : Mem) : Option α :=
  match rs, m with
  | [.agg [.v (.int .i64 r0) _, .v (.int .i64 r1) _, .v (.int .i64 r2) _, .v (.bool r3) _, .v (.int .i64 r4) _, .v (.bool r5) _, .v (.bytes r6) _], .v (.int .i64 r7) _], [_, [(0, ⟨95, [.v (.int .i64 z0) .no, .v (.int .i64 z1) .no, .v (.int .i64 z2) .no, .v (.int .i64 z3) .no, .v (.int .i64 z4) .no, .v (.bytes z5) _, .v (.int .i64 z6) .no, .v (.sl 27 z7) _, .v (.bytes z8) (.own (.slot 0) 5), .v (.int .i64 z9) .no, .v (.int .i64 z10) .no, .v (.bytes z11) _, .v (.bool z12) .no, .v (.int .i64 z13) .no]⟩)]] => K r0 r1 r2 r3 r4 r5 r6 r7 z0 z1 z2 z3 z4 z5 z6 z7 z8 z9 z10 z11 z12 z13
  | _, _ => none
noncomputable def C_tDecode {R : Type} (N : Nat) (x0 : List UInt8) (y0 y1 y2 y3 y4 : Int) (y5 : List UInt8) (y6 : Int) (y7 : List V) (y8 : List UInt8) (y9 y10 : Int) (y11 : List UInt8) (y12 : Bool) (y13 : Int) (K0 : Int -> Int -> Int -> Bool -> Int -> Bool -> List UInt8 -> Int -> Option R) : Option R := bnd8 (s_bDecode N x0 y0) fun n0 n1 n2 b3 n4 b5 l6 n7 => br (decide (n7 = 6)) (K0 n0 n1 n2 b3 n4 b5 l6 1) (br (!decide (n7 = 0)) (K0 n0 n1 n2 b3 n4 b5 l6 2) (br (!decide (n0 = 0)) (K0 n0 n1 n2 b3 n4 b5 l6 2) (br (decide (n1 = 0)) (br (decide (y1 < (l6.length : Int))) (K0 n0 n1 n2 b3 n4 b5 l6 2) (K0 n0 n1 n2 b3 n4 b5 l6 0)) (K0 n0 n1 n2 b3 n4 b5 l6 0))))
noncomputable def s_tDecode (N : Nat) (x0 : List UInt8) (y0 y1 y2 y3 y4 : Int) (y5 : List UInt8) (y6 : Int) (y7 : List V) (y8 : List UInt8) (y9 y10 : Int) (y11 : List UInt8) (y12 : Bool) (y13 : Int) : Option (Int × Int × Int × Bool × Int × Bool × List UInt8 × Int) := C_tDecode N x0 y0 y1 y2 y3 y4 y5 y6 y7 y8 y9 y10 y11 y12 y13 (fun r0 r1 r2 r3 r4 r5 r6 r7 => some (r0, r1, r2, r3, r4, r5, r6, r7))
noncomputable def cx_tDecode (N : Nat) : Cx := cxO [⟨79, e_bDecode (s_bDecode N)⟩] []
theorem C_tDecode_ok {R : Type} (N : Nat) (x0 y0 y1 y2 y3 y4 y5 y6 y7 y8 y9 y10 y11 y12 y13 K : _) : bodyK (R := R) (cx_tDecode N) Try.f44 [.ptr 1 0 0, dY x0] [frOf 0 [g2a y0 y1 y2 y3 y4 y5 y6 y7 y8 y9 y10 y11 y12 y13]] (r_tDecode K) = C_tDecode N x0 y0 y1 y2 y3 y4 y5 y6 y7 y8 y9 y10 y11 y12 y13 (fun r0 r1 r2 r3 r4 r5 r6 r7 => K r0 r1 r2 r3 r4 r5 r6 r7 y0 y1 y2 y3 y4 y5 y6 y7 y8 y9 y10 y11 y12 y13) := by
  kernel_rfl
abbrev Q_tDecode (s : Ty20) : Prop := ∀ x0 y0 y1 y2 y3 y4 y5 y6 y7 y8 y9 y10 y11 y12 y13 r0 r1 r2 r3 r4 r5 r6 r7, s x0 y0 y1 y2 y3 y4 y5 y6 y7 y8 y9 y10 y11 y12 y13 = some (r0, r1, r2, r3, r4, r5, r6, r7) -> ViewRet Try.prog T 44 [.ptr 1 0 0, dY x0] [g2a y0 y1 y2 y3 y4 y5 y6 y7 y8 y9 y10 y11 y12 y13] [g0a r0 r1 r2 r3 r4 r5 r6, dI r7] [g2a y0 y1 y2 y3 y4 y5 y6 y7 y8 y9 y10 y11 y12 y13]
theorem eo_tDecode (s : Ty20) (hs : Q_tDecode s) : MEntOK Try.prog T ⟨44, e_tDecode s⟩ := by
  refine ⟨goes_of Try.func44 (by kernel_rfl) (c := bodyOf Try.f44) (by kernel_rfl), fun R dst ds m K r h => ?_⟩
  simp only [e_tDecode] at h
  split at h
  . obtain ⟨Bs, a1, a2, a3, h⟩ := viewK_some h
    split at h
    . obtain ⟨r0, r1, r2, r3, r4, r5, r6, r7, h1, h2⟩ := bnd8_some h
      rw [putAllK_eq] at h2
      exact ⟨_, _, h2, ViewRet.weakIn (hs _ _ _ _ _ _ _ _ _ _ _ _ _ _ _ _ _ _ _ _ _ _ _ h1) (by exact ⟨⟨rfl, .inl rfl, .inl rfl, .inl rfl, .inl rfl, .inl rfl, .inr ⟨_, _, rfl, rfl⟩, .inl rfl, .inr ⟨_, _, rfl, rfl⟩, .inl rfl, .inl rfl, .inl rfl, .inr ⟨_, _, rfl, rfl⟩, .inl rfl, .inl rfl, trivial⟩, trivial⟩) rfl _ _ m dst a1 a2 a3 ⟨aren_ptr _ rfl, aren_v _, trivial⟩⟩
    . cases h
  . cases h
open Classical in
theorem p_tDecode (N : Nat) : Q_tDecode (s_tDecode N) := fun x0 y0 y1 y2 y3 y4 y5 y6 y7 y8 y9 y10 y11 y12 y13 r0 r1 r2 r3 r4 r5 r6 r7 h => by
  refine view_ofW (cx := cx_tDecode N) (by kernel_rfl) (cxO_ok ⟨eo_bDecode _ (p_bDecode N), trivial⟩ trivial) Try.func44 (by kernel_rfl) (by kernel_rfl) (loopsOK_of (k := 0) (by kernel_rfl) trivial) (by rfl) (by rfl) (by rfl) (rf := r_tDecode (fun r0' r1' r2' r3' r4' r5' r6' r7' z'0 z'1 z'2 z'3 z'4 z'5 z'6 z'7 z'8 z'9 z'10 z'11 z'12 z'13 => if z'0 = y0 /\ z'1 = y1 /\ z'2 = y2 /\ z'3 = y3 /\ z'4 = y4 /\ z'5 = y5 /\ z'6 = y6 /\ z'7 = y7 /\ z'8 = y8 /\ z'9 = y9 /\ z'10 = y10 /\ z'11 = y11 /\ z'12 = y12 /\ z'13 = y13 then some (r0', r1', r2', r3', r4', r5', r6', r7') else none)) (r := (r0, r1, r2, r3, r4, r5, r6, r7)) ?_ ?_
  . exact (C_tDecode_ok ..).trans ((congrArg (fun K => C_tDecode N x0 y0 y1 y2 y3 y4 y5 y6 y7 y8 y9 y10 y11 y12 y13 K) (funext fun r0' => funext fun r1' => funext fun r2' => funext fun r3' => funext fun r4' => funext fun r5' => funext fun r6' => funext fun r7' => if_pos ⟨rfl, rfl, rfl, rfl, rfl, rfl, rfl, rfl, rfl, rfl, rfl, rfl, rfl, rfl⟩)).trans h)
  . intro rs' m' hx
    unfold r_tDecode at hx
    split at hx
    . dsimp only at hx
      split at hx
      . rename_i hk
        obtain ⟨rfl, rfl, rfl, rfl, rfl, rfl, rfl, rfl, rfl, rfl, rfl, rfl, rfl, rfl⟩ := hk
        cases hx; exact ⟨rfl, rfl, _, [⟨95, [_, _, _, _, _, _, _, _, _, _, _, _, _, _]⟩], rfl, rfl, ⟨⟨rfl, .inl rfl, .inl rfl, .inl rfl, .inl rfl, .inl rfl, .inr ⟨_, _, rfl, rfl⟩, .inl rfl, .inr ⟨_, _, rfl, rfl⟩, .inl rfl, .inl rfl, .inl rfl, .inr ⟨_, _, rfl, rfl⟩, .inl rfl, .inl rfl, trivial⟩, trivial⟩⟩
      . cases hx
    . cases hx
abbrev Ty21 := Int -> Int -> Int -> Int -> Int -> Int -> List UInt8 -> Int -> List V -> List UInt8 -> Int -> Int -> List UInt8 -> Bool -> Int -> Option (List UInt8)
noncomputable def e_tReady {R : Type} (s : Ty21) (dst : Nat) (ds : List D) (m : Mem) (K : List D -> Mem -> Option R) : Option R :=
  match ds with
  | [.ptr (kv0 + 1) sv0 0, .v (.int .i64 x0) .no] => viewK [(kv0, sv0)] m fun Bs => (match Bs with
    | [⟨95, [.v (.int .i64 y0) .no, .v (.int .i64 y1) .no, .v (.int .i64 y2) .no, .v (.int .i64 y3) .no, .v (.int .i64 y4) .no, .v (.bytes y5) _, .v (.int .i64 y6) .no, .v (.sl 27 y7) _, .v (.bytes y8) (.own (.slot 0) 5), .v (.int .i64 y9) .no, .v (.int .i64 y10) .no, .v (.bytes y11) _, .v (.bool y12) .no, .v (.int .i64 y13) .no]⟩] => bnd1 (s x0 y0 y1 y2 y3 y4 y5 y6 y7 y8 y9 y10 y11 y12 y13) fun r0 => putAllK [(kv0, sv0)] [⟨95, [.v (.int .i64 y0) .no, .v (.int .i64 y1) .no, .v (.int .i64 y2) .no, .v (.int .i64 y3) .no, .v (.int .i64 y4) .no, .v (.bytes y5) .no, .v (.int .i64 y6) .no, .v (.sl 27 y7) .no, .v (.bytes y8) (.own (.slot 0) 5), .v (.int .i64 y9) .no, .v (.int .i64 y10) .no, .v (.bytes y11) .no, .v (.bool y12) .no, .v (.int .i64 y13) .no]⟩] m fun m' => K [.v (.bytes r0) .no] m'
    | _ => none)
  | _ => none
noncomputable def C_tReady {R : Type} (N : Nat) (x0 y0 y1 y2 y3 y4 : Int) (y5 : List UInt8) (y6 : Int) (y7 : List V) (y8 : List UInt8) (y9 y10 : Int) (y11 : List UInt8) (y12 : Bool) (y13 : Int) (K0 : List UInt8 -> Option R) : Option R := bnd1 (s_tEnc N 0 1 y3 false x0 false [] y0 y1 y2 y3 y4 y5 y6 y7 y8 y9 y10 y11 y12 y13) fun l0 => K0 l0
noncomputable def s_tReady (N : Nat) (x0 y0 y1 y2 y3 y4 : Int) (y5 : List UInt8) (y6 : Int) (y7 : List V) (y8 : List UInt8) (y9 y10 : Int) (y11 : List UInt8) (y12 : Bool) (y13 : Int) : Option (List UInt8) := C_tReady N x0 y0 y1 y2 y3 y4 y5 y6 y7 y8 y9 y10 y11 y12 y13 (fun r0 => some r0)
noncomputable def cx_tReady (N : Nat) : Cx := cxO [] [⟨81, e_tEnc (s_tEnc N)⟩]
theorem C_tReady_ok {R : Type} (N : Nat) (x0 y0 y1 y2 y3 y4 y5 y6 y7 y8 y9 y10 y11 y12 y13 K : _) : bodyK (R := R) (cx_tReady N) Try.f47 [.ptr 1 0 0, dI x0] [frOf 0 [g2a y0 y1 y2 y3 y4 y5 y6 y7 y8 y9 y10 y11 y12 y13]] (r_tEnc K) = C_tReady N x0 y0 y1 y2 y3 y4 y5 y6 y7 y8 y9 y10 y11 y12 y13 (fun r0 => K r0 y0 y1 y2 y3 y4 y5 y6 y7 y8 y9 y10 y11 y12 y13) := by
  kernel_rfl
abbrev Q_tReady (s : Ty21) : Prop := ∀ x0 y0 y1 y2 y3 y4 y5 y6 y7 y8 y9 y10 y11 y12 y13 r0, s x0 y0 y1 y2 y3 y4 y5 y6 y7 y8 y9 y10 y11 y12 y13 = some r0 -> ViewRet Try.prog T 47 [.ptr 1 0 0, dI x0] [g2a y0 y1 y2 y3 y4 y5 y6 y7 y8 y9 y10 y11 y12 y13] [dY r0] [g2a y0 y1 y2 y3 y4 y5 y6 y7 y8 y9 y10 y11 y12 y13]
theorem eo_tReady (s : Ty21) (hs : Q_tReady s) : MEntOK Try.prog T ⟨47, e_tReady s⟩ := by
  refine ⟨goes_of Try.func47 (by kernel_rfl) (c := bodyOf Try.f47) (by kernel_rfl), fun R dst ds m K r h => ?_⟩
  simp only [e_tReady] at h
  split at h
  . obtain ⟨Bs, a1, a2, a3, h⟩ := viewK_some h
    split at h
    . obtain ⟨r0, h1, h2⟩ := bnd1_some h
      rw [putAllK_eq] at h2
      exact ⟨_, _, h2, ViewRet.weakIn (hs _ _ _ _ _ _ _ _ _ _ _ _ _ _ _ _ h1) (by exact ⟨⟨rfl, .inl rfl, .inl rfl, .inl rfl, .inl rfl, .inl rfl, .inr ⟨_, _, rfl, rfl⟩, .inl rfl, .inr ⟨_, _, rfl, rfl⟩, .inl rfl, .inl rfl, .inl rfl, .inr ⟨_, _, rfl, rfl⟩, .inl rfl, .inl rfl, trivial⟩, trivial⟩) rfl _ _ m dst a1 a2 a3 ⟨aren_ptr _ rfl, aren_v _, trivial⟩⟩
    . cases h
  . cases h
open Classical in
theorem p_tReady (N : Nat) : Q_tReady (s_tReady N) := fun x0 y0 y1 y2 y3 y4 y5 y6 y7 y8 y9 y10 y11 y12 y13 r0 h => by
  refine view_ofW (cx := cx_tReady N) (by kernel_rfl) (cxO_ok trivial ⟨eo_tEnc _ (p_tEnc N), trivial⟩) Try.func47 (by kernel_rfl) (by kernel_rfl) (loopsOK_of (k := 0) (by kernel_rfl) trivial) (by rfl) (by rfl) (by rfl) (rf := r_tEnc (fun r0' z'0 z'1 z'2 z'3 z'4 z'5 z'6 z'7 z'8 z'9 z'10 z'11 z'12 z'13 => if z'0 = y0 /\ z'1 = y1 /\ z'2 = y2 /\ z'3 = y3 /\ z'4 = y4 /\ z'5 = y5 /\ z'6 = y6 /\ z'7 = y7 /\ z'8 = y8 /\ z'9 = y9 /\ z'10 = y10 /\ z'11 = y11 /\ z'12 = y12 /\ z'13 = y13 then some r0' else none)) (r := r0) ?_ ?_
  . exact (C_tReady_ok ..).trans ((congrArg (fun K => C_tReady N x0 y0 y1 y2 y3 y4 y5 y6 y7 y8 y9 y10 y11 y12 y13 K) (funext fun r0' => if_pos ⟨rfl, rfl, rfl, rfl, rfl, rfl, rfl, rfl, rfl, rfl, rfl, rfl, rfl, rfl⟩)).trans h)
  . intro rs' m' hx
    unfold r_tEnc at hx
    split at hx
    . dsimp only at hx
      split at hx
      . rename_i hk
        obtain ⟨rfl, rfl, rfl, rfl, rfl, rfl, rfl, rfl, rfl, rfl, rfl, rfl, rfl, rfl⟩ := hk
        cases hx; exact ⟨rfl, rfl, _, [⟨95, [_, _, _, _, _, _, _, _, _, _, _, _, _, _]⟩], rfl, rfl, ⟨⟨rfl, .inl rfl, .inl rfl, .inl rfl, .inl rfl, .inl rfl, .inr ⟨_, _, rfl, rfl⟩, .inl rfl, .inr ⟨_, _, rfl, rfl⟩, .inl rfl, .inl rfl, .inl rfl, .inr ⟨_, _, rfl, rfl⟩, .inl rfl, .inl rfl, trivial⟩, trivial⟩⟩
      . cases hx
    . cases hx
end Go.Proofs.Ytilfphdeacogmaa.En

/- Functions of the program in plain Lean, joined to the program by evaluation; printed by a program. -/
namespace Go.Proofs.Ytilfphdeacogmaa.En
open Go Go.Proofs
set_option maxRecDepth 100000
set_option maxHeartbeats 8000000
set_option linter.unusedVariables false
abbrev Ty22 := Int -> Bool -> List UInt8 -> Int -> Int -> Int -> Int -> Int -> List UInt8 -> Int -> List V -> List UInt8 -> Int -> Int -> List UInt8 -> Bool -> Int -> Option (List UInt8)
noncomputable def e_tSpecial {R : Type} (s : Ty22) (dst : Nat) (ds : List D) (m : Mem) (K : List D -> Mem -> Option R) : Option R :=
  match ds with
  | [.ptr (kv0 + 1) sv0 0, .v (.int .i64 x0) .no, .v (.bool x1) .no, .v (.bytes x2) .no] => viewK [(kv0, sv0)] m fun Bs => (match Bs with
    | [⟨95, [.v (.int .i64 y0) .no, .v (.int .i64 y1) .no, .v (.int .i64 y2) .no, .v (.int .i64 y3) .no, .v (.int .i64 y4) .no, .v (.bytes y5) _, .v (.int .i64 y6) .no, .v (.sl 27 y7) _, .v (.bytes y8) (.own (.slot 0) 5), .v (.int .i64 y9) .no, .v (.int .i64 y10) .no, .v (.bytes y11) _, .v (.bool y12) .no, .v (.int .i64 y13) .no]⟩] => bnd1 (s x0 x1 x2 y0 y1 y2 y3 y4 y5 y6 y7 y8 y9 y10 y11 y12 y13) fun r0 => putAllK [(kv0, sv0)] [⟨95, [.v (.int .i64 y0) .no, .v (.int .i64 y1) .no, .v (.int .i64 y2) .no, .v (.int .i64 y3) .no, .v (.int .i64 y4) .no, .v (.bytes y5) .no, .v (.int .i64 y6) .no, .v (.sl 27 y7) .no, .v (.bytes y8) (.own (.slot 0) 5), .v (.int .i64 y9) .no, .v (.int .i64 y10) .no, .v (.bytes y11) .no, .v (.bool y12) .no, .v (.int .i64 y13) .no]⟩] m fun m' => K [.v (.bytes r0) .no] m'
    | _ => none)
  | _ => none
noncomputable def C_tSpecial {R : Type} (N : Nat) (x0 : Int) (x1 : Bool) (x2 : List UInt8) (y0 y1 y2 y3 y4 : Int) (y5 : List UInt8) (y6 : Int) (y7 : List V) (y8 : List UInt8) (y9 y10 : Int) (y11 : List UInt8) (y12 : Bool) (y13 : Int) (K0 : List UInt8 -> Option R) : Option R := bnd1 (s_tEnc N 0 2 0 false x0 x1 x2 y0 y1 y2 y3 y4 y5 y6 y7 y8 y9 y10 y11 y12 y13) fun l0 => K0 l0
noncomputable def s_tSpecial (N : Nat) (x0 : Int) (x1 : Bool) (x2 : List UInt8) (y0 y1 y2 y3 y4 : Int) (y5 : List UInt8) (y6 : Int) (y7 : List V) (y8 : List UInt8) (y9 y10 : Int) (y11 : List UInt8) (y12 : Bool) (y13 : Int) : Option (List UInt8) := C_tSpecial N x0 x1 x2 y0 y1 y2 y3 y4 y5 y6 y7 y8 y9 y10 y11 y12 y13 (fun r0 => some r0)
noncomputable def cx_tSpecial (N : Nat) : Cx := cxO [] [⟨81, e_tEnc (s_tEnc N)⟩]
theorem C_tSpecial_ok {R : Type} (N : Nat) (x0 x1 x2 y0 y1 y2 y3 y4 y5 y6 y7 y8 y9 y10 y11 y12 y13 K : _) : bodyK (R := R) (cx_tSpecial N) Try.f46 [.ptr 1 0 0, dI x0, dB x1, dY x2] [frOf 0 [g2a y0 y1 y2 y3 y4 y5 y6 y7 y8 y9 y10 y11 y12 y13]] (r_tEnc K) = C_tSpecial N x0 x1 x2 y0 y1 y2 y3 y4 y5 y6 y7 y8 y9 y10 y11 y12 y13 (fun r0 => K r0 y0 y1 y2 y3 y4 y5 y6 y7 y8 y9 y10 y11 y12 y13) := by
  kernel_rfl
abbrev Q_tSpecial (s : Ty22) : Prop := ∀ x0 x1 x2 y0 y1 y2 y3 y4 y5 y6 y7 y8 y9 y10 y11 y12 y13 r0, s x0 x1 x2 y0 y1 y2 y3 y4 y5 y6 y7 y8 y9 y10 y11 y12 y13 = some r0 -> ViewRet Try.prog T 46 [.ptr 1 0 0, dI x0, dB x1, dY x2] [g2a y0 y1 y2 y3 y4 y5 y6 y7 y8 y9 y10 y11 y12 y13] [dY r0] [g2a y0 y1 y2 y3 y4 y5 y6 y7 y8 y9 y10 y11 y12 y13]
theorem eo_tSpecial (s : Ty22) (hs : Q_tSpecial s) : MEntOK Try.prog T ⟨46, e_tSpecial s⟩ := by
  refine ⟨goes_of Try.func46 (by kernel_rfl) (c := bodyOf Try.f46) (by kernel_rfl), fun R dst ds m K r h => ?_⟩
  simp only [e_tSpecial] at h
  split at h
  . obtain ⟨Bs, a1, a2, a3, h⟩ := viewK_some h
    split at h
    . obtain ⟨r0, h1, h2⟩ := bnd1_some h
      rw [putAllK_eq] at h2
      exact ⟨_, _, h2, ViewRet.weakIn (hs _ _ _ _ _ _ _ _ _ _ _ _ _ _ _ _ _ _ h1) (by exact ⟨⟨rfl, .inl rfl, .inl rfl, .inl rfl, .inl rfl, .inl rfl, .inr ⟨_, _, rfl, rfl⟩, .inl rfl, .inr ⟨_, _, rfl, rfl⟩, .inl rfl, .inl rfl, .inl rfl, .inr ⟨_, _, rfl, rfl⟩, .inl rfl, .inl rfl, trivial⟩, trivial⟩) rfl _ _ m dst a1 a2 a3 ⟨aren_ptr _ rfl, aren_v _, aren_v _, aren_v _, trivial⟩⟩
    . cases h
  . cases h
open Classical in
theorem p_tSpecial (N : Nat) : Q_tSpecial (s_tSpecial N) := fun x0 x1 x2 y0 y1 y2 y3 y4 y5 y6 y7 y8 y9 y10 y11 y12 y13 r0 h => by
  refine view_ofW (cx := cx_tSpecial N) (by kernel_rfl) (cxO_ok trivial ⟨eo_tEnc _ (p_tEnc N), trivial⟩) Try.func46 (by kernel_rfl) (by kernel_rfl) (loopsOK_of (k := 0) (by kernel_rfl) trivial) (by rfl) (by rfl) (by rfl) (rf := r_tEnc (fun r0' z'0 z'1 z'2 z'3 z'4 z'5 z'6 z'7 z'8 z'9 z'10 z'11 z'12 z'13 => if z'0 = y0 /\ z'1 = y1 /\ z'2 = y2 /\ z'3 = y3 /\ z'4 = y4 /\ z'5 = y5 /\ z'6 = y6 /\ z'7 = y7 /\ z'8 = y8 /\ z'9 = y9 /\ z'10 = y10 /\ z'11 = y11 /\ z'12 = y12 /\ z'13 = y13 then some r0' else none)) (r := r0) ?_ ?_
  . exact (C_tSpecial_ok ..).trans ((congrArg (fun K => C_tSpecial N x0 x1 x2 y0 y1 y2 y3 y4 y5 y6 y7 y8 y9 y10 y11 y12 y13 K) (funext fun r0' => if_pos ⟨rfl, rfl, rfl, rfl, rfl, rfl, rfl, rfl, rfl, rfl, rfl, rfl, rfl, rfl⟩)).trans h)
  . intro rs' m' hx
    unfold r_tEnc at hx
    split at hx
    . dsimp only at hx
      split at hx
      . rename_i hk
        obtain ⟨rfl, rfl, rfl, rfl, rfl, rfl, rfl, rfl, rfl, rfl, rfl, rfl, rfl, rfl⟩ := hk
        cases hx; exact ⟨rfl, rfl, _, [⟨95, [_, _, _, _, _, _, _, _, _, _, _, _, _, _]⟩], rfl, rfl, ⟨⟨rfl, .inl rfl, .inl rfl, .inl rfl, .inl rfl, .inl rfl, .inr ⟨_, _, rfl, rfl⟩, .inl rfl, .inr ⟨_, _, rfl, rfl⟩, .inl rfl, .inl rfl, .inl rfl, .inr ⟨_, _, rfl, rfl⟩, .inl rfl, .inl rfl, trivial⟩, trivial⟩⟩
      . cases hx
    . cases hx
abbrev Ty23 := Int -> Int -> Int -> Int -> Int -> List UInt8 -> Int -> List V -> List UInt8 -> Int -> Int -> List UInt8 -> Bool -> Int -> Option (List UInt8 × Int × List UInt8 × Int × List V)
noncomputable def e_tPiece {R : Type} (s : Ty23) (dst : Nat) (ds : List D) (m : Mem) (K : List D -> Mem -> Option R) : Option R :=
  match ds with
  | [.ptr (kv0 + 1) sv0 0] => viewK [(kv0, sv0)] m fun Bs => (match Bs with
    | [⟨95, [.v (.int .i64 y0) .no, .v (.int .i64 y1) .no, .v (.int .i64 y2) .no, .v (.int .i64 y3) .no, .v (.int .i64 y4) .no, .v (.bytes y5) _, .v (.int .i64 y6) .no, .v (.sl 27 y7) _, .v (.bytes y8) (.own (.slot 0) 5), .v (.int .i64 y9) .no, .v (.int .i64 y10) .no, .v (.bytes y11) _, .v (.bool y12) .no, .v (.int .i64 y13) .no]⟩] => bnd5 (s y0 y1 y2 y3 y4 y5 y6 y7 y8 y9 y10 y11 y12 y13) fun r0 z4 z5 z6 z7 => putAllK [(kv0, sv0)] [⟨95, [.v (.int .i64 y0) .no, .v (.int .i64 y1) .no, .v (.int .i64 y2) .no, .v (.int .i64 y3) .no, .v (.int .i64 z4) .no, .v (.bytes z5) .no, .v (.int .i64 z6) .no, .v (.sl 27 z7) .no, .v (.bytes y8) (.own (.slot 0) 5), .v (.int .i64 y9) .no, .v (.int .i64 y10) .no, .v (.bytes y11) .no, .v (.bool y12) .no, .v (.int .i64 y13) .no]⟩] m fun m' => K [.v (.bytes r0) .no] m'
    | _ => none)
  | _ => none
noncomputable def C_tPiece {R : Type} (N : Nat) (y0 y1 y2 y3 y4 : Int) (y5 : List UInt8) (y6 : Int) (y7 : List V) (y8 : List UInt8) (y9 y10 : Int) (y11 : List UInt8) (y12 : Bool) (y13 : Int) (K0 : List UInt8 -> Int -> List UInt8 -> Int -> List V -> Option R) : Option R := br (decide (0 < (y7.length : Int))) (at? y7 0 fun x0 => x0.unBytes fun l1 => br (decide (1 <= (y7.length : Int))) (bnd1 (s_tEnc N 0 0 y4 (decide (0 < ((List.drop 1 y7).length : Int))) 0 false l1 y0 y1 y2 y3 y4 y5 y6 (List.drop 1 y7) y8 y9 y10 y11 y12 y13) fun l2 => bnd1 (s_clone N l2) fun l3 => K0 l3 (IntKind.i64.wrap (1 - y4)) l2 y4 (List.drop 1 y7)) none) none
noncomputable def s_tPiece (N : Nat) (y0 y1 y2 y3 y4 : Int) (y5 : List UInt8) (y6 : Int) (y7 : List V) (y8 : List UInt8) (y9 y10 : Int) (y11 : List UInt8) (y12 : Bool) (y13 : Int) : Option (List UInt8 × Int × List UInt8 × Int × List V) := C_tPiece N y0 y1 y2 y3 y4 y5 y6 y7 y8 y9 y10 y11 y12 y13 (fun r0 z4 z5 z6 z7 => some (r0, z4, z5, z6, z7))
noncomputable def cx_tPiece (N : Nat) : Cx := cxO [⟨60, e_clone (s_clone N)⟩] [⟨81, e_tEnc (s_tEnc N)⟩]
theorem C_tPiece_ok {R : Type} (N : Nat) (y0 y1 y2 y3 y4 y5 y6 y7 y8 y9 y10 y11 y12 y13 K : _) : bodyK (R := R) (cx_tPiece N) Try.f82 [.ptr 1 0 0] [frOf 0 [g2a y0 y1 y2 y3 y4 y5 y6 y7 y8 y9 y10 y11 y12 y13]] (r_tEnc K) = C_tPiece N y0 y1 y2 y3 y4 y5 y6 y7 y8 y9 y10 y11 y12 y13 (fun r0 z4 z5 z6 z7 => K r0 y0 y1 y2 y3 z4 z5 z6 z7 y8 y9 y10 y11 y12 y13) := by
  kernel_rfl
abbrev Q_tPiece (s : Ty23) : Prop := ∀ y0 y1 y2 y3 y4 y5 y6 y7 y8 y9 y10 y11 y12 y13 r0 z4 z5 z6 z7, s y0 y1 y2 y3 y4 y5 y6 y7 y8 y9 y10 y11 y12 y13 = some (r0, z4, z5, z6, z7) -> ViewRet Try.prog T 82 [.ptr 1 0 0] [g2a y0 y1 y2 y3 y4 y5 y6 y7 y8 y9 y10 y11 y12 y13] [dY r0] [g2a y0 y1 y2 y3 z4 z5 z6 z7 y8 y9 y10 y11 y12 y13]
theorem eo_tPiece (s : Ty23) (hs : Q_tPiece s) : MEntOK Try.prog T ⟨82, e_tPiece s⟩ := by
  refine ⟨goes_of Try.func82 (by kernel_rfl) (c := bodyOf Try.f82) (by kernel_rfl), fun R dst ds m K r h => ?_⟩
  simp only [e_tPiece] at h
  split at h
  . obtain ⟨Bs, a1, a2, a3, h⟩ := viewK_some h
    split at h
    . obtain ⟨r0, z4, z5, z6, z7, h1, h2⟩ := bnd5_some h
      rw [putAllK_eq] at h2
      exact ⟨_, _, h2, ViewRet.weakIn (hs _ _ _ _ _ _ _ _ _ _ _ _ _ _ _ _ _ _ _ h1) (by exact ⟨⟨rfl, .inl rfl, .inl rfl, .inl rfl, .inl rfl, .inl rfl, .inr ⟨_, _, rfl, rfl⟩, .inl rfl, .inr ⟨_, _, rfl, rfl⟩, .inl rfl, .inl rfl, .inl rfl, .inr ⟨_, _, rfl, rfl⟩, .inl rfl, .inl rfl, trivial⟩, trivial⟩) rfl _ _ m dst a1 a2 a3 ⟨aren_ptr _ rfl, trivial⟩⟩
    . cases h
  . cases h
open Classical in
theorem p_tPiece (N : Nat) : Q_tPiece (s_tPiece N) := fun y0 y1 y2 y3 y4 y5 y6 y7 y8 y9 y10 y11 y12 y13 r0 z4 z5 z6 z7 h => by
  refine view_ofW (cx := cx_tPiece N) (by kernel_rfl) (cxO_ok ⟨eo_clone _ (p_clone N), trivial⟩ ⟨eo_tEnc _ (p_tEnc N), trivial⟩) Try.func82 (by kernel_rfl) (by kernel_rfl) (loopsOK_of (k := 0) (by kernel_rfl) trivial) (by rfl) (by rfl) (by rfl) (rf := r_tEnc (fun r0' z'0 z'1 z'2 z'3 z'4 z'5 z'6 z'7 z'8 z'9 z'10 z'11 z'12 z'13 => if z'0 = y0 /\ z'1 = y1 /\ z'2 = y2 /\ z'3 = y3 /\ z'8 = y8 /\ z'9 = y9 /\ z'10 = y10 /\ z'11 = y11 /\ z'12 = y12 /\ z'13 = y13 then some (r0', z'4, z'5, z'6, z'7) else none)) (r := (r0, z4, z5, z6, z7)) ?_ ?_
  . exact (C_tPiece_ok ..).trans ((congrArg (fun K => C_tPiece N y0 y1 y2 y3 y4 y5 y6 y7 y8 y9 y10 y11 y12 y13 K) (funext fun r0' => funext fun z'4 => funext fun z'5 => funext fun z'6 => funext fun z'7 => if_pos ⟨rfl, rfl, rfl, rfl, rfl, rfl, rfl, rfl, rfl, rfl⟩)).trans h)
  . intro rs' m' hx
    unfold r_tEnc at hx
    split at hx
    . dsimp only at hx
      split at hx
      . rename_i hk
        obtain ⟨rfl, rfl, rfl, rfl, rfl, rfl, rfl, rfl, rfl, rfl⟩ := hk
        cases hx; exact ⟨rfl, rfl, _, [⟨95, [_, _, _, _, _, _, _, _, _, _, _, _, _, _]⟩], rfl, rfl, ⟨⟨rfl, .inl rfl, .inl rfl, .inl rfl, .inl rfl, .inl rfl, .inr ⟨_, _, rfl, rfl⟩, .inl rfl, .inr ⟨_, _, rfl, rfl⟩, .inl rfl, .inl rfl, .inl rfl, .inr ⟨_, _, rfl, rfl⟩, .inl rfl, .inl rfl, trivial⟩, trivial⟩⟩
      . cases hx
    . cases hx
abbrev Ty24 := List UInt8 -> Int -> Int -> Int -> Int -> Int -> List UInt8 -> Int -> List V -> List UInt8 -> Int -> Int -> List UInt8 -> Bool -> Int -> Option (List UInt8 × Int × List UInt8 × Int × List V)
noncomputable def e_tSendC {R : Type} (s : Ty24) (dst : Nat) (ds : List D) (m : Mem) (K : List D -> Mem -> Option R) : Option R :=
  match ds with
  | [.ptr (kv0 + 1) sv0 0, .v (.bytes x0) .no] => viewK [(kv0, sv0)] m fun Bs => (match Bs with
    | [⟨95, [.v (.int .i64 y0) .no, .v (.int .i64 y1) .no, .v (.int .i64 y2) .no, .v (.int .i64 y3) .no, .v (.int .i64 y4) .no, .v (.bytes y5) _, .v (.int .i64 y6) .no, .v (.sl 27 y7) _, .v (.bytes y8) (.own (.slot 0) 5), .v (.int .i64 y9) .no, .v (.int .i64 y10) .no, .v (.bytes y11) _, .v (.bool y12) .no, .v (.int .i64 y13) .no]⟩] => bnd5 (s x0 y0 y1 y2 y3 y4 y5 y6 y7 y8 y9 y10 y11 y12 y13) fun r0 z4 z5 z6 z7 => putAllK [(kv0, sv0)] [⟨95, [.v (.int .i64 y0) .no, .v (.int .i64 y1) .no, .v (.int .i64 y2) .no, .v (.int .i64 y3) .no, .v (.int .i64 z4) .no, .v (.bytes z5) .no, .v (.int .i64 z6) .no, .v (.sl 27 z7) .no, .v (.bytes y8) (.own (.slot 0) 5), .v (.int .i64 y9) .no, .v (.int .i64 y10) .no, .v (.bytes y11) .no, .v (.bool y12) .no, .v (.int .i64 y13) .no]⟩] m fun m' => K [.v (.bytes r0) .no] m'
    | _ => none)
  | _ => none
noncomputable def C_tSendC {R : Type} (N : Nat) (x0 : List UInt8) (y0 y1 y2 y3 y4 : Int) (y5 : List UInt8) (y6 : Int) (y7 : List V) (y8 : List UInt8) (y9 y10 : Int) (y11 : List UInt8) (y12 : Bool) (y13 : Int) (K0 : List UInt8 -> Int -> List UInt8 -> Int -> List V -> Option R) : Option R := bnd2 (s_oSplit N x0 y2) fun l0 n1 => br (decide ((x0.length : Int) = 0)) (bnd5 (s_tPiece N y0 y1 y2 y3 y4 y5 y6 [V.bytes []] y8 y9 y10 y11 y12 y13) fun l2 n3 l4 n5 l6 => K0 l2 n3 l4 n5 l6) (bnd5 (s_tPiece N y0 y1 y2 y3 y4 y5 y6 l0 y8 y9 y10 y11 y12 y13) fun l7 n8 l9 n10 l11 => K0 l7 n8 l9 n10 l11)
noncomputable def s_tSendC (N : Nat) (x0 : List UInt8) (y0 y1 y2 y3 y4 : Int) (y5 : List UInt8) (y6 : Int) (y7 : List V) (y8 : List UInt8) (y9 y10 : Int) (y11 : List UInt8) (y12 : Bool) (y13 : Int) : Option (List UInt8 × Int × List UInt8 × Int × List V) := C_tSendC N x0 y0 y1 y2 y3 y4 y5 y6 y7 y8 y9 y10 y11 y12 y13 (fun r0 z4 z5 z6 z7 => some (r0, z4, z5, z6, z7))
noncomputable def cx_tSendC (N : Nat) : Cx := cxO [⟨85, e_oSplit (s_oSplit N)⟩] [⟨82, e_tPiece (s_tPiece N)⟩]
theorem C_tSendC_ok {R : Type} (N : Nat) (x0 y0 y1 y2 y3 y4 y5 y6 y7 y8 y9 y10 y11 y12 y13 K : _) : bodyK (R := R) (cx_tSendC N) Try.f58 [.ptr 1 0 0, dY x0] [frOf 0 [g2a y0 y1 y2 y3 y4 y5 y6 y7 y8 y9 y10 y11 y12 y13]] (r_tEnc K) = C_tSendC N x0 y0 y1 y2 y3 y4 y5 y6 y7 y8 y9 y10 y11 y12 y13 (fun r0 z4 z5 z6 z7 => K r0 y0 y1 y2 y3 z4 z5 z6 z7 y8 y9 y10 y11 y12 y13) := by
  kernel_rfl
abbrev Q_tSendC (s : Ty24) : Prop := ∀ x0 y0 y1 y2 y3 y4 y5 y6 y7 y8 y9 y10 y11 y12 y13 r0 z4 z5 z6 z7, s x0 y0 y1 y2 y3 y4 y5 y6 y7 y8 y9 y10 y11 y12 y13 = some (r0, z4, z5, z6, z7) -> ViewRet Try.prog T 58 [.ptr 1 0 0, dY x0] [g2a y0 y1 y2 y3 y4 y5 y6 y7 y8 y9 y10 y11 y12 y13] [dY r0] [g2a y0 y1 y2 y3 z4 z5 z6 z7 y8 y9 y10 y11 y12 y13]
theorem eo_tSendC (s : Ty24) (hs : Q_tSendC s) : MEntOK Try.prog T ⟨58, e_tSendC s⟩ := by
  refine ⟨goes_of Try.func58 (by kernel_rfl) (c := bodyOf Try.f58) (by kernel_rfl), fun R dst ds m K r h => ?_⟩
  simp only [e_tSendC] at h
  split at h
  . obtain ⟨Bs, a1, a2, a3, h⟩ := viewK_some h
    split at h
    . obtain ⟨r0, z4, z5, z6, z7, h1, h2⟩ := bnd5_some h
      rw [putAllK_eq] at h2
      exact ⟨_, _, h2, ViewRet.weakIn (hs _ _ _ _ _ _ _ _ _ _ _ _ _ _ _ _ _ _ _ _ h1) (by exact ⟨⟨rfl, .inl rfl, .inl rfl, .inl rfl, .inl rfl, .inl rfl, .inr ⟨_, _, rfl, rfl⟩, .inl rfl, .inr ⟨_, _, rfl, rfl⟩, .inl rfl, .inl rfl, .inl rfl, .inr ⟨_, _, rfl, rfl⟩, .inl rfl, .inl rfl, trivial⟩, trivial⟩) rfl _ _ m dst a1 a2 a3 ⟨aren_ptr _ rfl, aren_v _, trivial⟩⟩
    . cases h
  . cases h
open Classical in
theorem p_tSendC (N : Nat) : Q_tSendC (s_tSendC N) := fun x0 y0 y1 y2 y3 y4 y5 y6 y7 y8 y9 y10 y11 y12 y13 r0 z4 z5 z6 z7 h => by
  refine view_ofW (cx := cx_tSendC N) (by kernel_rfl) (cxO_ok ⟨eo_oSplit _ (p_oSplit N), trivial⟩ ⟨eo_tPiece _ (p_tPiece N), trivial⟩) Try.func58 (by kernel_rfl) (by kernel_rfl) (loopsOK_of (k := 0) (by kernel_rfl) trivial) (by rfl) (by rfl) (by rfl) (rf := r_tEnc (fun r0' z'0 z'1 z'2 z'3 z'4 z'5 z'6 z'7 z'8 z'9 z'10 z'11 z'12 z'13 => if z'0 = y0 /\ z'1 = y1 /\ z'2 = y2 /\ z'3 = y3 /\ z'8 = y8 /\ z'9 = y9 /\ z'10 = y10 /\ z'11 = y11 /\ z'12 = y12 /\ z'13 = y13 then some (r0', z'4, z'5, z'6, z'7) else none)) (r := (r0, z4, z5, z6, z7)) ?_ ?_
  . exact (C_tSendC_ok ..).trans ((congrArg (fun K => C_tSendC N x0 y0 y1 y2 y3 y4 y5 y6 y7 y8 y9 y10 y11 y12 y13 K) (funext fun r0' => funext fun z'4 => funext fun z'5 => funext fun z'6 => funext fun z'7 => if_pos ⟨rfl, rfl, rfl, rfl, rfl, rfl, rfl, rfl, rfl, rfl⟩)).trans h)
  . intro rs' m' hx
    unfold r_tEnc at hx
    split at hx
    . dsimp only at hx
      split at hx
      . rename_i hk
        obtain ⟨rfl, rfl, rfl, rfl, rfl, rfl, rfl, rfl, rfl, rfl⟩ := hk
        cases hx; exact ⟨rfl, rfl, _, [⟨95, [_, _, _, _, _, _, _, _, _, _, _, _, _, _]⟩], rfl, rfl, ⟨⟨rfl, .inl rfl, .inl rfl, .inl rfl, .inl rfl, .inl rfl, .inr ⟨_, _, rfl, rfl⟩, .inl rfl, .inr ⟨_, _, rfl, rfl⟩, .inl rfl, .inl rfl, .inl rfl, .inr ⟨_, _, rfl, rfl⟩, .inl rfl, .inl rfl, trivial⟩, trivial⟩⟩
      . cases hx
    . cases hx
abbrev Ty25 := Int -> Int -> Int -> Int -> Int -> Int -> List UInt8 -> Int -> List V -> List UInt8 -> Int -> Int -> List UInt8 -> Bool -> Int -> Option (List UInt8 × Int × Int)
noncomputable def e_tFail {R : Type} (s : Ty25) (dst : Nat) (ds : List D) (m : Mem) (K : List D -> Mem -> Option R) : Option R :=
  match ds with
  | [.ptr (kv0 + 1) sv0 0, .v (.int .i64 x0) .no] => viewK [(kv0, sv0)] m fun Bs => (match Bs with
    | [⟨95, [.v (.int .i64 y0) .no, .v (.int .i64 y1) .no, .v (.int .i64 y2) .no, .v (.int .i64 y3) .no, .v (.int .i64 y4) .no, .v (.bytes y5) _, .v (.int .i64 y6) .no, .v (.sl 27 y7) _, .v (.bytes y8) (.own (.slot 0) 5), .v (.int .i64 y9) .no, .v (.int .i64 y10) .no, .v (.bytes y11) _, .v (.bool y12) .no, .v (.int .i64 y13) .no]⟩] => bnd3 (s x0 y0 y1 y2 y3 y4 y5 y6 y7 y8 y9 y10 y11 y12 y13) fun r0 z9 z13 => putAllK [(kv0, sv0)] [⟨95, [.v (.int .i64 y0) .no, .v (.int .i64 y1) .no, .v (.int .i64 y2) .no, .v (.int .i64 y3) .no, .v (.int .i64 y4) .no, .v (.bytes y5) .no, .v (.int .i64 y6) .no, .v (.sl 27 y7) .no, .v (.bytes y8) (.own (.slot 0) 5), .v (.int .i64 z9) .no, .v (.int .i64 y10) .no, .v (.bytes y11) .no, .v (.bool y12) .no, .v (.int .i64 z13) .no]⟩] m fun m' => K [.v (.bytes r0) .no] m'
    | _ => none)
  | _ => none
noncomputable def C_tFail {R : Type} (N : Nat) (x0 y0 y1 y2 y3 y4 : Int) (y5 : List UInt8) (y6 : Int) (y7 : List V) (y8 : List UInt8) (y9 y10 : Int) (y11 : List UInt8) (y12 : Bool) (y13 : Int) (K0 : List UInt8 -> Int -> Int -> Option R) : Option R := K0 [] 3 x0
noncomputable def s_tFail (N : Nat) (x0 y0 y1 y2 y3 y4 : Int) (y5 : List UInt8) (y6 : Int) (y7 : List V) (y8 : List UInt8) (y9 y10 : Int) (y11 : List UInt8) (y12 : Bool) (y13 : Int) : Option (List UInt8 × Int × Int) := C_tFail N x0 y0 y1 y2 y3 y4 y5 y6 y7 y8 y9 y10 y11 y12 y13 (fun r0 z9 z13 => some (r0, z9, z13))
noncomputable def cx_tFail (N : Nat) : Cx := cxO [] []
theorem C_tFail_ok {R : Type} (N : Nat) (x0 y0 y1 y2 y3 y4 y5 y6 y7 y8 y9 y10 y11 y12 y13 K : _) : bodyK (R := R) (cx_tFail N) Try.f90 [.ptr 1 0 0, dI x0] [frOf 0 [g2a y0 y1 y2 y3 y4 y5 y6 y7 y8 y9 y10 y11 y12 y13]] (r_tEnc K) = C_tFail N x0 y0 y1 y2 y3 y4 y5 y6 y7 y8 y9 y10 y11 y12 y13 (fun r0 z9 z13 => K r0 y0 y1 y2 y3 y4 y5 y6 y7 y8 z9 y10 y11 y12 z13) := by
  kernel_rfl
abbrev Q_tFail (s : Ty25) : Prop := ∀ x0 y0 y1 y2 y3 y4 y5 y6 y7 y8 y9 y10 y11 y12 y13 r0 z9 z13, s x0 y0 y1 y2 y3 y4 y5 y6 y7 y8 y9 y10 y11 y12 y13 = some (r0, z9, z13) -> ViewRet Try.prog T 90 [.ptr 1 0 0, dI x0] [g2a y0 y1 y2 y3 y4 y5 y6 y7 y8 y9 y10 y11 y12 y13] [dY r0] [g2a y0 y1 y2 y3 y4 y5 y6 y7 y8 z9 y10 y11 y12 z13]
theorem eo_tFail (s : Ty25) (hs : Q_tFail s) : MEntOK Try.prog T ⟨90, e_tFail s⟩ := by
  refine ⟨goes_of Try.func90 (by kernel_rfl) (c := bodyOf Try.f90) (by kernel_rfl), fun R dst ds m K r h => ?_⟩
  simp only [e_tFail] at h
  split at h
  . obtain ⟨Bs, a1, a2, a3, h⟩ := viewK_some h
    split at h
    . obtain ⟨r0, z9, z13, h1, h2⟩ := bnd3_some h
      rw [putAllK_eq] at h2
      exact ⟨_, _, h2, ViewRet.weakIn (hs _ _ _ _ _ _ _ _ _ _ _ _ _ _ _ _ _ _ h1) (by exact ⟨⟨rfl, .inl rfl, .inl rfl, .inl rfl, .inl rfl, .inl rfl, .inr ⟨_, _, rfl, rfl⟩, .inl rfl, .inr ⟨_, _, rfl, rfl⟩, .inl rfl, .inl rfl, .inl rfl, .inr ⟨_, _, rfl, rfl⟩, .inl rfl, .inl rfl, trivial⟩, trivial⟩) rfl _ _ m dst a1 a2 a3 ⟨aren_ptr _ rfl, aren_v _, trivial⟩⟩
    . cases h
  . cases h
open Classical in
theorem p_tFail (N : Nat) : Q_tFail (s_tFail N) := fun x0 y0 y1 y2 y3 y4 y5 y6 y7 y8 y9 y10 y11 y12 y13 r0 z9 z13 h => by
  refine view_ofW (cx := cx_tFail N) (by kernel_rfl) (cxO_ok trivial trivial) Try.func90 (by kernel_rfl) (by kernel_rfl) (loopsOK_of (k := 0) (by kernel_rfl) trivial) (by rfl) (by rfl) (by rfl) (rf := r_tEnc (fun r0' z'0 z'1 z'2 z'3 z'4 z'5 z'6 z'7 z'8 z'9 z'10 z'11 z'12 z'13 => if z'0 = y0 /\ z'1 = y1 /\ z'2 = y2 /\ z'3 = y3 /\ z'4 = y4 /\ z'5 = y5 /\ z'6 = y6 /\ z'7 = y7 /\ z'8 = y8 /\ z'10 = y10 /\ z'11 = y11 /\ z'12 = y12 then some (r0', z'9, z'13) else none)) (r := (r0, z9, z13)) ?_ ?_
  . exact (C_tFail_ok ..).trans ((congrArg (fun K => C_tFail N x0 y0 y1 y2 y3 y4 y5 y6 y7 y8 y9 y10 y11 y12 y13 K) (funext fun r0' => funext fun z'9 => funext fun z'13 => if_pos ⟨rfl, rfl, rfl, rfl, rfl, rfl, rfl, rfl, rfl, rfl, rfl, rfl⟩)).trans h)
  . intro rs' m' hx
    unfold r_tEnc at hx
    split at hx
    . dsimp only at hx
      split at hx
      . rename_i hk
        obtain ⟨rfl, rfl, rfl, rfl, rfl, rfl, rfl, rfl, rfl, rfl, rfl, rfl⟩ := hk
        cases hx; exact ⟨rfl, rfl, _, [⟨95, [_, _, _, _, _, _, _, _, _, _, _, _, _, _]⟩], rfl, rfl, ⟨⟨rfl, .inl rfl, .inl rfl, .inl rfl, .inl rfl, .inl rfl, .inr ⟨_, _, rfl, rfl⟩, .inl rfl, .inr ⟨_, _, rfl, rfl⟩, .inl rfl, .inl rfl, .inl rfl, .inr ⟨_, _, rfl, rfl⟩, .inl rfl, .inl rfl, trivial⟩, trivial⟩⟩
      . cases hx
    . cases hx
abbrev Ty26 := Int -> List UInt8 -> Int -> Int -> Int -> Int -> Int -> List UInt8 -> Int -> List V -> List UInt8 -> Int -> Int -> List UInt8 -> Bool -> Int -> Option (List UInt8 × Int × Int × Int)
noncomputable def e_tFailure {R : Type} (s : Ty26) (dst : Nat) (ds : List D) (m : Mem) (K : List D -> Mem -> Option R) : Option R :=
  match ds with
  | [.ptr (kv0 + 1) sv0 0, .v (.int .i64 x0) .no, .v (.bytes x1) .no] => viewK [(kv0, sv0)] m fun Bs => (match Bs with
    | [⟨95, [.v (.int .i64 y0) .no, .v (.int .i64 y1) .no, .v (.int .i64 y2) .no, .v (.int .i64 y3) .no, .v (.int .i64 y4) .no, .v (.bytes y5) _, .v (.int .i64 y6) .no, .v (.sl 27 y7) _, .v (.bytes y8) (.own (.slot 0) 5), .v (.int .i64 y9) .no, .v (.int .i64 y10) .no, .v (.bytes y11) _, .v (.bool y12) .no, .v (.int .i64 y13) .no]⟩] => bnd4 (s x0 x1 y0 y1 y2 y3 y4 y5 y6 y7 y8 y9 y10 y11 y12 y13) fun r0 z9 z10 z13 => putAllK [(kv0, sv0)] [⟨95, [.v (.int .i64 y0) .no, .v (.int .i64 y1) .no, .v (.int .i64 y2) .no, .v (.int .i64 y3) .no, .v (.int .i64 y4) .no, .v (.bytes y5) .no, .v (.int .i64 y6) .no, .v (.sl 27 y7) .no, .v (.bytes y8) (.own (.slot 0) 5), .v (.int .i64 z9) .no, .v (.int .i64 z10) .no, .v (.bytes y11) .no, .v (.bool y12) .no, .v (.int .i64 z13) .no]⟩] m fun m' => K [.v (.bytes r0) .no] m'
    | _ => none)
  | _ => none
noncomputable def C_tFailure {R : Type} (N : Nat) (x0 : Int) (x1 : List UInt8) (y0 y1 y2 y3 y4 : Int) (y5 : List UInt8) (y6 : Int) (y7 : List V) (y8 : List UInt8) (y9 y10 : Int) (y11 : List UInt8) (y12 : Bool) (y13 : Int) (K0 : List UInt8 -> Int -> Int -> Int -> Option R) : Option R := br (decide (10 < IntKind.i64.wrap (y10 + 1))) (bnd3 (s_tFail N x0 y0 y1 y2 y3 y4 y5 y6 y7 y8 y9 (IntKind.i64.wrap (y10 + 1)) y11 y12 y13) fun l0 n1 n2 => K0 l0 n1 (IntKind.i64.wrap (y10 + 1)) n2) (K0 x1 y9 (IntKind.i64.wrap (y10 + 1)) y13)
noncomputable def s_tFailure (N : Nat) (x0 : Int) (x1 : List UInt8) (y0 y1 y2 y3 y4 : Int) (y5 : List UInt8) (y6 : Int) (y7 : List V) (y8 : List UInt8) (y9 y10 : Int) (y11 : List UInt8) (y12 : Bool) (y13 : Int) : Option (List UInt8 × Int × Int × Int) := C_tFailure N x0 x1 y0 y1 y2 y3 y4 y5 y6 y7 y8 y9 y10 y11 y12 y13 (fun r0 z9 z10 z13 => some (r0, z9, z10, z13))
noncomputable def cx_tFailure (N : Nat) : Cx := cxO [] [⟨90, e_tFail (s_tFail N)⟩]
theorem C_tFailure_ok {R : Type} (N : Nat) (x0 x1 y0 y1 y2 y3 y4 y5 y6 y7 y8 y9 y10 y11 y12 y13 K : _) : bodyK (R := R) (cx_tFailure N) Try.f67 [.ptr 1 0 0, dI x0, dY x1] [frOf 0 [g2a y0 y1 y2 y3 y4 y5 y6 y7 y8 y9 y10 y11 y12 y13]] (r_tEnc K) = C_tFailure N x0 x1 y0 y1 y2 y3 y4 y5 y6 y7 y8 y9 y10 y11 y12 y13 (fun r0 z9 z10 z13 => K r0 y0 y1 y2 y3 y4 y5 y6 y7 y8 z9 z10 y11 y12 z13) := by
  kernel_rfl
abbrev Q_tFailure (s : Ty26) : Prop := ∀ x0 x1 y0 y1 y2 y3 y4 y5 y6 y7 y8 y9 y10 y11 y12 y13 r0 z9 z10 z13, s x0 x1 y0 y1 y2 y3 y4 y5 y6 y7 y8 y9 y10 y11 y12 y13 = some (r0, z9, z10, z13) -> ViewRet Try.prog T 67 [.ptr 1 0 0, dI x0, dY x1] [g2a y0 y1 y2 y3 y4 y5 y6 y7 y8 y9 y10 y11 y12 y13] [dY r0] [g2a y0 y1 y2 y3 y4 y5 y6 y7 y8 z9 z10 y11 y12 z13]
theorem eo_tFailure (s : Ty26) (hs : Q_tFailure s) : MEntOK Try.prog T ⟨67, e_tFailure s⟩ := by
  refine ⟨goes_of Try.func67 (by kernel_rfl) (c := bodyOf Try.f67) (by kernel_rfl), fun R dst ds m K r h => ?_⟩
  simp only [e_tFailure] at h
  split at h
  . obtain ⟨Bs, a1, a2, a3, h⟩ := viewK_some h
    split at h
    . obtain ⟨r0, z9, z10, z13, h1, h2⟩ := bnd4_some h
      rw [putAllK_eq] at h2
      exact ⟨_, _, h2, ViewRet.weakIn (hs _ _ _ _ _ _ _ _ _ _ _ _ _ _ _ _ _ _ _ _ h1) (by exact ⟨⟨rfl, .inl rfl, .inl rfl, .inl rfl, .inl rfl, .inl rfl, .inr ⟨_, _, rfl, rfl⟩, .inl rfl, .inr ⟨_, _, rfl, rfl⟩, .inl rfl, .inl rfl, .inl rfl, .inr ⟨_, _, rfl, rfl⟩, .inl rfl, .inl rfl, trivial⟩, trivial⟩) rfl _ _ m dst a1 a2 a3 ⟨aren_ptr _ rfl, aren_v _, aren_v _, trivial⟩⟩
    . cases h
  . cases h
open Classical in
theorem p_tFailure (N : Nat) : Q_tFailure (s_tFailure N) := fun x0 x1 y0 y1 y2 y3 y4 y5 y6 y7 y8 y9 y10 y11 y12 y13 r0 z9 z10 z13 h => by
  refine view_ofW (cx := cx_tFailure N) (by kernel_rfl) (cxO_ok trivial ⟨eo_tFail _ (p_tFail N), trivial⟩) Try.func67 (by kernel_rfl) (by kernel_rfl) (loopsOK_of (k := 0) (by kernel_rfl) trivial) (by rfl) (by rfl) (by rfl) (rf := r_tEnc (fun r0' z'0 z'1 z'2 z'3 z'4 z'5 z'6 z'7 z'8 z'9 z'10 z'11 z'12 z'13 => if z'0 = y0 /\ z'1 = y1 /\ z'2 = y2 /\ z'3 = y3 /\ z'4 = y4 /\ z'5 = y5 /\ z'6 = y6 /\ z'7 = y7 /\ z'8 = y8 /\ z'11 = y11 /\ z'12 = y12 then some (r0', z'9, z'10, z'13) else none)) (r := (r0, z9, z10, z13)) ?_ ?_
  . exact (C_tFailure_ok ..).trans ((congrArg (fun K => C_tFailure N x0 x1 y0 y1 y2 y3 y4 y5 y6 y7 y8 y9 y10 y11 y12 y13 K) (funext fun r0' => funext fun z'9 => funext fun z'10 => funext fun z'13 => if_pos ⟨rfl, rfl, rfl, rfl, rfl, rfl, rfl, rfl, rfl, rfl, rfl⟩)).trans h)
  . intro rs' m' hx
    unfold r_tEnc at hx
    split at hx
    . dsimp only at hx
      split at hx
      . rename_i hk
        obtain ⟨rfl, rfl, rfl, rfl, rfl, rfl, rfl, rfl, rfl, rfl, rfl⟩ := hk
        cases hx; exact ⟨rfl, rfl, _, [⟨95, [_, _, _, _, _, _, _, _, _, _, _, _, _, _]⟩], rfl, rfl, ⟨⟨rfl, .inl rfl, .inl rfl, .inl rfl, .inl rfl, .inl rfl, .inr ⟨_, _, rfl, rfl⟩, .inl rfl, .inr ⟨_, _, rfl, rfl⟩, .inl rfl, .inl rfl, .inl rfl, .inr ⟨_, _, rfl, rfl⟩, .inl rfl, .inl rfl, trivial⟩, trivial⟩⟩
      . cases hx
    . cases hx
abbrev Ty27 := Int -> Int -> Int -> Bool -> Int -> Bool -> List UInt8 -> Int -> Int -> Int -> Int -> Int -> List UInt8 -> Int -> List V -> List UInt8 -> Int -> Int -> List UInt8 -> Bool -> Int -> Option (List UInt8 × Int × List UInt8 × Int × Int × Bool × Int)
noncomputable def e_tInfo {R : Type} (s : Ty27) (dst : Nat) (ds : List D) (m : Mem) (K : List D -> Mem -> Option R) : Option R :=
  match ds with
  | [.ptr (kv0 + 1) sv0 0, .agg [.v (.int .i64 x0) .no, .v (.int .i64 x1) .no, .v (.int .i64 x2) .no, .v (.bool x3) .no, .v (.int .i64 x4) .no, .v (.bool x5) .no, .v (.bytes x6) .no]] => viewK [(kv0, sv0)] m fun Bs => (match Bs with
    | [⟨95, [.v (.int .i64 y0) .no, .v (.int .i64 y1) .no, .v (.int .i64 y2) .no, .v (.int .i64 y3) .no, .v (.int .i64 y4) .no, .v (.bytes y5) _, .v (.int .i64 y6) .no, .v (.sl 27 y7) _, .v (.bytes y8) (.own (.slot 0) 5), .v (.int .i64 y9) .no, .v (.int .i64 y10) .no, .v (.bytes y11) _, .v (.bool y12) .no, .v (.int .i64 y13) .no]⟩] => bnd7 (s x0 x1 x2 x3 x4 x5 x6 y0 y1 y2 y3 y4 y5 y6 y7 y8 y9 y10 y11 y12 y13) fun r0 z3 z8 z9 z10 z12 z13 => putAllK [(kv0, sv0)] [⟨95, [.v (.int .i64 y0) .no, .v (.int .i64 y1) .no, .v (.int .i64 y2) .no, .v (.int .i64 z3) .no, .v (.int .i64 y4) .no, .v (.bytes y5) .no, .v (.int .i64 y6) .no, .v (.sl 27 y7) .no, .v (.bytes z8) (.own (.slot 0) 5), .v (.int .i64 z9) .no, .v (.int .i64 z10) .no, .v (.bytes y11) .no, .v (.bool z12) .no, .v (.int .i64 z13) .no]⟩] m fun m' => K [.v (.bytes r0) .no] m'
    | _ => none)
  | _ => none
noncomputable def C_tInfo {R : Type} (N : Nat) (x0 x1 x2 : Int) (x3 : Bool) (x4 : Int) (x5 : Bool) (x6 : List UInt8) (y0 y1 y2 y3 y4 : Int) (y5 : List UInt8) (y6 : Int) (y7 : List V) (y8 : List UInt8) (y9 y10 : Int) (y11 : List UInt8) (y12 : Bool) (y13 : Int) (K0 : List UInt8 -> Int -> List UInt8 -> Int -> Int -> Bool -> Int -> Option R) : Option R := br (!decide (x2 = y3)) (bnd1 (s_tReady N 2 y0 y1 y2 y3 y4 y5 y6 y7 y8 y9 y10 y11 y12 y13) fun l0 => bnd4 (s_tFailure N 28 l0 y0 y1 y2 y3 y4 y5 y6 y7 y8 y9 y10 y11 y12 y13) fun l1 n2 n3 n4 => K0 l1 y3 y8 n2 n3 y12 n4) (br (decide (0 < (y7.length : Int))) (bnd1 (s_tReady N 2 y0 y1 y2 y3 y4 y5 y6 y7 y8 y9 y10 y11 y12 y13) fun l5 => bnd4 (s_tFailure N 28 l5 y0 y1 y2 y3 y4 y5 y6 y7 y8 y9 y10 y11 y12 y13) fun l6 n7 n8 n9 => K0 l6 y3 y8 n7 n8 y12 n9) (br (decide ((y8.length + x6.length) * 1 <= 140737488355328)) (br (decide (65538 < ((y8 ++ x6).length : Int))) (bnd3 (s_tFail N 28 y0 y1 y2 (IntKind.i64.wrap (1 - y3)) y4 y5 y6 y7 (y8 ++ x6) y9 0 y11 y12 y13) fun l10 n11 n12 => K0 l10 (IntKind.i64.wrap (1 - y3)) (y8 ++ x6) n11 0 y12 n12) (br x3 (bnd1 (s_tReady N 0 y0 y1 y2 (IntKind.i64.wrap (1 - y3)) y4 y5 y6 y7 (y8 ++ x6) y9 0 y11 y12 y13) fun l13 => K0 l13 (IntKind.i64.wrap (1 - y3)) (y8 ++ x6) y9 0 y12 y13) (K0 [] (IntKind.i64.wrap (1 - y3)) (y8 ++ x6) 0 0 true y13))) none))
noncomputable def s_tInfo (N : Nat) (x0 x1 x2 : Int) (x3 : Bool) (x4 : Int) (x5 : Bool) (x6 : List UInt8) (y0 y1 y2 y3 y4 : Int) (y5 : List UInt8) (y6 : Int) (y7 : List V) (y8 : List UInt8) (y9 y10 : Int) (y11 : List UInt8) (y12 : Bool) (y13 : Int) : Option (List UInt8 × Int × List UInt8 × Int × Int × Bool × Int) := C_tInfo N x0 x1 x2 x3 x4 x5 x6 y0 y1 y2 y3 y4 y5 y6 y7 y8 y9 y10 y11 y12 y13 (fun r0 z3 z8 z9 z10 z12 z13 => some (r0, z3, z8, z9, z10, z12, z13))
noncomputable def cx_tInfo (N : Nat) : Cx := cxO [] [⟨47, e_tReady (s_tReady N)⟩, ⟨90, e_tFail (s_tFail N)⟩, ⟨67, e_tFailure (s_tFailure N)⟩]
theorem C_tInfo_ok {R : Type} (N : Nat) (x0 x1 x2 x3 x4 x5 x6 y0 y1 y2 y3 y4 y5 y6 y7 y8 y9 y10 y11 y12 y13 K : _) : bodyK (R := R) (cx_tInfo N) Try.f68 [.ptr 1 0 0, g0a x0 x1 x2 x3 x4 x5 x6] [frOf 0 [g2a y0 y1 y2 y3 y4 y5 y6 y7 y8 y9 y10 y11 y12 y13]] (r_tEnc K) = C_tInfo N x0 x1 x2 x3 x4 x5 x6 y0 y1 y2 y3 y4 y5 y6 y7 y8 y9 y10 y11 y12 y13 (fun r0 z3 z8 z9 z10 z12 z13 => K r0 y0 y1 y2 z3 y4 y5 y6 y7 z8 z9 z10 y11 z12 z13) := by
  kernel_rfl
abbrev Q_tInfo (s : Ty27) : Prop := ∀ x0 x1 x2 x3 x4 x5 x6 y0 y1 y2 y3 y4 y5 y6 y7 y8 y9 y10 y11 y12 y13 r0 z3 z8 z9 z10 z12 z13, s x0 x1 x2 x3 x4 x5 x6 y0 y1 y2 y3 y4 y5 y6 y7 y8 y9 y10 y11 y12 y13 = some (r0, z3, z8, z9, z10, z12, z13) -> ViewRet Try.prog T 68 [.ptr 1 0 0, g0a x0 x1 x2 x3 x4 x5 x6] [g2a y0 y1 y2 y3 y4 y5 y6 y7 y8 y9 y10 y11 y12 y13] [dY r0] [g2a y0 y1 y2 z3 y4 y5 y6 y7 z8 z9 z10 y11 z12 z13]
theorem eo_tInfo (s : Ty27) (hs : Q_tInfo s) : MEntOK Try.prog T ⟨68, e_tInfo s⟩ := by
  refine ⟨goes_of Try.func68 (by kernel_rfl) (c := bodyOf Try.f68) (by kernel_rfl), fun R dst ds m K r h => ?_⟩
  simp only [e_tInfo] at h
  split at h
  . obtain ⟨Bs, a1, a2, a3, h⟩ := viewK_some h
    split at h
    . obtain ⟨r0, z3, z8, z9, z10, z12, z13, h1, h2⟩ := bnd7_some h
      rw [putAllK_eq] at h2
      exact ⟨_, _, h2, ViewRet.weakIn (hs _ _ _ _ _ _ _ _ _ _ _ _ _ _ _ _ _ _ _ _ _ _ _ _ _ _ _ _ h1) (by exact ⟨⟨rfl, .inl rfl, .inl rfl, .inl rfl, .inl rfl, .inl rfl, .inr ⟨_, _, rfl, rfl⟩, .inl rfl, .inr ⟨_, _, rfl, rfl⟩, .inl rfl, .inl rfl, .inl rfl, .inr ⟨_, _, rfl, rfl⟩, .inl rfl, .inl rfl, trivial⟩, trivial⟩) rfl _ _ m dst a1 a2 a3 ⟨aren_ptr _ rfl, aren_agg ⟨aren_v _, aren_v _, aren_v _, aren_v _, aren_v _, aren_v _, aren_v _, trivial⟩, trivial⟩⟩
    . cases h
  . cases h
open Classical in
theorem p_tInfo (N : Nat) : Q_tInfo (s_tInfo N) := fun x0 x1 x2 x3 x4 x5 x6 y0 y1 y2 y3 y4 y5 y6 y7 y8 y9 y10 y11 y12 y13 r0 z3 z8 z9 z10 z12 z13 h => by
  refine view_ofW (cx := cx_tInfo N) (by kernel_rfl) (cxO_ok trivial ⟨eo_tReady _ (p_tReady N), eo_tFail _ (p_tFail N), eo_tFailure _ (p_tFailure N), trivial⟩) Try.func68 (by kernel_rfl) (by kernel_rfl) (loopsOK_of (k := 0) (by kernel_rfl) trivial) (by rfl) (by rfl) (by rfl) (rf := r_tEnc (fun r0' z'0 z'1 z'2 z'3 z'4 z'5 z'6 z'7 z'8 z'9 z'10 z'11 z'12 z'13 => if z'0 = y0 /\ z'1 = y1 /\ z'2 = y2 /\ z'4 = y4 /\ z'5 = y5 /\ z'6 = y6 /\ z'7 = y7 /\ z'11 = y11 then some (r0', z'3, z'8, z'9, z'10, z'12, z'13) else none)) (r := (r0, z3, z8, z9, z10, z12, z13)) ?_ ?_
  . exact (C_tInfo_ok ..).trans ((congrArg (fun K => C_tInfo N x0 x1 x2 x3 x4 x5 x6 y0 y1 y2 y3 y4 y5 y6 y7 y8 y9 y10 y11 y12 y13 K) (funext fun r0' => funext fun z'3 => funext fun z'8 => funext fun z'9 => funext fun z'10 => funext fun z'12 => funext fun z'13 => if_pos ⟨rfl, rfl, rfl, rfl, rfl, rfl, rfl, rfl⟩)).trans h)
  . intro rs' m' hx
    unfold r_tEnc at hx
    split at hx
    . dsimp only at hx
      split at hx
      . rename_i hk
        obtain ⟨rfl, rfl, rfl, rfl, rfl, rfl, rfl, rfl⟩ := hk
        cases hx; exact ⟨rfl, rfl, _, [⟨95, [_, _, _, _, _, _, _, _, _, _, _, _, _, _]⟩], rfl, rfl, ⟨⟨rfl, .inl rfl, .inl rfl, .inl rfl, .inl rfl, .inl rfl, .inr ⟨_, _, rfl, rfl⟩, .inl rfl, .inr ⟨_, _, rfl, rfl⟩, .inl rfl, .inl rfl, .inl rfl, .inr ⟨_, _, rfl, rfl⟩, .inl rfl, .inl rfl, trivial⟩, trivial⟩⟩
      . cases hx
    . cases hx
abbrev Ty28 := Int -> Int -> Int -> Bool -> Int -> Bool -> List UInt8 -> Int -> Int -> Int -> Int -> Int -> List UInt8 -> Int -> List V -> List UInt8 -> Int -> Int -> List UInt8 -> Bool -> Int -> Option (List UInt8 × Int × List UInt8 × Int × List V × Int × Int × Int)
noncomputable def e_tAgain {R : Type} (s : Ty28) (dst : Nat) (ds : List D) (m : Mem) (K : List D -> Mem -> Option R) : Option R :=
  match ds with
  | [.ptr (kv0 + 1) sv0 0, .agg [.v (.int .i64 x0) .no, .v (.int .i64 x1) .no, .v (.int .i64 x2) .no, .v (.bool x3) .no, .v (.int .i64 x4) .no, .v (.bool x5) .no, .v (.bytes x6) .no]] => viewK [(kv0, sv0)] m fun Bs => (match Bs with
    | [⟨95, [.v (.int .i64 y0) .no, .v (.int .i64 y1) .no, .v (.int .i64 y2) .no, .v (.int .i64 y3) .no, .v (.int .i64 y4) .no, .v (.bytes y5) _, .v (.int .i64 y6) .no, .v (.sl 27 y7) _, .v (.bytes y8) (.own (.slot 0) 5), .v (.int .i64 y9) .no, .v (.int .i64 y10) .no, .v (.bytes y11) _, .v (.bool y12) .no, .v (.int .i64 y13) .no]⟩] => bnd8 (s x0 x1 x2 x3 x4 x5 x6 y0 y1 y2 y3 y4 y5 y6 y7 y8 y9 y10 y11 y12 y13) fun r0 z4 z5 z6 z7 z9 z10 z13 => putAllK [(kv0, sv0)] [⟨95, [.v (.int .i64 y0) .no, .v (.int .i64 y1) .no, .v (.int .i64 y2) .no, .v (.int .i64 y3) .no, .v (.int .i64 z4) .no, .v (.bytes z5) .no, .v (.int .i64 z6) .no, .v (.sl 27 z7) .no, .v (.bytes y8) (.own (.slot 0) 5), .v (.int .i64 z9) .no, .v (.int .i64 z10) .no, .v (.bytes y11) .no, .v (.bool y12) .no, .v (.int .i64 z13) .no]⟩] m fun m' => K [.v (.bytes r0) .no] m'
    | _ => none)
  | _ => none
noncomputable def C_tAgain {R : Type} (N : Nat) (x0 x1 x2 : Int) (x3 : Bool) (x4 : Int) (x5 : Bool) (x6 : List UInt8) (y0 y1 y2 y3 y4 : Int) (y5 : List UInt8) (y6 : Int) (y7 : List V) (y8 : List UInt8) (y9 y10 : Int) (y11 : List UInt8) (y12 : Bool) (y13 : Int) (K0 : List UInt8 -> Int -> List UInt8 -> Int -> List V -> Int -> Int -> Int -> Option R) : Option R := br (decide (x2 = y6)) (bnd1 (s_clone N y5) fun l0 => bnd4 (s_tFailure N 28 l0 y0 y1 y2 y3 y4 y5 y6 y7 y8 y9 y10 y11 y12 y13) fun l1 n2 n3 n4 => K0 l1 y4 y5 y6 y7 n2 n3 n4) (br (decide (0 < (y7.length : Int))) (bnd5 (s_tPiece N y0 y1 y2 y3 y4 y5 y6 y7 y8 y9 0 y11 y12 y13) fun l5 n6 l7 n8 l9 => K0 l5 n6 l7 n8 l9 y9 0 y13) (bnd1 (s_tReady N 0 y0 y1 y2 y3 y4 y5 y6 y7 y8 y9 y10 y11 y12 y13) fun l10 => bnd4 (s_tFailure N 28 l10 y0 y1 y2 y3 y4 y5 y6 y7 y8 y9 y10 y11 y12 y13) fun l11 n12 n13 n14 => K0 l11 y4 y5 y6 y7 n12 n13 n14))
noncomputable def s_tAgain (N : Nat) (x0 x1 x2 : Int) (x3 : Bool) (x4 : Int) (x5 : Bool) (x6 : List UInt8) (y0 y1 y2 y3 y4 : Int) (y5 : List UInt8) (y6 : Int) (y7 : List V) (y8 : List UInt8) (y9 y10 : Int) (y11 : List UInt8) (y12 : Bool) (y13 : Int) : Option (List UInt8 × Int × List UInt8 × Int × List V × Int × Int × Int) := C_tAgain N x0 x1 x2 x3 x4 x5 x6 y0 y1 y2 y3 y4 y5 y6 y7 y8 y9 y10 y11 y12 y13 (fun r0 z4 z5 z6 z7 z9 z10 z13 => some (r0, z4, z5, z6, z7, z9, z10, z13))
noncomputable def cx_tAgain (N : Nat) : Cx := cxO [⟨60, e_clone (s_clone N)⟩] [⟨47, e_tReady (s_tReady N)⟩, ⟨82, e_tPiece (s_tPiece N)⟩, ⟨67, e_tFailure (s_tFailure N)⟩]
theorem C_tAgain_ok {R : Type} (N : Nat) (x0 x1 x2 x3 x4 x5 x6 y0 y1 y2 y3 y4 y5 y6 y7 y8 y9 y10 y11 y12 y13 K : _) : bodyK (R := R) (cx_tAgain N) Try.f69 [.ptr 1 0 0, g0a x0 x1 x2 x3 x4 x5 x6] [frOf 0 [g2a y0 y1 y2 y3 y4 y5 y6 y7 y8 y9 y10 y11 y12 y13]] (r_tEnc K) = C_tAgain N x0 x1 x2 x3 x4 x5 x6 y0 y1 y2 y3 y4 y5 y6 y7 y8 y9 y10 y11 y12 y13 (fun r0 z4 z5 z6 z7 z9 z10 z13 => K r0 y0 y1 y2 y3 z4 z5 z6 z7 y8 z9 z10 y11 y12 z13) := by
  kernel_rfl
abbrev Q_tAgain (s : Ty28) : Prop := ∀ x0 x1 x2 x3 x4 x5 x6 y0 y1 y2 y3 y4 y5 y6 y7 y8 y9 y10 y11 y12 y13 r0 z4 z5 z6 z7 z9 z10 z13, s x0 x1 x2 x3 x4 x5 x6 y0 y1 y2 y3 y4 y5 y6 y7 y8 y9 y10 y11 y12 y13 = some (r0, z4, z5, z6, z7, z9, z10, z13) -> ViewRet Try.prog T 69 [.ptr 1 0 0, g0a x0 x1 x2 x3 x4 x5 x6] [g2a y0 y1 y2 y3 y4 y5 y6 y7 y8 y9 y10 y11 y12 y13] [dY r0] [g2a y0 y1 y2 y3 z4 z5 z6 z7 y8 z9 z10 y11 y12 z13]
theorem eo_tAgain (s : Ty28) (hs : Q_tAgain s) : MEntOK Try.prog T ⟨69, e_tAgain s⟩ := by
  refine ⟨goes_of Try.func69 (by kernel_rfl) (c := bodyOf Try.f69) (by kernel_rfl), fun R dst ds m K r h => ?_⟩
  simp only [e_tAgain] at h
  split at h
  . obtain ⟨Bs, a1, a2, a3, h⟩ := viewK_some h
    split at h
    . obtain ⟨r0, z4, z5, z6, z7, z9, z10, z13, h1, h2⟩ := bnd8_some h
      rw [putAllK_eq] at h2
      exact ⟨_, _, h2, ViewRet.weakIn (hs _ _ _ _ _ _ _ _ _ _ _ _ _ _ _ _ _ _ _ _ _ _ _ _ _ _ _ _ _ h1) (by exact ⟨⟨rfl, .inl rfl, .inl rfl, .inl rfl, .inl rfl, .inl rfl, .inr ⟨_, _, rfl, rfl⟩, .inl rfl, .inr ⟨_, _, rfl, rfl⟩, .inl rfl, .inl rfl, .inl rfl, .inr ⟨_, _, rfl, rfl⟩, .inl rfl, .inl rfl, trivial⟩, trivial⟩) rfl _ _ m dst a1 a2 a3 ⟨aren_ptr _ rfl, aren_agg ⟨aren_v _, aren_v _, aren_v _, aren_v _, aren_v _, aren_v _, aren_v _, trivial⟩, trivial⟩⟩
    . cases h
  . cases h
open Classical in
theorem p_tAgain (N : Nat) : Q_tAgain (s_tAgain N) := fun x0 x1 x2 x3 x4 x5 x6 y0 y1 y2 y3 y4 y5 y6 y7 y8 y9 y10 y11 y12 y13 r0 z4 z5 z6 z7 z9 z10 z13 h => by
  refine view_ofW (cx := cx_tAgain N) (by kernel_rfl) (cxO_ok ⟨eo_clone _ (p_clone N), trivial⟩ ⟨eo_tReady _ (p_tReady N), eo_tPiece _ (p_tPiece N), eo_tFailure _ (p_tFailure N), trivial⟩) Try.func69 (by kernel_rfl) (by kernel_rfl) (loopsOK_of (k := 0) (by kernel_rfl) trivial) (by rfl) (by rfl) (by rfl) (rf := r_tEnc (fun r0' z'0 z'1 z'2 z'3 z'4 z'5 z'6 z'7 z'8 z'9 z'10 z'11 z'12 z'13 => if z'0 = y0 /\ z'1 = y1 /\ z'2 = y2 /\ z'3 = y3 /\ z'8 = y8 /\ z'11 = y11 /\ z'12 = y12 then some (r0', z'4, z'5, z'6, z'7, z'9, z'10, z'13) else none)) (r := (r0, z4, z5, z6, z7, z9, z10, z13)) ?_ ?_
  . exact (C_tAgain_ok ..).trans ((congrArg (fun K => C_tAgain N x0 x1 x2 x3 x4 x5 x6 y0 y1 y2 y3 y4 y5 y6 y7 y8 y9 y10 y11 y12 y13 K) (funext fun r0' => funext fun z'4 => funext fun z'5 => funext fun z'6 => funext fun z'7 => funext fun z'9 => funext fun z'10 => funext fun z'13 => if_pos ⟨rfl, rfl, rfl, rfl, rfl, rfl, rfl⟩)).trans h)
  . intro rs' m' hx
    unfold r_tEnc at hx
    split at hx
    . dsimp only at hx
      split at hx
      . rename_i hk
        obtain ⟨rfl, rfl, rfl, rfl, rfl, rfl, rfl⟩ := hk
        cases hx; exact ⟨rfl, rfl, _, [⟨95, [_, _, _, _, _, _, _, _, _, _, _, _, _, _]⟩], rfl, rfl, ⟨⟨rfl, .inl rfl, .inl rfl, .inl rfl, .inl rfl, .inl rfl, .inr ⟨_, _, rfl, rfl⟩, .inl rfl, .inr ⟨_, _, rfl, rfl⟩, .inl rfl, .inl rfl, .inl rfl, .inr ⟨_, _, rfl, rfl⟩, .inl rfl, .inl rfl, trivial⟩, trivial⟩⟩
      . cases hx
    . cases hx
abbrev Ty29 := Int -> Int -> Int -> Bool -> Int -> Bool -> List UInt8 -> Int -> Int -> Int -> Int -> Int -> List UInt8 -> Int -> List V -> List UInt8 -> Int -> Int -> List UInt8 -> Bool -> Int -> Option (List UInt8 × Int × Int × Int × Int)
noncomputable def e_tSuper {R : Type} (s : Ty29) (dst : Nat) (ds : List D) (m : Mem) (K : List D -> Mem -> Option R) : Option R :=
  match ds with
  | [.ptr (kv0 + 1) sv0 0, .agg [.v (.int .i64 x0) .no, .v (.int .i64 x1) .no, .v (.int .i64 x2) .no, .v (.bool x3) .no, .v (.int .i64 x4) .no, .v (.bool x5) .no, .v (.bytes x6) .no]] => viewK [(kv0, sv0)] m fun Bs => (match Bs with
    | [⟨95, [.v (.int .i64 y0) .no, .v (.int .i64 y1) .no, .v (.int .i64 y2) .no, .v (.int .i64 y3) .no, .v (.int .i64 y4) .no, .v (.bytes y5) _, .v (.int .i64 y6) .no, .v (.sl 27 y7) _, .v (.bytes y8) (.own (.slot 0) 5), .v (.int .i64 y9) .no, .v (.int .i64 y10) .no, .v (.bytes y11) _, .v (.bool y12) .no, .v (.int .i64 y13) .no]⟩] => bnd5 (s x0 x1 x2 x3 x4 x5 x6 y0 y1 y2 y3 y4 y5 y6 y7 y8 y9 y10 y11 y12 y13) fun r0 z2 z9 z10 z13 => putAllK [(kv0, sv0)] [⟨95, [.v (.int .i64 y0) .no, .v (.int .i64 y1) .no, .v (.int .i64 z2) .no, .v (.int .i64 y3) .no, .v (.int .i64 y4) .no, .v (.bytes y5) .no, .v (.int .i64 y6) .no, .v (.sl 27 y7) .no, .v (.bytes y8) (.own (.slot 0) 5), .v (.int .i64 z9) .no, .v (.int .i64 z10) .no, .v (.bytes y11) .no, .v (.bool y12) .no, .v (.int .i64 z13) .no]⟩] m fun m' => K [.v (.bytes r0) .no] m'
    | _ => none)
  | _ => none
noncomputable def C_tSuper {R : Type} (N : Nat) (x0 x1 x2 : Int) (x3 : Bool) (x4 : Int) (x5 : Bool) (x6 : List UInt8) (y0 y1 y2 y3 y4 : Int) (y5 : List UInt8) (y6 : Int) (y7 : List V) (y8 : List UInt8) (y9 y10 : Int) (y11 : List UInt8) (y12 : Bool) (y13 : Int) (K0 : List UInt8 -> Int -> Int -> Int -> Int -> Option R) : Option R := br (!x5) (br (decide (x4 = 2)) (bnd3 (s_tFail N 28 y0 y1 y2 y3 y4 y5 y6 y7 y8 y9 y10 y11 y12 y13) fun l0 n1 n2 => K0 l0 y2 n1 y10 n2) (br (!x5) (br (decide (x4 = 3)) (bnd1 (s_tSpecial N x4 true x6 y0 y1 y2 y3 y4 y5 y6 y7 y8 y9 0 y11 y12 y13) fun l3 => K0 l3 y2 y9 0 y13) (br (!x5) (br (decide (x4 = 1)) (bnd1 (s_tsize N x0 x1 x2 x3 x4 x5 x6) fun n4 => br (decide (0 < n4)) (bnd1 (s_tsize N x0 x1 x2 x3 x4 x5 x6) fun n5 => bnd1 (s_tSpecial N x4 true x6 y0 y1 n5 y3 y4 y5 y6 y7 y8 y9 0 y11 y12 y13) fun l6 => K0 l6 n5 y9 0 y13) (bnd1 (s_tReady N 2 y0 y1 y2 y3 y4 y5 y6 y7 y8 y9 y10 y11 y12 y13) fun l7 => bnd4 (s_tFailure N 28 l7 y0 y1 y2 y3 y4 y5 y6 y7 y8 y9 y10 y11 y12 y13) fun l8 n9 n10 n11 => K0 l8 y2 n9 n10 n11)) (bnd1 (s_tReady N 2 y0 y1 y2 y3 y4 y5 y6 y7 y8 y9 y10 y11 y12 y13) fun l12 => bnd4 (s_tFailure N 28 l12 y0 y1 y2 y3 y4 y5 y6 y7 y8 y9 y10 y11 y12 y13) fun l13 n14 n15 n16 => K0 l13 y2 n14 n15 n16)) (bnd1 (s_tReady N 2 y0 y1 y2 y3 y4 y5 y6 y7 y8 y9 y10 y11 y12 y13) fun l17 => bnd4 (s_tFailure N 28 l17 y0 y1 y2 y3 y4 y5 y6 y7 y8 y9 y10 y11 y12 y13) fun l18 n19 n20 n21 => K0 l18 y2 n19 n20 n21))) (br (!x5) (br (decide (x4 = 1)) (bnd1 (s_tsize N x0 x1 x2 x3 x4 x5 x6) fun n22 => br (decide (0 < n22)) (bnd1 (s_tsize N x0 x1 x2 x3 x4 x5 x6) fun n23 => bnd1 (s_tSpecial N x4 true x6 y0 y1 n23 y3 y4 y5 y6 y7 y8 y9 0 y11 y12 y13) fun l24 => K0 l24 n23 y9 0 y13) (bnd1 (s_tReady N 2 y0 y1 y2 y3 y4 y5 y6 y7 y8 y9 y10 y11 y12 y13) fun l25 => bnd4 (s_tFailure N 28 l25 y0 y1 y2 y3 y4 y5 y6 y7 y8 y9 y10 y11 y12 y13) fun l26 n27 n28 n29 => K0 l26 y2 n27 n28 n29)) (bnd1 (s_tReady N 2 y0 y1 y2 y3 y4 y5 y6 y7 y8 y9 y10 y11 y12 y13) fun l30 => bnd4 (s_tFailure N 28 l30 y0 y1 y2 y3 y4 y5 y6 y7 y8 y9 y10 y11 y12 y13) fun l31 n32 n33 n34 => K0 l31 y2 n32 n33 n34)) (bnd1 (s_tReady N 2 y0 y1 y2 y3 y4 y5 y6 y7 y8 y9 y10 y11 y12 y13) fun l35 => bnd4 (s_tFailure N 28 l35 y0 y1 y2 y3 y4 y5 y6 y7 y8 y9 y10 y11 y12 y13) fun l36 n37 n38 n39 => K0 l36 y2 n37 n38 n39)))) (br (!x5) (br (decide (x4 = 3)) (bnd1 (s_tSpecial N x4 true x6 y0 y1 y2 y3 y4 y5 y6 y7 y8 y9 0 y11 y12 y13) fun l40 => K0 l40 y2 y9 0 y13) (br (!x5) (br (decide (x4 = 1)) (bnd1 (s_tsize N x0 x1 x2 x3 x4 x5 x6) fun n41 => br (decide (0 < n41)) (bnd1 (s_tsize N x0 x1 x2 x3 x4 x5 x6) fun n42 => bnd1 (s_tSpecial N x4 true x6 y0 y1 n42 y3 y4 y5 y6 y7 y8 y9 0 y11 y12 y13) fun l43 => K0 l43 n42 y9 0 y13) (bnd1 (s_tReady N 2 y0 y1 y2 y3 y4 y5 y6 y7 y8 y9 y10 y11 y12 y13) fun l44 => bnd4 (s_tFailure N 28 l44 y0 y1 y2 y3 y4 y5 y6 y7 y8 y9 y10 y11 y12 y13) fun l45 n46 n47 n48 => K0 l45 y2 n46 n47 n48)) (bnd1 (s_tReady N 2 y0 y1 y2 y3 y4 y5 y6 y7 y8 y9 y10 y11 y12 y13) fun l49 => bnd4 (s_tFailure N 28 l49 y0 y1 y2 y3 y4 y5 y6 y7 y8 y9 y10 y11 y12 y13) fun l50 n51 n52 n53 => K0 l50 y2 n51 n52 n53)) (bnd1 (s_tReady N 2 y0 y1 y2 y3 y4 y5 y6 y7 y8 y9 y10 y11 y12 y13) fun l54 => bnd4 (s_tFailure N 28 l54 y0 y1 y2 y3 y4 y5 y6 y7 y8 y9 y10 y11 y12 y13) fun l55 n56 n57 n58 => K0 l55 y2 n56 n57 n58))) (br (!x5) (br (decide (x4 = 1)) (bnd1 (s_tsize N x0 x1 x2 x3 x4 x5 x6) fun n59 => br (decide (0 < n59)) (bnd1 (s_tsize N x0 x1 x2 x3 x4 x5 x6) fun n60 => bnd1 (s_tSpecial N x4 true x6 y0 y1 n60 y3 y4 y5 y6 y7 y8 y9 0 y11 y12 y13) fun l61 => K0 l61 n60 y9 0 y13) (bnd1 (s_tReady N 2 y0 y1 y2 y3 y4 y5 y6 y7 y8 y9 y10 y11 y12 y13) fun l62 => bnd4 (s_tFailure N 28 l62 y0 y1 y2 y3 y4 y5 y6 y7 y8 y9 y10 y11 y12 y13) fun l63 n64 n65 n66 => K0 l63 y2 n64 n65 n66)) (bnd1 (s_tReady N 2 y0 y1 y2 y3 y4 y5 y6 y7 y8 y9 y10 y11 y12 y13) fun l67 => bnd4 (s_tFailure N 28 l67 y0 y1 y2 y3 y4 y5 y6 y7 y8 y9 y10 y11 y12 y13) fun l68 n69 n70 n71 => K0 l68 y2 n69 n70 n71)) (bnd1 (s_tReady N 2 y0 y1 y2 y3 y4 y5 y6 y7 y8 y9 y10 y11 y12 y13) fun l72 => bnd4 (s_tFailure N 28 l72 y0 y1 y2 y3 y4 y5 y6 y7 y8 y9 y10 y11 y12 y13) fun l73 n74 n75 n76 => K0 l73 y2 n74 n75 n76)))
noncomputable def s_tSuper (N : Nat) (x0 x1 x2 : Int) (x3 : Bool) (x4 : Int) (x5 : Bool) (x6 : List UInt8) (y0 y1 y2 y3 y4 : Int) (y5 : List UInt8) (y6 : Int) (y7 : List V) (y8 : List UInt8) (y9 y10 : Int) (y11 : List UInt8) (y12 : Bool) (y13 : Int) : Option (List UInt8 × Int × Int × Int × Int) := C_tSuper N x0 x1 x2 x3 x4 x5 x6 y0 y1 y2 y3 y4 y5 y6 y7 y8 y9 y10 y11 y12 y13 (fun r0 z2 z9 z10 z13 => some (r0, z2, z9, z10, z13))
noncomputable def cx_tSuper (N : Nat) : Cx := cxO [⟨83, e_tsize (s_tsize N)⟩] [⟨47, e_tReady (s_tReady N)⟩, ⟨46, e_tSpecial (s_tSpecial N)⟩, ⟨90, e_tFail (s_tFail N)⟩, ⟨67, e_tFailure (s_tFailure N)⟩]
theorem C_tSuper_ok {R : Type} (N : Nat) (x0 x1 x2 x3 x4 x5 x6 y0 y1 y2 y3 y4 y5 y6 y7 y8 y9 y10 y11 y12 y13 K : _) : bodyK (R := R) (cx_tSuper N) Try.f70 [.ptr 1 0 0, g0a x0 x1 x2 x3 x4 x5 x6] [frOf 0 [g2a y0 y1 y2 y3 y4 y5 y6 y7 y8 y9 y10 y11 y12 y13]] (r_tEnc K) = C_tSuper N x0 x1 x2 x3 x4 x5 x6 y0 y1 y2 y3 y4 y5 y6 y7 y8 y9 y10 y11 y12 y13 (fun r0 z2 z9 z10 z13 => K r0 y0 y1 z2 y3 y4 y5 y6 y7 y8 z9 z10 y11 y12 z13) := by
  kernel_rfl
abbrev Q_tSuper (s : Ty29) : Prop := ∀ x0 x1 x2 x3 x4 x5 x6 y0 y1 y2 y3 y4 y5 y6 y7 y8 y9 y10 y11 y12 y13 r0 z2 z9 z10 z13, s x0 x1 x2 x3 x4 x5 x6 y0 y1 y2 y3 y4 y5 y6 y7 y8 y9 y10 y11 y12 y13 = some (r0, z2, z9, z10, z13) -> ViewRet Try.prog T 70 [.ptr 1 0 0, g0a x0 x1 x2 x3 x4 x5 x6] [g2a y0 y1 y2 y3 y4 y5 y6 y7 y8 y9 y10 y11 y12 y13] [dY r0] [g2a y0 y1 z2 y3 y4 y5 y6 y7 y8 z9 z10 y11 y12 z13]
theorem eo_tSuper (s : Ty29) (hs : Q_tSuper s) : MEntOK Try.prog T ⟨70, e_tSuper s⟩ := by
  refine ⟨goes_of Try.func70 (by kernel_rfl) (c := bodyOf Try.f70) (by kernel_rfl), fun R dst ds m K r h => ?_⟩
  simp only [e_tSuper] at h
  split at h
  . obtain ⟨Bs, a1, a2, a3, h⟩ := viewK_some h
    split at h
    . obtain ⟨r0, z2, z9, z10, z13, h1, h2⟩ := bnd5_some h
      rw [putAllK_eq] at h2
      exact ⟨_, _, h2, ViewRet.weakIn (hs _ _ _ _ _ _ _ _ _ _ _ _ _ _ _ _ _ _ _ _ _ _ _ _ _ _ h1) (by exact ⟨⟨rfl, .inl rfl, .inl rfl, .inl rfl, .inl rfl, .inl rfl, .inr ⟨_, _, rfl, rfl⟩, .inl rfl, .inr ⟨_, _, rfl, rfl⟩, .inl rfl, .inl rfl, .inl rfl, .inr ⟨_, _, rfl, rfl⟩, .inl rfl, .inl rfl, trivial⟩, trivial⟩) rfl _ _ m dst a1 a2 a3 ⟨aren_ptr _ rfl, aren_agg ⟨aren_v _, aren_v _, aren_v _, aren_v _, aren_v _, aren_v _, aren_v _, trivial⟩, trivial⟩⟩
    . cases h
  . cases h
open Classical in
theorem p_tSuper (N : Nat) : Q_tSuper (s_tSuper N) := fun x0 x1 x2 x3 x4 x5 x6 y0 y1 y2 y3 y4 y5 y6 y7 y8 y9 y10 y11 y12 y13 r0 z2 z9 z10 z13 h => by
  refine view_ofW (cx := cx_tSuper N) (by kernel_rfl) (cxO_ok ⟨eo_tsize _ (p_tsize N), trivial⟩ ⟨eo_tReady _ (p_tReady N), eo_tSpecial _ (p_tSpecial N), eo_tFail _ (p_tFail N), eo_tFailure _ (p_tFailure N), trivial⟩) Try.func70 (by kernel_rfl) (by kernel_rfl) (loopsOK_of (k := 0) (by kernel_rfl) trivial) (by rfl) (by rfl) (by rfl) (rf := r_tEnc (fun r0' z'0 z'1 z'2 z'3 z'4 z'5 z'6 z'7 z'8 z'9 z'10 z'11 z'12 z'13 => if z'0 = y0 /\ z'1 = y1 /\ z'3 = y3 /\ z'4 = y4 /\ z'5 = y5 /\ z'6 = y6 /\ z'7 = y7 /\ z'8 = y8 /\ z'11 = y11 /\ z'12 = y12 then some (r0', z'2, z'9, z'10, z'13) else none)) (r := (r0, z2, z9, z10, z13)) ?_ ?_
  . exact (C_tSuper_ok ..).trans ((congrArg (fun K => C_tSuper N x0 x1 x2 x3 x4 x5 x6 y0 y1 y2 y3 y4 y5 y6 y7 y8 y9 y10 y11 y12 y13 K) (funext fun r0' => funext fun z'2 => funext fun z'9 => funext fun z'10 => funext fun z'13 => if_pos ⟨rfl, rfl, rfl, rfl, rfl, rfl, rfl, rfl, rfl, rfl⟩)).trans h)
  . intro rs' m' hx
    unfold r_tEnc at hx
    split at hx
    . dsimp only at hx
      split at hx
      . rename_i hk
        obtain ⟨rfl, rfl, rfl, rfl, rfl, rfl, rfl, rfl, rfl, rfl⟩ := hk
        cases hx; exact ⟨rfl, rfl, _, [⟨95, [_, _, _, _, _, _, _, _, _, _, _, _, _, _]⟩], rfl, rfl, ⟨⟨rfl, .inl rfl, .inl rfl, .inl rfl, .inl rfl, .inl rfl, .inr ⟨_, _, rfl, rfl⟩, .inl rfl, .inr ⟨_, _, rfl, rfl⟩, .inl rfl, .inl rfl, .inl rfl, .inr ⟨_, _, rfl, rfl⟩, .inl rfl, .inl rfl, trivial⟩, trivial⟩⟩
      . cases hx
    . cases hx
abbrev Ty30 := List UInt8 -> Int -> Int -> Int -> Int -> Int -> List UInt8 -> Int -> List V -> List UInt8 -> Int -> Int -> List UInt8 -> Bool -> Int -> Option (List UInt8 × Int × Int × Int × Int × List UInt8 × Int × List V × List UInt8 × Int × Int × Bool × Int)
noncomputable def e_tReceive {R : Type} (s : Ty30) (dst : Nat) (ds : List D) (m : Mem) (K : List D -> Mem -> Option R) : Option R :=
  match ds with
  | [.ptr (kv0 + 1) sv0 0, .v (.bytes x0) .no] => viewK [(kv0, sv0)] m fun Bs => (match Bs with
    | [⟨95, [.v (.int .i64 y0) .no, .v (.int .i64 y1) .no, .v (.int .i64 y2) .no, .v (.int .i64 y3) .no, .v (.int .i64 y4) .no, .v (.bytes y5) _, .v (.int .i64 y6) .no, .v (.sl 27 y7) _, .v (.bytes y8) (.own (.slot 0) 5), .v (.int .i64 y9) .no, .v (.int .i64 y10) .no, .v (.bytes y11) _, .v (.bool y12) .no, .v (.int .i64 y13) .no]⟩] => bnd13 (s x0 y0 y1 y2 y3 y4 y5 y6 y7 y8 y9 y10 y11 y12 y13) fun r0 z1 z2 z3 z4 z5 z6 z7 z8 z9 z10 z12 z13 => putAllK [(kv0, sv0)] [⟨95, [.v (.int .i64 y0) .no, .v (.int .i64 z1) .no, .v (.int .i64 z2) .no, .v (.int .i64 z3) .no, .v (.int .i64 z4) .no, .v (.bytes z5) .no, .v (.int .i64 z6) .no, .v (.sl 27 z7) .no, .v (.bytes z8) (.own (.slot 0) 5), .v (.int .i64 z9) .no, .v (.int .i64 z10) .no, .v (.bytes y11) .no, .v (.bool z12) .no, .v (.int .i64 z13) .no]⟩] m fun m' => K [.v (.bytes r0) .no] m'
    | _ => none)
  | _ => none
noncomputable def C_tReceive {R : Type} (N : Nat) (x0 : List UInt8) (y0 y1 y2 y3 y4 : Int) (y5 : List UInt8) (y6 : Int) (y7 : List V) (y8 : List UInt8) (y9 y10 : Int) (y11 : List UInt8) (y12 : Bool) (y13 : Int) (K0 : List UInt8 -> Int -> Int -> Int -> Int -> List UInt8 -> Int -> List V -> List UInt8 -> Int -> Int -> Bool -> Int -> Option R) : Option R := bnd1 (s_tMade N y0 y1 y2 y3 y4 y5 y6 y7 y8 y9 y10 y11 y12 y13) fun b0 => br (!b0) (K0 [] y1 y2 y3 y4 y5 y6 y7 y8 y9 y10 y12 y13) (br (decide (y9 = 0)) (K0 [] y1 y2 y3 y4 y5 y6 y7 y8 y9 y10 y12 y13) (br (decide (y9 = 3)) (K0 [] y1 y2 y3 y4 y5 y6 y7 y8 y9 y10 y12 y13) (bnd8 (s_tDecode N x0 y0 y1 y2 y3 y4 y5 y6 y7 y8 y9 y10 y11 y12 y13) fun n1 n2 n3 b4 n5 b6 l7 n8 => br (decide (y9 = 1)) (br (decide (n8 = 0)) (bnd1 (s_bSame N n1 n2 n3 b4 n5 b6 l7 0 2 0 false 1 true y11) fun b9 => br b9 (br (decide (0 < (y11.length : Int))) (at? y11 0 fun u10 => K0 [] (IntKind.i64.wrap (u10.toNat : Int)) y2 y3 y4 y5 y6 y7 y8 0 y10 y12 y13) none) (bnd1 (s_tSpecial N 1 false y11 y0 y1 y2 y3 y4 y5 y6 y7 y8 y9 y10 y11 y12 y13) fun l11 => bnd4 (s_tFailure N 28 l11 y0 y1 y2 y3 y4 y5 y6 y7 y8 y9 y10 y11 y12 y13) fun l12 n13 n14 n15 => K0 l12 y1 y2 y3 y4 y5 y6 y7 y8 n13 n14 y12 n15)) (bnd1 (s_tSpecial N 1 false y11 y0 y1 y2 y3 y4 y5 y6 y7 y8 y9 y10 y11 y12 y13) fun l16 => bnd4 (s_tFailure N 28 l16 y0 y1 y2 y3 y4 y5 y6 y7 y8 y9 y10 y11 y12 y13) fun l17 n18 n19 n20 => K0 l17 y1 y2 y3 y4 y5 y6 y7 y8 n18 n19 y12 n20)) (br (!decide (n8 = 0)) (bnd1 (s_tReady N n8 y0 y1 y2 y3 y4 y5 y6 y7 y8 y9 y10 y11 y12 y13) fun l21 => bnd4 (s_tFailure N 28 l21 y0 y1 y2 y3 y4 y5 y6 y7 y8 y9 y10 y11 y12 y13) fun l22 n23 n24 n25 => K0 l22 y1 y2 y3 y4 y5 y6 y7 y8 n23 n24 y12 n25) (br (decide (n2 = 0)) (bnd7 (s_tInfo N n1 n2 n3 b4 n5 b6 l7 y0 y1 y2 y3 y4 y5 y6 y7 y8 y9 y10 y11 y12 y13) fun l26 n27 l28 n29 n30 b31 n32 => K0 l26 y1 y2 n27 y4 y5 y6 y7 l28 n29 n30 b31 n32) (br (decide (n2 = 1)) (bnd8 (s_tAgain N n1 n2 n3 b4 n5 b6 l7 y0 y1 y2 y3 y4 y5 y6 y7 y8 y9 y10 y11 y12 y13) fun l33 n34 l35 n36 l37 n38 n39 n40 => K0 l33 y1 y2 y3 n34 l35 n36 l37 y8 n38 n39 y12 n40) (bnd5 (s_tSuper N n1 n2 n3 b4 n5 b6 l7 y0 y1 y2 y3 y4 y5 y6 y7 y8 y9 y10 y11 y12 y13) fun l41 n42 n43 n44 n45 => K0 l41 y1 n42 y3 y4 y5 y6 y7 y8 n43 n44 y12 n45)))))))
noncomputable def s_tReceive (N : Nat) (x0 : List UInt8) (y0 y1 y2 y3 y4 : Int) (y5 : List UInt8) (y6 : Int) (y7 : List V) (y8 : List UInt8) (y9 y10 : Int) (y11 : List UInt8) (y12 : Bool) (y13 : Int) : Option (List UInt8 × Int × Int × Int × Int × List UInt8 × Int × List V × List UInt8 × Int × Int × Bool × Int) := C_tReceive N x0 y0 y1 y2 y3 y4 y5 y6 y7 y8 y9 y10 y11 y12 y13 (fun r0 z1 z2 z3 z4 z5 z6 z7 z8 z9 z10 z12 z13 => some (r0, z1, z2, z3, z4, z5, z6, z7, z8, z9, z10, z12, z13))
noncomputable def cx_tReceive (N : Nat) : Cx := cxO [⟨45, e_bSame (s_bSame N)⟩] [⟨62, e_tMade (s_tMade N)⟩, ⟨44, e_tDecode (s_tDecode N)⟩, ⟨46, e_tSpecial (s_tSpecial N)⟩, ⟨47, e_tReady (s_tReady N)⟩, ⟨68, e_tInfo (s_tInfo N)⟩, ⟨69, e_tAgain (s_tAgain N)⟩, ⟨70, e_tSuper (s_tSuper N)⟩, ⟨67, e_tFailure (s_tFailure N)⟩]
theorem C_tReceive_ok {R : Type} (N : Nat) (x0 y0 y1 y2 y3 y4 y5 y6 y7 y8 y9 y10 y11 y12 y13 K : _) : bodyK (R := R) (cx_tReceive N) Try.f27 [.ptr 1 0 0, dY x0] [frOf 0 [g2a y0 y1 y2 y3 y4 y5 y6 y7 y8 y9 y10 y11 y12 y13]] (r_tEnc K) = C_tReceive N x0 y0 y1 y2 y3 y4 y5 y6 y7 y8 y9 y10 y11 y12 y13 (fun r0 z1 z2 z3 z4 z5 z6 z7 z8 z9 z10 z12 z13 => K r0 y0 z1 z2 z3 z4 z5 z6 z7 z8 z9 z10 y11 z12 z13) := by
  kernel_rfl
abbrev Q_tReceive (s : Ty30) : Prop := ∀ x0 y0 y1 y2 y3 y4 y5 y6 y7 y8 y9 y10 y11 y12 y13 r0 z1 z2 z3 z4 z5 z6 z7 z8 z9 z10 z12 z13, s x0 y0 y1 y2 y3 y4 y5 y6 y7 y8 y9 y10 y11 y12 y13 = some (r0, z1, z2, z3, z4, z5, z6, z7, z8, z9, z10, z12, z13) -> ViewRet Try.prog T 27 [.ptr 1 0 0, dY x0] [g2a y0 y1 y2 y3 y4 y5 y6 y7 y8 y9 y10 y11 y12 y13] [dY r0] [g2a y0 z1 z2 z3 z4 z5 z6 z7 z8 z9 z10 y11 z12 z13]
theorem eo_tReceive (s : Ty30) (hs : Q_tReceive s) : MEntOK Try.prog T ⟨27, e_tReceive s⟩ := by
  refine ⟨goes_of Try.func27 (by kernel_rfl) (c := bodyOf Try.f27) (by kernel_rfl), fun R dst ds m K r h => ?_⟩
  simp only [e_tReceive] at h
  split at h
  . obtain ⟨Bs, a1, a2, a3, h⟩ := viewK_some h
    split at h
    . obtain ⟨r0, z1, z2, z3, z4, z5, z6, z7, z8, z9, z10, z12, z13, h1, h2⟩ := bnd13_some h
      rw [putAllK_eq] at h2
      exact ⟨_, _, h2, ViewRet.weakIn (hs _ _ _ _ _ _ _ _ _ _ _ _ _ _ _ _ _ _ _ _ _ _ _ _ _ _ _ _ h1) (by exact ⟨⟨rfl, .inl rfl, .inl rfl, .inl rfl, .inl rfl, .inl rfl, .inr ⟨_, _, rfl, rfl⟩, .inl rfl, .inr ⟨_, _, rfl, rfl⟩, .inl rfl, .inl rfl, .inl rfl, .inr ⟨_, _, rfl, rfl⟩, .inl rfl, .inl rfl, trivial⟩, trivial⟩) rfl _ _ m dst a1 a2 a3 ⟨aren_ptr _ rfl, aren_v _, trivial⟩⟩
    . cases h
  . cases h
open Classical in
theorem p_tReceive (N : Nat) : Q_tReceive (s_tReceive N) := fun x0 y0 y1 y2 y3 y4 y5 y6 y7 y8 y9 y10 y11 y12 y13 r0 z1 z2 z3 z4 z5 z6 z7 z8 z9 z10 z12 z13 h => by
  refine view_ofW (cx := cx_tReceive N) (by kernel_rfl) (cxO_ok ⟨eo_bSame _ (p_bSame N), trivial⟩ ⟨eo_tMade _ (p_tMade N), eo_tDecode _ (p_tDecode N), eo_tSpecial _ (p_tSpecial N), eo_tReady _ (p_tReady N), eo_tInfo _ (p_tInfo N), eo_tAgain _ (p_tAgain N), eo_tSuper _ (p_tSuper N), eo_tFailure _ (p_tFailure N), trivial⟩) Try.func27 (by kernel_rfl) (by kernel_rfl) (loopsOK_of (k := 0) (by kernel_rfl) trivial) (by rfl) (by rfl) (by rfl) (rf := r_tEnc (fun r0' z'0 z'1 z'2 z'3 z'4 z'5 z'6 z'7 z'8 z'9 z'10 z'11 z'12 z'13 => if z'0 = y0 /\ z'11 = y11 then some (r0', z'1, z'2, z'3, z'4, z'5, z'6, z'7, z'8, z'9, z'10, z'12, z'13) else none)) (r := (r0, z1, z2, z3, z4, z5, z6, z7, z8, z9, z10, z12, z13)) ?_ ?_
  . exact (C_tReceive_ok ..).trans ((congrArg (fun K => C_tReceive N x0 y0 y1 y2 y3 y4 y5 y6 y7 y8 y9 y10 y11 y12 y13 K) (funext fun r0' => funext fun z'1 => funext fun z'2 => funext fun z'3 => funext fun z'4 => funext fun z'5 => funext fun z'6 => funext fun z'7 => funext fun z'8 => funext fun z'9 => funext fun z'10 => funext fun z'12 => funext fun z'13 => if_pos ⟨rfl, rfl⟩)).trans h)
  . intro rs' m' hx
    unfold r_tEnc at hx
    split at hx
    . dsimp only at hx
      split at hx
      . rename_i hk
        obtain ⟨rfl, rfl⟩ := hk
        cases hx; exact ⟨rfl, rfl, _, [⟨95, [_, _, _, _, _, _, _, _, _, _, _, _, _, _]⟩], rfl, rfl, ⟨⟨rfl, .inl rfl, .inl rfl, .inl rfl, .inl rfl, .inl rfl, .inr ⟨_, _, rfl, rfl⟩, .inl rfl, .inr ⟨_, _, rfl, rfl⟩, .inl rfl, .inl rfl, .inl rfl, .inr ⟨_, _, rfl, rfl⟩, .inl rfl, .inl rfl, trivial⟩, trivial⟩⟩
      . cases hx
    . cases hx
abbrev Ty31 := Int -> Int -> Int -> Int -> Int -> List UInt8 -> Int -> List V -> List UInt8 -> Int -> Int -> List UInt8 -> Bool -> Int -> Option (List UInt8 × Bool)
noncomputable def e_tResponse {R : Type} (s : Ty31) (dst : Nat) (ds : List D) (m : Mem) (K : List D -> Mem -> Option R) : Option R :=
  match ds with
  | [.ptr (kv0 + 1) sv0 0] => viewK [(kv0, sv0)] m fun Bs => (match Bs with
    | [⟨95, [.v (.int .i64 y0) .no, .v (.int .i64 y1) .no, .v (.int .i64 y2) .no, .v (.int .i64 y3) .no, .v (.int .i64 y4) .no, .v (.bytes y5) _, .v (.int .i64 y6) .no, .v (.sl 27 y7) _, .v (.bytes y8) (.own (.slot 0) 5), .v (.int .i64 y9) .no, .v (.int .i64 y10) .no, .v (.bytes y11) _, .v (.bool y12) .no, .v (.int .i64 y13) .no]⟩] => bnd2 (s y0 y1 y2 y3 y4 y5 y6 y7 y8 y9 y10 y11 y12 y13) fun r0 r1 => putAllK [(kv0, sv0)] [⟨95, [.v (.int .i64 y0) .no, .v (.int .i64 y1) .no, .v (.int .i64 y2) .no, .v (.int .i64 y3) .no, .v (.int .i64 y4) .no, .v (.bytes y5) .no, .v (.int .i64 y6) .no, .v (.sl 27 y7) .no, .v (.bytes y8) (.own (.slot 0) 5), .v (.int .i64 y9) .no, .v (.int .i64 y10) .no, .v (.bytes y11) .no, .v (.bool y12) .no, .v (.int .i64 y13) .no]⟩] m fun m' => K [.v (.bytes r0) .no, .v (.bool r1) .no] m'
    | _ => none)
  | _ => none
noncomputable def r_tResponse {α : Type} (K : List UInt8 -> Bool -> Int -> Int -> Int -> Int -> Int -> List UInt8 -> Int -> List V -> List UInt8 -> Int -> Int -> List UInt8 -> Bool -> Int -> Option α) (rs : List D) (m : Mem) : Option α :=
  match rs, m with
  | [.v (.bytes r0) _, .v (.bool r1) _], [_, [(0, ⟨95, [.v (.int .i64 z0) .no, .v (.int .i64 z1) .no, .v (.int .i64 z2) .no, .v (.int .i64 z3) .no, .v (.int .i64 z4) .no, .v (.bytes z5) _, .v (.int .i64 z6) .no, .v (.sl 27 z7) _, .v (.bytes z8) (.own (.slot 0) 5), .v (.int .i64 z9) .no, .v (.int .i64 z10) .no, .v (.bytes z11) _, .v (.bool z12) .no, .v (.int .i64 z13) .no]⟩)]] => K r0 r1 z0 z1 z2 z3 z4 z5 z6 z7 z8 z9 z10 z11 z12 z13
  | _, _ => none
noncomputable def C_tResponse {R : Type} (N : Nat) (y0 y1 y2 y3 y4 : Int) (y5 : List UInt8) (y6 : Int) (y7 : List V) (y8 : List UInt8) (y9 y10 : Int) (y11 : List UInt8) (y12 : Bool) (y13 : Int) (K0 : List UInt8 -> Bool -> Option R) : Option R := bnd1 (s_tMade N y0 y1 y2 y3 y4 y5 y6 y7 y8 y9 y10 y11 y12 y13) fun b0 => br (!b0) (K0 [] false) (br (!y12) (K0 [] false) (bnd1 (s_clone N y8) fun l1 => K0 l1 true))
noncomputable def s_tResponse (N : Nat) (y0 y1 y2 y3 y4 : Int) (y5 : List UInt8) (y6 : Int) (y7 : List V) (y8 : List UInt8) (y9 y10 : Int) (y11 : List UInt8) (y12 : Bool) (y13 : Int) : Option (List UInt8 × Bool) := C_tResponse N y0 y1 y2 y3 y4 y5 y6 y7 y8 y9 y10 y11 y12 y13 (fun r0 r1 => some (r0, r1))
noncomputable def cx_tResponse (N : Nat) : Cx := cxO [⟨60, e_clone (s_clone N)⟩] [⟨62, e_tMade (s_tMade N)⟩]
theorem C_tResponse_ok {R : Type} (N : Nat) (y0 y1 y2 y3 y4 y5 y6 y7 y8 y9 y10 y11 y12 y13 K : _) : bodyK (R := R) (cx_tResponse N) Try.f29 [.ptr 1 0 0] [frOf 0 [g2a y0 y1 y2 y3 y4 y5 y6 y7 y8 y9 y10 y11 y12 y13]] (r_tResponse K) = C_tResponse N y0 y1 y2 y3 y4 y5 y6 y7 y8 y9 y10 y11 y12 y13 (fun r0 r1 => K r0 r1 y0 y1 y2 y3 y4 y5 y6 y7 y8 y9 y10 y11 y12 y13) := by
  kernel_rfl
abbrev Q_tResponse (s : Ty31) : Prop := ∀ y0 y1 y2 y3 y4 y5 y6 y7 y8 y9 y10 y11 y12 y13 r0 r1, s y0 y1 y2 y3 y4 y5 y6 y7 y8 y9 y10 y11 y12 y13 = some (r0, r1) -> ViewRet Try.prog T 29 [.ptr 1 0 0] [g2a y0 y1 y2 y3 y4 y5 y6 y7 y8 y9 y10 y11 y12 y13] [dY r0, dB r1] [g2a y0 y1 y2 y3 y4 y5 y6 y7 y8 y9 y10 y11 y12 y13]
theorem eo_tResponse (s : Ty31) (hs : Q_tResponse s) : MEntOK Try.prog T ⟨29, e_tResponse s⟩ := by
  refine ⟨goes_of Try.func29 (by kernel_rfl) (c := bodyOf Try.f29) (by kernel_rfl), fun R dst ds m K r h => ?_⟩
  simp only [e_tResponse] at h
  split at h
  . obtain ⟨Bs, a1, a2, a3, h⟩ := viewK_some h
    split at h
    . obtain ⟨r0, r1, h1, h2⟩ := bnd2_some h
      rw [putAllK_eq] at h2
      exact ⟨_, _, h2, ViewRet.weakIn (hs _ _ _ _ _ _ _ _ _ _ _ _ _ _ _ _ h1) (by exact ⟨⟨rfl, .inl rfl, .inl rfl, .inl rfl, .inl rfl, .inl rfl, .inr ⟨_, _, rfl, rfl⟩, .inl rfl, .inr ⟨_, _, rfl, rfl⟩, .inl rfl, .inl rfl, .inl rfl, .inr ⟨_, _, rfl, rfl⟩, .inl rfl, .inl rfl, trivial⟩, trivial⟩) rfl _ _ m dst a1 a2 a3 ⟨aren_ptr _ rfl, trivial⟩⟩
    . cases h
  . cases h
open Classical in
theorem p_tResponse (N : Nat) : Q_tResponse (s_tResponse N) := fun y0 y1 y2 y3 y4 y5 y6 y7 y8 y9 y10 y11 y12 y13 r0 r1 h => by
  refine view_ofW (cx := cx_tResponse N) (by kernel_rfl) (cxO_ok ⟨eo_clone _ (p_clone N), trivial⟩ ⟨eo_tMade _ (p_tMade N), trivial⟩) Try.func29 (by kernel_rfl) (by kernel_rfl) (loopsOK_of (k := 0) (by kernel_rfl) trivial) (by rfl) (by rfl) (by rfl) (rf := r_tResponse (fun r0' r1' z'0 z'1 z'2 z'3 z'4 z'5 z'6 z'7 z'8 z'9 z'10 z'11 z'12 z'13 => if z'0 = y0 /\ z'1 = y1 /\ z'2 = y2 /\ z'3 = y3 /\ z'4 = y4 /\ z'5 = y5 /\ z'6 = y6 /\ z'7 = y7 /\ z'8 = y8 /\ z'9 = y9 /\ z'10 = y10 /\ z'11 = y11 /\ z'12 = y12 /\ z'13 = y13 then some (r0', r1') else none)) (r := (r0, r1)) ?_ ?_
  . exact (C_tResponse_ok ..).trans ((congrArg (fun K => C_tResponse N y0 y1 y2 y3 y4 y5 y6 y7 y8 y9 y10 y11 y12 y13 K) (funext fun r0' => funext fun r1' => if_pos ⟨rfl, rfl, rfl, rfl, rfl, rfl, rfl, rfl, rfl, rfl, rfl, rfl, rfl, rfl⟩)).trans h)
  . intro rs' m' hx
    unfold r_tResponse at hx
    split at hx
    . dsimp only at hx
      split at hx
      . rename_i hk
        obtain ⟨rfl, rfl, rfl, rfl, rfl, rfl, rfl, rfl, rfl, rfl, rfl, rfl, rfl, rfl⟩ := hk
        cases hx; exact ⟨rfl, rfl, _, [⟨95, [_, _, _, _, _, _, _, _, _, _, _, _, _, _]⟩], rfl, rfl, ⟨⟨rfl, .inl rfl, .inl rfl, .inl rfl, .inl rfl, .inl rfl, .inr ⟨_, _, rfl, rfl⟩, .inl rfl, .inr ⟨_, _, rfl, rfl⟩, .inl rfl, .inl rfl, .inl rfl, .inr ⟨_, _, rfl, rfl⟩, .inl rfl, .inl rfl, trivial⟩, trivial⟩⟩
      . cases hx
    . cases hx
abbrev Ty32 := List UInt8 -> Int -> Int -> Int -> Int -> Int -> List UInt8 -> Int -> List V -> List UInt8 -> Int -> Int -> List UInt8 -> Bool -> Int -> Option (List UInt8 × Int × List UInt8 × Int × List V × List UInt8 × Int × Int × Bool)
noncomputable def e_tSend {R : Type} (s : Ty32) (dst : Nat) (ds : List D) (m : Mem) (K : List D -> Mem -> Option R) : Option R :=
  match ds with
  | [.ptr (kv0 + 1) sv0 0, .v (.bytes x0) .no] => viewK [(kv0, sv0)] m fun Bs => (match Bs with
    | [⟨95, [.v (.int .i64 y0) .no, .v (.int .i64 y1) .no, .v (.int .i64 y2) .no, .v (.int .i64 y3) .no, .v (.int .i64 y4) .no, .v (.bytes y5) _, .v (.int .i64 y6) .no, .v (.sl 27 y7) _, .v (.bytes y8) (.own (.slot 0) 5), .v (.int .i64 y9) .no, .v (.int .i64 y10) .no, .v (.bytes y11) _, .v (.bool y12) .no, .v (.int .i64 y13) .no]⟩] => bnd9 (s x0 y0 y1 y2 y3 y4 y5 y6 y7 y8 y9 y10 y11 y12 y13) fun r0 z4 z5 z6 z7 z8 z9 z10 z12 => putAllK [(kv0, sv0)] [⟨95, [.v (.int .i64 y0) .no, .v (.int .i64 y1) .no, .v (.int .i64 y2) .no, .v (.int .i64 y3) .no, .v (.int .i64 z4) .no, .v (.bytes z5) .no, .v (.int .i64 z6) .no, .v (.sl 27 z7) .no, .v (.bytes z8) (.own (.slot 0) 5), .v (.int .i64 z9) .no, .v (.int .i64 z10) .no, .v (.bytes y11) .no, .v (.bool z12) .no, .v (.int .i64 y13) .no]⟩] m fun m' => K [.v (.bytes r0) .no] m'
    | _ => none)
  | _ => none
noncomputable def C_tSend {R : Type} (N : Nat) (x0 : List UInt8) (y0 y1 y2 y3 y4 : Int) (y5 : List UInt8) (y6 : Int) (y7 : List V) (y8 : List UInt8) (y9 y10 : Int) (y11 : List UInt8) (y12 : Bool) (y13 : Int) (K0 : List UInt8 -> Int -> List UInt8 -> Int -> List V -> List UInt8 -> Int -> Int -> Bool -> Option R) : Option R := bnd1 (s_tMade N y0 y1 y2 y3 y4 y5 y6 y7 y8 y9 y10 y11 y12 y13) fun b0 => br (!b0) (K0 [] y4 y5 y6 y7 y8 y9 y10 y12) (br (!decide (y9 = 0)) (K0 [] y4 y5 y6 y7 y8 y9 y10 y12) (bnd5 (s_tSendC N x0 y0 y1 y2 y3 y4 y5 y6 y7 [] 2 0 y11 false y13) fun l1 n2 l3 n4 l5 => K0 l1 n2 l3 n4 l5 [] 2 0 false))
noncomputable def s_tSend (N : Nat) (x0 : List UInt8) (y0 y1 y2 y3 y4 : Int) (y5 : List UInt8) (y6 : Int) (y7 : List V) (y8 : List UInt8) (y9 y10 : Int) (y11 : List UInt8) (y12 : Bool) (y13 : Int) : Option (List UInt8 × Int × List UInt8 × Int × List V × List UInt8 × Int × Int × Bool) := C_tSend N x0 y0 y1 y2 y3 y4 y5 y6 y7 y8 y9 y10 y11 y12 y13 (fun r0 z4 z5 z6 z7 z8 z9 z10 z12 => some (r0, z4, z5, z6, z7, z8, z9, z10, z12))
noncomputable def cx_tSend (N : Nat) : Cx := cxO [] [⟨62, e_tMade (s_tMade N)⟩, ⟨58, e_tSendC (s_tSendC N)⟩]
theorem C_tSend_ok {R : Type} (N : Nat) (x0 y0 y1 y2 y3 y4 y5 y6 y7 y8 y9 y10 y11 y12 y13 K : _) : bodyK (R := R) (cx_tSend N) Try.f24 [.ptr 1 0 0, dY x0] [frOf 0 [g2a y0 y1 y2 y3 y4 y5 y6 y7 y8 y9 y10 y11 y12 y13]] (r_tEnc K) = C_tSend N x0 y0 y1 y2 y3 y4 y5 y6 y7 y8 y9 y10 y11 y12 y13 (fun r0 z4 z5 z6 z7 z8 z9 z10 z12 => K r0 y0 y1 y2 y3 z4 z5 z6 z7 z8 z9 z10 y11 z12 y13) := by
  kernel_rfl
abbrev Q_tSend (s : Ty32) : Prop := ∀ x0 y0 y1 y2 y3 y4 y5 y6 y7 y8 y9 y10 y11 y12 y13 r0 z4 z5 z6 z7 z8 z9 z10 z12, s x0 y0 y1 y2 y3 y4 y5 y6 y7 y8 y9 y10 y11 y12 y13 = some (r0, z4, z5, z6, z7, z8, z9, z10, z12) -> ViewRet Try.prog T 24 [.ptr 1 0 0, dY x0] [g2a y0 y1 y2 y3 y4 y5 y6 y7 y8 y9 y10 y11 y12 y13] [dY r0] [g2a y0 y1 y2 y3 z4 z5 z6 z7 z8 z9 z10 y11 z12 y13]
theorem eo_tSend (s : Ty32) (hs : Q_tSend s) : MEntOK Try.prog T ⟨24, e_tSend s⟩ := by
  refine ⟨goes_of Try.func24 (by kernel_rfl) (c := bodyOf Try.f24) (by kernel_rfl), fun R dst ds m K r h => ?_⟩
  simp only [e_tSend] at h
  split at h
  . obtain ⟨Bs, a1, a2, a3, h⟩ := viewK_some h
    split at h
    . obtain ⟨r0, z4, z5, z6, z7, z8, z9, z10, z12, h1, h2⟩ := bnd9_some h
      rw [putAllK_eq] at h2
      exact ⟨_, _, h2, ViewRet.weakIn (hs _ _ _ _ _ _ _ _ _ _ _ _ _ _ _ _ _ _ _ _ _ _ _ _ h1) (by exact ⟨⟨rfl, .inl rfl, .inl rfl, .inl rfl, .inl rfl, .inl rfl, .inr ⟨_, _, rfl, rfl⟩, .inl rfl, .inr ⟨_, _, rfl, rfl⟩, .inl rfl, .inl rfl, .inl rfl, .inr ⟨_, _, rfl, rfl⟩, .inl rfl, .inl rfl, trivial⟩, trivial⟩) rfl _ _ m dst a1 a2 a3 ⟨aren_ptr _ rfl, aren_v _, trivial⟩⟩
    . cases h
  . cases h
open Classical in
theorem p_tSend (N : Nat) : Q_tSend (s_tSend N) := fun x0 y0 y1 y2 y3 y4 y5 y6 y7 y8 y9 y10 y11 y12 y13 r0 z4 z5 z6 z7 z8 z9 z10 z12 h => by
  refine view_ofW (cx := cx_tSend N) (by kernel_rfl) (cxO_ok trivial ⟨eo_tMade _ (p_tMade N), eo_tSendC _ (p_tSendC N), trivial⟩) Try.func24 (by kernel_rfl) (by kernel_rfl) (loopsOK_of (k := 0) (by kernel_rfl) trivial) (by rfl) (by rfl) (by rfl) (rf := r_tEnc (fun r0' z'0 z'1 z'2 z'3 z'4 z'5 z'6 z'7 z'8 z'9 z'10 z'11 z'12 z'13 => if z'0 = y0 /\ z'1 = y1 /\ z'2 = y2 /\ z'3 = y3 /\ z'11 = y11 /\ z'13 = y13 then some (r0', z'4, z'5, z'6, z'7, z'8, z'9, z'10, z'12) else none)) (r := (r0, z4, z5, z6, z7, z8, z9, z10, z12)) ?_ ?_
  . exact (C_tSend_ok ..).trans ((congrArg (fun K => C_tSend N x0 y0 y1 y2 y3 y4 y5 y6 y7 y8 y9 y10 y11 y12 y13 K) (funext fun r0' => funext fun z'4 => funext fun z'5 => funext fun z'6 => funext fun z'7 => funext fun z'8 => funext fun z'9 => funext fun z'10 => funext fun z'12 => if_pos ⟨rfl, rfl, rfl, rfl, rfl, rfl⟩)).trans h)
  . intro rs' m' hx
    unfold r_tEnc at hx
    split at hx
    . dsimp only at hx
      split at hx
      . rename_i hk
        obtain ⟨rfl, rfl, rfl, rfl, rfl, rfl⟩ := hk
        cases hx; exact ⟨rfl, rfl, _, [⟨95, [_, _, _, _, _, _, _, _, _, _, _, _, _, _]⟩], rfl, rfl, ⟨⟨rfl, .inl rfl, .inl rfl, .inl rfl, .inl rfl, .inl rfl, .inr ⟨_, _, rfl, rfl⟩, .inl rfl, .inr ⟨_, _, rfl, rfl⟩, .inl rfl, .inl rfl, .inl rfl, .inr ⟨_, _, rfl, rfl⟩, .inl rfl, .inl rfl, trivial⟩, trivial⟩⟩
      . cases hx
    . cases hx
noncomputable def e_rright {R : Type} (s : Int -> Int -> Option (Bool)) (ds : List D) (K : List D -> Option R) : Option R :=
  match ds with
  | [.v (.int .i64 x0) .no, .v (.int .i64 x1) .no] => bnd1 (s x0 x1) fun r0 => K [dB r0]
  | _ => none
noncomputable def s_rright (N : Nat) (x0 x1 : Int) : Option (Bool) := br (decide (1 <= x0)) (br (decide (x0 <= 254)) (br (decide (x1 = 0)) (some true) (some (decide (x1 = 1)))) (some false)) (some false)
noncomputable def cx_rright (N : Nat) : Cx := cxO [] []
theorem s_rright_ok (N : Nat) (x0 x1 : _) : bodyK (cx_rright N) Try.f42 [dI x0, dI x1] [] r_valid = s_rright N x0 x1 := by
  kernel_rfl
abbrev Q_rright (s : Int -> Int -> Option (Bool)) : Prop := ∀ x0 x1 r0, s x0 x1 = some r0 -> PureRet Try.prog T 42 [dI x0, dI x1] [dB r0]
theorem eo_rright (s : Int -> Int -> Option (Bool)) (hs : Q_rright s) : EntOK Try.prog T ⟨42, e_rright s⟩ := by
  refine ⟨goes_of Try.func42 (by kernel_rfl) (c := bodyOf Try.f42) (by kernel_rfl), fun R ds K r h => ?_, fun R ds K => ?_⟩
  . simp only [e_rright] at h
    split at h
    . obtain ⟨r0, h1, h2⟩ := bnd1_some h
      exact ⟨_, h2, hs _ _ _ h1⟩
    . cases h
  . simp only [e_rright]
    split
    . rw [bnd1_b]; rfl
    . rfl
theorem p_rright (N : Nat) : Q_rright (s_rright N) := fun x0 x1 r0 h => pure_of (cx := cx_rright N) (by kernel_rfl) (cxO_ok trivial trivial) Try.func42 (by kernel_rfl) (by kernel_rfl) (loopsOK_of (k := 0) (by kernel_rfl) trivial) (by rfl) (by rfl) (by rfl) (rf := r_valid) ((s_rright_ok ..).trans h) (fun rs' m h => by
    unfold r_valid at h
    split at h
    . cases h; exact ⟨rfl, rfl⟩
    . cases h)
abbrev Ty33 := Int -> Int -> Option (Int × Int × Int × Int × Int × Bool × Int × Int × Int × Bool × Int × Bool × List UInt8 × List V × List UInt8 × Int × Int × Bool)
noncomputable def e_rNewCard {R : Type} (s : Ty33) (ds : List D) (K : List D -> Option R) : Option R :=
  match ds with
  | [.v (.int .i64 x0) .no, .v (.int .i64 x1) .no] => bnd18 (s x0 x1) fun r0 r1 r2 r3 r4 r5 r6 r7 r8 r9 r10 r11 r12 r13 r14 r15 r16 r17 => K [.agg [dI r0, dI r1, dI r2, dI r3, dI r4, dB r5, dI r6, dI r7, dI r8, dB r9, dI r10, dB r11, dY r12, .v (.sl 27 r13) .no, dY r14, dI r15, dI r16], dB r17]
  | _ => none
noncomputable def r_rNewCard (rs : List D) (_ : Mem) : Option (Int × Int × Int × Int × Int × Bool × Int × Int × Int × Bool × Int × Bool × List UInt8 × List V × List UInt8 × Int × Int × Bool) :=
  match rs with
  | [.agg [.v (.int .i64 r0) _, .v (.int .i64 r1) _, .v (.int .i64 r2) _, .v (.int .i64 r3) _, .v (.int .i64 r4) _, .v (.bool r5) _, .v (.int .i64 r6) _, .v (.int .i64 r7) _, .v (.int .i64 r8) _, .v (.bool r9) _, .v (.int .i64 r10) _, .v (.bool r11) _, .v (.bytes r12) _, .v (.sl 27 r13) _, .v (.bytes r14) _, .v (.int .i64 r15) _, .v (.int .i64 r16) _], .v (.bool r17) _] => some (r0, r1, r2, r3, r4, r5, r6, r7, r8, r9, r10, r11, r12, r13, r14, r15, r16, r17)
  | _ => none
noncomputable def s_rNewCard (N : Nat) (x0 x1 : Int) : Option (Int × Int × Int × Int × Int × Bool × Int × Int × Int × Bool × Int × Bool × List UInt8 × List V × List UInt8 × Int × Int × Bool) := bnd1 (s_rright N x0 x1) fun b0 => br (!b0) (some (0, 0, 0, 0, 0, false, 0, 0, 0, false, 0, false, [], [], [], 0, 0, false)) (some (x1, x0, 32, 0, 0, false, 0, 0, 0, false, 0, false, [], [], [], 0, 0, true))
noncomputable def cx_rNewCard (N : Nat) : Cx := cxO [⟨42, e_rright (s_rright N)⟩] []
theorem s_rNewCard_ok (N : Nat) (x0 x1 : _) : bodyK (cx_rNewCard N) Try.f12 [dI x0, dI x1] [] r_rNewCard = s_rNewCard N x0 x1 := by
  kernel_rfl
abbrev g3a (a0 a1 a2 a3 a4 : Int) (a5 : Bool) (a6 a7 a8 : Int) (a9 : Bool) (a10 : Int) (a11 : Bool) (a12 : List UInt8) (a13 : List V) (a14 : List UInt8) (a15 a16 : Int) : D := .agg [dI a0, dI a1, dI a2, dI a3, dI a4, dB a5, dI a6, dI a7, dI a8, dB a9, dI a10, dB a11, dY a12, .v (.sl 27 a13) .no, dY a14, dI a15, dI a16]
abbrev Q_rNewCard (s : Ty33) : Prop := ∀ x0 x1 r0 r1 r2 r3 r4 r5 r6 r7 r8 r9 r10 r11 r12 r13 r14 r15 r16 r17, s x0 x1 = some (r0, r1, r2, r3, r4, r5, r6, r7, r8, r9, r10, r11, r12, r13, r14, r15, r16, r17) -> PureRet Try.prog T 12 [dI x0, dI x1] [g3a r0 r1 r2 r3 r4 r5 r6 r7 r8 r9 r10 r11 r12 r13 r14 r15 r16, dB r17]
theorem eo_rNewCard (s : Ty33) (hs : Q_rNewCard s) : EntOK Try.prog T ⟨12, e_rNewCard s⟩ := by
  refine ⟨goes_of Try.func12 (by kernel_rfl) (c := bodyOf Try.f12) (by kernel_rfl), fun R ds K r h => ?_, fun R ds K => ?_⟩
  . simp only [e_rNewCard] at h
    split at h
    . obtain ⟨r0, r1, r2, r3, r4, r5, r6, r7, r8, r9, r10, r11, r12, r13, r14, r15, r16, r17, h1, h2⟩ := bnd18_some h
      exact ⟨_, h2, hs _ _ _ _ _ _ _ _ _ _ _ _ _ _ _ _ _ _ _ _ h1⟩
    . cases h
  . simp only [e_rNewCard]
    split
    . rw [bnd18_b]; rfl
    . rfl
theorem p_rNewCard (N : Nat) : Q_rNewCard (s_rNewCard N) := fun x0 x1 r0 r1 r2 r3 r4 r5 r6 r7 r8 r9 r10 r11 r12 r13 r14 r15 r16 r17 h => pure_of (cx := cx_rNewCard N) (by kernel_rfl) (cxO_ok ⟨eo_rright _ (p_rright N), trivial⟩ trivial) Try.func12 (by kernel_rfl) (by kernel_rfl) (loopsOK_of (k := 0) (by kernel_rfl) trivial) (by rfl) (by rfl) (by rfl) (rf := r_rNewCard) ((s_rNewCard_ok ..).trans h) (fun rs' m h => by
    unfold r_rNewCard at h
    split at h
    . cases h; exact ⟨rfl, rfl⟩
    . cases h)
abbrev Ty34 := Int -> Int -> Int -> Int -> Int -> Bool -> Int -> Int -> Int -> Bool -> Int -> Bool -> List UInt8 -> List V -> List UInt8 -> Int -> Int -> Int -> Bool -> Int -> Bool -> List UInt8 -> Option (List UInt8)
noncomputable def e_rput {R : Type} (s : Ty34) (ds : List D) (K : List D -> Option R) : Option R :=
  match ds with
  | [.agg [.v (.int .i64 x0) .no, .v (.int .i64 x1) .no, .v (.int .i64 x2) .no, .v (.int .i64 x3) .no, .v (.int .i64 x4) .no, .v (.bool x5) .no, .v (.int .i64 x6) .no, .v (.int .i64 x7) .no, .v (.int .i64 x8) .no, .v (.bool x9) .no, .v (.int .i64 x10) .no, .v (.bool x11) .no, .v (.bytes x12) .no, .v (.sl 27 x13) .no, .v (.bytes x14) .no], .agg [.v (.int .i64 x15) .no, .v (.int .i64 x16) .no, .v (.int .i64 x17) .no, .v (.bool x18) .no, .v (.int .i64 x19) .no, .v (.bool x20) .no, .v (.bytes x21) .no]] => bnd1 (s x0 x1 x2 x3 x4 x5 x6 x7 x8 x9 x10 x11 x12 x13 x14 x15 x16 x17 x18 x19 x20 x21) fun r0 => K [dY r0]
  | _ => none
noncomputable def r_rput (rs : List D) (_ : Mem) : Option (List UInt8) :=
  match rs with
  | [.v (.bytes r0) _] => some (r0)
  | _ => none
noncomputable def s_rput (N : Nat) (x0 x1 x2 x3 x4 : Int) (x5 : Bool) (x6 x7 x8 : Int) (x9 : Bool) (x10 : Int) (x11 : Bool) (x12 : List UInt8) (x13 : List V) (x14 : List UInt8) (x15 x16 x17 : Int) (x18 : Bool) (x19 : Int) (x20 : Bool) (x21 : List UInt8) : Option (List UInt8) := bnd2 (s_rEncode6 N x15 x16 x17 x18 x19 x20 x21 x0) fun l0 n1 => some l0
noncomputable def cx_rput (N : Nat) : Cx := cxO [⟨25, e_rEncode6 (s_rEncode6 N)⟩] []
abbrev g4a (a0 a1 a2 a3 a4 : Int) (a5 : Bool) (a6 a7 a8 : Int) (a9 : Bool) (a10 : Int) (a11 : Bool) (a12 : List UInt8) (a13 : List V) (a14 : List UInt8) : D := .agg [dI a0, dI a1, dI a2, dI a3, dI a4, dB a5, dI a6, dI a7, dI a8, dB a9, dI a10, dB a11, dY a12, .v (.sl 27 a13) .no, dY a14]
theorem s_rput_ok (N : Nat) (x0 x1 x2 x3 x4 x5 x6 x7 x8 x9 x10 x11 x12 x13 x14 x15 x16 x17 x18 x19 x20 x21 : _) : bodyK (cx_rput N) Try.f55 [g4a x0 x1 x2 x3 x4 x5 x6 x7 x8 x9 x10 x11 x12 x13 x14, g0a x15 x16 x17 x18 x19 x20 x21] [] r_rput = s_rput N x0 x1 x2 x3 x4 x5 x6 x7 x8 x9 x10 x11 x12 x13 x14 x15 x16 x17 x18 x19 x20 x21 := by
  kernel_rfl
abbrev Q_rput (s : Ty34) : Prop := ∀ x0 x1 x2 x3 x4 x5 x6 x7 x8 x9 x10 x11 x12 x13 x14 x15 x16 x17 x18 x19 x20 x21 r0, s x0 x1 x2 x3 x4 x5 x6 x7 x8 x9 x10 x11 x12 x13 x14 x15 x16 x17 x18 x19 x20 x21 = some r0 -> PureRet Try.prog T 55 [g4a x0 x1 x2 x3 x4 x5 x6 x7 x8 x9 x10 x11 x12 x13 x14, g0a x15 x16 x17 x18 x19 x20 x21] [dY r0]
theorem eo_rput (s : Ty34) (hs : Q_rput s) : EntOK Try.prog T ⟨55, e_rput s⟩ := by
  refine ⟨goes_of Try.func55 (by kernel_rfl) (c := bodyOf Try.f55) (by kernel_rfl), fun R ds K r h => ?_, fun R ds K => ?_⟩
  . simp only [e_rput] at h
    split at h
    . obtain ⟨r0, h1, h2⟩ := bnd1_some h
      exact ⟨_, h2, hs _ _ _ _ _ _ _ _ _ _ _ _ _ _ _ _ _ _ _ _ _ _ _ h1⟩
    . cases h
  . simp only [e_rput]
    split
    . rw [bnd1_b]; rfl
    . rfl
theorem p_rput (N : Nat) : Q_rput (s_rput N) := fun x0 x1 x2 x3 x4 x5 x6 x7 x8 x9 x10 x11 x12 x13 x14 x15 x16 x17 x18 x19 x20 x21 r0 h => pure_of (cx := cx_rput N) (by kernel_rfl) (cxO_ok ⟨eo_rEncode6 _ (p_rEncode6 N), trivial⟩ trivial) Try.func55 (by kernel_rfl) (by kernel_rfl) (loopsOK_of (k := 0) (by kernel_rfl) trivial) (by rfl) (by rfl) (by rfl) (rf := r_rput) ((s_rput_ok ..).trans h) (fun rs' m h => by
    unfold r_rput at h
    split at h
    . cases h; exact ⟨rfl, rfl⟩
    . cases h)
abbrev Ty35 := Int -> Int -> Int -> Int -> Int -> Bool -> Int -> Int -> Int -> Bool -> Int -> Bool -> List UInt8 -> List V -> List UInt8 -> Int -> Option (List UInt8)
noncomputable def e_rready {R : Type} (s : Ty35) (ds : List D) (K : List D -> Option R) : Option R :=
  match ds with
  | [.agg [.v (.int .i64 x0) .no, .v (.int .i64 x1) .no, .v (.int .i64 x2) .no, .v (.int .i64 x3) .no, .v (.int .i64 x4) .no, .v (.bool x5) .no, .v (.int .i64 x6) .no, .v (.int .i64 x7) .no, .v (.int .i64 x8) .no, .v (.bool x9) .no, .v (.int .i64 x10) .no, .v (.bool x11) .no, .v (.bytes x12) .no, .v (.sl 27 x13) .no, .v (.bytes x14) .no], .v (.int .i64 x15) .no] => bnd1 (s x0 x1 x2 x3 x4 x5 x6 x7 x8 x9 x10 x11 x12 x13 x14 x15) fun r0 => K [dY r0]
  | _ => none
noncomputable def s_rready (N : Nat) (x0 x1 x2 x3 x4 : Int) (x5 : Bool) (x6 x7 x8 : Int) (x9 : Bool) (x10 : Int) (x11 : Bool) (x12 : List UInt8) (x13 : List V) (x14 : List UInt8) (x15 : Int) : Option (List UInt8) := bnd1 (s_rput N x0 x1 x2 x3 x4 x5 x6 x7 x8 x9 x10 x11 x12 x13 x14 0 1 x3 false x15 false []) fun l0 => some l0
noncomputable def cx_rready (N : Nat) : Cx := cxO [⟨55, e_rput (s_rput N)⟩] []
theorem s_rready_ok (N : Nat) (x0 x1 x2 x3 x4 x5 x6 x7 x8 x9 x10 x11 x12 x13 x14 x15 : _) : bodyK (cx_rready N) Try.f53 [g4a x0 x1 x2 x3 x4 x5 x6 x7 x8 x9 x10 x11 x12 x13 x14, dI x15] [] r_rput = s_rready N x0 x1 x2 x3 x4 x5 x6 x7 x8 x9 x10 x11 x12 x13 x14 x15 := by
  kernel_rfl
abbrev Q_rready (s : Ty35) : Prop := ∀ x0 x1 x2 x3 x4 x5 x6 x7 x8 x9 x10 x11 x12 x13 x14 x15 r0, s x0 x1 x2 x3 x4 x5 x6 x7 x8 x9 x10 x11 x12 x13 x14 x15 = some r0 -> PureRet Try.prog T 53 [g4a x0 x1 x2 x3 x4 x5 x6 x7 x8 x9 x10 x11 x12 x13 x14, dI x15] [dY r0]
theorem eo_rready (s : Ty35) (hs : Q_rready s) : EntOK Try.prog T ⟨53, e_rready s⟩ := by
  refine ⟨goes_of Try.func53 (by kernel_rfl) (c := bodyOf Try.f53) (by kernel_rfl), fun R ds K r h => ?_, fun R ds K => ?_⟩
  . simp only [e_rready] at h
    split at h
    . obtain ⟨r0, h1, h2⟩ := bnd1_some h
      exact ⟨_, h2, hs _ _ _ _ _ _ _ _ _ _ _ _ _ _ _ _ _ h1⟩
    . cases h
  . simp only [e_rready]
    split
    . rw [bnd1_b]; rfl
    . rfl
theorem p_rready (N : Nat) : Q_rready (s_rready N) := fun x0 x1 x2 x3 x4 x5 x6 x7 x8 x9 x10 x11 x12 x13 x14 x15 r0 h => pure_of (cx := cx_rready N) (by kernel_rfl) (cxO_ok ⟨eo_rput _ (p_rput N), trivial⟩ trivial) Try.func53 (by kernel_rfl) (by kernel_rfl) (loopsOK_of (k := 0) (by kernel_rfl) trivial) (by rfl) (by rfl) (by rfl) (rf := r_rput) ((s_rready_ok ..).trans h) (fun rs' m h => by
    unfold r_rput at h
    split at h
    . cases h; exact ⟨rfl, rfl⟩
    . cases h)
abbrev Ty36 := Int -> Int -> Int -> Int -> Int -> Bool -> Int -> Int -> Int -> Bool -> Int -> Bool -> List UInt8 -> List V -> List UInt8 -> Option (Int × Int × Int × Int × Int × Bool × Int × Int × Int × Bool × Int × Bool × List UInt8 × List V × List UInt8 × List UInt8)
noncomputable def e_rpiece {R : Type} (s : Ty36) (ds : List D) (K : List D -> Option R) : Option R :=
  match ds with
  | [.agg [.v (.int .i64 x0) .no, .v (.int .i64 x1) .no, .v (.int .i64 x2) .no, .v (.int .i64 x3) .no, .v (.int .i64 x4) .no, .v (.bool x5) .no, .v (.int .i64 x6) .no, .v (.int .i64 x7) .no, .v (.int .i64 x8) .no, .v (.bool x9) .no, .v (.int .i64 x10) .no, .v (.bool x11) .no, .v (.bytes x12) .no, .v (.sl 27 x13) .no, .v (.bytes x14) .no]] => bnd16 (s x0 x1 x2 x3 x4 x5 x6 x7 x8 x9 x10 x11 x12 x13 x14) fun r0 r1 r2 r3 r4 r5 r6 r7 r8 r9 r10 r11 r12 r13 r14 r15 => K [.agg [dI r0, dI r1, dI r2, dI r3, dI r4, dB r5, dI r6, dI r7, dI r8, dB r9, dI r10, dB r11, dY r12, .v (.sl 27 r13) .no, dY r14], dY r15]
  | _ => none
noncomputable def r_rpiece (rs : List D) (_ : Mem) : Option (Int × Int × Int × Int × Int × Bool × Int × Int × Int × Bool × Int × Bool × List UInt8 × List V × List UInt8 × List UInt8) :=
  match rs with
  | [.agg [.v (.int .i64 r0) _, .v (.int .i64 r1) _, .v (.int .i64 r2) _, .v (.int .i64 r3) _, .v (.int .i64 r4) _, .v (.bool r5) _, .v (.int .i64 r6) _, .v (.int .i64 r7) _, .v (.int .i64 r8) _, .v (.bool r9) _, .v (.int .i64 r10) _, .v (.bool r11) _, .v (.bytes r12) _, .v (.sl 27 r13) _, .v (.bytes r14) _], .v (.bytes r15) _] => some (r0, r1, r2, r3, r4, r5, r6, r7, r8, r9, r10, r11, r12, r13, r14, r15)
  | _ => none
noncomputable def s_rpiece (N : Nat) (x0 x1 x2 x3 x4 : Int) (x5 : Bool) (x6 x7 x8 : Int) (x9 : Bool) (x10 : Int) (x11 : Bool) (x12 : List UInt8) (x13 : List V) (x14 : List UInt8) : Option (Int × Int × Int × Int × Int × Bool × Int × Int × Int × Bool × Int × Bool × List UInt8 × List V × List UInt8 × List UInt8) := br (decide (0 < (x13.length : Int))) (at? x13 0 fun x0_1 => x0_1.unBytes fun l1 => br (decide (1 <= (x13.length : Int))) (bnd1 (s_rput N x0 x1 x2 x3 (IntKind.i64.wrap (1 - x4)) true 0 0 x4 (decide (1 < (x13.length : Int))) 0 false l1 (List.drop 1 x13) x14 0 0 x4 (decide (1 < (x13.length : Int))) 0 false l1) fun l2 => some (x0, x1, x2, x3, IntKind.i64.wrap (1 - x4), true, 0, 0, x4, decide (1 < (x13.length : Int)), 0, false, l1, List.drop 1 x13, x14, l2)) none) none
noncomputable def cx_rpiece (N : Nat) : Cx := cxO [⟨55, e_rput (s_rput N)⟩] []
theorem s_rpiece_ok (N : Nat) (x0 x1 x2 x3 x4 x5 x6 x7 x8 x9 x10 x11 x12 x13 x14 : _) : bodyK (cx_rpiece N) Try.f56 [g4a x0 x1 x2 x3 x4 x5 x6 x7 x8 x9 x10 x11 x12 x13 x14] [] r_rpiece = s_rpiece N x0 x1 x2 x3 x4 x5 x6 x7 x8 x9 x10 x11 x12 x13 x14 := by
  kernel_rfl
abbrev Q_rpiece (s : Ty36) : Prop := ∀ x0 x1 x2 x3 x4 x5 x6 x7 x8 x9 x10 x11 x12 x13 x14 r0 r1 r2 r3 r4 r5 r6 r7 r8 r9 r10 r11 r12 r13 r14 r15, s x0 x1 x2 x3 x4 x5 x6 x7 x8 x9 x10 x11 x12 x13 x14 = some (r0, r1, r2, r3, r4, r5, r6, r7, r8, r9, r10, r11, r12, r13, r14, r15) -> PureRet Try.prog T 56 [g4a x0 x1 x2 x3 x4 x5 x6 x7 x8 x9 x10 x11 x12 x13 x14] [g4a r0 r1 r2 r3 r4 r5 r6 r7 r8 r9 r10 r11 r12 r13 r14, dY r15]
theorem eo_rpiece (s : Ty36) (hs : Q_rpiece s) : EntOK Try.prog T ⟨56, e_rpiece s⟩ := by
  refine ⟨goes_of Try.func56 (by kernel_rfl) (c := bodyOf Try.f56) (by kernel_rfl), fun R ds K r h => ?_, fun R ds K => ?_⟩
  . simp only [e_rpiece] at h
    split at h
    . obtain ⟨r0, r1, r2, r3, r4, r5, r6, r7, r8, r9, r10, r11, r12, r13, r14, r15, h1, h2⟩ := bnd16_some h
      exact ⟨_, h2, hs _ _ _ _ _ _ _ _ _ _ _ _ _ _ _ _ _ _ _ _ _ _ _ _ _ _ _ _ _ _ _ h1⟩
    . cases h
  . simp only [e_rpiece]
    split
    . rw [bnd16_b]; rfl
    . rfl
theorem p_rpiece (N : Nat) : Q_rpiece (s_rpiece N) := fun x0 x1 x2 x3 x4 x5 x6 x7 x8 x9 x10 x11 x12 x13 x14 r0 r1 r2 r3 r4 r5 r6 r7 r8 r9 r10 r11 r12 r13 r14 r15 h => pure_of (cx := cx_rpiece N) (by kernel_rfl) (cxO_ok ⟨eo_rput _ (p_rput N), trivial⟩ trivial) Try.func56 (by kernel_rfl) (by kernel_rfl) (loopsOK_of (k := 0) (by kernel_rfl) trivial) (by rfl) (by rfl) (by rfl) (rf := r_rpiece) ((s_rpiece_ok ..).trans h) (fun rs' m h => by
    unfold r_rpiece at h
    split at h
    . cases h; exact ⟨rfl, rfl⟩
    . cases h)
end Go.Proofs.Ytilfphdeacogmaa.En

/- Functions of the program in plain Lean, joined to the program by evaluation; printed by a program. -/
namespace Go.Proofs.Ytilfphdeacogmaa.En
open Go Go.Proofs
set_option maxRecDepth 100000
set_option maxHeartbeats 8000000
set_option linter.unusedVariables false
abbrev Ty37 := Int -> Int -> Int -> Int -> Int -> Bool -> Int -> Int -> Int -> Bool -> Int -> Bool -> List UInt8 -> List V -> List UInt8 -> List UInt8 -> Option (Int × Int × Int × Int × Int × Bool × Int × Int × Int × Bool × Int × Bool × List UInt8 × List V × List UInt8 × List UInt8)
noncomputable def e_rsend {R : Type} (s : Ty37) (ds : List D) (K : List D -> Option R) : Option R :=
  match ds with
  | [.agg [.v (.int .i64 x0) .no, .v (.int .i64 x1) .no, .v (.int .i64 x2) .no, .v (.int .i64 x3) .no, .v (.int .i64 x4) .no, .v (.bool x5) .no, .v (.int .i64 x6) .no, .v (.int .i64 x7) .no, .v (.int .i64 x8) .no, .v (.bool x9) .no, .v (.int .i64 x10) .no, .v (.bool x11) .no, .v (.bytes x12) .no, .v (.sl 27 x13) .no, .v (.bytes x14) .no], .v (.bytes x15) .no] => bnd16 (s x0 x1 x2 x3 x4 x5 x6 x7 x8 x9 x10 x11 x12 x13 x14 x15) fun r0 r1 r2 r3 r4 r5 r6 r7 r8 r9 r10 r11 r12 r13 r14 r15 => K [.agg [dI r0, dI r1, dI r2, dI r3, dI r4, dB r5, dI r6, dI r7, dI r8, dB r9, dI r10, dB r11, dY r12, .v (.sl 27 r13) .no, dY r14], dY r15]
  | _ => none
noncomputable def F_rsend_2 {R : Type} (N : Nat) (n2 n3 n4 n5 n6 : Int) (b7 : Bool) (n8 n9 n10 : Int) (b11 : Bool) (n12 : Int) (b13 : Bool) (l14 : List UInt8) (vs15 : List V) (l16 : List UInt8) (n17 n18 n19 n20 n21 : Int) (b22 : Bool) (n23 n24 n25 : Int) (b26 : Bool) (n27 : Int) (b28 : Bool) (l29 : List UInt8) (vs30 : List V) (l31 : List UInt8) (Lq : List UInt8 -> List V -> Option R) (K0 : List UInt8 -> List V -> Option R) (l0 : List UInt8) (vs1 : List V) : Option R := br (decide (n4 < (l0.length : Int))) (br (decide (0 <= n4) && decide (n4 <= (l0.length : Int))) (br (decide ((vs1.length + [V.bytes (List.take n4.toNat l0)].length) * 24 <= 140737488355328)) (br (decide (0 <= n4) && decide (n4 <= (l0.length : Int))) (Lq (List.drop n4.toNat l0) (vs1 ++ [V.bytes (List.take n4.toNat l0)])) none) none) none) (K0 l0 vs1)
noncomputable def S_rsend_2 {R : Type} (N : Nat) (n2 n3 n4 n5 n6 : Int) (b7 : Bool) (n8 n9 n10 : Int) (b11 : Bool) (n12 : Int) (b13 : Bool) (l14 : List UInt8) (vs15 : List V) (l16 : List UInt8) (n17 n18 n19 n20 n21 : Int) (b22 : Bool) (n23 n24 n25 : Int) (b26 : Bool) (n27 : Int) (b28 : Bool) (l29 : List UInt8) (vs30 : List V) (l31 : List UInt8) : Nat -> List UInt8 -> List V -> (List UInt8 -> List V -> Option R) -> Option R | 0, _, _, _ => none | t + 1, l0, vs1, K0 => F_rsend_2 N n2 n3 n4 n5 n6 b7 n8 n9 n10 b11 n12 b13 l14 vs15 l16 n17 n18 n19 n20 n21 b22 n23 n24 n25 b26 n27 b28 l29 vs30 l31 (fun l0 vs1 => S_rsend_2 N n2 n3 n4 n5 n6 b7 n8 n9 n10 b11 n12 b13 l14 vs15 l16 n17 n18 n19 n20 n21 b22 n23 n24 n25 b26 n27 b28 l29 vs30 l31 t l0 vs1 K0) K0 l0 vs1
noncomputable def l_rsend_2 {R : Type} (N : Nat) (ds : List D) (m : Mem) (K : Ex -> List D -> Mem -> Option R) : Option R :=
  match ds, m with
  | [(.v (.bytes l0) .no), (.ptr 0 2 0), (.ptr 0 4 0), (.v (.sl 27 vs1) (.own (.slot 6) 27))], [[(2, ⟨32, [(.v (.int .i64 n2) .no), (.v (.int .i64 n3) .no), (.v (.int .i64 n4) .no), (.v (.int .i64 n5) .no), (.v (.int .i64 n6) .no), (.v (.bool b7) .no), (.v (.int .i64 n8) .no), (.v (.int .i64 n9) .no), (.v (.int .i64 n10) .no), (.v (.bool b11) .no), (.v (.int .i64 n12) .no), (.v (.bool b13) .no), (.v (.bytes l14) .no), (.v (.sl 27 vs15) .no), (.v (.bytes l16) .no)]⟩), (4, ⟨32, [(.v (.int .i64 n17) .no), (.v (.int .i64 n18) .no), (.v (.int .i64 n19) .no), (.v (.int .i64 n20) .no), (.v (.int .i64 n21) .no), (.v (.bool b22) .no), (.v (.int .i64 n23) .no), (.v (.int .i64 n24) .no), (.v (.int .i64 n25) .no), (.v (.bool b26) .no), (.v (.int .i64 n27) .no), (.v (.bool b28) .no), (.v (.bytes l29) (.own (.slot 0) 5)), (.v (.sl 27 vs30) (.own (.slot 0) 27)), (.v (.bytes l31) (.own (.slot 0) 5))]⟩)]] => S_rsend_2 N n2 n3 n4 n5 n6 b7 n8 n9 n10 b11 n12 b13 l14 vs15 l16 n17 n18 n19 n20 n21 b22 n23 n24 n25 b26 n27 b28 l29 vs30 l31 N l0 vs1 (fun a0 a1 => K (.exit 0) [(.v (.bytes a0) .no), (.ptr 0 2 0), (.ptr 0 4 0), (.v (.sl 27 a1) (.own (.slot 6) 27))] [[(2, ⟨32, [(.v (.int .i64 n2) .no), (.v (.int .i64 n3) .no), (.v (.int .i64 n4) .no), (.v (.int .i64 n5) .no), (.v (.int .i64 n6) .no), (.v (.bool b7) .no), (.v (.int .i64 n8) .no), (.v (.int .i64 n9) .no), (.v (.int .i64 n10) .no), (.v (.bool b11) .no), (.v (.int .i64 n12) .no), (.v (.bool b13) .no), (.v (.bytes l14) .no), (.v (.sl 27 vs15) .no), (.v (.bytes l16) .no)]⟩), (4, ⟨32, [(.v (.int .i64 n17) .no), (.v (.int .i64 n18) .no), (.v (.int .i64 n19) .no), (.v (.int .i64 n20) .no), (.v (.int .i64 n21) .no), (.v (.bool b22) .no), (.v (.int .i64 n23) .no), (.v (.int .i64 n24) .no), (.v (.int .i64 n25) .no), (.v (.bool b26) .no), (.v (.int .i64 n27) .no), (.v (.bool b28) .no), (.v (.bytes l29) (.own (.slot 0) 5)), (.v (.sl 27 vs30) (.own (.slot 0) 27)), (.v (.bytes l31) (.own (.slot 0) 5))]⟩)]])
  | _, _ => none
noncomputable def s_rsend (N : Nat) (x0 x1 x2 x3 x4 : Int) (x5 : Bool) (x6 x7 x8 : Int) (x9 : Bool) (x10 : Int) (x11 : Bool) (x12 : List UInt8) (x13 : List V) (x14 x15 : List UInt8) : Option (Int × Int × Int × Int × Int × Bool × Int × Int × Int × Bool × Int × Bool × List UInt8 × List V × List UInt8 × List UInt8) := S_rsend_2 N x0 x1 x2 x3 x4 x5 x6 x7 x8 x9 x10 x11 x12 x13 x14 0 0 0 0 0 false 0 0 0 false 0 false [] [] [] N x15 [] fun l0 l1 => br (decide ((l1.length + [V.bytes l0].length) * 24 <= 140737488355328)) (bnd16 (s_rpiece N x0 x1 x2 x3 x4 x5 x6 x7 x8 x9 x10 x11 x12 (l1 ++ [V.bytes l0]) x14) fun n2 n3 n4 n5 n6 b7 n8 n9 n10 b11 n12 b13 l14 l15 l16 l17 => some (n2, n3, n4, n5, n6, b7, n8, n9, n10, b11, n12, b13, l14, l15, l16, l17)) none
noncomputable def cx_rsend (N : Nat) : Cx := { T := T, isPure := tabP [⟨56, e_rpiece (s_rpiece N)⟩], pureK := fun g ds K => tabK [⟨56, e_rpiece (s_rpiece N)⟩] g ds K, memK := fun g dst ds m K => tabMK [] g dst ds m K, meth := tabM [], keep := fun r => match r with | 2 => [1, 2, 4, 6] | _ => [], keepX := fun r => match r with | 2 => [1, 2, 4, 6] | _ => [], loopT := fun r ds m K => match r with | 2 => l_rsend_2 N ds m K | _ => none, jumps := 9 }
theorem F_rsend_2_ok {R : Type} (N : Nat) (n2 n3 n4 n5 n6 : Int) (b7 : Bool) (n8 n9 n10 : Int) (b11 : Bool) (n12 : Int) (b13 : Bool) (l14 : List UInt8) (vs15 : List V) (l16 : List UInt8) (n17 n18 n19 n20 n21 : Int) (b22 : Bool) (n23 n24 n25 : Int) (b26 : Bool) (n27 : Int) (b28 : Bool) (l29 : List UInt8) (vs30 : List V) (l31 l0 : List UInt8) (vs1 : List V) (L : List D -> Mem -> Option R) (K : Ex -> List D -> Mem -> Option R) :
    roundK (fun st K => codeK (cx_rsend N) (loopN Try.f59 0) st K) 32 [1, 2, 4, 6] [1, 2, 4, 6] L [(dY l0), (.ptr 0 2 0), (.ptr 0 4 0), (.v (.sl 27 vs1) (.own (.slot 6) 27))] [[(2, ⟨32, [(dI n2), (dI n3), (dI n4), (dI n5), (dI n6), (dB b7), (dI n8), (dI n9), (dI n10), (dB b11), (dI n12), (dB b13), (dY l14), (.v (.sl 27 vs15) .no), (dY l16)]⟩), (4, ⟨32, [(dI n17), (dI n18), (dI n19), (dI n20), (dI n21), (dB b22), (dI n23), (dI n24), (dI n25), (dB b26), (dI n27), (dB b28), (.v (.bytes l29) (.own (.slot 0) 5)), (.v (.sl 27 vs30) (.own (.slot 0) 27)), (.v (.bytes l31) (.own (.slot 0) 5))]⟩)]] K = F_rsend_2 N n2 n3 n4 n5 n6 b7 n8 n9 n10 b11 n12 b13 l14 vs15 l16 n17 n18 n19 n20 n21 b22 n23 n24 n25 b26 n27 b28 l29 vs30 l31 (fun l0 vs1 => L [(dY l0), (.ptr 0 2 0), (.ptr 0 4 0), (.v (.sl 27 vs1) (.own (.slot 6) 27))] [[(2, ⟨32, [(dI n2), (dI n3), (dI n4), (dI n5), (dI n6), (dB b7), (dI n8), (dI n9), (dI n10), (dB b11), (dI n12), (dB b13), (dY l14), (.v (.sl 27 vs15) .no), (dY l16)]⟩), (4, ⟨32, [(dI n17), (dI n18), (dI n19), (dI n20), (dI n21), (dB b22), (dI n23), (dI n24), (dI n25), (dB b26), (dI n27), (dB b28), (.v (.bytes l29) (.own (.slot 0) 5)), (.v (.sl 27 vs30) (.own (.slot 0) 27)), (.v (.bytes l31) (.own (.slot 0) 5))]⟩)]]) (fun a0 a1 => K (.exit 0) [(dY a0), (.ptr 0 2 0), (.ptr 0 4 0), (.v (.sl 27 a1) (.own (.slot 6) 27))] [[(2, ⟨32, [(dI n2), (dI n3), (dI n4), (dI n5), (dI n6), (dB b7), (dI n8), (dI n9), (dI n10), (dB b11), (dI n12), (dB b13), (dY l14), (.v (.sl 27 vs15) .no), (dY l16)]⟩), (4, ⟨32, [(dI n17), (dI n18), (dI n19), (dI n20), (dI n21), (dB b22), (dI n23), (dI n24), (dI n25), (dB b26), (dI n27), (dB b28), (.v (.bytes l29) (.own (.slot 0) 5)), (.v (.sl 27 vs30) (.own (.slot 0) 27)), (.v (.bytes l31) (.own (.slot 0) 5))]⟩)]]) l0 vs1 := by
  kernel_rfl
theorem S_rsend_2_ok {R : Type} (N : Nat) (n2 n3 n4 n5 n6 : Int) (b7 : Bool) (n8 n9 n10 : Int) (b11 : Bool) (n12 : Int) (b13 : Bool) (l14 : List UInt8) (vs15 : List V) (l16 : List UInt8) (n17 n18 n19 n20 n21 : Int) (b22 : Bool) (n23 n24 n25 : Int) (b26 : Bool) (n27 : Int) (b28 : Bool) (l29 : List UInt8) (vs30 : List V) (l31 : List UInt8) (K : Ex -> List D -> Mem -> Option R) : ∀ (t : Nat) (l0 : List UInt8) (vs1 : List V),
    loopK (fun st K => codeK (cx_rsend N) (loopN Try.f59 0) st K) 32 [1, 2, 4, 6] [1, 2, 4, 6] t [(dY l0), (.ptr 0 2 0), (.ptr 0 4 0), (.v (.sl 27 vs1) (.own (.slot 6) 27))] [[(2, ⟨32, [(dI n2), (dI n3), (dI n4), (dI n5), (dI n6), (dB b7), (dI n8), (dI n9), (dI n10), (dB b11), (dI n12), (dB b13), (dY l14), (.v (.sl 27 vs15) .no), (dY l16)]⟩), (4, ⟨32, [(dI n17), (dI n18), (dI n19), (dI n20), (dI n21), (dB b22), (dI n23), (dI n24), (dI n25), (dB b26), (dI n27), (dB b28), (.v (.bytes l29) (.own (.slot 0) 5)), (.v (.sl 27 vs30) (.own (.slot 0) 27)), (.v (.bytes l31) (.own (.slot 0) 5))]⟩)]] K = S_rsend_2 N n2 n3 n4 n5 n6 b7 n8 n9 n10 b11 n12 b13 l14 vs15 l16 n17 n18 n19 n20 n21 b22 n23 n24 n25 b26 n27 b28 l29 vs30 l31 t l0 vs1 (fun a0 a1 => K (.exit 0) [(dY a0), (.ptr 0 2 0), (.ptr 0 4 0), (.v (.sl 27 a1) (.own (.slot 6) 27))] [[(2, ⟨32, [(dI n2), (dI n3), (dI n4), (dI n5), (dI n6), (dB b7), (dI n8), (dI n9), (dI n10), (dB b11), (dI n12), (dB b13), (dY l14), (.v (.sl 27 vs15) .no), (dY l16)]⟩), (4, ⟨32, [(dI n17), (dI n18), (dI n19), (dI n20), (dI n21), (dB b22), (dI n23), (dI n24), (dI n25), (dB b26), (dI n27), (dB b28), (.v (.bytes l29) (.own (.slot 0) 5)), (.v (.sl 27 vs30) (.own (.slot 0) 27)), (.v (.bytes l31) (.own (.slot 0) 5))]⟩)]])
  | 0, l0, vs1 => rfl
  | t + 1, l0, vs1 => (F_rsend_2_ok N n2 n3 n4 n5 n6 b7 n8 n9 n10 b11 n12 b13 l14 vs15 l16 n17 n18 n19 n20 n21 b22 n23 n24 n25 b26 n27 b28 l29 vs30 l31 l0 vs1 _ K).trans (congrArg (fun L => F_rsend_2 N n2 n3 n4 n5 n6 b7 n8 n9 n10 b11 n12 b13 l14 vs15 l16 n17 n18 n19 n20 n21 b22 n23 n24 n25 b26 n27 b28 l29 vs30 l31 L (fun a0 a1 => K (.exit 0) [(dY a0), (.ptr 0 2 0), (.ptr 0 4 0), (.v (.sl 27 a1) (.own (.slot 6) 27))] [[(2, ⟨32, [(dI n2), (dI n3), (dI n4), (dI n5), (dI n6), (dB b7), (dI n8), (dI n9), (dI n10), (dB b11), (dI n12), (dB b13), (dY l14), (.v (.sl 27 vs15) .no), (dY l16)]⟩), (4, ⟨32, [(dI n17), (dI n18), (dI n19), (dI n20), (dI n21), (dB b22), (dI n23), (dI n24), (dI n25), (dB b26), (dI n27), (dB b28), (.v (.bytes l29) (.own (.slot 0) 5)), (.v (.sl 27 vs30) (.own (.slot 0) 27)), (.v (.bytes l31) (.own (.slot 0) 5))]⟩)]]) l0 vs1) (funext fun l0 => funext fun vs1 => S_rsend_2_ok N n2 n3 n4 n5 n6 b7 n8 n9 n10 b11 n12 b13 l14 vs15 l16 n17 n18 n19 n20 n21 b22 n23 n24 n25 b26 n27 b28 l29 vs30 l31 K t l0 vs1))
theorem s_rsend_ok (N : Nat) (x0 x1 x2 x3 x4 x5 x6 x7 x8 x9 x10 x11 x12 x13 x14 x15 : _) : bodyK (cx_rsend N) Try.f59 [g4a x0 x1 x2 x3 x4 x5 x6 x7 x8 x9 x10 x11 x12 x13 x14, dY x15] [] r_rpiece = s_rsend N x0 x1 x2 x3 x4 x5 x6 x7 x8 x9 x10 x11 x12 x13 x14 x15 := by
  kernel_rfl
abbrev Q_rsend (s : Ty37) : Prop := ∀ x0 x1 x2 x3 x4 x5 x6 x7 x8 x9 x10 x11 x12 x13 x14 x15 r0 r1 r2 r3 r4 r5 r6 r7 r8 r9 r10 r11 r12 r13 r14 r15, s x0 x1 x2 x3 x4 x5 x6 x7 x8 x9 x10 x11 x12 x13 x14 x15 = some (r0, r1, r2, r3, r4, r5, r6, r7, r8, r9, r10, r11, r12, r13, r14, r15) -> PureRet Try.prog T 59 [g4a x0 x1 x2 x3 x4 x5 x6 x7 x8 x9 x10 x11 x12 x13 x14, dY x15] [g4a r0 r1 r2 r3 r4 r5 r6 r7 r8 r9 r10 r11 r12 r13 r14, dY r15]
theorem eo_rsend (s : Ty37) (hs : Q_rsend s) : EntOK Try.prog T ⟨59, e_rsend s⟩ := by
  refine ⟨goes_of Try.func59 (by kernel_rfl) (c := bodyOf Try.f59) (by kernel_rfl), fun R ds K r h => ?_, fun R ds K => ?_⟩
  . simp only [e_rsend] at h
    split at h
    . obtain ⟨r0, r1, r2, r3, r4, r5, r6, r7, r8, r9, r10, r11, r12, r13, r14, r15, h1, h2⟩ := bnd16_some h
      exact ⟨_, h2, hs _ _ _ _ _ _ _ _ _ _ _ _ _ _ _ _ _ _ _ _ _ _ _ _ _ _ _ _ _ _ _ _ h1⟩
    . cases h
  . simp only [e_rsend]
    split
    . rw [bnd16_b]; rfl
    . rfl
theorem co_rsend (N : Nat) : CxOK Try.prog (cx_rsend N) :=
  cxOK_of2 (es := [⟨56, e_rpiece (s_rpiece N)⟩]) (me := []) (ms := []) T_ok ⟨eo_rpiece _ (p_rpiece N), trivial⟩ trivial trivial rfl (fun _ _ _ _ => rfl) (fun _ _ _ _ _ _ => rfl) rfl
theorem lk_rsend_2 (N : Nat) : LoopOK (cx_rsend N) 32 (loopN Try.f59 0) := by
  refine loopOK_of (rid := 2) (by kernel_rfl) rfl rfl fun R ds m K r h => ?_
  have h : l_rsend_2 N ds m K = some r := h
  unfold l_rsend_2 at h
  split at h
  . exact ⟨N, Eq.trans (S_rsend_2_ok ..) h⟩
  . cases h
theorem lo_rsend (N : Nat) : LoopsOK (cx_rsend N) Try.f59.ntmps (bodyOf Try.f59) :=
  loopsOK_of (k := 1) (by kernel_rfl) ⟨trivial, lk_rsend_2 N⟩
theorem p_rsend (N : Nat) : Q_rsend (s_rsend N) := fun x0 x1 x2 x3 x4 x5 x6 x7 x8 x9 x10 x11 x12 x13 x14 x15 r0 r1 r2 r3 r4 r5 r6 r7 r8 r9 r10 r11 r12 r13 r14 r15 h => pure_of (cx := cx_rsend N) (by kernel_rfl) (co_rsend N) Try.func59 (by kernel_rfl) (by kernel_rfl) (lo_rsend N) (by rfl) (by rfl) (by rfl) (rf := r_rpiece) ((s_rsend_ok ..).trans h) (fun rs' m h => by
    unfold r_rpiece at h
    split at h
    . cases h; exact ⟨rfl, rfl⟩
    . cases h)
abbrev Ty38 := Int -> Int -> Int -> Int -> Int -> Bool -> Int -> Int -> Int -> Bool -> Int -> Bool -> List UInt8 -> List V -> List UInt8 -> List UInt8 -> Option (Int × Int × Int × Bool × Int × Bool × List UInt8 × Int × Bool)
noncomputable def e_rblock {R : Type} (s : Ty38) (ds : List D) (K : List D -> Option R) : Option R :=
  match ds with
  | [.agg [.v (.int .i64 x0) .no, .v (.int .i64 x1) .no, .v (.int .i64 x2) .no, .v (.int .i64 x3) .no, .v (.int .i64 x4) .no, .v (.bool x5) .no, .v (.int .i64 x6) .no, .v (.int .i64 x7) .no, .v (.int .i64 x8) .no, .v (.bool x9) .no, .v (.int .i64 x10) .no, .v (.bool x11) .no, .v (.bytes x12) .no, .v (.sl 27 x13) .no, .v (.bytes x14) .no], .v (.bytes x15) .no] => bnd9 (s x0 x1 x2 x3 x4 x5 x6 x7 x8 x9 x10 x11 x12 x13 x14 x15) fun r0 r1 r2 r3 r4 r5 r6 r7 r8 => K [.agg [dI r0, dI r1, dI r2, dB r3, dI r4, dB r5, dY r6], dI r7, dB r8]
  | _ => none
noncomputable def r_rblock (rs : List D) (_ : Mem) : Option (Int × Int × Int × Bool × Int × Bool × List UInt8 × Int × Bool) :=
  match rs with
  | [.agg [.v (.int .i64 r0) _, .v (.int .i64 r1) _, .v (.int .i64 r2) _, .v (.bool r3) _, .v (.int .i64 r4) _, .v (.bool r5) _, .v (.bytes r6) _], .v (.int .i64 r7) _, .v (.bool r8) _] => some (r0, r1, r2, r3, r4, r5, r6, r7, r8)
  | _ => none
noncomputable def s_rblock (N : Nat) (x0 x1 x2 x3 x4 : Int) (x5 : Bool) (x6 x7 x8 : Int) (x9 : Bool) (x10 : Int) (x11 : Bool) (x12 : List UInt8) (x13 : List V) (x14 x15 : List UInt8) : Option (Int × Int × Int × Bool × Int × Bool × List UInt8 × Int × Bool) := bnd8 (s_rDecode6 N x15 x0) fun n0 n1 n2 b3 n4 b5 l6 n7 => br (decide (n7 = 6)) (some (n0, n1, n2, b3, n4, b5, l6, 1, false)) (br (!decide (n7 = 0)) (some (n0, n1, n2, b3, n4, b5, l6, 2, false)) (br (!decide (n0 = 0)) (some (n0, n1, n2, b3, n4, b5, l6, 2, false)) (br (decide (n1 = 0)) (br (decide (x1 < (l6.length : Int))) (some (n0, n1, n2, b3, n4, b5, l6, 2, false)) (some (n0, n1, n2, b3, n4, b5, l6, 0, true))) (some (n0, n1, n2, b3, n4, b5, l6, 0, true)))))
noncomputable def cx_rblock (N : Nat) : Cx := cxO [⟨61, e_rDecode6 (s_rDecode6 N)⟩] []
theorem s_rblock_ok (N : Nat) (x0 x1 x2 x3 x4 x5 x6 x7 x8 x9 x10 x11 x12 x13 x14 x15 : _) : bodyK (cx_rblock N) Try.f51 [g4a x0 x1 x2 x3 x4 x5 x6 x7 x8 x9 x10 x11 x12 x13 x14, dY x15] [] r_rblock = s_rblock N x0 x1 x2 x3 x4 x5 x6 x7 x8 x9 x10 x11 x12 x13 x14 x15 := by
  kernel_rfl
abbrev Q_rblock (s : Ty38) : Prop := ∀ x0 x1 x2 x3 x4 x5 x6 x7 x8 x9 x10 x11 x12 x13 x14 x15 r0 r1 r2 r3 r4 r5 r6 r7 r8, s x0 x1 x2 x3 x4 x5 x6 x7 x8 x9 x10 x11 x12 x13 x14 x15 = some (r0, r1, r2, r3, r4, r5, r6, r7, r8) -> PureRet Try.prog T 51 [g4a x0 x1 x2 x3 x4 x5 x6 x7 x8 x9 x10 x11 x12 x13 x14, dY x15] [g0a r0 r1 r2 r3 r4 r5 r6, dI r7, dB r8]
theorem eo_rblock (s : Ty38) (hs : Q_rblock s) : EntOK Try.prog T ⟨51, e_rblock s⟩ := by
  refine ⟨goes_of Try.func51 (by kernel_rfl) (c := bodyOf Try.f51) (by kernel_rfl), fun R ds K r h => ?_, fun R ds K => ?_⟩
  . simp only [e_rblock] at h
    split at h
    . obtain ⟨r0, r1, r2, r3, r4, r5, r6, r7, r8, h1, h2⟩ := bnd9_some h
      exact ⟨_, h2, hs _ _ _ _ _ _ _ _ _ _ _ _ _ _ _ _ _ _ _ _ _ _ _ _ _ h1⟩
    . cases h
  . simp only [e_rblock]
    split
    . rw [bnd9_b]; rfl
    . rfl
theorem p_rblock (N : Nat) : Q_rblock (s_rblock N) := fun x0 x1 x2 x3 x4 x5 x6 x7 x8 x9 x10 x11 x12 x13 x14 x15 r0 r1 r2 r3 r4 r5 r6 r7 r8 h => pure_of (cx := cx_rblock N) (by kernel_rfl) (cxO_ok ⟨eo_rDecode6 _ (p_rDecode6 N), trivial⟩ trivial) Try.func51 (by kernel_rfl) (by kernel_rfl) (loopsOK_of (k := 0) (by kernel_rfl) trivial) (by rfl) (by rfl) (by rfl) (rf := r_rblock) ((s_rblock_ok ..).trans h) (fun rs' m h => by
    unfold r_rblock at h
    split at h
    . cases h; exact ⟨rfl, rfl⟩
    . cases h)
noncomputable def e_rmore {R : Type} (s : List UInt8 -> List UInt8 -> Option (List UInt8)) (ds : List D) (K : List D -> Option R) : Option R :=
  match ds with
  | [.v (.bytes x0) .no, .v (.bytes x1) .no] => bnd1 (s x0 x1) fun r0 => K [dY r0]
  | _ => none
noncomputable def s_rmore (N : Nat) (x0 x1 : List UInt8) : Option (List UInt8) := br (decide ((0 + x0.length) * 1 <= 140737488355328)) (br (decide ((([] ++ x0).length + x1.length) * 1 <= 140737488355328)) (some ([] ++ x0 ++ x1)) none) none
noncomputable def cx_rmore (N : Nat) : Cx := cxO [] []
theorem s_rmore_ok (N : Nat) (x0 x1 : _) : bodyK (cx_rmore N) Try.f84 [dY x0, dY x1] [] r_rput = s_rmore N x0 x1 := by
  kernel_rfl
abbrev Q_rmore (s : List UInt8 -> List UInt8 -> Option (List UInt8)) : Prop := ∀ x0 x1 r0, s x0 x1 = some r0 -> PureRet Try.prog T 84 [dY x0, dY x1] [dY r0]
theorem eo_rmore (s : List UInt8 -> List UInt8 -> Option (List UInt8)) (hs : Q_rmore s) : EntOK Try.prog T ⟨84, e_rmore s⟩ := by
  refine ⟨goes_of Try.func84 (by kernel_rfl) (c := bodyOf Try.f84) (by kernel_rfl), fun R ds K r h => ?_, fun R ds K => ?_⟩
  . simp only [e_rmore] at h
    split at h
    . obtain ⟨r0, h1, h2⟩ := bnd1_some h
      exact ⟨_, h2, hs _ _ _ h1⟩
    . cases h
  . simp only [e_rmore]
    split
    . rw [bnd1_b]; rfl
    . rfl
theorem p_rmore (N : Nat) : Q_rmore (s_rmore N) := fun x0 x1 r0 h => pure_of (cx := cx_rmore N) (by kernel_rfl) (cxO_ok trivial trivial) Try.func84 (by kernel_rfl) (by kernel_rfl) (loopsOK_of (k := 0) (by kernel_rfl) trivial) (by rfl) (by rfl) (by rfl) (rf := r_rput) ((s_rmore_ok ..).trans h) (fun rs' m h => by
    unfold r_rput at h
    split at h
    . cases h; exact ⟨rfl, rfl⟩
    . cases h)
noncomputable def e_ranswer {R : Type} (s : Ty34) (ds : List D) (K : List D -> Option R) : Option R :=
  match ds with
  | [.agg [.v (.int .i64 x0) .no, .v (.int .i64 x1) .no, .v (.int .i64 x2) .no, .v (.int .i64 x3) .no, .v (.int .i64 x4) .no, .v (.bool x5) .no, .v (.int .i64 x6) .no, .v (.int .i64 x7) .no, .v (.int .i64 x8) .no, .v (.bool x9) .no, .v (.int .i64 x10) .no, .v (.bool x11) .no, .v (.bytes x12) .no, .v (.sl 27 x13) .no, .v (.bytes x14) .no], .agg [.v (.int .i64 x15) .no, .v (.int .i64 x16) .no, .v (.int .i64 x17) .no, .v (.bool x18) .no, .v (.int .i64 x19) .no, .v (.bool x20) .no, .v (.bytes x21) .no]] => bnd1 (s x0 x1 x2 x3 x4 x5 x6 x7 x8 x9 x10 x11 x12 x13 x14 x15 x16 x17 x18 x19 x20 x21) fun r0 => K [dY r0]
  | _ => none
noncomputable def s_ranswer (N : Nat) (x0 x1 x2 x3 x4 : Int) (x5 : Bool) (x6 x7 x8 : Int) (x9 : Bool) (x10 : Int) (x11 : Bool) (x12 : List UInt8) (x13 : List V) (x14 : List UInt8) (x15 x16 x17 : Int) (x18 : Bool) (x19 : Int) (x20 : Bool) (x21 : List UInt8) : Option (List UInt8) := bnd1 (s_rput N x0 x1 x2 x3 x4 x5 x6 x7 x8 x9 x10 x11 x12 x13 x14 0 2 0 false x19 true x21) fun l0 => some l0
noncomputable def cx_ranswer (N : Nat) : Cx := cxO [⟨55, e_rput (s_rput N)⟩] []
theorem s_ranswer_ok (N : Nat) (x0 x1 x2 x3 x4 x5 x6 x7 x8 x9 x10 x11 x12 x13 x14 x15 x16 x17 x18 x19 x20 x21 : _) : bodyK (cx_ranswer N) Try.f75 [g4a x0 x1 x2 x3 x4 x5 x6 x7 x8 x9 x10 x11 x12 x13 x14, g0a x15 x16 x17 x18 x19 x20 x21] [] r_rput = s_ranswer N x0 x1 x2 x3 x4 x5 x6 x7 x8 x9 x10 x11 x12 x13 x14 x15 x16 x17 x18 x19 x20 x21 := by
  kernel_rfl
abbrev Q_ranswer (s : Ty34) : Prop := ∀ x0 x1 x2 x3 x4 x5 x6 x7 x8 x9 x10 x11 x12 x13 x14 x15 x16 x17 x18 x19 x20 x21 r0, s x0 x1 x2 x3 x4 x5 x6 x7 x8 x9 x10 x11 x12 x13 x14 x15 x16 x17 x18 x19 x20 x21 = some r0 -> PureRet Try.prog T 75 [g4a x0 x1 x2 x3 x4 x5 x6 x7 x8 x9 x10 x11 x12 x13 x14, g0a x15 x16 x17 x18 x19 x20 x21] [dY r0]
theorem eo_ranswer (s : Ty34) (hs : Q_ranswer s) : EntOK Try.prog T ⟨75, e_ranswer s⟩ := by
  refine ⟨goes_of Try.func75 (by kernel_rfl) (c := bodyOf Try.f75) (by kernel_rfl), fun R ds K r h => ?_, fun R ds K => ?_⟩
  . simp only [e_ranswer] at h
    split at h
    . obtain ⟨r0, h1, h2⟩ := bnd1_some h
      exact ⟨_, h2, hs _ _ _ _ _ _ _ _ _ _ _ _ _ _ _ _ _ _ _ _ _ _ _ h1⟩
    . cases h
  . simp only [e_ranswer]
    split
    . rw [bnd1_b]; rfl
    . rfl
theorem p_ranswer (N : Nat) : Q_ranswer (s_ranswer N) := fun x0 x1 x2 x3 x4 x5 x6 x7 x8 x9 x10 x11 x12 x13 x14 x15 x16 x17 x18 x19 x20 x21 r0 h => pure_of (cx := cx_ranswer N) (by kernel_rfl) (cxO_ok ⟨eo_rput _ (p_rput N), trivial⟩ trivial) Try.func75 (by kernel_rfl) (by kernel_rfl) (loopsOK_of (k := 0) (by kernel_rfl) trivial) (by rfl) (by rfl) (by rfl) (rf := r_rput) ((s_ranswer_ok ..).trans h) (fun rs' m h => by
    unfold r_rput at h
    split at h
    . cases h; exact ⟨rfl, rfl⟩
    . cases h)
abbrev Ty39 := Int -> Int -> Int -> Int -> Int -> Bool -> Int -> Int -> Int -> Bool -> Int -> Bool -> List UInt8 -> List V -> List UInt8 -> Int -> Int -> Option (List UInt8)
noncomputable def e_rask {R : Type} (s : Ty39) (ds : List D) (K : List D -> Option R) : Option R :=
  match ds with
  | [.agg [.v (.int .i64 x0) .no, .v (.int .i64 x1) .no, .v (.int .i64 x2) .no, .v (.int .i64 x3) .no, .v (.int .i64 x4) .no, .v (.bool x5) .no, .v (.int .i64 x6) .no, .v (.int .i64 x7) .no, .v (.int .i64 x8) .no, .v (.bool x9) .no, .v (.int .i64 x10) .no, .v (.bool x11) .no, .v (.bytes x12) .no, .v (.sl 27 x13) .no, .v (.bytes x14) .no, .v (.int .i64 x15) .no, .v (.int .i64 x16) .no]] => bnd1 (s x0 x1 x2 x3 x4 x5 x6 x7 x8 x9 x10 x11 x12 x13 x14 x15 x16) fun r0 => K [dY r0]
  | _ => none
noncomputable def s_rask (N : Nat) (x0 x1 x2 x3 x4 : Int) (x5 : Bool) (x6 x7 x8 : Int) (x9 : Bool) (x10 : Int) (x11 : Bool) (x12 : List UInt8) (x13 : List V) (x14 : List UInt8) (x15 x16 : Int) : Option (List UInt8) := bnd1 (s_rput N x0 x1 x2 x3 x4 x5 x6 x7 x8 x9 x10 x11 x12 x13 x14 0 2 0 false 3 false [UInt8.ofNat (IntKind.u8.wrap x16).toNat]) fun l0 => some l0
noncomputable def cx_rask (N : Nat) : Cx := cxO [⟨55, e_rput (s_rput N)⟩] []
theorem s_rask_ok (N : Nat) (x0 x1 x2 x3 x4 x5 x6 x7 x8 x9 x10 x11 x12 x13 x14 x15 x16 : _) : bodyK (cx_rask N) Try.f52 [g3a x0 x1 x2 x3 x4 x5 x6 x7 x8 x9 x10 x11 x12 x13 x14 x15 x16] [] r_rput = s_rask N x0 x1 x2 x3 x4 x5 x6 x7 x8 x9 x10 x11 x12 x13 x14 x15 x16 := by
  kernel_rfl
abbrev Q_rask (s : Ty39) : Prop := ∀ x0 x1 x2 x3 x4 x5 x6 x7 x8 x9 x10 x11 x12 x13 x14 x15 x16 r0, s x0 x1 x2 x3 x4 x5 x6 x7 x8 x9 x10 x11 x12 x13 x14 x15 x16 = some r0 -> PureRet Try.prog T 52 [g3a x0 x1 x2 x3 x4 x5 x6 x7 x8 x9 x10 x11 x12 x13 x14 x15 x16] [dY r0]
theorem eo_rask (s : Ty39) (hs : Q_rask s) : EntOK Try.prog T ⟨52, e_rask s⟩ := by
  refine ⟨goes_of Try.func52 (by kernel_rfl) (c := bodyOf Try.f52) (by kernel_rfl), fun R ds K r h => ?_, fun R ds K => ?_⟩
  . simp only [e_rask] at h
    split at h
    . obtain ⟨r0, h1, h2⟩ := bnd1_some h
      exact ⟨_, h2, hs _ _ _ _ _ _ _ _ _ _ _ _ _ _ _ _ _ _ h1⟩
    . cases h
  . simp only [e_rask]
    split
    . rw [bnd1_b]; rfl
    . rfl
theorem p_rask (N : Nat) : Q_rask (s_rask N) := fun x0 x1 x2 x3 x4 x5 x6 x7 x8 x9 x10 x11 x12 x13 x14 x15 x16 r0 h => pure_of (cx := cx_rask N) (by kernel_rfl) (cxO_ok ⟨eo_rput _ (p_rput N), trivial⟩ trivial) Try.func52 (by kernel_rfl) (by kernel_rfl) (loopsOK_of (k := 0) (by kernel_rfl) trivial) (by rfl) (by rfl) (by rfl) (rf := r_rput) ((s_rask_ok ..).trans h) (fun rs' m h => by
    unfold r_rput at h
    split at h
    . cases h; exact ⟨rfl, rfl⟩
    . cases h)
abbrev Ty40 := Int -> Int -> Int -> Int -> Int -> Bool -> Int -> Int -> Int -> Bool -> Int -> Bool -> List UInt8 -> List V -> List UInt8 -> Int -> Int -> Int -> Int -> Int -> Bool -> Int -> Bool -> List UInt8 -> Option (Int × Int × Int × Int × Int × Bool × Int × Int × Int × Bool × Int × Bool × List UInt8 × List V × List UInt8 × Int × Int × List UInt8)
noncomputable def e_rcInfo {R : Type} (s : Ty40) (ds : List D) (K : List D -> Option R) : Option R :=
  match ds with
  | [.agg [.v (.int .i64 x0) .no, .v (.int .i64 x1) .no, .v (.int .i64 x2) .no, .v (.int .i64 x3) .no, .v (.int .i64 x4) .no, .v (.bool x5) .no, .v (.int .i64 x6) .no, .v (.int .i64 x7) .no, .v (.int .i64 x8) .no, .v (.bool x9) .no, .v (.int .i64 x10) .no, .v (.bool x11) .no, .v (.bytes x12) .no, .v (.sl 27 x13) .no, .v (.bytes x14) .no, .v (.int .i64 x15) .no, .v (.int .i64 x16) .no], .agg [.v (.int .i64 x17) .no, .v (.int .i64 x18) .no, .v (.int .i64 x19) .no, .v (.bool x20) .no, .v (.int .i64 x21) .no, .v (.bool x22) .no, .v (.bytes x23) .no]] => bnd18 (s x0 x1 x2 x3 x4 x5 x6 x7 x8 x9 x10 x11 x12 x13 x14 x15 x16 x17 x18 x19 x20 x21 x22 x23) fun r0 r1 r2 r3 r4 r5 r6 r7 r8 r9 r10 r11 r12 r13 r14 r15 r16 r17 => K [.agg [dI r0, dI r1, dI r2, dI r3, dI r4, dB r5, dI r6, dI r7, dI r8, dB r9, dI r10, dB r11, dY r12, .v (.sl 27 r13) .no, dY r14, dI r15, dI r16], dY r17]
  | _ => none
noncomputable def r_rcInfo (rs : List D) (_ : Mem) : Option (Int × Int × Int × Int × Int × Bool × Int × Int × Int × Bool × Int × Bool × List UInt8 × List V × List UInt8 × Int × Int × List UInt8) :=
  match rs with
  | [.agg [.v (.int .i64 r0) _, .v (.int .i64 r1) _, .v (.int .i64 r2) _, .v (.int .i64 r3) _, .v (.int .i64 r4) _, .v (.bool r5) _, .v (.int .i64 r6) _, .v (.int .i64 r7) _, .v (.int .i64 r8) _, .v (.bool r9) _, .v (.int .i64 r10) _, .v (.bool r11) _, .v (.bytes r12) _, .v (.sl 27 r13) _, .v (.bytes r14) _, .v (.int .i64 r15) _, .v (.int .i64 r16) _], .v (.bytes r17) _] => some (r0, r1, r2, r3, r4, r5, r6, r7, r8, r9, r10, r11, r12, r13, r14, r15, r16, r17)
  | _ => none
noncomputable def s_rcInfo (N : Nat) (x0 x1 x2 x3 x4 : Int) (x5 : Bool) (x6 x7 x8 : Int) (x9 : Bool) (x10 : Int) (x11 : Bool) (x12 : List UInt8) (x13 : List V) (x14 : List UInt8) (x15 x16 x17 x18 x19 : Int) (x20 : Bool) (x21 : Int) (x22 : Bool) (x23 : List UInt8) : Option (Int × Int × Int × Int × Int × Bool × Int × Int × Int × Bool × Int × Bool × List UInt8 × List V × List UInt8 × Int × Int × List UInt8) := br (!decide (x19 = x3)) (bnd1 (s_rready N x0 x1 x2 x3 x4 x5 x6 x7 x8 x9 x10 x11 x12 x13 x14 2) fun l0 => some (x0, x1, x2, x3, x4, x5, x6, x7, x8, x9, x10, x11, x12, x13, x14, x15, x16, l0)) (br (decide (x15 = 4)) (br (decide (0 < (x13.length : Int))) (bnd1 (s_rready N x0 x1 x2 x3 x4 x5 x6 x7 x8 x9 x10 x11 x12 x13 x14 2) fun l1 => some (x0, x1, x2, x3, x4, x5, x6, x7, x8, x9, x10, x11, x12, x13, x14, x15, x16, l1)) (br (!decide (x15 = 1)) (bnd1 (s_rmore N [] x23) fun l2 => br (decide (65552 < (l2.length : Int))) (bnd1 (s_rready N x0 x1 x2 (IntKind.i64.wrap (1 - x3)) x4 x5 x6 x7 x8 x9 x10 x11 x12 x13 [] 2) fun l3 => some (x0, x1, x2, IntKind.i64.wrap (1 - x3), x4, x5, x6, x7, x8, x9, x10, x11, x12, x13, [], 0, x16, l3)) (br x20 (bnd1 (s_rready N x0 x1 x2 (IntKind.i64.wrap (1 - x3)) x4 x5 x6 x7 x8 x9 x10 x11 x12 x13 l2 0) fun l4 => some (x0, x1, x2, IntKind.i64.wrap (1 - x3), x4, x5, x6, x7, x8, x9, x10, x11, x12, x13, l2, 1, x16, l4)) (some (x0, x1, x2, IntKind.i64.wrap (1 - x3), x4, x5, x6, x7, x8, x9, x10, x11, x12, x13, l2, 2, x16, [])))) (bnd1 (s_rmore N x14 x23) fun l5 => br (decide (65552 < (l5.length : Int))) (bnd1 (s_rready N x0 x1 x2 (IntKind.i64.wrap (1 - x3)) x4 x5 x6 x7 x8 x9 x10 x11 x12 x13 [] 2) fun l6 => some (x0, x1, x2, IntKind.i64.wrap (1 - x3), x4, x5, x6, x7, x8, x9, x10, x11, x12, x13, [], 0, x16, l6)) (br x20 (bnd1 (s_rready N x0 x1 x2 (IntKind.i64.wrap (1 - x3)) x4 x5 x6 x7 x8 x9 x10 x11 x12 x13 l5 0) fun l7 => some (x0, x1, x2, IntKind.i64.wrap (1 - x3), x4, x5, x6, x7, x8, x9, x10, x11, x12, x13, l5, 1, x16, l7)) (some (x0, x1, x2, IntKind.i64.wrap (1 - x3), x4, x5, x6, x7, x8, x9, x10, x11, x12, x13, l5, 2, x16, [])))))) (br (!decide (x15 = 1)) (bnd1 (s_rmore N [] x23) fun l8 => br (decide (65552 < (l8.length : Int))) (bnd1 (s_rready N x0 x1 x2 (IntKind.i64.wrap (1 - x3)) x4 x5 x6 x7 x8 x9 x10 x11 x12 x13 [] 2) fun l9 => some (x0, x1, x2, IntKind.i64.wrap (1 - x3), x4, x5, x6, x7, x8, x9, x10, x11, x12, x13, [], 0, x16, l9)) (br x20 (bnd1 (s_rready N x0 x1 x2 (IntKind.i64.wrap (1 - x3)) x4 x5 x6 x7 x8 x9 x10 x11 x12 x13 l8 0) fun l10 => some (x0, x1, x2, IntKind.i64.wrap (1 - x3), x4, x5, x6, x7, x8, x9, x10, x11, x12, x13, l8, 1, x16, l10)) (some (x0, x1, x2, IntKind.i64.wrap (1 - x3), x4, x5, x6, x7, x8, x9, x10, x11, x12, x13, l8, 2, x16, [])))) (bnd1 (s_rmore N x14 x23) fun l11 => br (decide (65552 < (l11.length : Int))) (bnd1 (s_rready N x0 x1 x2 (IntKind.i64.wrap (1 - x3)) x4 x5 x6 x7 x8 x9 x10 x11 x12 x13 [] 2) fun l12 => some (x0, x1, x2, IntKind.i64.wrap (1 - x3), x4, x5, x6, x7, x8, x9, x10, x11, x12, x13, [], 0, x16, l12)) (br x20 (bnd1 (s_rready N x0 x1 x2 (IntKind.i64.wrap (1 - x3)) x4 x5 x6 x7 x8 x9 x10 x11 x12 x13 l11 0) fun l13 => some (x0, x1, x2, IntKind.i64.wrap (1 - x3), x4, x5, x6, x7, x8, x9, x10, x11, x12, x13, l11, 1, x16, l13)) (some (x0, x1, x2, IntKind.i64.wrap (1 - x3), x4, x5, x6, x7, x8, x9, x10, x11, x12, x13, l11, 2, x16, []))))))
noncomputable def cx_rcInfo (N : Nat) : Cx := cxO [⟨53, e_rready (s_rready N)⟩, ⟨84, e_rmore (s_rmore N)⟩] []
theorem s_rcInfo_ok (N : Nat) (x0 x1 x2 x3 x4 x5 x6 x7 x8 x9 x10 x11 x12 x13 x14 x15 x16 x17 x18 x19 x20 x21 x22 x23 : _) : bodyK (cx_rcInfo N) Try.f54 [g3a x0 x1 x2 x3 x4 x5 x6 x7 x8 x9 x10 x11 x12 x13 x14 x15 x16, g0a x17 x18 x19 x20 x21 x22 x23] [] r_rcInfo = s_rcInfo N x0 x1 x2 x3 x4 x5 x6 x7 x8 x9 x10 x11 x12 x13 x14 x15 x16 x17 x18 x19 x20 x21 x22 x23 := by
  kernel_rfl
abbrev Q_rcInfo (s : Ty40) : Prop := ∀ x0 x1 x2 x3 x4 x5 x6 x7 x8 x9 x10 x11 x12 x13 x14 x15 x16 x17 x18 x19 x20 x21 x22 x23 r0 r1 r2 r3 r4 r5 r6 r7 r8 r9 r10 r11 r12 r13 r14 r15 r16 r17, s x0 x1 x2 x3 x4 x5 x6 x7 x8 x9 x10 x11 x12 x13 x14 x15 x16 x17 x18 x19 x20 x21 x22 x23 = some (r0, r1, r2, r3, r4, r5, r6, r7, r8, r9, r10, r11, r12, r13, r14, r15, r16, r17) -> PureRet Try.prog T 54 [g3a x0 x1 x2 x3 x4 x5 x6 x7 x8 x9 x10 x11 x12 x13 x14 x15 x16, g0a x17 x18 x19 x20 x21 x22 x23] [g3a r0 r1 r2 r3 r4 r5 r6 r7 r8 r9 r10 r11 r12 r13 r14 r15 r16, dY r17]
theorem eo_rcInfo (s : Ty40) (hs : Q_rcInfo s) : EntOK Try.prog T ⟨54, e_rcInfo s⟩ := by
  refine ⟨goes_of Try.func54 (by kernel_rfl) (c := bodyOf Try.f54) (by kernel_rfl), fun R ds K r h => ?_, fun R ds K => ?_⟩
  . simp only [e_rcInfo] at h
    split at h
    . obtain ⟨r0, r1, r2, r3, r4, r5, r6, r7, r8, r9, r10, r11, r12, r13, r14, r15, r16, r17, h1, h2⟩ := bnd18_some h
      exact ⟨_, h2, hs _ _ _ _ _ _ _ _ _ _ _ _ _ _ _ _ _ _ _ _ _ _ _ _ _ _ _ _ _ _ _ _ _ _ _ _ _ _ _ _ _ _ h1⟩
    . cases h
  . simp only [e_rcInfo]
    split
    . rw [bnd18_b]; rfl
    . rfl
theorem p_rcInfo (N : Nat) : Q_rcInfo (s_rcInfo N) := fun x0 x1 x2 x3 x4 x5 x6 x7 x8 x9 x10 x11 x12 x13 x14 x15 x16 x17 x18 x19 x20 x21 x22 x23 r0 r1 r2 r3 r4 r5 r6 r7 r8 r9 r10 r11 r12 r13 r14 r15 r16 r17 h => pure_of (cx := cx_rcInfo N) (by kernel_rfl) (cxO_ok ⟨eo_rready _ (p_rready N), eo_rmore _ (p_rmore N), trivial⟩ trivial) Try.func54 (by kernel_rfl) (by kernel_rfl) (loopsOK_of (k := 0) (by kernel_rfl) trivial) (by rfl) (by rfl) (by rfl) (rf := r_rcInfo) ((s_rcInfo_ok ..).trans h) (fun rs' m h => by
    unfold r_rcInfo at h
    split at h
    . cases h; exact ⟨rfl, rfl⟩
    . cases h)
noncomputable def e_rcSuper {R : Type} (s : Ty40) (ds : List D) (K : List D -> Option R) : Option R :=
  match ds with
  | [.agg [.v (.int .i64 x0) .no, .v (.int .i64 x1) .no, .v (.int .i64 x2) .no, .v (.int .i64 x3) .no, .v (.int .i64 x4) .no, .v (.bool x5) .no, .v (.int .i64 x6) .no, .v (.int .i64 x7) .no, .v (.int .i64 x8) .no, .v (.bool x9) .no, .v (.int .i64 x10) .no, .v (.bool x11) .no, .v (.bytes x12) .no, .v (.sl 27 x13) .no, .v (.bytes x14) .no, .v (.int .i64 x15) .no, .v (.int .i64 x16) .no], .agg [.v (.int .i64 x17) .no, .v (.int .i64 x18) .no, .v (.int .i64 x19) .no, .v (.bool x20) .no, .v (.int .i64 x21) .no, .v (.bool x22) .no, .v (.bytes x23) .no]] => bnd18 (s x0 x1 x2 x3 x4 x5 x6 x7 x8 x9 x10 x11 x12 x13 x14 x15 x16 x17 x18 x19 x20 x21 x22 x23) fun r0 r1 r2 r3 r4 r5 r6 r7 r8 r9 r10 r11 r12 r13 r14 r15 r16 r17 => K [.agg [dI r0, dI r1, dI r2, dI r3, dI r4, dB r5, dI r6, dI r7, dI r8, dB r9, dI r10, dB r11, dY r12, .v (.sl 27 r13) .no, dY r14, dI r15, dI r16], dY r17]
  | _ => none
noncomputable def s_rcSuper (N : Nat) (x0 x1 x2 x3 x4 : Int) (x5 : Bool) (x6 x7 x8 : Int) (x9 : Bool) (x10 : Int) (x11 : Bool) (x12 : List UInt8) (x13 : List V) (x14 : List UInt8) (x15 x16 x17 x18 x19 : Int) (x20 : Bool) (x21 : Int) (x22 : Bool) (x23 : List UInt8) : Option (Int × Int × Int × Int × Int × Bool × Int × Int × Int × Bool × Int × Bool × List UInt8 × List V × List UInt8 × Int × Int × List UInt8) := br x22 (bnd1 (s_rready N x0 x1 x2 x3 x4 x5 x6 x7 x8 x9 x10 x11 x12 x13 x14 2) fun l0 => some (x0, x1, x2, x3, x4, x5, x6, x7, x8, x9, x10, x11, x12, x13, x14, x15, x16, l0)) (br (decide (x21 = 3)) (bnd1 (s_rready N x0 x1 x2 x3 x4 x5 x6 x7 x8 x9 x10 x11 x12 x13 x14 2) fun l1 => some (x0, x1, x2, x3, x4, x5, x6, x7, x8, x9, x10, x11, x12, x13, x14, x15, x16, l1)) (br (decide (x21 = 1)) (br (decide (0 < (x23.length : Int))) (at? x23 0 fun u2 => bnd1 (s_ranswer N x0 x1 (IntKind.i64.wrap (u2.toNat : Int)) x3 x4 x5 x6 x7 x8 x9 x10 x11 x12 x13 x14 x17 x18 x19 x20 x21 x22 x23) fun l3 => some (x0, x1, IntKind.i64.wrap (u2.toNat : Int), x3, x4, x5, x6, x7, x8, x9, x10, x11, x12, x13, x14, x15, x16, l3)) none) (br (decide (x21 = 0)) (bnd1 (s_ranswer N x0 x1 x2 0 0 false x6 x7 x8 x9 x10 x11 x12 [] [] x17 x18 x19 x20 x21 x22 x23) fun l4 => some (x0, x1, x2, 0, 0, false, x6, x7, x8, x9, x10, x11, x12, [], [], 0, x16, l4)) (bnd1 (s_ranswer N x0 x1 x2 x3 x4 x5 x6 x7 x8 x9 x10 x11 x12 [] [] x17 x18 x19 x20 x21 x22 x23) fun l5 => some (x0, x1, x2, x3, x4, x5, x6, x7, x8, x9, x10, x11, x12, [], [], 0, x16, l5)))))
noncomputable def cx_rcSuper (N : Nat) : Cx := cxO [⟨53, e_rready (s_rready N)⟩, ⟨75, e_ranswer (s_ranswer N)⟩] []
theorem s_rcSuper_ok (N : Nat) (x0 x1 x2 x3 x4 x5 x6 x7 x8 x9 x10 x11 x12 x13 x14 x15 x16 x17 x18 x19 x20 x21 x22 x23 : _) : bodyK (cx_rcSuper N) Try.f57 [g3a x0 x1 x2 x3 x4 x5 x6 x7 x8 x9 x10 x11 x12 x13 x14 x15 x16, g0a x17 x18 x19 x20 x21 x22 x23] [] r_rcInfo = s_rcSuper N x0 x1 x2 x3 x4 x5 x6 x7 x8 x9 x10 x11 x12 x13 x14 x15 x16 x17 x18 x19 x20 x21 x22 x23 := by
  kernel_rfl
abbrev Q_rcSuper (s : Ty40) : Prop := ∀ x0 x1 x2 x3 x4 x5 x6 x7 x8 x9 x10 x11 x12 x13 x14 x15 x16 x17 x18 x19 x20 x21 x22 x23 r0 r1 r2 r3 r4 r5 r6 r7 r8 r9 r10 r11 r12 r13 r14 r15 r16 r17, s x0 x1 x2 x3 x4 x5 x6 x7 x8 x9 x10 x11 x12 x13 x14 x15 x16 x17 x18 x19 x20 x21 x22 x23 = some (r0, r1, r2, r3, r4, r5, r6, r7, r8, r9, r10, r11, r12, r13, r14, r15, r16, r17) -> PureRet Try.prog T 57 [g3a x0 x1 x2 x3 x4 x5 x6 x7 x8 x9 x10 x11 x12 x13 x14 x15 x16, g0a x17 x18 x19 x20 x21 x22 x23] [g3a r0 r1 r2 r3 r4 r5 r6 r7 r8 r9 r10 r11 r12 r13 r14 r15 r16, dY r17]
theorem eo_rcSuper (s : Ty40) (hs : Q_rcSuper s) : EntOK Try.prog T ⟨57, e_rcSuper s⟩ := by
  refine ⟨goes_of Try.func57 (by kernel_rfl) (c := bodyOf Try.f57) (by kernel_rfl), fun R ds K r h => ?_, fun R ds K => ?_⟩
  . simp only [e_rcSuper] at h
    split at h
    . obtain ⟨r0, r1, r2, r3, r4, r5, r6, r7, r8, r9, r10, r11, r12, r13, r14, r15, r16, r17, h1, h2⟩ := bnd18_some h
      exact ⟨_, h2, hs _ _ _ _ _ _ _ _ _ _ _ _ _ _ _ _ _ _ _ _ _ _ _ _ _ _ _ _ _ _ _ _ _ _ _ _ _ _ _ _ _ _ h1⟩
    . cases h
  . simp only [e_rcSuper]
    split
    . rw [bnd18_b]; rfl
    . rfl
theorem p_rcSuper (N : Nat) : Q_rcSuper (s_rcSuper N) := fun x0 x1 x2 x3 x4 x5 x6 x7 x8 x9 x10 x11 x12 x13 x14 x15 x16 x17 x18 x19 x20 x21 x22 x23 r0 r1 r2 r3 r4 r5 r6 r7 r8 r9 r10 r11 r12 r13 r14 r15 r16 r17 h => pure_of (cx := cx_rcSuper N) (by kernel_rfl) (cxO_ok ⟨eo_rready _ (p_rready N), eo_ranswer _ (p_ranswer N), trivial⟩ trivial) Try.func57 (by kernel_rfl) (by kernel_rfl) (loopsOK_of (k := 0) (by kernel_rfl) trivial) (by rfl) (by rfl) (by rfl) (rf := r_rcInfo) ((s_rcSuper_ok ..).trans h) (fun rs' m h => by
    unfold r_rcInfo at h
    split at h
    . cases h; exact ⟨rfl, rfl⟩
    . cases h)
abbrev Ty41 := Int -> Int -> Int -> Int -> Int -> Bool -> Int -> Int -> Int -> Bool -> Int -> Bool -> List UInt8 -> List V -> List UInt8 -> Int -> Int -> List UInt8 -> Option (Int × Int × Int × Int × Int × Bool × Int × Int × Int × Bool × Int × Bool × List UInt8 × List V × List UInt8 × Int × Int × List UInt8)
noncomputable def e_rcReceive {R : Type} (s : Ty41) (ds : List D) (K : List D -> Option R) : Option R :=
  match ds with
  | [.agg [.v (.int .i64 x0) .no, .v (.int .i64 x1) .no, .v (.int .i64 x2) .no, .v (.int .i64 x3) .no, .v (.int .i64 x4) .no, .v (.bool x5) .no, .v (.int .i64 x6) .no, .v (.int .i64 x7) .no, .v (.int .i64 x8) .no, .v (.bool x9) .no, .v (.int .i64 x10) .no, .v (.bool x11) .no, .v (.bytes x12) .no, .v (.sl 27 x13) .no, .v (.bytes x14) .no, .v (.int .i64 x15) .no, .v (.int .i64 x16) .no], .v (.bytes x17) .no] => bnd18 (s x0 x1 x2 x3 x4 x5 x6 x7 x8 x9 x10 x11 x12 x13 x14 x15 x16 x17) fun r0 r1 r2 r3 r4 r5 r6 r7 r8 r9 r10 r11 r12 r13 r14 r15 r16 r17 => K [.agg [dI r0, dI r1, dI r2, dI r3, dI r4, dB r5, dI r6, dI r7, dI r8, dB r9, dI r10, dB r11, dY r12, .v (.sl 27 r13) .no, dY r14, dI r15, dI r16], dY r17]
  | _ => none
noncomputable def s_rcReceive (N : Nat) (x0 x1 x2 x3 x4 : Int) (x5 : Bool) (x6 x7 x8 : Int) (x9 : Bool) (x10 : Int) (x11 : Bool) (x12 : List UInt8) (x13 : List V) (x14 : List UInt8) (x15 x16 : Int) (x17 : List UInt8) : Option (Int × Int × Int × Int × Int × Bool × Int × Int × Int × Bool × Int × Bool × List UInt8 × List V × List UInt8 × Int × Int × List UInt8) := bnd9 (s_rblock N x0 x1 x2 x3 x4 x5 x6 x7 x8 x9 x10 x11 x12 x13 x14 x17) fun n0 n1 n2 b3 n4 b5 l6 n7 b8 => br (decide (x15 = 2)) (some (x0, x1, x2, x3, x4, x5, x6, x7, x8, x9, x10, x11, x12, x13, x14, x15, x16, [])) (br (decide (x15 = 3)) (br b8 (br (decide (n1 = 2)) (br (decide (n4 = 3)) (br b5 (br (decide (0 < (l6.length : Int))) (at? l6 0 fun u9 => br (decide (IntKind.i64.wrap (u9.toNat : Int) = x16)) (some (x0, x1, x2, x3, x4, x5, x6, x7, x8, x9, x10, x11, x12, x13, x14, 2, x16, [])) (bnd1 (s_rask N x0 x1 x2 x3 x4 x5 x6 x7 x8 x9 x10 x11 x12 x13 x14 x15 x16) fun l10 => some (x0, x1, x2, x3, x4, x5, x6, x7, x8, x9, x10, x11, x12, x13, x14, x15, x16, l10))) none) (bnd1 (s_rask N x0 x1 x2 x3 x4 x5 x6 x7 x8 x9 x10 x11 x12 x13 x14 x15 x16) fun l11 => some (x0, x1, x2, x3, x4, x5, x6, x7, x8, x9, x10, x11, x12, x13, x14, x15, x16, l11))) (bnd1 (s_rask N x0 x1 x2 x3 x4 x5 x6 x7 x8 x9 x10 x11 x12 x13 x14 x15 x16) fun l12 => some (x0, x1, x2, x3, x4, x5, x6, x7, x8, x9, x10, x11, x12, x13, x14, x15, x16, l12))) (bnd1 (s_rask N x0 x1 x2 x3 x4 x5 x6 x7 x8 x9 x10 x11 x12 x13 x14 x15 x16) fun l13 => some (x0, x1, x2, x3, x4, x5, x6, x7, x8, x9, x10, x11, x12, x13, x14, x15, x16, l13))) (bnd1 (s_rask N x0 x1 x2 x3 x4 x5 x6 x7 x8 x9 x10 x11 x12 x13 x14 x15 x16) fun l14 => some (x0, x1, x2, x3, x4, x5, x6, x7, x8, x9, x10, x11, x12, x13, x14, x15, x16, l14))) (br (!b8) (bnd1 (s_rready N x0 x1 x2 x3 x4 x5 x6 x7 x8 x9 x10 x11 x12 x13 x14 n7) fun l15 => some (x0, x1, x2, x3, x4, x5, x6, x7, x8, x9, x10, x11, x12, x13, x14, x15, x16, l15)) (br (decide (n1 = 0)) (bnd18 (s_rcInfo N x0 x1 x2 x3 x4 x5 x6 x7 x8 x9 x10 x11 x12 x13 x14 x15 x16 n0 n1 n2 b3 n4 b5 l6) fun n16 n17 n18 n19 n20 b21 n22 n23 n24 b25 n26 b27 l28 l29 l30 n31 n32 l33 => some (n16, n17, n18, n19, n20, b21, n22, n23, n24, b25, n26, b27, l28, l29, l30, n31, n32, l33)) (br (decide (n1 = 1)) (br (decide (x15 = 4)) (br x5 (br (decide (n2 = x8)) (bnd1 (s_rput N x0 x1 x2 x3 x4 x5 x6 x7 x8 x9 x10 x11 x12 x13 x14 x6 x7 x8 x9 x10 x11 x12) fun l34 => some (x0, x1, x2, x3, x4, x5, x6, x7, x8, x9, x10, x11, x12, x13, x14, x15, x16, l34)) (br (decide (x15 = 4)) (br (decide (0 < (x13.length : Int))) (bnd16 (s_rpiece N x0 x1 x2 x3 x4 x5 x6 x7 x8 x9 x10 x11 x12 x13 x14) fun n35 n36 n37 n38 n39 b40 n41 n42 n43 b44 n45 b46 l47 l48 l49 l50 => some (n35, n36, n37, n38, n39, b40, n41, n42, n43, b44, n45, b46, l47, l48, l49, x15, x16, l50)) (bnd1 (s_rready N x0 x1 x2 x3 x4 x5 x6 x7 x8 x9 x10 x11 x12 x13 x14 0) fun l51 => some (x0, x1, x2, x3, x4, x5, x6, x7, x8, x9, x10, x11, x12, x13, x14, x15, x16, l51))) (bnd1 (s_rready N x0 x1 x2 x3 x4 x5 x6 x7 x8 x9 x10 x11 x12 x13 x14 0) fun l52 => some (x0, x1, x2, x3, x4, x5, x6, x7, x8, x9, x10, x11, x12, x13, x14, x15, x16, l52)))) (br (decide (x15 = 4)) (br (decide (0 < (x13.length : Int))) (bnd16 (s_rpiece N x0 x1 x2 x3 x4 x5 x6 x7 x8 x9 x10 x11 x12 x13 x14) fun n53 n54 n55 n56 n57 b58 n59 n60 n61 b62 n63 b64 l65 l66 l67 l68 => some (n53, n54, n55, n56, n57, b58, n59, n60, n61, b62, n63, b64, l65, l66, l67, x15, x16, l68)) (bnd1 (s_rready N x0 x1 x2 x3 x4 x5 x6 x7 x8 x9 x10 x11 x12 x13 x14 0) fun l69 => some (x0, x1, x2, x3, x4, x5, x6, x7, x8, x9, x10, x11, x12, x13, x14, x15, x16, l69))) (bnd1 (s_rready N x0 x1 x2 x3 x4 x5 x6 x7 x8 x9 x10 x11 x12 x13 x14 0) fun l70 => some (x0, x1, x2, x3, x4, x5, x6, x7, x8, x9, x10, x11, x12, x13, x14, x15, x16, l70)))) (br (decide (x15 = 4)) (br (decide (0 < (x13.length : Int))) (bnd16 (s_rpiece N x0 x1 x2 x3 x4 x5 x6 x7 x8 x9 x10 x11 x12 x13 x14) fun n71 n72 n73 n74 n75 b76 n77 n78 n79 b80 n81 b82 l83 l84 l85 l86 => some (n71, n72, n73, n74, n75, b76, n77, n78, n79, b80, n81, b82, l83, l84, l85, x15, x16, l86)) (bnd1 (s_rready N x0 x1 x2 x3 x4 x5 x6 x7 x8 x9 x10 x11 x12 x13 x14 0) fun l87 => some (x0, x1, x2, x3, x4, x5, x6, x7, x8, x9, x10, x11, x12, x13, x14, x15, x16, l87))) (bnd1 (s_rready N x0 x1 x2 x3 x4 x5 x6 x7 x8 x9 x10 x11 x12 x13 x14 0) fun l88 => some (x0, x1, x2, x3, x4, x5, x6, x7, x8, x9, x10, x11, x12, x13, x14, x15, x16, l88)))) (bnd18 (s_rcSuper N x0 x1 x2 x3 x4 x5 x6 x7 x8 x9 x10 x11 x12 x13 x14 x15 x16 n0 n1 n2 b3 n4 b5 l6) fun n89 n90 n91 n92 n93 b94 n95 n96 n97 b98 n99 b100 l101 l102 l103 n104 n105 l106 => some (n89, n90, n91, n92, n93, b94, n95, n96, n97, b98, n99, b100, l101, l102, l103, n104, n105, l106))))))
noncomputable def cx_rcReceive (N : Nat) : Cx := cxO [⟨51, e_rblock (s_rblock N)⟩, ⟨52, e_rask (s_rask N)⟩, ⟨53, e_rready (s_rready N)⟩, ⟨54, e_rcInfo (s_rcInfo N)⟩, ⟨55, e_rput (s_rput N)⟩, ⟨56, e_rpiece (s_rpiece N)⟩, ⟨57, e_rcSuper (s_rcSuper N)⟩] []
theorem s_rcReceive_ok (N : Nat) (x0 x1 x2 x3 x4 x5 x6 x7 x8 x9 x10 x11 x12 x13 x14 x15 x16 x17 : _) : bodyK (cx_rcReceive N) Try.f14 [g3a x0 x1 x2 x3 x4 x5 x6 x7 x8 x9 x10 x11 x12 x13 x14 x15 x16, dY x17] [] r_rcInfo = s_rcReceive N x0 x1 x2 x3 x4 x5 x6 x7 x8 x9 x10 x11 x12 x13 x14 x15 x16 x17 := by
  kernel_rfl
abbrev Q_rcReceive (s : Ty41) : Prop := ∀ x0 x1 x2 x3 x4 x5 x6 x7 x8 x9 x10 x11 x12 x13 x14 x15 x16 x17 r0 r1 r2 r3 r4 r5 r6 r7 r8 r9 r10 r11 r12 r13 r14 r15 r16 r17, s x0 x1 x2 x3 x4 x5 x6 x7 x8 x9 x10 x11 x12 x13 x14 x15 x16 x17 = some (r0, r1, r2, r3, r4, r5, r6, r7, r8, r9, r10, r11, r12, r13, r14, r15, r16, r17) -> PureRet Try.prog T 14 [g3a x0 x1 x2 x3 x4 x5 x6 x7 x8 x9 x10 x11 x12 x13 x14 x15 x16, dY x17] [g3a r0 r1 r2 r3 r4 r5 r6 r7 r8 r9 r10 r11 r12 r13 r14 r15 r16, dY r17]
theorem eo_rcReceive (s : Ty41) (hs : Q_rcReceive s) : EntOK Try.prog T ⟨14, e_rcReceive s⟩ := by
  refine ⟨goes_of Try.func14 (by kernel_rfl) (c := bodyOf Try.f14) (by kernel_rfl), fun R ds K r h => ?_, fun R ds K => ?_⟩
  . simp only [e_rcReceive] at h
    split at h
    . obtain ⟨r0, r1, r2, r3, r4, r5, r6, r7, r8, r9, r10, r11, r12, r13, r14, r15, r16, r17, h1, h2⟩ := bnd18_some h
      exact ⟨_, h2, hs _ _ _ _ _ _ _ _ _ _ _ _ _ _ _ _ _ _ _ _ _ _ _ _ _ _ _ _ _ _ _ _ _ _ _ _ h1⟩
    . cases h
  . simp only [e_rcReceive]
    split
    . rw [bnd18_b]; rfl
    . rfl
theorem p_rcReceive (N : Nat) : Q_rcReceive (s_rcReceive N) := fun x0 x1 x2 x3 x4 x5 x6 x7 x8 x9 x10 x11 x12 x13 x14 x15 x16 x17 r0 r1 r2 r3 r4 r5 r6 r7 r8 r9 r10 r11 r12 r13 r14 r15 r16 r17 h => pure_of (cx := cx_rcReceive N) (by kernel_rfl) (cxO_ok ⟨eo_rblock _ (p_rblock N), eo_rask _ (p_rask N), eo_rready _ (p_rready N), eo_rcInfo _ (p_rcInfo N), eo_rput _ (p_rput N), eo_rpiece _ (p_rpiece N), eo_rcSuper _ (p_rcSuper N), trivial⟩ trivial) Try.func14 (by kernel_rfl) (by kernel_rfl) (loopsOK_of (k := 0) (by kernel_rfl) trivial) (by rfl) (by rfl) (by rfl) (rf := r_rcInfo) ((s_rcReceive_ok ..).trans h) (fun rs' m h => by
    unfold r_rcInfo at h
    split at h
    . cases h; exact ⟨rfl, rfl⟩
    . cases h)
abbrev Ty42 := Int -> Int -> Int -> Int -> Int -> Bool -> Int -> Int -> Int -> Bool -> Int -> Bool -> List UInt8 -> List V -> List UInt8 -> Int -> Int -> Option (List UInt8 × Bool)
noncomputable def e_rcCommand {R : Type} (s : Ty42) (ds : List D) (K : List D -> Option R) : Option R :=
  match ds with
  | [.agg [.v (.int .i64 x0) .no, .v (.int .i64 x1) .no, .v (.int .i64 x2) .no, .v (.int .i64 x3) .no, .v (.int .i64 x4) .no, .v (.bool x5) .no, .v (.int .i64 x6) .no, .v (.int .i64 x7) .no, .v (.int .i64 x8) .no, .v (.bool x9) .no, .v (.int .i64 x10) .no, .v (.bool x11) .no, .v (.bytes x12) .no, .v (.sl 27 x13) .no, .v (.bytes x14) .no, .v (.int .i64 x15) .no, .v (.int .i64 x16) .no]] => bnd2 (s x0 x1 x2 x3 x4 x5 x6 x7 x8 x9 x10 x11 x12 x13 x14 x15 x16) fun r0 r1 => K [dY r0, dB r1]
  | _ => none
noncomputable def r_rcCommand (rs : List D) (_ : Mem) : Option (List UInt8 × Bool) :=
  match rs with
  | [.v (.bytes r0) _, .v (.bool r1) _] => some (r0, r1)
  | _ => none
noncomputable def s_rcCommand (N : Nat) (x0 x1 x2 x3 x4 : Int) (x5 : Bool) (x6 x7 x8 : Int) (x9 : Bool) (x10 : Int) (x11 : Bool) (x12 : List UInt8) (x13 : List V) (x14 : List UInt8) (x15 x16 : Int) : Option (List UInt8 × Bool) := br (decide (x15 = 2)) (some (x14, true)) (br (decide (x15 = 3)) (some (x14, true)) (some ([], false)))
noncomputable def cx_rcCommand (N : Nat) : Cx := cxO [] []
theorem s_rcCommand_ok (N : Nat) (x0 x1 x2 x3 x4 x5 x6 x7 x8 x9 x10 x11 x12 x13 x14 x15 x16 : _) : bodyK (cx_rcCommand N) Try.f20 [g3a x0 x1 x2 x3 x4 x5 x6 x7 x8 x9 x10 x11 x12 x13 x14 x15 x16] [] r_rcCommand = s_rcCommand N x0 x1 x2 x3 x4 x5 x6 x7 x8 x9 x10 x11 x12 x13 x14 x15 x16 := by
  kernel_rfl
abbrev Q_rcCommand (s : Ty42) : Prop := ∀ x0 x1 x2 x3 x4 x5 x6 x7 x8 x9 x10 x11 x12 x13 x14 x15 x16 r0 r1, s x0 x1 x2 x3 x4 x5 x6 x7 x8 x9 x10 x11 x12 x13 x14 x15 x16 = some (r0, r1) -> PureRet Try.prog T 20 [g3a x0 x1 x2 x3 x4 x5 x6 x7 x8 x9 x10 x11 x12 x13 x14 x15 x16] [dY r0, dB r1]
theorem eo_rcCommand (s : Ty42) (hs : Q_rcCommand s) : EntOK Try.prog T ⟨20, e_rcCommand s⟩ := by
  refine ⟨goes_of Try.func20 (by kernel_rfl) (c := bodyOf Try.f20) (by kernel_rfl), fun R ds K r h => ?_, fun R ds K => ?_⟩
  . simp only [e_rcCommand] at h
    split at h
    . obtain ⟨r0, r1, h1, h2⟩ := bnd2_some h
      exact ⟨_, h2, hs _ _ _ _ _ _ _ _ _ _ _ _ _ _ _ _ _ _ _ h1⟩
    . cases h
  . simp only [e_rcCommand]
    split
    . rw [bnd2_b]; rfl
    . rfl
theorem p_rcCommand (N : Nat) : Q_rcCommand (s_rcCommand N) := fun x0 x1 x2 x3 x4 x5 x6 x7 x8 x9 x10 x11 x12 x13 x14 x15 x16 r0 r1 h => pure_of (cx := cx_rcCommand N) (by kernel_rfl) (cxO_ok trivial trivial) Try.func20 (by kernel_rfl) (by kernel_rfl) (loopsOK_of (k := 0) (by kernel_rfl) trivial) (by rfl) (by rfl) (by rfl) (rf := r_rcCommand) ((s_rcCommand_ok ..).trans h) (fun rs' m h => by
    unfold r_rcCommand at h
    split at h
    . cases h; exact ⟨rfl, rfl⟩
    . cases h)
noncomputable def e_rcReply {R : Type} (s : Ty41) (ds : List D) (K : List D -> Option R) : Option R :=
  match ds with
  | [.agg [.v (.int .i64 x0) .no, .v (.int .i64 x1) .no, .v (.int .i64 x2) .no, .v (.int .i64 x3) .no, .v (.int .i64 x4) .no, .v (.bool x5) .no, .v (.int .i64 x6) .no, .v (.int .i64 x7) .no, .v (.int .i64 x8) .no, .v (.bool x9) .no, .v (.int .i64 x10) .no, .v (.bool x11) .no, .v (.bytes x12) .no, .v (.sl 27 x13) .no, .v (.bytes x14) .no, .v (.int .i64 x15) .no, .v (.int .i64 x16) .no], .v (.bytes x17) .no] => bnd18 (s x0 x1 x2 x3 x4 x5 x6 x7 x8 x9 x10 x11 x12 x13 x14 x15 x16 x17) fun r0 r1 r2 r3 r4 r5 r6 r7 r8 r9 r10 r11 r12 r13 r14 r15 r16 r17 => K [.agg [dI r0, dI r1, dI r2, dI r3, dI r4, dB r5, dI r6, dI r7, dI r8, dB r9, dI r10, dB r11, dY r12, .v (.sl 27 r13) .no, dY r14, dI r15, dI r16], dY r17]
  | _ => none
noncomputable def s_rcReply (N : Nat) (x0 x1 x2 x3 x4 : Int) (x5 : Bool) (x6 x7 x8 : Int) (x9 : Bool) (x10 : Int) (x11 : Bool) (x12 : List UInt8) (x13 : List V) (x14 : List UInt8) (x15 x16 : Int) (x17 : List UInt8) : Option (Int × Int × Int × Int × Int × Bool × Int × Int × Int × Bool × Int × Bool × List UInt8 × List V × List UInt8 × Int × Int × List UInt8) := br (!decide (x15 = 2)) (some (x0, x1, x2, x3, x4, x5, x6, x7, x8, x9, x10, x11, x12, x13, x14, x15, x16, [])) (bnd16 (s_rsend N x0 x1 x2 x3 x4 x5 x6 x7 x8 x9 x10 x11 x12 x13 x14 x17) fun n0 n1 n2 n3 n4 b5 n6 n7 n8 b9 n10 b11 l12 l13 l14 l15 => some (n0, n1, n2, n3, n4, b5, n6, n7, n8, b9, n10, b11, l12, l13, l14, 4, x16, l15))
noncomputable def cx_rcReply (N : Nat) : Cx := cxO [⟨59, e_rsend (s_rsend N)⟩] []
theorem s_rcReply_ok (N : Nat) (x0 x1 x2 x3 x4 x5 x6 x7 x8 x9 x10 x11 x12 x13 x14 x15 x16 x17 : _) : bodyK (cx_rcReply N) Try.f16 [g3a x0 x1 x2 x3 x4 x5 x6 x7 x8 x9 x10 x11 x12 x13 x14 x15 x16, dY x17] [] r_rcInfo = s_rcReply N x0 x1 x2 x3 x4 x5 x6 x7 x8 x9 x10 x11 x12 x13 x14 x15 x16 x17 := by
  kernel_rfl
abbrev Q_rcReply (s : Ty41) : Prop := ∀ x0 x1 x2 x3 x4 x5 x6 x7 x8 x9 x10 x11 x12 x13 x14 x15 x16 x17 r0 r1 r2 r3 r4 r5 r6 r7 r8 r9 r10 r11 r12 r13 r14 r15 r16 r17, s x0 x1 x2 x3 x4 x5 x6 x7 x8 x9 x10 x11 x12 x13 x14 x15 x16 x17 = some (r0, r1, r2, r3, r4, r5, r6, r7, r8, r9, r10, r11, r12, r13, r14, r15, r16, r17) -> PureRet Try.prog T 16 [g3a x0 x1 x2 x3 x4 x5 x6 x7 x8 x9 x10 x11 x12 x13 x14 x15 x16, dY x17] [g3a r0 r1 r2 r3 r4 r5 r6 r7 r8 r9 r10 r11 r12 r13 r14 r15 r16, dY r17]
theorem eo_rcReply (s : Ty41) (hs : Q_rcReply s) : EntOK Try.prog T ⟨16, e_rcReply s⟩ := by
  refine ⟨goes_of Try.func16 (by kernel_rfl) (c := bodyOf Try.f16) (by kernel_rfl), fun R ds K r h => ?_, fun R ds K => ?_⟩
  . simp only [e_rcReply] at h
    split at h
    . obtain ⟨r0, r1, r2, r3, r4, r5, r6, r7, r8, r9, r10, r11, r12, r13, r14, r15, r16, r17, h1, h2⟩ := bnd18_some h
      exact ⟨_, h2, hs _ _ _ _ _ _ _ _ _ _ _ _ _ _ _ _ _ _ _ _ _ _ _ _ _ _ _ _ _ _ _ _ _ _ _ _ h1⟩
    . cases h
  . simp only [e_rcReply]
    split
    . rw [bnd18_b]; rfl
    . rfl
theorem p_rcReply (N : Nat) : Q_rcReply (s_rcReply N) := fun x0 x1 x2 x3 x4 x5 x6 x7 x8 x9 x10 x11 x12 x13 x14 x15 x16 x17 r0 r1 r2 r3 r4 r5 r6 r7 r8 r9 r10 r11 r12 r13 r14 r15 r16 r17 h => pure_of (cx := cx_rcReply N) (by kernel_rfl) (cxO_ok ⟨eo_rsend _ (p_rsend N), trivial⟩ trivial) Try.func16 (by kernel_rfl) (by kernel_rfl) (loopsOK_of (k := 0) (by kernel_rfl) trivial) (by rfl) (by rfl) (by rfl) (rf := r_rcInfo) ((s_rcReply_ok ..).trans h) (fun rs' m h => by
    unfold r_rcInfo at h
    split at h
    . cases h; exact ⟨rfl, rfl⟩
    . cases h)
abbrev Ty43 := Int -> Int -> Int -> Int -> Int -> Bool -> Int -> Int -> Int -> Bool -> Int -> Bool -> List UInt8 -> List V -> List UInt8 -> Int -> Int -> Int -> Option (Int × Int × Int × Int × Int × Bool × Int × Int × Int × Bool × Int × Bool × List UInt8 × List V × List UInt8 × Int × Int × List UInt8)
noncomputable def e_rcExtend {R : Type} (s : Ty43) (ds : List D) (K : List D -> Option R) : Option R :=
  match ds with
  | [.agg [.v (.int .i64 x0) .no, .v (.int .i64 x1) .no, .v (.int .i64 x2) .no, .v (.int .i64 x3) .no, .v (.int .i64 x4) .no, .v (.bool x5) .no, .v (.int .i64 x6) .no, .v (.int .i64 x7) .no, .v (.int .i64 x8) .no, .v (.bool x9) .no, .v (.int .i64 x10) .no, .v (.bool x11) .no, .v (.bytes x12) .no, .v (.sl 27 x13) .no, .v (.bytes x14) .no, .v (.int .i64 x15) .no, .v (.int .i64 x16) .no], .v (.int .i64 x17) .no] => bnd18 (s x0 x1 x2 x3 x4 x5 x6 x7 x8 x9 x10 x11 x12 x13 x14 x15 x16 x17) fun r0 r1 r2 r3 r4 r5 r6 r7 r8 r9 r10 r11 r12 r13 r14 r15 r16 r17 => K [.agg [dI r0, dI r1, dI r2, dI r3, dI r4, dB r5, dI r6, dI r7, dI r8, dB r9, dI r10, dB r11, dY r12, .v (.sl 27 r13) .no, dY r14, dI r15, dI r16], dY r17]
  | _ => none
noncomputable def s_rcExtend (N : Nat) (x0 x1 x2 x3 x4 : Int) (x5 : Bool) (x6 x7 x8 : Int) (x9 : Bool) (x10 : Int) (x11 : Bool) (x12 : List UInt8) (x13 : List V) (x14 : List UInt8) (x15 x16 x17 : Int) : Option (Int × Int × Int × Int × Int × Bool × Int × Int × Int × Bool × Int × Bool × List UInt8 × List V × List UInt8 × Int × Int × List UInt8) := br (!decide (x15 = 2)) (some (x0, x1, x2, x3, x4, x5, x6, x7, x8, x9, x10, x11, x12, x13, x14, x15, x16, [])) (br (decide (x17 < 1)) (some (x0, x1, x2, x3, x4, x5, x6, x7, x8, x9, x10, x11, x12, x13, x14, x15, x16, [])) (br (decide (255 < x17)) (some (x0, x1, x2, x3, x4, x5, x6, x7, x8, x9, x10, x11, x12, x13, x14, x15, x16, [])) (bnd1 (s_rask N x0 x1 x2 x3 x4 x5 x6 x7 x8 x9 x10 x11 x12 x13 x14 3 x17) fun l0 => some (x0, x1, x2, x3, x4, x5, x6, x7, x8, x9, x10, x11, x12, x13, x14, 3, x17, l0))))
noncomputable def cx_rcExtend (N : Nat) : Cx := cxO [⟨52, e_rask (s_rask N)⟩] []
theorem s_rcExtend_ok (N : Nat) (x0 x1 x2 x3 x4 x5 x6 x7 x8 x9 x10 x11 x12 x13 x14 x15 x16 x17 : _) : bodyK (cx_rcExtend N) Try.f18 [g3a x0 x1 x2 x3 x4 x5 x6 x7 x8 x9 x10 x11 x12 x13 x14 x15 x16, dI x17] [] r_rcInfo = s_rcExtend N x0 x1 x2 x3 x4 x5 x6 x7 x8 x9 x10 x11 x12 x13 x14 x15 x16 x17 := by
  kernel_rfl
abbrev Q_rcExtend (s : Ty43) : Prop := ∀ x0 x1 x2 x3 x4 x5 x6 x7 x8 x9 x10 x11 x12 x13 x14 x15 x16 x17 r0 r1 r2 r3 r4 r5 r6 r7 r8 r9 r10 r11 r12 r13 r14 r15 r16 r17, s x0 x1 x2 x3 x4 x5 x6 x7 x8 x9 x10 x11 x12 x13 x14 x15 x16 x17 = some (r0, r1, r2, r3, r4, r5, r6, r7, r8, r9, r10, r11, r12, r13, r14, r15, r16, r17) -> PureRet Try.prog T 18 [g3a x0 x1 x2 x3 x4 x5 x6 x7 x8 x9 x10 x11 x12 x13 x14 x15 x16, dI x17] [g3a r0 r1 r2 r3 r4 r5 r6 r7 r8 r9 r10 r11 r12 r13 r14 r15 r16, dY r17]
theorem eo_rcExtend (s : Ty43) (hs : Q_rcExtend s) : EntOK Try.prog T ⟨18, e_rcExtend s⟩ := by
  refine ⟨goes_of Try.func18 (by kernel_rfl) (c := bodyOf Try.f18) (by kernel_rfl), fun R ds K r h => ?_, fun R ds K => ?_⟩
  . simp only [e_rcExtend] at h
    split at h
    . obtain ⟨r0, r1, r2, r3, r4, r5, r6, r7, r8, r9, r10, r11, r12, r13, r14, r15, r16, r17, h1, h2⟩ := bnd18_some h
      exact ⟨_, h2, hs _ _ _ _ _ _ _ _ _ _ _ _ _ _ _ _ _ _ _ _ _ _ _ _ _ _ _ _ _ _ _ _ _ _ _ _ h1⟩
    . cases h
  . simp only [e_rcExtend]
    split
    . rw [bnd18_b]; rfl
    . rfl
theorem p_rcExtend (N : Nat) : Q_rcExtend (s_rcExtend N) := fun x0 x1 x2 x3 x4 x5 x6 x7 x8 x9 x10 x11 x12 x13 x14 x15 x16 x17 r0 r1 r2 r3 r4 r5 r6 r7 r8 r9 r10 r11 r12 r13 r14 r15 r16 r17 h => pure_of (cx := cx_rcExtend N) (by kernel_rfl) (cxO_ok ⟨eo_rask _ (p_rask N), trivial⟩ trivial) Try.func18 (by kernel_rfl) (by kernel_rfl) (loopsOK_of (k := 0) (by kernel_rfl) trivial) (by rfl) (by rfl) (by rfl) (rf := r_rcInfo) ((s_rcExtend_ok ..).trans h) (fun rs' m h => by
    unfold r_rcInfo at h
    split at h
    . cases h; exact ⟨rfl, rfl⟩
    . cases h)
end Go.Proofs.Ytilfphdeacogmaa.En

/- Functions of the program in plain Lean, joined to the program by evaluation; printed by a program. -/
namespace Go.Proofs.Ytilfphdeacogmaa.En
open Go Go.Proofs
set_option maxRecDepth 100000
set_option maxHeartbeats 8000000
set_option linter.unusedVariables false
noncomputable def e_sound {R : Type} (s : List UInt8 -> Int -> Option (Bool)) (ds : List D) (K : List D -> Option R) : Option R :=
  match ds with
  | [.v (.bytes x0) .no, .v (.int .i64 x1) .no] => bnd1 (s x0 x1) fun r0 => K [dB r0]
  | _ => none
noncomputable def s_sound (N : Nat) (x0 : List UInt8) (x1 : Int) : Option (Bool) := bnd8 (s_rDecode6 N x0 x1) fun n0 n1 n2 b3 n4 b5 l6 n7 => br (decide ((x0.length : Int) = 0)) (some true) (some (decide (n7 = 0)))
noncomputable def cx_sound (N : Nat) : Cx := cxO [⟨61, e_rDecode6 (s_rDecode6 N)⟩] []
theorem s_sound_ok (N : Nat) (x0 x1 : _) : bodyK (cx_sound N) Try.f21 [dY x0, dI x1] [] r_valid = s_sound N x0 x1 := by
  kernel_rfl
abbrev Q_sound (s : List UInt8 -> Int -> Option (Bool)) : Prop := ∀ x0 x1 r0, s x0 x1 = some r0 -> PureRet Try.prog T 21 [dY x0, dI x1] [dB r0]
theorem eo_sound (s : List UInt8 -> Int -> Option (Bool)) (hs : Q_sound s) : EntOK Try.prog T ⟨21, e_sound s⟩ := by
  refine ⟨goes_of Try.func21 (by kernel_rfl) (c := bodyOf Try.f21) (by kernel_rfl), fun R ds K r h => ?_, fun R ds K => ?_⟩
  . simp only [e_sound] at h
    split at h
    . obtain ⟨r0, h1, h2⟩ := bnd1_some h
      exact ⟨_, h2, hs _ _ _ h1⟩
    . cases h
  . simp only [e_sound]
    split
    . rw [bnd1_b]; rfl
    . rfl
theorem p_sound (N : Nat) : Q_sound (s_sound N) := fun x0 x1 r0 h => pure_of (cx := cx_sound N) (by kernel_rfl) (cxO_ok ⟨eo_rDecode6 _ (p_rDecode6 N), trivial⟩ trivial) Try.func21 (by kernel_rfl) (by kernel_rfl) (loopsOK_of (k := 0) (by kernel_rfl) trivial) (by rfl) (by rfl) (by rfl) (rf := r_valid) ((s_sound_ok ..).trans h) (fun rs' m h => by
    unfold r_valid at h
    split at h
    . cases h; exact ⟨rfl, rfl⟩
    . cases h)
noncomputable def e_few {R : Type} (s : List V -> Option (Bool)) (ds : List D) (K : List D -> Option R) : Option R :=
  match ds with
  | [.v (.sl 38 x0) .no] => bnd1 (s x0) fun r0 => K [dB r0]
  | _ => none
noncomputable def F_few_4 {R : Type} (N : Nat) (vs0 : List V) (Lq : Int -> Option R) (K0 : Bool -> Option R) (K1 : Option R) (n1 : Int) : Option R := br (decide (n1 < (vs0.length : Int))) (br (decide (0 <= n1) && decide (n1 < (vs0.length : Int))) (at? vs0 n1.toNat fun x0 => x0.unAgg fun l1 => unCons l1 fun x2 l3 => V.unInt IntKind.i64 x2 fun n4 => unCons l3 fun x5 l6 => V.unInt IntKind.i64 x5 fun n7 => unCons l6 fun x8 l9 => x8.unBytes fun l10 => unNil l9 (br (decide (700 < (l10.length : Int))) (K0 false) (Lq (IntKind.i64.wrap (n1 + 1))))) none) K1
noncomputable def S_few_4 {R : Type} (N : Nat) (vs0 : List V) : Nat -> Int -> (Bool -> Option R) -> (Option R) -> Option R | 0, _, _, _ => none | t + 1, n1, K0, K1 => F_few_4 N vs0 (fun n1 => S_few_4 N vs0 t n1 K0 K1) K0 K1 n1
noncomputable def l_few_4 {R : Type} (N : Nat) (ds : List D) (m : Mem) (K : Ex -> List D -> Mem -> Option R) : Option R :=
  match ds, m with
  | [(.v (.sl 38 vs0) .no), (.v (.int .i64 n1) .no)], [[]] => S_few_4 N vs0 N n1 (fun a0 => K .ret [(.v (.bool a0) .no)] [[]]) (K (.exit 0) [.any] [[]])
  | _, _ => none
noncomputable def s_few (N : Nat) (x0 : List V) : Option (Bool) := br (decide (150 < (x0.length : Int))) (some false) (S_few_4 N x0 N 0 (fun b0 => some b0) (some true))
noncomputable def cx_few (N : Nat) : Cx := { T := T, isPure := tabP [], pureK := fun g ds K => tabK [] g ds K, memK := fun g dst ds m K => tabMK [] g dst ds m K, meth := tabM [], keep := fun r => match r with | 4 => [0, 3] | _ => [], keepX := fun r => match r with | 4 => [2] | _ => [], loopT := fun r ds m K => match r with | 4 => l_few_4 N ds m K | _ => none, jumps := 9 }
theorem F_few_4_ok {R : Type} (N : Nat) (vs0 : List V) (n1 : Int) (L : List D -> Mem -> Option R) (K : Ex -> List D -> Mem -> Option R) :
    roundK (fun st K => codeK (cx_few N) (loopN Try.f9 0) st K) 20 [0, 3] [2] L [(.v (.sl 38 vs0) .no), (dI n1)] [[]] K = F_few_4 N vs0 (fun n1 => L [(.v (.sl 38 vs0) .no), (dI n1)] [[]]) (fun a0 => K .ret [(dB a0)] [[]]) (K (.exit 0) [.any] [[]]) n1 := by
  kernel_rfl
theorem S_few_4_ok {R : Type} (N : Nat) (vs0 : List V) (K : Ex -> List D -> Mem -> Option R) : ∀ (t : Nat) (n1 : Int),
    loopK (fun st K => codeK (cx_few N) (loopN Try.f9 0) st K) 20 [0, 3] [2] t [(.v (.sl 38 vs0) .no), (dI n1)] [[]] K = S_few_4 N vs0 t n1 (fun a0 => K .ret [(dB a0)] [[]]) (K (.exit 0) [.any] [[]])
  | 0, n1 => rfl
  | t + 1, n1 => (F_few_4_ok N vs0 n1 _ K).trans (congrArg (fun L => F_few_4 N vs0 L (fun a0 => K .ret [(dB a0)] [[]]) (K (.exit 0) [.any] [[]]) n1) (funext fun n1 => S_few_4_ok N vs0 K t n1))
theorem s_few_ok (N : Nat) (x0 : _) : bodyK (cx_few N) Try.f9 [.v (.sl 38 x0) .no] [] r_valid = s_few N x0 := by
  kernel_rfl
abbrev Q_few (s : List V -> Option (Bool)) : Prop := ∀ x0 r0, s x0 = some r0 -> PureRet Try.prog T 9 [.v (.sl 38 x0) .no] [dB r0]
theorem eo_few (s : List V -> Option (Bool)) (hs : Q_few s) : EntOK Try.prog T ⟨9, e_few s⟩ := by
  refine ⟨goes_of Try.func9 (by kernel_rfl) (c := bodyOf Try.f9) (by kernel_rfl), fun R ds K r h => ?_, fun R ds K => ?_⟩
  . simp only [e_few] at h
    split at h
    . obtain ⟨r0, h1, h2⟩ := bnd1_some h
      exact ⟨_, h2, hs _ _ h1⟩
    . cases h
  . simp only [e_few]
    split
    . rw [bnd1_b]; rfl
    . rfl
theorem co_few (N : Nat) : CxOK Try.prog (cx_few N) :=
  cxOK_of2 (es := []) (me := []) (ms := []) T_ok trivial trivial trivial rfl (fun _ _ _ _ => rfl) (fun _ _ _ _ _ _ => rfl) rfl
theorem lk_few_4 (N : Nat) : LoopOK (cx_few N) 20 (loopN Try.f9 0) := by
  refine loopOK_of (rid := 4) (by kernel_rfl) rfl rfl fun R ds m K r h => ?_
  have h : l_few_4 N ds m K = some r := h
  unfold l_few_4 at h
  split at h
  . exact ⟨N, Eq.trans (S_few_4_ok ..) h⟩
  . cases h
theorem lo_few (N : Nat) : LoopsOK (cx_few N) Try.f9.ntmps (bodyOf Try.f9) :=
  loopsOK_of (k := 1) (by kernel_rfl) ⟨trivial, lk_few_4 N⟩
theorem p_few (N : Nat) : Q_few (s_few N) := fun x0 r0 h => pure_of (cx := cx_few N) (by kernel_rfl) (co_few N) Try.func9 (by kernel_rfl) (by kernel_rfl) (lo_few N) (by rfl) (by rfl) (by rfl) (rf := r_valid) ((s_few_ok ..).trans h) (fun rs' m h => by
    unfold r_valid at h
    split at h
    . cases h; exact ⟨rfl, rfl⟩
    . cases h)
end Go.Proofs.Ytilfphdeacogmaa.En

/- The printed functions, together. -/

/- Words for the plain laws: branches, numbers, bits, places in a list. No program in sight. -/
namespace Go.Proofs.Ytilfphdeacogmaa.En
open Go
set_option linter.unusedVariables false
section
variable {R α β γ δ : Type}
theorem br_t (x y : Option R) : br true x y = x := id rfl
theorem br_f (x y : Option R) : br false x y = y := id rfl
theorem br_dec (p : Prop) [Decidable p] (x y : Option R) : br (decide p) x y = if p then x else y := by
  by_cases h : p <;> simp [br, h]
theorem br_not (c : Bool) (x y : Option R) : br (!c) x y = br c y x := by cases c <;> rfl
theorem br_and (a b : Bool) (x y : Option R) : br (a && b) x y = br a (br b x y) y := by cases a <;> rfl
theorem bnd1_mk (a : α) (K : α -> Option R) : bnd1 (some a) K = K a := id rfl
theorem bnd2_mk (a : α) (b : β) (K : α -> β -> Option R) : bnd2 (some (a, b)) K = K a b := id rfl
theorem bnd3_mk (a : α) (b : β) (c : γ) (K : α -> β -> γ -> Option R) : bnd3 (some (a, b, c)) K = K a b c := id rfl
theorem bnd4_mk (a : α) (b : β) (c : γ) (d : δ) (K : α -> β -> γ -> δ -> Option R) : bnd4 (some (a, b, c, d)) K = K a b c d := id rfl
theorem bnd5_mk {ε : Type} (a : α) (b : β) (c : γ) (d : δ) (e : ε) (K : α -> β -> γ -> δ -> ε -> Option R) : bnd5 (some (a, b, c, d, e)) K = K a b c d e := id rfl
theorem at_of {xs : List α} {i : Nat} {x : α} (h : xs[i]? = some x) (K : α -> Option R) : at? xs i K = K x := by simp [at?, h]
theorem at_zero (x : α) (r : List α) (K : α -> Option R) : at? (x :: r) 0 K = K x := id rfl
theorem at_mid (pre : List α) (x : α) (suf : List α) (K : α -> Option R) : at? (pre ++ x :: suf) pre.length K = K x := at_of (by simp) K
theorem unInt_mk (k : IntKind) (n : Int) (K : Int -> Option R) : V.unInt k (.int k n) K = K n := by simp [V.unInt]
theorem unBytes_mk (s : List UInt8) (K : List UInt8 -> Option R) : V.unBytes (.bytes s) K = K s := id rfl
theorem unAgg_mk (s : List V) (K : List V -> Option R) : V.unAgg (.agg s) K = K s := id rfl
theorem unCons_mk (x : V) (r : List V) (K : V -> List V -> Option R) : unCons (x :: r) K = K x r := id rfl
theorem unNil_mk (K : Option R) : unNil [] K = K := id rfl
end
theorem w64 {n : Int} (h1 : -9223372036854775808 <= n) (h2 : n <= 9223372036854775807) : IntKind.i64.wrap n = n := by
  rw [IntKind.wrap_i64]; omega
theorem w64_u8 (u : UInt8) : IntKind.i64.wrap (u.toNat : Int) = u.toNat := by
  have := u.toNat_lt; exact w64 (by omega) (by omega)
theorem wu8 (n : Int) : IntKind.u8.wrap n = n % 256 := IntKind.wrap_u8 n
theorem ofNat_toNat (u : UInt8) : UInt8.ofNat u.toNat = u := UInt8.ofNat_toNat
end Go.Proofs.Ytilfphdeacogmaa.En
