/- Several texts in one. -/
import Derived.Test.YtilfphdeacogmaaX5
import Derived.Test.YtilfphdeacogmaaX4
import Derived.ProofKit
import Derived.OpenShut
import Derived.ChangeOld
import Derived.Below
import Derived.Test.YtilfphdeacogmaaRows
import Derived.ShutString
import Derived.Lib.SmallJoins

set_option linter.unusedSimpArgs false
set_option linter.unusedVariables false
set_option linter.unusedSectionVars false
/- Functions of the program in plain Lean, joined to the program by evaluation; printed by a program. -/
namespace Go.Proofs.Ytilfphdeacogmaa.En
open Go Go.Proofs
set_option maxRecDepth 100000
set_option maxHeartbeats 8000000
set_option linter.unusedVariables false
noncomputable def e_nCMade {R : Type} (s : Option (Bool)) (ds : List D) (K : List D -> Option R) : Option R :=
  match ds with
  | [.nilp] => bnd1 (s) fun r0 => K [dB r0]
  | _ => none
noncomputable def s_nCMade (N : Nat)  : Option (Bool) := some false
noncomputable def cx_nCMade (N : Nat) : Cx := cxO [] []
theorem s_nCMade_ok (N : Nat)  : bodyK (cx_nCMade N) Try.f43 [.nilp] [] r_valid = s_nCMade N  := by
  kernel_rfl
abbrev Q_nCMade (s : Option (Bool)) : Prop := ∀ r0, s  = some r0 -> PureRet Try.prog T 43 [.nilp] [dB r0]
theorem eo_nCMade (s : Option (Bool)) (hs : Q_nCMade s) : EntOK Try.prog T ⟨43, e_nCMade s⟩ := by
  refine ⟨goes_of Try.func43 (by kernel_rfl) (c := bodyOf Try.f43) (by kernel_rfl), fun R ds K r h => ?_, fun R ds K => ?_⟩
  . simp only [e_nCMade] at h
    split at h
    . obtain ⟨r0, h1, h2⟩ := bnd1_some h
      exact ⟨_, h2, hs _ h1⟩
    . cases h
  . simp only [e_nCMade]
    split
    . rw [bnd1_b]; rfl
    . rfl
theorem p_nCMade (N : Nat)  (r0 : Bool) (h : s_nCMade N  = some r0) : PureRet Try.prog T 43 [.nilp] [dB r0] :=
  pure_of (cx := cx_nCMade N) (by kernel_rfl) (cxO_ok trivial trivial) Try.func43 (by kernel_rfl) (by kernel_rfl) (loopsOK_of (k := 0) (by kernel_rfl) trivial) rfl rfl rfl (rf := r_valid) ((s_nCMade_ok N ).trans h) (fun rs' m h => by
    unfold r_valid at h
    split at h
    . cases h; exact ⟨rfl, rfl⟩
    . cases h)
noncomputable def e_nCReceive {R : Type} (s : List UInt8 -> Option (List UInt8)) (ds : List D) (K : List D -> Option R) : Option R :=
  match ds with
  | [.nilp, .v (.bytes x0) .no] => bnd1 (s x0) fun r0 => K [dY r0]
  | _ => none
noncomputable def r_nCReceive (rs : List D) (_ : Mem) : Option (List UInt8) :=
  match rs with
  | [.v (.bytes r0) _] => some (r0)
  | _ => none
noncomputable def s_nCReceive (N : Nat) (x0 : List UInt8) : Option (List UInt8) := bnd1 (s_nCMade N) fun b0 => br (!b0) (some []) none
noncomputable def cx_nCReceive (N : Nat) : Cx := cxO [⟨43, e_nCMade (s_nCMade N)⟩] []
theorem s_nCReceive_ok (N : Nat) (x0 : _) : bodyK (cx_nCReceive N) Try.f13 [.nilp, dY x0] [] r_nCReceive = s_nCReceive N x0 := by
  kernel_rfl
abbrev Q_nCReceive (s : List UInt8 -> Option (List UInt8)) : Prop := ∀ x0 r0, s x0 = some r0 -> PureRet Try.prog T 13 [.nilp, dY x0] [dY r0]
theorem eo_nCReceive (s : List UInt8 -> Option (List UInt8)) (hs : Q_nCReceive s) : EntOK Try.prog T ⟨13, e_nCReceive s⟩ := by
  refine ⟨goes_of Try.func13 (by kernel_rfl) (c := bodyOf Try.f13) (by kernel_rfl), fun R ds K r h => ?_, fun R ds K => ?_⟩
  . simp only [e_nCReceive] at h
    split at h
    . obtain ⟨r0, h1, h2⟩ := bnd1_some h
      exact ⟨_, h2, hs _ _ h1⟩
    . cases h
  . simp only [e_nCReceive]
    split
    . rw [bnd1_b]; rfl
    . rfl
theorem p_nCReceive (N : Nat) : Q_nCReceive (s_nCReceive N) := fun x0 r0 h => pure_of (cx := cx_nCReceive N) (by kernel_rfl) (cxO_ok ⟨eo_nCMade _ (p_nCMade N), trivial⟩ trivial) Try.func13 (by kernel_rfl) (by kernel_rfl) (loopsOK_of (k := 0) (by kernel_rfl) trivial) (by rfl) (by rfl) (by rfl) (rf := r_nCReceive) ((s_nCReceive_ok ..).trans h) (fun rs' m h => by
    unfold r_nCReceive at h
    split at h
    . cases h; exact ⟨rfl, rfl⟩
    . cases h)
noncomputable def e_nCReply {R : Type} (s : List UInt8 -> Option (List UInt8)) (ds : List D) (K : List D -> Option R) : Option R :=
  match ds with
  | [.nilp, .v (.bytes x0) .no] => bnd1 (s x0) fun r0 => K [dY r0]
  | _ => none
noncomputable def s_nCReply (N : Nat) (x0 : List UInt8) : Option (List UInt8) := bnd1 (s_nCMade N) fun b0 => br (!b0) (some []) none
noncomputable def cx_nCReply (N : Nat) : Cx := cxO [⟨43, e_nCMade (s_nCMade N)⟩] []
theorem s_nCReply_ok (N : Nat) (x0 : _) : bodyK (cx_nCReply N) Try.f15 [.nilp, dY x0] [] r_nCReceive = s_nCReply N x0 := by
  kernel_rfl
abbrev Q_nCReply (s : List UInt8 -> Option (List UInt8)) : Prop := ∀ x0 r0, s x0 = some r0 -> PureRet Try.prog T 15 [.nilp, dY x0] [dY r0]
theorem eo_nCReply (s : List UInt8 -> Option (List UInt8)) (hs : Q_nCReply s) : EntOK Try.prog T ⟨15, e_nCReply s⟩ := by
  refine ⟨goes_of Try.func15 (by kernel_rfl) (c := bodyOf Try.f15) (by kernel_rfl), fun R ds K r h => ?_, fun R ds K => ?_⟩
  . simp only [e_nCReply] at h
    split at h
    . obtain ⟨r0, h1, h2⟩ := bnd1_some h
      exact ⟨_, h2, hs _ _ h1⟩
    . cases h
  . simp only [e_nCReply]
    split
    . rw [bnd1_b]; rfl
    . rfl
theorem p_nCReply (N : Nat) : Q_nCReply (s_nCReply N) := fun x0 r0 h => pure_of (cx := cx_nCReply N) (by kernel_rfl) (cxO_ok ⟨eo_nCMade _ (p_nCMade N), trivial⟩ trivial) Try.func15 (by kernel_rfl) (by kernel_rfl) (loopsOK_of (k := 0) (by kernel_rfl) trivial) (by rfl) (by rfl) (by rfl) (rf := r_nCReceive) ((s_nCReply_ok ..).trans h) (fun rs' m h => by
    unfold r_nCReceive at h
    split at h
    . cases h; exact ⟨rfl, rfl⟩
    . cases h)
noncomputable def e_nCExtend {R : Type} (s : Int -> Option (List UInt8)) (ds : List D) (K : List D -> Option R) : Option R :=
  match ds with
  | [.nilp, .v (.int .i64 x0) .no] => bnd1 (s x0) fun r0 => K [dY r0]
  | _ => none
noncomputable def s_nCExtend (N : Nat) (x0 : Int) : Option (List UInt8) := bnd1 (s_nCMade N) fun b0 => br (!b0) (some []) none
noncomputable def cx_nCExtend (N : Nat) : Cx := cxO [⟨43, e_nCMade (s_nCMade N)⟩] []
theorem s_nCExtend_ok (N : Nat) (x0 : _) : bodyK (cx_nCExtend N) Try.f17 [.nilp, dI x0] [] r_nCReceive = s_nCExtend N x0 := by
  kernel_rfl
abbrev Q_nCExtend (s : Int -> Option (List UInt8)) : Prop := ∀ x0 r0, s x0 = some r0 -> PureRet Try.prog T 17 [.nilp, dI x0] [dY r0]
theorem eo_nCExtend (s : Int -> Option (List UInt8)) (hs : Q_nCExtend s) : EntOK Try.prog T ⟨17, e_nCExtend s⟩ := by
  refine ⟨goes_of Try.func17 (by kernel_rfl) (c := bodyOf Try.f17) (by kernel_rfl), fun R ds K r h => ?_, fun R ds K => ?_⟩
  . simp only [e_nCExtend] at h
    split at h
    . obtain ⟨r0, h1, h2⟩ := bnd1_some h
      exact ⟨_, h2, hs _ _ h1⟩
    . cases h
  . simp only [e_nCExtend]
    split
    . rw [bnd1_b]; rfl
    . rfl
theorem p_nCExtend (N : Nat) : Q_nCExtend (s_nCExtend N) := fun x0 r0 h => pure_of (cx := cx_nCExtend N) (by kernel_rfl) (cxO_ok ⟨eo_nCMade _ (p_nCMade N), trivial⟩ trivial) Try.func17 (by kernel_rfl) (by kernel_rfl) (loopsOK_of (k := 0) (by kernel_rfl) trivial) (by rfl) (by rfl) (by rfl) (rf := r_nCReceive) ((s_nCExtend_ok ..).trans h) (fun rs' m h => by
    unfold r_nCReceive at h
    split at h
    . cases h; exact ⟨rfl, rfl⟩
    . cases h)
noncomputable def e_nCCommand {R : Type} (s : Option (List UInt8 × Bool)) (ds : List D) (K : List D -> Option R) : Option R :=
  match ds with
  | [.nilp] => bnd2 (s) fun r0 r1 => K [dY r0, dB r1]
  | _ => none
noncomputable def r_nCCommand (rs : List D) (_ : Mem) : Option (List UInt8 × Bool) :=
  match rs with
  | [.v (.bytes r0) _, .v (.bool r1) _] => some (r0, r1)
  | _ => none
noncomputable def s_nCCommand (N : Nat)  : Option (List UInt8 × Bool) := bnd1 (s_nCMade N) fun b0 => br (!b0) (some ([], false)) none
noncomputable def cx_nCCommand (N : Nat) : Cx := cxO [⟨43, e_nCMade (s_nCMade N)⟩] []
theorem s_nCCommand_ok (N : Nat)  : bodyK (cx_nCCommand N) Try.f19 [.nilp] [] r_nCCommand = s_nCCommand N  := by
  kernel_rfl
abbrev Q_nCCommand (s : Option (List UInt8 × Bool)) : Prop := ∀ r0 r1, s  = some (r0, r1) -> PureRet Try.prog T 19 [.nilp] [dY r0, dB r1]
theorem eo_nCCommand (s : Option (List UInt8 × Bool)) (hs : Q_nCCommand s) : EntOK Try.prog T ⟨19, e_nCCommand s⟩ := by
  refine ⟨goes_of Try.func19 (by kernel_rfl) (c := bodyOf Try.f19) (by kernel_rfl), fun R ds K r h => ?_, fun R ds K => ?_⟩
  . simp only [e_nCCommand] at h
    split at h
    . obtain ⟨r0, r1, h1, h2⟩ := bnd2_some h
      exact ⟨_, h2, hs _ _ h1⟩
    . cases h
  . simp only [e_nCCommand]
    split
    . rw [bnd2_b]; rfl
    . rfl
theorem p_nCCommand (N : Nat)  (r0 : List UInt8) (r1 : Bool) (h : s_nCCommand N  = some (r0, r1)) : PureRet Try.prog T 19 [.nilp] [dY r0, dB r1] :=
  pure_of (cx := cx_nCCommand N) (by kernel_rfl) (cxO_ok ⟨eo_nCMade _ (p_nCMade N), trivial⟩ trivial) Try.func19 (by kernel_rfl) (by kernel_rfl) (loopsOK_of (k := 0) (by kernel_rfl) trivial) rfl rfl rfl (rf := r_nCCommand) ((s_nCCommand_ok N ).trans h) (fun rs' m h => by
    unfold r_nCCommand at h
    split at h
    . cases h; exact ⟨rfl, rfl⟩
    . cases h)
noncomputable def e_nTMade {R : Type} (s : Option (Bool)) (ds : List D) (K : List D -> Option R) : Option R :=
  match ds with
  | [.nilp] => bnd1 (s) fun r0 => K [dB r0]
  | _ => none
noncomputable def s_nTMade (N : Nat)  : Option (Bool) := some false
noncomputable def cx_nTMade (N : Nat) : Cx := cxO [] []
theorem s_nTMade_ok (N : Nat)  : bodyK (cx_nTMade N) Try.f62 [.nilp] [] r_valid = s_nTMade N  := by
  kernel_rfl
abbrev Q_nTMade (s : Option (Bool)) : Prop := ∀ r0, s  = some r0 -> PureRet Try.prog T 62 [.nilp] [dB r0]
theorem eo_nTMade (s : Option (Bool)) (hs : Q_nTMade s) : EntOK Try.prog T ⟨62, e_nTMade s⟩ := by
  refine ⟨goes_of Try.func62 (by kernel_rfl) (c := bodyOf Try.f62) (by kernel_rfl), fun R ds K r h => ?_, fun R ds K => ?_⟩
  . simp only [e_nTMade] at h
    split at h
    . obtain ⟨r0, h1, h2⟩ := bnd1_some h
      exact ⟨_, h2, hs _ h1⟩
    . cases h
  . simp only [e_nTMade]
    split
    . rw [bnd1_b]; rfl
    . rfl
theorem p_nTMade (N : Nat)  (r0 : Bool) (h : s_nTMade N  = some r0) : PureRet Try.prog T 62 [.nilp] [dB r0] :=
  pure_of (cx := cx_nTMade N) (by kernel_rfl) (cxO_ok trivial trivial) Try.func62 (by kernel_rfl) (by kernel_rfl) (loopsOK_of (k := 0) (by kernel_rfl) trivial) rfl rfl rfl (rf := r_valid) ((s_nTMade_ok N ).trans h) (fun rs' m h => by
    unfold r_valid at h
    split at h
    . cases h; exact ⟨rfl, rfl⟩
    . cases h)
noncomputable def e_nTReceive {R : Type} (s : List UInt8 -> Option (List UInt8)) (ds : List D) (K : List D -> Option R) : Option R :=
  match ds with
  | [.nilp, .v (.bytes x0) .no] => bnd1 (s x0) fun r0 => K [dY r0]
  | _ => none
noncomputable def s_nTReceive (N : Nat) (x0 : List UInt8) : Option (List UInt8) := bnd1 (s_nTMade N) fun b0 => br (!b0) (some []) none
noncomputable def cx_nTReceive (N : Nat) : Cx := cxO [⟨62, e_nTMade (s_nTMade N)⟩] []
theorem s_nTReceive_ok (N : Nat) (x0 : _) : bodyK (cx_nTReceive N) Try.f27 [.nilp, dY x0] [] r_nCReceive = s_nTReceive N x0 := by
  kernel_rfl
abbrev Q_nTReceive (s : List UInt8 -> Option (List UInt8)) : Prop := ∀ x0 r0, s x0 = some r0 -> PureRet Try.prog T 27 [.nilp, dY x0] [dY r0]
theorem eo_nTReceive (s : List UInt8 -> Option (List UInt8)) (hs : Q_nTReceive s) : EntOK Try.prog T ⟨27, e_nTReceive s⟩ := by
  refine ⟨goes_of Try.func27 (by kernel_rfl) (c := bodyOf Try.f27) (by kernel_rfl), fun R ds K r h => ?_, fun R ds K => ?_⟩
  . simp only [e_nTReceive] at h
    split at h
    . obtain ⟨r0, h1, h2⟩ := bnd1_some h
      exact ⟨_, h2, hs _ _ h1⟩
    . cases h
  . simp only [e_nTReceive]
    split
    . rw [bnd1_b]; rfl
    . rfl
theorem p_nTReceive (N : Nat) : Q_nTReceive (s_nTReceive N) := fun x0 r0 h => pure_of (cx := cx_nTReceive N) (by kernel_rfl) (cxO_ok ⟨eo_nTMade _ (p_nTMade N), trivial⟩ trivial) Try.func27 (by kernel_rfl) (by kernel_rfl) (loopsOK_of (k := 0) (by kernel_rfl) trivial) (by rfl) (by rfl) (by rfl) (rf := r_nCReceive) ((s_nTReceive_ok ..).trans h) (fun rs' m h => by
    unfold r_nCReceive at h
    split at h
    . cases h; exact ⟨rfl, rfl⟩
    . cases h)
noncomputable def e_nTSend {R : Type} (s : List UInt8 -> Option (List UInt8)) (ds : List D) (K : List D -> Option R) : Option R :=
  match ds with
  | [.nilp, .v (.bytes x0) .no] => bnd1 (s x0) fun r0 => K [dY r0]
  | _ => none
noncomputable def s_nTSend (N : Nat) (x0 : List UInt8) : Option (List UInt8) := bnd1 (s_nTMade N) fun b0 => br (!b0) (some []) none
noncomputable def cx_nTSend (N : Nat) : Cx := cxO [⟨62, e_nTMade (s_nTMade N)⟩] []
theorem s_nTSend_ok (N : Nat) (x0 : _) : bodyK (cx_nTSend N) Try.f24 [.nilp, dY x0] [] r_nCReceive = s_nTSend N x0 := by
  kernel_rfl
abbrev Q_nTSend (s : List UInt8 -> Option (List UInt8)) : Prop := ∀ x0 r0, s x0 = some r0 -> PureRet Try.prog T 24 [.nilp, dY x0] [dY r0]
theorem eo_nTSend (s : List UInt8 -> Option (List UInt8)) (hs : Q_nTSend s) : EntOK Try.prog T ⟨24, e_nTSend s⟩ := by
  refine ⟨goes_of Try.func24 (by kernel_rfl) (c := bodyOf Try.f24) (by kernel_rfl), fun R ds K r h => ?_, fun R ds K => ?_⟩
  . simp only [e_nTSend] at h
    split at h
    . obtain ⟨r0, h1, h2⟩ := bnd1_some h
      exact ⟨_, h2, hs _ _ h1⟩
    . cases h
  . simp only [e_nTSend]
    split
    . rw [bnd1_b]; rfl
    . rfl
theorem p_nTSend (N : Nat) : Q_nTSend (s_nTSend N) := fun x0 r0 h => pure_of (cx := cx_nTSend N) (by kernel_rfl) (cxO_ok ⟨eo_nTMade _ (p_nTMade N), trivial⟩ trivial) Try.func24 (by kernel_rfl) (by kernel_rfl) (loopsOK_of (k := 0) (by kernel_rfl) trivial) (by rfl) (by rfl) (by rfl) (rf := r_nCReceive) ((s_nTSend_ok ..).trans h) (fun rs' m h => by
    unfold r_nCReceive at h
    split at h
    . cases h; exact ⟨rfl, rfl⟩
    . cases h)
noncomputable def e_nTOffer {R : Type} (s : Int -> Option (List UInt8)) (ds : List D) (K : List D -> Option R) : Option R :=
  match ds with
  | [.nilp, .v (.int .i64 x0) .no] => bnd1 (s x0) fun r0 => K [dY r0]
  | _ => none
noncomputable def s_nTOffer (N : Nat) (x0 : Int) : Option (List UInt8) := bnd1 (s_nTMade N) fun b0 => br (!b0) (some []) none
noncomputable def cx_nTOffer (N : Nat) : Cx := cxO [⟨62, e_nTMade (s_nTMade N)⟩] []
theorem s_nTOffer_ok (N : Nat) (x0 : _) : bodyK (cx_nTOffer N) Try.f33 [.nilp, dI x0] [] r_nCReceive = s_nTOffer N x0 := by
  kernel_rfl
abbrev Q_nTOffer (s : Int -> Option (List UInt8)) : Prop := ∀ x0 r0, s x0 = some r0 -> PureRet Try.prog T 33 [.nilp, dI x0] [dY r0]
theorem eo_nTOffer (s : Int -> Option (List UInt8)) (hs : Q_nTOffer s) : EntOK Try.prog T ⟨33, e_nTOffer s⟩ := by
  refine ⟨goes_of Try.func33 (by kernel_rfl) (c := bodyOf Try.f33) (by kernel_rfl), fun R ds K r h => ?_, fun R ds K => ?_⟩
  . simp only [e_nTOffer] at h
    split at h
    . obtain ⟨r0, h1, h2⟩ := bnd1_some h
      exact ⟨_, h2, hs _ _ h1⟩
    . cases h
  . simp only [e_nTOffer]
    split
    . rw [bnd1_b]; rfl
    . rfl
theorem p_nTOffer (N : Nat) : Q_nTOffer (s_nTOffer N) := fun x0 r0 h => pure_of (cx := cx_nTOffer N) (by kernel_rfl) (cxO_ok ⟨eo_nTMade _ (p_nTMade N), trivial⟩ trivial) Try.func33 (by kernel_rfl) (by kernel_rfl) (loopsOK_of (k := 0) (by kernel_rfl) trivial) (by rfl) (by rfl) (by rfl) (rf := r_nCReceive) ((s_nTOffer_ok ..).trans h) (fun rs' m h => by
    unfold r_nCReceive at h
    split at h
    . cases h; exact ⟨rfl, rfl⟩
    . cases h)
noncomputable def e_nTTimeout {R : Type} (s : Option (List UInt8)) (ds : List D) (K : List D -> Option R) : Option R :=
  match ds with
  | [.nilp] => bnd1 (s) fun r0 => K [dY r0]
  | _ => none
noncomputable def s_nTTimeout (N : Nat)  : Option (List UInt8) := bnd1 (s_nTMade N) fun b0 => br (!b0) (some []) none
noncomputable def cx_nTTimeout (N : Nat) : Cx := cxO [⟨62, e_nTMade (s_nTMade N)⟩] []
theorem s_nTTimeout_ok (N : Nat)  : bodyK (cx_nTTimeout N) Try.f26 [.nilp] [] r_nCReceive = s_nTTimeout N  := by
  kernel_rfl
abbrev Q_nTTimeout (s : Option (List UInt8)) : Prop := ∀ r0, s  = some r0 -> PureRet Try.prog T 26 [.nilp] [dY r0]
theorem eo_nTTimeout (s : Option (List UInt8)) (hs : Q_nTTimeout s) : EntOK Try.prog T ⟨26, e_nTTimeout s⟩ := by
  refine ⟨goes_of Try.func26 (by kernel_rfl) (c := bodyOf Try.f26) (by kernel_rfl), fun R ds K r h => ?_, fun R ds K => ?_⟩
  . simp only [e_nTTimeout] at h
    split at h
    . obtain ⟨r0, h1, h2⟩ := bnd1_some h
      exact ⟨_, h2, hs _ h1⟩
    . cases h
  . simp only [e_nTTimeout]
    split
    . rw [bnd1_b]; rfl
    . rfl
theorem p_nTTimeout (N : Nat)  (r0 : List UInt8) (h : s_nTTimeout N  = some r0) : PureRet Try.prog T 26 [.nilp] [dY r0] :=
  pure_of (cx := cx_nTTimeout N) (by kernel_rfl) (cxO_ok ⟨eo_nTMade _ (p_nTMade N), trivial⟩ trivial) Try.func26 (by kernel_rfl) (by kernel_rfl) (loopsOK_of (k := 0) (by kernel_rfl) trivial) rfl rfl rfl (rf := r_nCReceive) ((s_nTTimeout_ok N ).trans h) (fun rs' m h => by
    unfold r_nCReceive at h
    split at h
    . cases h; exact ⟨rfl, rfl⟩
    . cases h)
noncomputable def e_nTResponse {R : Type} (s : Option (List UInt8 × Bool)) (ds : List D) (K : List D -> Option R) : Option R :=
  match ds with
  | [.nilp] => bnd2 (s) fun r0 r1 => K [dY r0, dB r1]
  | _ => none
noncomputable def s_nTResponse (N : Nat)  : Option (List UInt8 × Bool) := bnd1 (s_nTMade N) fun b0 => br (!b0) (some ([], false)) none
noncomputable def cx_nTResponse (N : Nat) : Cx := cxO [⟨62, e_nTMade (s_nTMade N)⟩] []
theorem s_nTResponse_ok (N : Nat)  : bodyK (cx_nTResponse N) Try.f29 [.nilp] [] r_nCCommand = s_nTResponse N  := by
  kernel_rfl
abbrev Q_nTResponse (s : Option (List UInt8 × Bool)) : Prop := ∀ r0 r1, s  = some (r0, r1) -> PureRet Try.prog T 29 [.nilp] [dY r0, dB r1]
theorem eo_nTResponse (s : Option (List UInt8 × Bool)) (hs : Q_nTResponse s) : EntOK Try.prog T ⟨29, e_nTResponse s⟩ := by
  refine ⟨goes_of Try.func29 (by kernel_rfl) (c := bodyOf Try.f29) (by kernel_rfl), fun R ds K r h => ?_, fun R ds K => ?_⟩
  . simp only [e_nTResponse] at h
    split at h
    . obtain ⟨r0, r1, h1, h2⟩ := bnd2_some h
      exact ⟨_, h2, hs _ _ h1⟩
    . cases h
  . simp only [e_nTResponse]
    split
    . rw [bnd2_b]; rfl
    . rfl
theorem p_nTResponse (N : Nat)  (r0 : List UInt8) (r1 : Bool) (h : s_nTResponse N  = some (r0, r1)) : PureRet Try.prog T 29 [.nilp] [dY r0, dB r1] :=
  pure_of (cx := cx_nTResponse N) (by kernel_rfl) (cxO_ok ⟨eo_nTMade _ (p_nTMade N), trivial⟩ trivial) Try.func29 (by kernel_rfl) (by kernel_rfl) (loopsOK_of (k := 0) (by kernel_rfl) trivial) rfl rfl rfl (rf := r_nCCommand) ((s_nTResponse_ok N ).trans h) (fun rs' m h => by
    unfold r_nCCommand at h
    split at h
    . cases h; exact ⟨rfl, rfl⟩
    . cases h)
noncomputable def e_nTFailed {R : Type} (s : Option (Int)) (ds : List D) (K : List D -> Option R) : Option R :=
  match ds with
  | [.nilp] => bnd1 (s) fun r0 => K [dI r0]
  | _ => none
noncomputable def s_nTFailed (N : Nat)  : Option (Int) := bnd1 (s_nTMade N) fun b0 => br (!b0) (some 31) none
noncomputable def cx_nTFailed (N : Nat) : Cx := cxO [⟨62, e_nTMade (s_nTMade N)⟩] []
theorem s_nTFailed_ok (N : Nat)  : bodyK (cx_nTFailed N) Try.f28 [.nilp] [] r_cSize = s_nTFailed N  := by
  kernel_rfl
abbrev Q_nTFailed (s : Option (Int)) : Prop := ∀ r0, s  = some r0 -> PureRet Try.prog T 28 [.nilp] [dI r0]
theorem eo_nTFailed (s : Option (Int)) (hs : Q_nTFailed s) : EntOK Try.prog T ⟨28, e_nTFailed s⟩ := by
  refine ⟨goes_of Try.func28 (by kernel_rfl) (c := bodyOf Try.f28) (by kernel_rfl), fun R ds K r h => ?_, fun R ds K => ?_⟩
  . simp only [e_nTFailed] at h
    split at h
    . obtain ⟨r0, h1, h2⟩ := bnd1_some h
      exact ⟨_, h2, hs _ h1⟩
    . cases h
  . simp only [e_nTFailed]
    split
    . rw [bnd1_b]; rfl
    . rfl
theorem p_nTFailed (N : Nat)  (r0 : Int) (h : s_nTFailed N  = some r0) : PureRet Try.prog T 28 [.nilp] [dI r0] :=
  pure_of (cx := cx_nTFailed N) (by kernel_rfl) (cxO_ok ⟨eo_nTMade _ (p_nTMade N), trivial⟩ trivial) Try.func28 (by kernel_rfl) (by kernel_rfl) (loopsOK_of (k := 0) (by kernel_rfl) trivial) rfl rfl rfl (rf := r_cSize) ((s_nTFailed_ok N ).trans h) (fun rs' m h => by
    unfold r_cSize at h
    split at h
    . cases h; exact ⟨rfl, rfl⟩
    . cases h)
noncomputable def s_wNobody (N : Nat) (x0 : List UInt8) (x1 : Int) : Option (Bool) := bnd2 (s_nCCommand N) fun l0 b1 => bnd2 (s_nTResponse N) fun l2 b3 => bnd1 (s_nCReceive N x0) fun l4 => bnd1 (s_nCReply N x0) fun l5 => bnd1 (s_nCExtend N x1) fun l6 => bnd1 (s_nTReceive N x0) fun l7 => bnd1 (s_nTSend N x0) fun l8 => bnd1 (s_nTOffer N x1) fun l9 => bnd1 (s_nTTimeout N) fun l10 => br (decide (IntKind.i64.wrap (IntKind.i64.wrap (IntKind.i64.wrap (IntKind.i64.wrap (IntKind.i64.wrap (IntKind.i64.wrap ((l4.length : Int) + (l5.length : Int)) + (l6.length : Int)) + (l7.length : Int)) + (l8.length : Int)) + (l9.length : Int)) + (l10.length : Int)) = 0)) (br (!b1) (br (!b3) (bnd1 (s_nTFailed N) fun n11 => br (decide (n11 = 31)) (bnd1 (s_works N) fun b12 => some b12) (some false)) (some false)) (some false)) (some false)
noncomputable def cx_wNobody (N : Nat) : Cx := cxO [⟨13, e_nCReceive (s_nCReceive N)⟩, ⟨15, e_nCReply (s_nCReply N)⟩, ⟨17, e_nCExtend (s_nCExtend N)⟩, ⟨19, e_nCCommand (s_nCCommand N)⟩, ⟨27, e_nTReceive (s_nTReceive N)⟩, ⟨24, e_nTSend (s_nTSend N)⟩, ⟨33, e_nTOffer (s_nTOffer N)⟩, ⟨26, e_nTTimeout (s_nTTimeout N)⟩, ⟨29, e_nTResponse (s_nTResponse N)⟩, ⟨28, e_nTFailed (s_nTFailed N)⟩, ⟨10, e_works (s_works N)⟩] []
theorem s_wNobody_ok (N : Nat) (x0 x1 : _) : bodyK (cx_wNobody N) Try.f8 [dY x0, dI x1] [] r_valid = s_wNobody N x0 x1 := by
  kernel_rfl
theorem p_wNobody (N : Nat) (x0 : List UInt8) (x1 : Int) (r0 : Bool) (h : s_wNobody N x0 x1 = some r0) : PureRet Try.prog T 8 [dY x0, dI x1] [dB r0] :=
  pure_of (cx := cx_wNobody N) (by kernel_rfl) (cxO_ok ⟨eo_nCReceive _ (p_nCReceive N), eo_nCReply _ (p_nCReply N), eo_nCExtend _ (p_nCExtend N), eo_nCCommand _ (p_nCCommand N), eo_nTReceive _ (p_nTReceive N), eo_nTSend _ (p_nTSend N), eo_nTOffer _ (p_nTOffer N), eo_nTTimeout _ (p_nTTimeout N), eo_nTResponse _ (p_nTResponse N), eo_nTFailed _ (p_nTFailed N), eo_works _ (p_works N), trivial⟩ trivial) Try.func8 (by kernel_rfl) (by kernel_rfl) (loopsOK_of (k := 0) (by kernel_rfl) trivial) rfl rfl rfl (rf := r_valid) ((s_wNobody_ok ..).trans h) (fun rs' m h => by
    unfold r_valid at h
    split at h
    . cases h; exact ⟨rfl, rfl⟩
    . cases h)
end Go.Proofs.Ytilfphdeacogmaa.En

/- The printed functions, together. -/

/- Chapter 08: the statements about a terminal that gives up, and about sides that are nil. -/
namespace Go.Proofs.Ytilfphdeacogmaa.En
open Go
set_option linter.unusedVariables false
section
variable (N : Nat)
theorem wNobody_eq (hN : 10 < N) (b : List UInt8) (n : Int) : s_wNobody N b n = some true := by
  have e : s_wNobody N b n = bnd1 (s_works N) fun b => some b := rfl
  rw [e, works_eq N hN]; rfl
def eB (silent : Bool) : Int := if silent = true then 29 else 28
def gone (t : Tm) (silent : Bool) : Tm := { t with fails := 11, state := 3, cause := eB silent }
def askR : Bl := ⟨0, 1, 0, false, 2, false, []⟩
theorem askR_rx {s : Co} (h : s.sum = 0 ∨ s.sum = 1) : rx s (askR.enc s.sum) = (askR, 0) := by
  have hc : askR.chk = 0 := by decide
  obtain ⟨h1, h2⟩ := dec_of h hc
  have hn : dNad s.sum (askR.enc s.sum) = 0 := congrArg Bl.nad h2
  have hk : dKind s.sum (askR.enc s.sum) = 1 := congrArg Bl.kind h2
  unfold rx
  rw [h2, h1, hn, hk]
  rfl
theorem step_fail {t : Tm} (h : TmOK t) (h2 : t.state = 2) (hs : t.s.sent.seq = 0) (silent : Bool) :
    ∃ b : Bl, b.chk = 0 /\ (if silent = true then tTimeF t else tRecvF t askR 0) = tFailureF t (eB silent) b := by
  cases silent
  . refine ⟨t.s.sent, h.s.sent, ?_⟩
    rw [if_neg (by decide)]
    unfold tRecvF
    rw [if_neg (by omega), if_neg (by omega), if_neg (by decide), if_neg (show ¬ askR.kind = 0 by decide), if_pos (show askR.kind = 1 by decide)]
    unfold tAgainF
    rw [if_pos (show askR.seq = t.s.sent.seq from hs.symm)]
    rfl
  . refine ⟨bR t.s 2, bR_ok h.s (by simp), ?_⟩
    rw [if_pos rfl]
    unfold tTimeF
    rw [if_neg (by omega), if_pos h2]
    rfl
set_option maxHeartbeats 4000000 in
theorem gives_loop {R : Type} (b : List UInt8) (silent : Bool) (K0 : Bool -> Int -> Int -> Int -> Int -> List UInt8 -> Int -> List V -> List UInt8 -> Int -> Int -> Bool -> Int -> Option R) (K1 : Int -> Int -> Int -> Int -> List UInt8 -> Int -> List V -> List UInt8 -> Int -> Int -> Bool -> Int -> Option R) :
    ∀ (k : Nat) (t : Tm) (i fuel : Nat), TmOK t -> t.state = 2 -> t.offered = 0 -> t.s.sent.seq = 0 -> t.fails = (i : Int) - 1 -> 1 <= i -> i + k = 11 -> k + 2 <= fuel ->
      S_wGives_8 N b silent (askR.enc t.s.sum) t.s.sum [] fuel (i : Int) t.s.own t.s.other t.s.expect t.s.next (sentB t.s) t.s.sent.seq (pcs t.s.pieces) t.s.inn t.state t.fails t.done t.cause K0 K1 =
      K1 t.s.own t.s.other t.s.expect t.s.next (sentB t.s) t.s.sent.seq (pcs t.s.pieces) t.s.inn 3 11 t.done (eB silent) := by
  intro k
  induction k with
  | zero =>
    intro t i fuel h h2 ho hs hf hi hik hfu
    obtain ⟨f, rfl⟩ : ∃ f, fuel = f + 2 := ⟨fuel - 2, by omega⟩
    have hi11 : i = 11 := by omega
    subst hi11
    obtain ⟨bl, hbl, he⟩ := step_fail h h2 hs silent
    have hF : tFailureF t (eB silent) bl = (gone t silent, none) := by
      unfold tFailureF gone
      rw [if_pos (by omega), hf]
      rfl
    have hok : TmOK (gone t silent) := by
      have := (tFailure_ok h (by omega) hbl (eB silent)).1
      rw [hF] at this; exact this
    have hfl := tFailed_eq N hok
    have hsum := h.s.sum
    have hoff : offB t = [] := by unfold offB; rw [if_pos ho]
    have hoff' : offB (gone t silent) = [] := by unfold offB; rw [if_pos (show (gone t silent).offered = 0 from ho)]
    unfold onT at hfl
    rw [hoff'] at hfl
    have hl : ∀ (K0 : Bool -> Int -> Int -> Int -> Int -> List UInt8 -> Int -> List V -> List UInt8 -> Int -> Int -> Bool -> Int -> Option R), S_wGives_8 N b silent (askR.enc t.s.sum) t.s.sum [] (f + 1) 12 t.s.own t.s.other t.s.expect t.s.next (sentB t.s) t.s.sent.seq (pcs t.s.pieces) t.s.inn 3 11 t.done (eB silent) K0 K1 = K1 t.s.own t.s.other t.s.expect t.s.next (sentB t.s) t.s.sent.seq (pcs t.s.pieces) t.s.inn 3 11 t.done (eB silent) := by
      intro K0
      unfold S_wGives_8 F_wGives_8
      rw [br_dec, if_neg (by decide)]
    have hen : eB silent ≠ 0 := by cases silent <;> decide
    have hfl' : s_tFailed N t.s.sum t.s.own t.s.other t.s.expect t.s.next (sentB t.s) t.s.sent.seq (pcs t.s.pieces) t.s.inn 3 11 [] t.done (eB silent) = some (eB silent) := hfl
    unfold S_wGives_8 F_wGives_8
    rw [br_dec, if_pos (by decide)]
    cases silent with
    | true =>
      rw [if_pos rfl, hF] at he
      have hT := tTime_eq N h
      unfold onT at hT
      rw [he, hoff] at hT
      have hT' : s_tTimeout N t.s.sum t.s.own t.s.other t.s.expect t.s.next (sentB t.s) t.s.sent.seq (pcs t.s.pieces) t.s.inn t.state t.fails [] t.done t.cause = some ([], 3, 11, eB true) := hT
      rw [br_t, hT', bnd4_mk, hfl', bnd1_mk]
      exact hl K0
    | false =>
      rw [if_neg (by decide), hF] at he
      have hT := tReceive_eq N h (askR.enc t.s.sum) (by have := enc_pos hsum (show askR.chk = 0 by decide); omega)
      unfold onT at hT
      rw [askR_rx hsum, he, hoff] at hT
      have hT' : s_tReceive N (askR.enc t.s.sum) t.s.sum t.s.own t.s.other t.s.expect t.s.next (sentB t.s) t.s.sent.seq (pcs t.s.pieces) t.s.inn t.state t.fails [] t.done t.cause = some ([], t.s.own, t.s.other, t.s.expect, t.s.next, sentB t.s, t.s.sent.seq, pcs t.s.pieces, t.s.inn, 3, 11, t.done, eB false) := hT
      rw [br_f, hT', bnd13_mk, hfl', bnd1_mk]
      exact hl K0
  | succ k ih =>
    intro t i fuel h h2 ho hs hf hi hik hfu
    obtain ⟨f, rfl⟩ : ∃ f, fuel = f + 1 := ⟨fuel - 1, by omega⟩
    obtain ⟨bl, hbl, he⟩ := step_fail h h2 hs silent
    have hF : tFailureF t (eB silent) bl = ({ t with fails := t.fails + 1 }, some bl) := by
      unfold tFailureF
      rw [if_neg (by omega)]
    have hok : TmOK { t with fails := t.fails + 1 } := by
      have := (tFailure_ok h (by omega) hbl (eB silent)).1
      rw [hF] at this; exact this
    have hc0 : t.cause = 0 := h.cause (by omega)
    have hfl := tFailed_eq N hok
    have hsum := h.s.sum
    have hoff : offB t = [] := by unfold offB; rw [if_pos ho]
    have hfl' : s_tFailed N t.s.sum t.s.own t.s.other t.s.expect t.s.next (sentB t.s) t.s.sent.seq (pcs t.s.pieces) t.s.inn t.state (t.fails + 1) [] t.done t.cause = some 0 := by
      unfold onT at hfl
      rw [show offB { t with fails := t.fails + 1 } = [] from hoff] at hfl
      exact hfl.trans (congrArg some hc0)
    have hw : IntKind.i64.wrap ((i : Int) + 1) = ((i + 1 : Nat) : Int) := by rw [w64 (by omega) (by omega)]; omega
    have hi' := ih { t with fails := t.fails + 1 } (i + 1) f hok h2 ho hs (by show t.fails + 1 = _; omega) (by omega) (by omega) (by omega)
    have hlen := enc_pos hsum hbl
    unfold S_wGives_8 F_wGives_8
    rw [br_dec, if_pos (by omega)]
    have hout : (0 < ((bl.enc t.s.sum).length : Int)) := by omega
    have hi10 : (i : Int) <= 10 := by omega
    have hi11 : ¬ (i : Int) = 11 := by omega
    cases silent with
    | true =>
      rw [if_pos rfl, hF] at he
      have hT := tTime_eq N h
      unfold onT at hT
      rw [he, hoff] at hT
      have hT' : s_tTimeout N t.s.sum t.s.own t.s.other t.s.expect t.s.next (sentB t.s) t.s.sent.seq (pcs t.s.pieces) t.s.inn t.state t.fails [] t.done t.cause = some (bl.enc t.s.sum, t.state, t.fails + 1, t.cause) := hT
      rw [br_t, hT', bnd4_mk, hfl', bnd1_mk, hw, decide_eq_true hout, decide_eq_true hi10, decide_eq_false hi11]
      exact hi'
    | false =>
      rw [if_neg (by decide), hF] at he
      have hT := tReceive_eq N h (askR.enc t.s.sum) (by have := enc_pos hsum (show askR.chk = 0 by decide); omega)
      unfold onT at hT
      rw [askR_rx hsum, he, hoff] at hT
      have hT' : s_tReceive N (askR.enc t.s.sum) t.s.sum t.s.own t.s.other t.s.expect t.s.next (sentB t.s) t.s.sent.seq (pcs t.s.pieces) t.s.inn t.state t.fails [] t.done t.cause = some (bl.enc t.s.sum, t.s.own, t.s.other, t.s.expect, t.s.next, sentB t.s, t.s.sent.seq, pcs t.s.pieces, t.s.inn, t.state, t.fails + 1, t.done, t.cause) := hT
      rw [br_f, hT', bnd13_mk, hfl', bnd1_mk, hw, decide_eq_true hout, decide_eq_true hi10, decide_eq_false hi11]
      exact hi'
theorem wGives_eq (hN : 1000 < N) (ifs sum : Int) (b : List UInt8) (silent : Bool) : s_wGives N ifs sum b silent = some true := by
  unfold s_wGives
  rw [sides_eq, bnd1_mk, br_not, works_eq N (by omega)]
  cases hs : sideB ifs sum with
  | false => rfl
  | true =>
    rw [br_t, br_dec]
    by_cases hb : 600 < (b.length : Int)
    . rw [if_pos hb]; rfl
    rw [if_neg hb, tNew_eq, hs, bnd1_mk, br_t]
    have q0 := t0_ok hs
    obtain ⟨q1, o1⟩ := tSend_ok q0 b
    have hS := tSend_eq N q0 b (by omega) (by omega)
    have e1 : (tSendF (t0 ifs sum) b).1.s.sum = sum := (tSend_same (t0 ifs sum) b).1
    obtain ⟨bl, hbl, hst, hseq⟩ : ∃ bl, (tSendF (t0 ifs sum) b).2 = some bl /\ (tSendF (t0 ifs sum) b).1.state = 2 /\ (tSendF (t0 ifs sum) b).1.s.sent.seq = 0 /\ (tSendF (t0 ifs sum) b).1.fails = 0 /\ (tSendF (t0 ifs sum) b).1.offered = 0 /\ (tSendF (t0 ifs sum) b).1.done = false /\ (tSendF (t0 ifs sum) b).1.cause = 0 /\ (tSendF (t0 ifs sum) b).1.s.own = 32 /\ (tSendF (t0 ifs sum) b).1.s.other = ifs /\ (tSendF (t0 ifs sum) b).1.s.expect = 0 := by
      unfold tSendF
      rw [if_neg (show ¬ (t0 ifs sum).state ≠ 0 from not_not_intro rfl)]
      obtain ⟨a1, a2⟩ := cut_ok q0.s.other b
      unfold sendF
      obtain ⟨p, r, h1, h2⟩ : ∃ p r, cut (t0 ifs sum).s.other.toNat b = p :: r /\ True := by
        cases hc : cut (t0 ifs sum).s.other.toNat b with
        | nil => exact absurd hc a2
        | cons p r => exact ⟨p, r, rfl, trivial⟩
      rw [show cut ({ (t0 ifs sum).s with inn := [] } : Co).other.toNat b = p :: r from h1]
      exact ⟨_, rfl, rfl, rfl, rfl, rfl, rfl, rfl, rfl, rfl, rfl⟩
    obtain ⟨hseq, hfa, hof, hdo, hca, how, hot, hex⟩ := hseq
    have hS' : s_tSend N b sum 32 ifs 0 0 [] 0 [] [] 0 0 [] false 0 = some (outB sum (tSendF (t0 ifs sum) b).2, (tSendF (t0 ifs sum) b).1.s.next, sentB (tSendF (t0 ifs sum) b).1.s, (tSendF (t0 ifs sum) b).1.s.sent.seq, pcs (tSendF (t0 ifs sum) b).1.s.pieces, (tSendF (t0 ifs sum) b).1.s.inn, (tSendF (t0 ifs sum) b).1.state, (tSendF (t0 ifs sum) b).1.fails, (tSendF (t0 ifs sum) b).1.done) := hS
    rw [hS', bnd9_mk]
    generalize (tSendF (t0 ifs sum) b).2 = ob at *
    generalize (tSendF (t0 ifs sum) b).1 = t at *
    subst hbl
    have hsum := q1.s.sum
    have hlen := enc_pos hsum (o1 bl rfl)
    rw [e1] at hlen
    have hne : ¬ (((outB sum (some bl)).length : Int) = 0) := by show ¬ (((bl.enc sum).length : Int) = 0); omega
    have hR : s_rEncode6 N 0 1 0 false 2 false [] sum = some (askR.enc sum, encE sum 0 1 0 false 2 false []) := rfl
    rw [br_dec, if_neg hne, hR, bnd2_mk]
    have hL := fun K0 K1 => gives_loop (R := Bool) N b silent K0 K1 10 t 1 N q1 hst hof hseq (by rw [hfa]; decide) (by omega) (by omega) (by omega)
    rw [e1, how, hot, hex, hca] at hL
    have hL' := fun K0 K1 => hL K0 K1
    simp only [Int.natCast_one] at hL'
    rw [hL']
    have hg : TmOK (gone t silent) := by
      refine ⟨q1.s, .inr (.inr (.inr rfl)), fun h => absurd rfl h, fun h => absurd (show (3 : Int) = 2 from h) (by decide), q1.offered, fun h => absurd (show (3 : Int) = 1 from h) (by decide), by simp [gone], fun h => absurd rfl h, fun h => absurd rfl h⟩
    have hoff : offB (gone t silent) = [] := by unfold offB; rw [if_pos (show (gone t silent).offered = 0 from hof)]
    have hA := tResp_eq N hg
    have hB := tFailed_eq N hg
    have hC := tSend_eq N hg b (by omega) (by omega)
    have hD := tTime_eq N hg
    have hsn : tSendF (gone t silent) b = (gone t silent, none) := by unfold tSendF; rw [if_pos (show (gone t silent).state ≠ 0 from (by decide : (3 : Int) ≠ 0))]
    have htn : tTimeF (gone t silent) = (gone t silent, none) := by
      unfold tTimeF
      rw [if_neg (show ¬ (gone t silent).state = 1 from (by decide : ¬ (3 : Int) = 1)), if_neg (show ¬ (gone t silent).state = 2 from (by decide : ¬ (3 : Int) = 2))]
    have hrn : tRespF (gone t silent) = ([], false) := by unfold tRespF; rw [if_neg (show ¬ (gone t silent).done = true by show ¬ t.done = true; rw [hdo]; decide)]
    rw [hrn] at hA
    rw [hsn] at hC
    rw [htn] at hD
    unfold onT at hA hB hC hD
    rw [hoff] at hA hB hC hD
    rw [show (gone t silent).s = t.s from rfl, show (gone t silent).done = t.done from rfl, show (gone t silent).state = 3 from rfl, show (gone t silent).fails = 11 from rfl, show (gone t silent).cause = eB silent from rfl, e1, how, hot, hex] at hA hB hC hD
    rw [hA, hB]
    simp only [bnd2_mk, bnd1_mk, hC, hD, bnd9_mk, bnd4_mk]
    cases silent <;> rfl
end
end Go.Proofs.Ytilfphdeacogmaa.En

/- The engine, part 2r: what an argument that came in reads as. No program in sight. -/
namespace Go.Proofs.Ytilfphdeacogmaa.En
open Go Go.RowKit
set_option linter.unusedVariables false
def immG (T : TypeId -> Option Ty) : G := { Γ := fun _ => .imm, J := fun _ _ => 0, sz := sizes T }
theorem stable_imm (T : TypeId -> Option Ty) (b o : Nat) : Stable (immG T) b o := trivial
def mkEl (row : Bool) (cs : List V) : V := match row with | true => .agg cs | false => cs.headD .nilI
def FitsFs (F : TypeId -> List V -> Prop) : List Field -> List V -> Prop
  | [], xs => xs = []
  | f :: fs, xs => ∃ a r, xs = a ++ r /\ F f.type a /\ FitsFs F fs r
def Fits (T : TypeId -> Option Ty) : Nat -> TypeId -> List V -> Prop
  | 0, _, _ => False
  | n + 1, t, xs => match T t with
    | none => False
    | some ty => match ty.desc with
      | .bool => ∃ b, xs = [.bool b]
      | .int k => ∃ i, xs = [.int k i] /\ k.min <= i /\ i <= k.max
      | .string => ∃ s, xs = [.str s] /\ s.length <= maxLen
      | .slice e => match ty.cks with
        | [.bytes _] => ∃ s, xs = [.bytes s] /\ s.length <= maxLen
        | [.slc e'] => e' = e /\ ∃ ys, xs = [.sl e ys] /\ ys.length <= maxLen /\ ∀ y ∈ ys, ∃ te cs, T e = some te /\ y = mkEl te.row cs /\ Fits T n e cs
        | _ => False
      | .struct fs => FitsFs (Fits T n) fs.toList xs
      | _ => False
def readable (T : TypeId -> Option Ty) (t : TypeId) : Bool :=
  match T t with
  | none => false
  | some ty => match ty.desc with
    | .bool => true
    | .int _ => true
    | .string => true
    | .slice e => (match T e with
      | none => false
      | some te => (match ty.cks with
        | [.bytes _] => (match te.desc with | .int .u8 => Nat.beq te.size 1 | _ => false)
        | [.slc e'] => Nat.beq e' e && Nat.ble 1 te.size && (match te.row with | true => true | false => Nat.beq te.size 1)
        | _ => false))
    | .struct fs => contigT T ty.size 0 fs.toList && fs.toList.all (fun f => match T f.type with | some _ => true | none => false)
    | _ => false
def closedT (T : TypeId -> Option Ty) (l : List TypeId) : Bool :=
  l.all fun t => readable T t && (match T t with
    | none => false
    | some ty => match ty.desc with
      | .slice e => l.any (Nat.beq e)
      | .struct fs => fs.toList.all fun f => l.any (Nat.beq f.type)
      | _ => true)
section
variable {H : Type} {enc : TypeId × Value -> H} {P : Program} {T : TypeId -> Option Ty} {w : World} {base : Nat} {spare : Nat -> Bool} {held : Bool}
structure RepC (T : TypeId -> Option Ty) (w : World) (xs : List V) (cs : List Value) : Prop where
  len : xs.length = cs.length
  one : ∀ x ∈ xs, x.one = true
  rep : ∀ (k : Nat) y, xs[k]? = some y -> RepV (immG T) w y (cs.getD k undef)
theorem RepC.single {x : V} {v : Value} (h1 : x.one = true) (h : RepV (immG T) w x v) : RepC T w [x] [v] :=
  ⟨rfl, fun y hy => by simp at hy; subst hy; exact h1, fun k y hk => by
    rcases k with _ | k
    . simp at hk; subst hk; simpa using h
    . simp at hk⟩
theorem RepC.append {xs ys : List V} {cs ds : List Value} (h : RepC T w xs cs) (k : RepC T w ys ds) : RepC T w (xs ++ ys) (cs ++ ds) := by
  refine ⟨by simp [h.len, k.len], fun x hx => ?_, fun i y hy => ?_⟩
  . rcases List.mem_append.1 hx with hx | hx
    . exact h.one x hx
    . exact k.one x hx
  . rcases Nat.lt_or_ge i xs.length with hl | hl
    . rw [List.getElem?_append_left hl] at hy
      have := h.rep i y hy
      rw [List.getD_eq_getElem?_getD, List.getElem?_append_left (by rw [← h.len]; exact hl), ← List.getD_eq_getElem?_getD]
      exact this
    . rw [List.getElem?_append_right hl] at hy
      have := k.rep _ y hy
      rw [List.getD_eq_getElem?_getD, List.getElem?_append_right (by rw [← h.len]; exact hl), ← h.len, ← List.getD_eq_getElem?_getD]
      exact this
theorem cellsOf_eq (hT : TypesOK P T) {t : TypeId} {ty : Ty} (h : T t = some ty) : P.cellsOf t = ty.size := by
  obtain ⟨i, h1, _, h2, _⟩ := (hT t ty h).info
  simp [Program.cellsOf, h1, h2]
theorem sizes_eq {t : TypeId} {ty : Ty} (h : T t = some ty) : sizes T t = ty.size := by unfold sizes; rw [h]
theorem add_none (b off i : Nat) : (⟨b, off, none⟩ : Addr).add i = ⟨b, off + i, none⟩ := by
  unfold Addr.add
  by_cases h0 : i = 0
  . subst h0; rfl
  . rw [if_neg h0]
theorem spot_row {a : Addr} {n k : Nat} {cs : List Value} (h : w.cells? base (a.add (0 * n)) k = some cs) (hk : 0 < k) : a.spot = none := by
  obtain ⟨_, hl, h5⟩ := World.cells?_some h
  have h6 := h5 0 hk
  rw [List.getElem?_eq_getElem (by omega)] at h6
  have := World.cell?_spot h6
  simpa [Addr.add] using this
theorem mkEl_cells {row : Bool} {cs : List V} (ho : ∀ x ∈ cs, x.one = true) (h : row = false -> cs.length = 1) : (mkEl row cs).cells = cs := by
  cases row with
  | true => rfl
  | false =>
    have := h rfl
    match cs, this with
    | [x], _ =>
      have := ho x (by simp)
      show V.cells x = [x]
      cases x <;> first | rfl | cases this
theorem okEl_mk {row : Bool} {cs : List V} {n : Nat} (hl : cs.length = n) (ho : ∀ x ∈ cs, x.one = true) (h : row = false -> cs.length = 1) : okEl n (mkEl row cs) = true := by
  unfold okEl
  rw [mkEl_cells ho h]
  simp only [Bool.and_eq_true, beq_iff_eq, List.all_eq_true]
  exact ⟨hl, ho⟩
theorem flatT_get {α : Type} {n : Nat} : ∀ (l : List (List α)) (i j : Nat) (c : List α), (∀ c ∈ l, c.length = n) -> l[i]? = some c -> j < n -> l.flatten[i * n + j]? = c[j]?
  | [], i, j, c, _, h, _ => by simp at h
  | d :: l, 0, j, c, hl, h, hj => by
    simp at h; subst h
    have := hl d (by simp)
    rw [List.flatten_cons, Nat.zero_mul, Nat.zero_add, List.getElem?_append_left (by omega)]
  | d :: l, i + 1, j, c, hl, h, hj => by
    have hd := hl d (by simp)
    rw [List.flatten_cons, Nat.succ_mul, List.getElem?_append_right (by omega)]
    rw [show i * n + n + j - d.length = i * n + j by omega]
    exact flatT_get l i j c (fun c hc => hl c (by simp [hc])) (by simpa using h) hj
theorem flatT_len {α : Type} {n : Nat} : ∀ (l : List (List α)), (∀ c ∈ l, c.length = n) -> l.flatten.length = l.length * n
  | [], _ => by simp
  | d :: l, h => by
    rw [List.flatten_cons, List.length_append, h d (by simp), flatT_len l fun c hc => h c (by simp [hc]), List.length_cons, Nat.succ_mul]; omega
theorem choose_list {α : Type} {p : Nat -> α -> Prop} : ∀ (n : Nat), (∀ i, i < n -> ∃ a, p i a) -> ∃ l : List α, l.length = n /\ ∀ (i : Nat) a, l[i]? = some a -> p i a
  | 0, _ => ⟨[], rfl, fun i a h => by simp at h⟩
  | n + 1, h => by
    obtain ⟨l, h1, h2⟩ := choose_list n fun i hi => h i (by omega)
    obtain ⟨a, ha⟩ := h n (by omega)
    refine ⟨l ++ [a], by simp [h1], fun i b hb => ?_⟩
    rcases Nat.lt_or_ge i l.length with hl | hl
    . rw [List.getElem?_append_left hl] at hb; exact h2 i b hb
    . rw [List.getElem?_append_right hl] at hb
      have : i = n := by
        have := (List.getElem?_eq_some_iff.1 hb).1
        simp at this; omega
      subst this
      rw [h1] at hb
      simp at hb
      subst hb; exact ha
theorem trod_rep (hT : TypesOK P T) {l : List TypeId} (hl : closedT T l = true) : ∀ (fuel : Nat) (t : TypeId) (cs : List Value) (x : DataW H × List MemPlace), t ∈ l -> DataW.trod enc P w base spare held fuel t cs = some x ->
    ∃ xs, RepC T w xs cs /\ Fits T fuel t xs /\ ∀ ty, T t = some ty -> cs.length = ty.size
  | 0, t, cs, x, _, h => by simp [DataW.trod] at h
  | n + 1, t, cs, x, hm, h => by
    have hcl := List.all_eq_true.1 hl t hm
    simp only [Bool.and_eq_true] at hcl
    obtain ⟨hre, hlead⟩ := hcl
    unfold Fits
    unfold readable at hre
    cases hTt : T t with
    | none => rw [hTt] at hre; simp at hre
    | some ty =>
    rw [hTt] at hre hlead
    simp only at hre hlead ⊢
    have hd := (hT t ty hTt).desc
    have h1c : ty.row = false -> ty.size = 1 := (hT t ty hTt).one
    cases hdesc : ty.desc <;> rw [hdesc] at hre hlead hd <;> simp only [Bool.false_eq_true] at hre hlead ⊢
    . obtain ⟨b, rfl, _⟩ := DataW.trod_bool hd h
      exact ⟨[.bool b], .single rfl (.bool b), ⟨b, rfl⟩, fun ty' e => by cases e; rw [h1c (by simp [Ty.row, hdesc])]; rfl⟩
    . rename_i k
      obtain ⟨i, rfl, _, hwf⟩ := DataW.trod_int hd h
      have hb : k.min <= i /\ i <= k.max := by simpa [Lit.wf] using hwf
      exact ⟨[.int k i], .single rfl (.int k i hb), ⟨i, rfl, hb⟩, fun ty' e => by cases e; rw [h1c (by simp [Ty.row, hdesc])]; rfl⟩
    . obtain ⟨s, rfl, _, hs⟩ := DataW.trod_string hd h
      have e : s = ⟨s.data.toList.toArray⟩ := by cases s; simp
      have hsl : s.data.toList.length = s.size := by cases s; rfl
      refine ⟨[.str s.data.toList], .single rfl ?_, ⟨_, rfl, by rw [hsl]; exact hs⟩, fun ty' e => by cases e; rw [h1c (by simp [Ty.row, hdesc])]; rfl⟩
      have := RepV.str (g := immG T) (w := w) s.data.toList (by rw [hsl]; unfold maxLen at hs; omega)
      rwa [← e] at this
    . rename_i e
      cases hTe : T e with
      | none => rw [hTe] at hre; simp at hre
      | some te =>
      rw [hTe] at hre
      simp only at hre
      have hsz := cellsOf_eq hT hTe
      have hmem : e ∈ l := by
        obtain ⟨z, hz, hb⟩ := List.any_eq_true.1 hlead
        have := Nat.eq_of_beq_eq_true hb
        subst this; exact hz
      have hsize : ∀ ty', some ty = some ty' -> ∀ v : Value, [v].length = ty'.size := fun ty' e v => by cases e; rw [h1c (by simp [Ty.row, hdesc])]; rfl
      split at hre
      . rename_i e0 hcks
        split at hre
        . rename_i hte
          have hte1 := Nat.eq_of_beq_eq_true hre
          rw [hte1] at hsz
          have hde := (hT e te hTe).desc
          rw [hte] at hde
          rcases DataW.trod_slice hd h with ⟨rfl, _⟩ | ⟨a, len, cap, elems, rest, m, e1, rfl, _, hb, hlc, hcm, hel, hget, _, _⟩
          . exact ⟨[.bytes []], .single rfl (.bytes [] none 0 0 rfl (Nat.le_refl _) (by simp) (fun k x hx => by simp at hx)), ⟨[], rfl, by simp⟩, fun ty' e => hsize ty' e _⟩
          . have key : ∀ i, i < len -> ∃ b : UInt8, ∃ bb off, a = ⟨bb, off, none⟩ /\ w.cell? ⟨bb, off + i, none⟩ = some (.int .u8 (b.toNat : Int)) := by
              intro i hi
              have h2 := hget i hi
              rw [List.getElem?_eq_getElem (by rw [hel]; exact hi), Option.bind_eq_some_iff] at h2
              obtain ⟨cs, h3, h4⟩ := h2
              obtain ⟨z, rfl, _, hwf⟩ := DataW.trod_int hde h4
              rw [hsz, Nat.mul_one] at h3
              obtain ⟨_, _, h5⟩ := World.cells?_some h3
              have h6 := h5 0 (by omega)
              simp at h6
              have hzr : 0 <= z /\ z <= 255 := by simpa [Lit.wf, IntKind.min, IntKind.max, IntKind.signed, IntKind.bits] using hwf
              have hspn : a.spot = none := by
                have h2 := hget 0 (by omega)
                rw [List.getElem?_eq_getElem (by omega), Option.bind_eq_some_iff] at h2
                obtain ⟨cs, h3, _⟩ := h2
                exact spot_row h3 (by omega)
              obtain ⟨bb, off, sp⟩ := a
              simp only at hspn
              subst hspn
              refine ⟨UInt8.ofNat z.toNat, bb, off, rfl, ?_⟩
              rw [add_none] at h6
              have hz2 : (off + i + 0) = off + i := rfl
              rw [show ((UInt8.ofNat z.toNat).toNat : Int) = z by rw [UInt8.toNat_ofNat', Nat.mod_eq_of_lt (by omega)]; omega]
              simpa [Addr.add] using h6
            obtain ⟨bs, b1, b2⟩ := choose_list len key
            refine ⟨[.bytes bs], .single rfl (.bytes bs (some a) len cap b1 hlc hcm fun k x hx => ?_), ⟨bs, rfl, by omega⟩, fun ty' e => hsize ty' e _⟩
            obtain ⟨bb, off, c1, c2⟩ := b2 k x hx
            exact ⟨bb, off, by rw [c1], stable_imm T _ _, c2⟩
        . cases hre
      . rename_i e0 hcks
        simp only [Bool.and_eq_true] at hre
        obtain ⟨⟨he0, hte1⟩, hrow⟩ := hre
        have he0 := Nat.eq_of_beq_eq_true he0
        have hte1 := Nat.le_of_ble_eq_true hte1
        have hrow1 : te.row = false -> te.size = 1 := (hT e te hTe).one
        have hszs : (immG T).sz e = te.size := sizes_eq hTe
        rcases DataW.trod_slice hd h with ⟨rfl, _⟩ | ⟨a, len, cap, elems, rest, m, e1, rfl, _, hb, hlc, hcm, hel, hget, _, _⟩
        . exact ⟨[.sl e []], .single rfl (.sl e [] none 0 0 (fun _ => undef) rfl (Nat.le_refl _) (by simp) (by simp) (fun k y hy => by simp at hy) (fun k y hy => by simp at hy)), ⟨he0, [], rfl, by simp, by simp⟩, fun ty' e => hsize ty' e _⟩
        . obtain rfl : n = m := by omega
          have key : ∀ i, i < len -> ∃ p : List V × List Value, RepC T w p.1 p.2 /\ Fits T n e p.1 /\ p.2.length = te.size /\ ∃ bb off, a = ⟨bb, off, none⟩ /\ ∀ j, j < te.size -> w.cell? ⟨bb, off + (i * te.size + j), none⟩ = some (p.2.getD j undef) := by
            intro i hi
            have h2 := hget i hi
            rw [List.getElem?_eq_getElem (by rw [hel]; exact hi), Option.bind_eq_some_iff] at h2
            obtain ⟨cs, h3, h4⟩ := h2
            obtain ⟨xs, c1, c2, c3⟩ := trod_rep hT hl n e cs _ hmem h4
            have c3 := c3 te hTe
            rw [hsz] at h3
            obtain ⟨_, _, h5⟩ := World.cells?_some h3
            have hspn : a.spot = none := by
              have h2 := hget 0 (by omega)
              rw [List.getElem?_eq_getElem (by omega), Option.bind_eq_some_iff] at h2
              obtain ⟨cs, h3, _⟩ := h2
              exact spot_row h3 (by omega)
            obtain ⟨bb, off, sp⟩ := a
            simp only at hspn
            subst hspn
            refine ⟨(xs, cs), c1, c2, c3, bb, off, rfl, fun j hj => ?_⟩
            have h7 := h5 j hj
            rw [add_none, add_none, Nat.add_assoc] at h7
            rw [h7, List.getD_eq_getElem?_getD]
            show cs[j]? = some (cs[j]?.getD undef)
            rw [List.getElem?_eq_getElem (by omega)]; rfl
          obtain ⟨ps, b1, b2⟩ := choose_list len key
          have hxl : ∀ p ∈ ps, p.1.length = te.size /\ ∀ x ∈ p.1, x.one = true := by
            intro p hp
            obtain ⟨i, hi⟩ := List.getElem?_of_mem hp
            obtain ⟨c1, _, c3, _⟩ := b2 i p hi
            exact ⟨by rw [c1.len, c3], c1.one⟩
          have hcells : ∀ p ∈ ps, (mkEl te.row p.1).cells = p.1 := fun p hp => mkEl_cells (hxl p hp).2 fun hr => by rw [(hxl p hp).1, hrow1 hr]
          have hflat : (ps.map fun p => mkEl te.row p.1).flatMap V.cells = (ps.map (·.1)).flatten := by
            rw [List.flatMap_def, List.map_map]
            congr 1
            exact List.map_congr_left fun p hp => hcells p hp
          have hall : ∀ c ∈ ps.map (·.1), c.length = te.size := fun c hc => by
            obtain ⟨p, hp, rfl⟩ := List.mem_map.1 hc
            exact (hxl p hp).1
          have hlook : ∀ (k : Nat) (y : V), ((ps.map fun p => mkEl te.row p.1).flatMap V.cells)[k]? = some y -> ∃ i j p, k = i * te.size + j /\ j < te.size /\ ps[i]? = some p /\ p.1[j]? = some y := by
            intro k y hk
            rw [hflat] at hk
            have hk1 := (List.getElem?_eq_some_iff.1 hk).1
            rw [flatT_len _ hall, List.length_map, b1] at hk1
            have hpos : 0 < te.size := by omega
            have hi : k / te.size < len := (Nat.div_lt_iff_lt_mul hpos).2 hk1
            have hj : k % te.size < te.size := Nat.mod_lt _ hpos
            have hkk : k = k / te.size * te.size + k % te.size := by rw [Nat.mul_comm]; exact (Nat.div_add_mod k te.size).symm
            have hp : ps[k / te.size]? = some (ps[k / te.size]'(by omega)) := List.getElem?_eq_getElem (by omega)
            refine ⟨k / te.size, k % te.size, _, hkk, hj, hp, ?_⟩
            rw [hkk] at hk
            rw [flatT_get _ _ _ _ hall (by rw [List.getElem?_map, hp]; rfl) hj] at hk
            exact hk
          refine ⟨[.sl e (ps.map fun p => mkEl te.row p.1)], .single rfl (.sl e _ (some a) len cap (fun k => ((ps.map (·.2)).flatten).getD k undef) (by simp [b1]) hlc hcm (fun x hx => ?_) (fun k y hk => ?_) (fun k y hk => ?_)), ⟨he0, _, rfl, by simp [b1]; omega, fun y hy => ?_⟩, fun ty' e => hsize ty' e _⟩
          . obtain ⟨p, hp, rfl⟩ := List.mem_map.1 hx
            rw [hszs]
            exact okEl_mk (hxl p hp).1 (hxl p hp).2 fun hr => by rw [(hxl p hp).1, hrow1 hr]
          . obtain ⟨i, j, p, rfl, hj, hp, hy⟩ := hlook k y hk
            obtain ⟨_, _, c3, bb, off, c4, c5⟩ := b2 i p hp
            refine ⟨bb, off, by rw [c4], stable_imm T _ _, ?_⟩
            rw [c5 j hj]
            have : (ps.map (·.2)).flatten[i * te.size + j]? = p.2[j]? := flatT_get _ _ _ _ (fun c hc => by
              obtain ⟨q, hq, rfl⟩ := List.mem_map.1 hc
              obtain ⟨i', hi'⟩ := List.getElem?_of_mem hq
              exact (b2 i' q hi').2.2.1) (by rw [List.getElem?_map, hp]; rfl) hj
            rw [List.getD_eq_getElem?_getD, List.getD_eq_getElem?_getD, this]
          . obtain ⟨i, j, p, rfl, hj, hp, hy⟩ := hlook k y hk
            obtain ⟨c1, _, c3, _⟩ := b2 i p hp
            have : (ps.map (·.2)).flatten[i * te.size + j]? = p.2[j]? := flatT_get _ _ _ _ (fun c hc => by
              obtain ⟨q, hq, rfl⟩ := List.mem_map.1 hc
              obtain ⟨i', hi'⟩ := List.getElem?_of_mem hq
              exact (b2 i' q hi').2.2.1) (by rw [List.getElem?_map, hp]; rfl) hj
            have := c1.rep j y hy
            rw [List.getD_eq_getElem?_getD] at this ⊢
            rwa [‹(ps.map (·.2)).flatten[i * te.size + j]? = p.2[j]?›]
          . obtain ⟨p, hp, rfl⟩ := List.mem_map.1 hy
            obtain ⟨i, hi⟩ := List.getElem?_of_mem hp
            exact ⟨te, p.1, rfl, rfl, (b2 i p hi).2.1⟩
      . cases hre
    . rename_i fs
      simp only [Bool.and_eq_true] at hre
      obtain ⟨hco, hfa⟩ := hre
      obtain ⟨ys, m, e1, _, hlen, _, hg⟩ := DataW.trod_struct hd h
      obtain rfl : n = m := by omega
      rw [cellsOf_eq hT hTt] at hlen
      have main : ∀ (l' : List Field) (i off : Nat), fs.toList.drop i = l' -> contigT T ty.size off l' = true -> off <= ty.size -> ∃ xs, RepC T w xs (cs.drop off) /\ FitsFs (Fits T n) l' xs := by
        intro l'
        induction l' with
        | nil =>
          intro i off hdr hc ho
          have := Nat.eq_of_beq_eq_true hc
          refine ⟨[], ⟨by simp; omega, by simp, by simp⟩, rfl⟩
        | cons f l' ih =>
          intro i off hdr hc ho
          simp only [contigT, Bool.and_eq_true] at hc
          obtain ⟨hc1, hc2⟩ := hc
          have hc1 := Nat.eq_of_beq_eq_true hc1
          have hfi : fs.toList[i]? = some f := by
            have : (fs.toList.drop i)[0]? = some f := by rw [hdr]; rfl
            simpa using this
          have hfm : f ∈ fs.toList := List.mem_of_getElem? hfi
          have h1 := List.all_eq_true.1 hfa f hfm
          have hfl : f.type ∈ l := by
            have := List.all_eq_true.1 hlead f hfm
            obtain ⟨z, hz, hb⟩ := List.any_eq_true.1 this
            have := Nat.eq_of_beq_eq_true hb
            rw [this]; exact hz
          cases hTf : T f.type with
          | none => rw [hTf] at h1; simp at h1
          | some tf =>
          have h2 := hg i f (by simpa using hfi)
          rw [cellsOf_eq hT hTf, hc1] at h2
          have hle : off + tf.size <= ty.size := by
            have : ∀ (l' : List Field) (off : Nat), contigT T ty.size off l' = true -> off <= ty.size := by
              intro l'
              induction l' with
              | nil => intro off hc; have := Nat.eq_of_beq_eq_true hc; omega
              | cons f l' ih => intro off hc; simp only [contigT, Bool.and_eq_true] at hc; have := ih _ hc.2; omega
            have := this l' _ hc2
            rw [sizes_eq hTf] at this
            exact this
          have hys : i < ys.length := by
            cases hyi : ys[i]? with
            | none =>
              have hfi2 : i < fs.size := by
                have := (List.getElem?_eq_some_iff.1 hfi).1
                simpa using this
              have : ys.length = fs.size := by assumption
              rw [this]; exact hfi2
            | some y => exact (List.getElem?_eq_some_iff.1 hyi).1
          rw [List.getElem?_eq_getElem hys] at h2
          obtain ⟨xs, c1, c2, _⟩ := trod_rep hT hl n f.type _ _ hfl h2
          obtain ⟨rs, d1, d2⟩ := ih (i + 1) (off + sizes T f.type) (by rw [List.drop_add_one_eq_tail_drop, hdr]; rfl) hc2 (by rw [sizes_eq hTf]; exact hle)
          refine ⟨xs ++ rs, ?_, xs, rs, rfl, c2, d2⟩
          have := c1.append d1
          rw [sizes_eq hTf, ← List.drop_drop, List.take_append_drop] at this
          exact this
      obtain ⟨xs, c1, c2⟩ := main fs.toList 0 0 rfl hco (Nat.zero_le _)
      exact ⟨xs, by simpa using c1, c2, fun ty' e => by cases e; exact hlen⟩
theorem arg_rep (hT : TypesOK P T) {l : List TypeId} (hl : closedT T l = true) {t : TypeId} (ht : t ∈ l) {v : Value} {d : DataW H} {ps : List MemPlace} (hrow : ∀ ty, T t = some ty -> (ty.row = true -> ∃ cs, v = .agg cs) /\ (ty.row = false -> v.cells = #[v]))
    (hd : DataW.Trod enc P w base spare held t v d ps) : ∃ n x, Fits T n t (V.cells x) /\ RepV (immG T) w x v /\ ∀ ty, T t = some ty -> x = mkEl ty.row (V.cells x) := by
  obtain ⟨fuel, hf⟩ := hd
  obtain ⟨xs, h1, h2, h3⟩ := trod_rep hT hl fuel t _ _ ht hf
  cases hTt : T t with
  | none => cases fuel <;> simp [Fits, hTt] at h2
  | some ty =>
  have h3 := h3 ty hTt
  obtain ⟨r1, r2⟩ := hrow ty hTt
  cases hr : ty.row with
  | true =>
    obtain ⟨cs, rfl⟩ := r1 hr
    refine ⟨fuel, .agg xs, h2, .agg xs cs (by rw [h1.len]; rfl) fun k y hk => ?_, fun ty' e => by cases e; rw [hr]; rfl⟩
    have := h1.rep k y hk
    simpa [Value.cells, List.getD_eq_getElem?_getD, Array.getD_eq_getD_getElem?] using this
  | false =>
    have hv := r2 hr
    rw [hv] at h1 h3
    have hl1 := h1.len
    simp at hl1
    match xs, hl1 with
    | [x], _ =>
      have ho := h1.one x (by simp)
      have hc : V.cells x = [x] := by cases x <;> first | rfl | cases ho
      exact ⟨fuel, x, by rw [hc]; exact h2, by simpa using h1.rep 0 x rfl, fun ty' e => by cases e; rw [hr, hc]; rfl⟩
end
end Go.Proofs.Ytilfphdeacogmaa.En

/- The engine, part 2s: rows: arguments that came in, what a law's function leaves. -/
namespace Go.Proofs.Ytilfphdeacogmaa.En
open Go Go.RowKit Go.WideShapes
set_option linter.unusedVariables false
theorem own : ownKnob Try.prog.godebug = none := by kernel_rfl
theorem laidOut : laidOutB Try.prog = true := by kernel_rfl
section
variable {P : Program} {T : TypeId -> Option Ty} {f : FuncId} {w : World}
def noEnv : Env := { d := 0, dom := fun _ _ => False }
def Globs (w : World) : Prop := ∀ b ∈ globD, ∃ x, w.heap[b]? = some x /\ GlobV b x
theorem imm_sk (h : Globs w) : SzOK T (immG T) w := ⟨rfl, fun b hb => ⟨rfl, h b hb⟩⟩
theorem walk_of {ds : List D} (hp : PureRet P T f ds [.v (.bool true) .no]) {us : List Value} (hr : RepDs noEnv (immG T) w [] ds us) (hgl : Globs w := by intro _ h; cases h) :
    Calls P f us.toArray w fun e w' => e = .returned (.bool true) /\ Below w.heap.size w w' := by
  refine (hp noEnv (immG T) w us (imm_sk hgl) hr).mono ?_
  rintro e w' ⟨us', g', rfl, h1, h2⟩
  obtain ⟨l, hr'⟩ := h1 noEnv
  match us', l with
  | [u], _ =>
  have := hr' 0 _ rfl
  simp only [List.getD_cons_zero] at this
  cases this with
  | v x a v h ha =>
  cases h
  exact ⟨rfl, ⟨h2.grows.os, h2.grows.tape, h2.grows.output, h2.grows.size, h2.grows.old⟩⟩
theorem reps_nil : RepDs noEnv (immG T) w [] [] [] := ⟨rfl, fun k y h => by simp at h⟩
theorem reps_cons {d : D} {u : Value} {ds : List D} {us : List Value} (h : RepD noEnv (immG T) w [] d u) (hs : RepDs noEnv (immG T) w [] ds us) : RepDs noEnv (immG T) w [] (d :: ds) (u :: us) :=
  ⟨by simp [hs.1], fun k y hk => by
    rcases k with _ | k
    . simp at hk; subst hk; exact h
    . simpa using hs.2 k y (by simpa using hk)⟩
theorem rep_v {x : V} {u : Value} (h : RepV (immG T) w x u) : RepD noEnv (immG T) w [] (.v x .no) u := .v _ _ _ h trivial
variable {H : Type} {enc : TypeId × Value -> H} {base : Nat} {spare : Nat -> Bool} {held : Bool} {r : Reach} {b0 : Nat} {t : TypeId} {v : Value} {d : DataW H} {ps : List MemPlace} {l : List TypeId}
theorem row_of (hT : TypesOK P T) {desc : TypeDesc} (ht : P.underlying t = some desc) {ty : Ty} (h : T t = some ty) : ty.desc = desc := by
  have := (hT t ty h).desc
  rw [ht] at this
  injection this with this
  exact this.symm
theorem cells_self {x : V} (h : x = mkEl false (V.cells x)) : V.cells x = [x] := by
  cases x with
  | agg cs =>
    exfalso
    simp only [V.cells, mkEl] at h
    cases cs with
    | nil => simp at h
    | cons c r =>
      have h' : V.agg (c :: r) = c := h
      have : _root_.SizeOf.sizeOf (V.agg (c :: r)) = _root_.SizeOf.sizeOf c := by rw [h']
      simp at this
      omega
  | _ => rfl
theorem fits_self (hT : TypesOK P T) {desc : TypeDesc} (ht : P.underlying t = some desc) (hnr : ∀ ty : Ty, ty.desc = desc -> ty.row = false) {n : Nat} {x : V} (h1 : Fits T n t (V.cells x)) (h3 : ∀ ty, T t = some ty -> x = mkEl ty.row (V.cells x)) : Fits T n t [x] := by
  cases hTt : T t with
  | none => cases n <;> simp [Fits, hTt] at h1
  | some ty =>
    have := h3 ty hTt
    rw [hnr ty (row_of hT ht hTt)] at this
    rw [← cells_self this]; exact h1
theorem arg_slice (hT : TypesOK P T) (hl : closedT T l = true) (hm : t ∈ l) {e : TypeId} (ht : P.underlying t = some (.slice e)) (hv : Value.okWide P w r b0 t v) (hd : DataW.Trod enc P w base spare held t v d ps) :
    ∃ n x, Fits T n t [x] /\ RepV (immG T) w x v := by
  obtain ⟨A, n, c, rfl⟩ := okWide_slice ht hv
  obtain ⟨n, x, h1, h2, h3⟩ := arg_rep hT hl hm (fun ty hty => ⟨fun hr => (by rw [Ty.row, row_of hT ht hty] at hr; cases hr), fun _ => rfl⟩) hd
  exact ⟨n, x, fits_self hT ht (fun ty e => by rw [Ty.row, e]) h1 h3, h2⟩
theorem arg_int (hT : TypesOK P T) (hl : closedT T l = true) (hm : t ∈ l) {k : IntKind} (ht : P.underlying t = some (.int k)) (hv : Value.okWide P w r b0 t v) (hd : DataW.Trod enc P w base spare held t v d ps) :
    ∃ n x, Fits T n t [x] /\ RepV (immG T) w x v := by
  obtain ⟨i, rfl⟩ := okWide_int ht hv
  obtain ⟨n, x, h1, h2, h3⟩ := arg_rep hT hl hm (fun ty hty => ⟨fun hr => (by rw [Ty.row, row_of hT ht hty] at hr; cases hr), fun _ => rfl⟩) hd
  exact ⟨n, x, fits_self hT ht (fun ty e => by rw [Ty.row, e]) h1 h3, h2⟩
theorem arg_bool (hT : TypesOK P T) (hl : closedT T l = true) (hm : t ∈ l) (ht : P.underlying t = some .bool) (hv : Value.okWide P w r b0 t v) (hd : DataW.Trod enc P w base spare held t v d ps) :
    ∃ n x, Fits T n t [x] /\ RepV (immG T) w x v := by
  obtain ⟨i, rfl⟩ := okWide_bool ht hv
  obtain ⟨n, x, h1, h2, h3⟩ := arg_rep hT hl hm (fun ty hty => ⟨fun hr => (by rw [Ty.row, row_of hT ht hty] at hr; cases hr), fun _ => rfl⟩) hd
  exact ⟨n, x, fits_self hT ht (fun ty e => by rw [Ty.row, e]) h1 h3, h2⟩
theorem fits_int {k : IntKind} {ty : Ty} (h : T t = some ty) (hd : ty.desc = .int k) {n : Nat} {xs : List V} (hf : Fits T n t xs) : ∃ i, xs = [.int k i] /\ k.min <= i /\ i <= k.max := by
  cases n with
  | zero => cases hf
  | succ n => unfold Fits at hf; rw [h] at hf; simp only [hd] at hf; exact hf
theorem fits_bool {ty : Ty} (h : T t = some ty) (hd : ty.desc = .bool) {n : Nat} {xs : List V} (hf : Fits T n t xs) : ∃ b, xs = [.bool b] := by
  cases n with
  | zero => cases hf
  | succ n => unfold Fits at hf; rw [h] at hf; simp only [hd] at hf; exact hf
theorem fits_bytes {e e' : TypeId} {ty : Ty} (h : T t = some ty) (hd : ty.desc = .slice e) (hc : ty.cks = [.bytes e']) {n : Nat} {xs : List V} (hf : Fits T n t xs) : ∃ s, xs = [.bytes s] /\ s.length <= maxLen := by
  cases n with
  | zero => cases hf
  | succ n => unfold Fits at hf; rw [h] at hf; simp only [hd, hc] at hf; exact hf
end
end Go.Proofs.Ytilfphdeacogmaa.En

/- What the arguments of chapter 08 read as. -/
namespace Go.Proofs.Ytilfphdeacogmaa.En
open Go Go.RowKit
set_option linter.unusedVariables false
theorem T_int : T 3 = some ty3 := by kernel_rfl
theorem T_bool : T 4 = some ty4 := by kernel_rfl
theorem T_bytes : T 27 = some ty27 := by kernel_rfl
theorem int_arg {n : Nat} {x : V} (h : Fits T n 3 [x]) : ∃ i : Int, x = .int .i64 i := by
  obtain ⟨i, e, _⟩ := fits_int T_int rfl h
  injection e with e _
  exact ⟨i, e⟩
theorem bool_arg {n : Nat} {x : V} (h : Fits T n 4 [x]) : ∃ b : Bool, x = .bool b := by
  obtain ⟨b, e⟩ := fits_bool T_bool rfl h
  injection e with e _
  exact ⟨b, e⟩
theorem bytes_arg {n : Nat} {x : V} (h : Fits T n 27 [x]) : ∃ b : List UInt8, x = .bytes b := by
  obtain ⟨b, e, h1⟩ := fits_bytes T_bytes rfl rfl h
  injection e with e _
  exact ⟨b, e⟩
def argTys : List TypeId := [38, 22, 3, 4, 27, 5]
theorem argTys_ok : closedT T argTys = true := by kernel_rfl
end Go.Proofs.Ytilfphdeacogmaa.En
