/- Texts. -/
import Derived.Test.YtfafflepalgcnaaGreatZ6
set_option linter.unusedSimpArgs false
set_option linter.unusedVariables false
set_option linter.unusedSectionVars false
open Go.IntKind renaming i64 → GA, u8 → GI
open List renaming take → Ig, drop → GU
open Nat renaming beq → GR, eq_of_beq_eq_true → GE
open UInt8 renaming ofNat → Gz
namespace Go.Proofs.YtfafflepalgcnaaGreat
namespace En
open Go Go.Proofs
set_option maxRecDepth 100000
set_option maxHeartbeats 8000000
noncomputable def a6U {R : Type} (s : LB -> LB -> Option (Bool)) (ds : List D) (K : List D -> Option R) : Option R :=
 match ds with
 | [.v (.bytes a) .no, .v (.bytes y) .no] => d3 (s a y) fun u => K [dB u]
 | _ => none
noncomputable def a4x (N : Nat) (a y : LB) : Option (Bool) := d3 (G4 N a y) fun n0 => some (decide (n0 = 0))
noncomputable def b5M (N : Nat) : Cx := cxO [⟨19, W3 (G4 N)⟩] []
theorem b9q (N : Nat) (a y : _) : g8 (b5M N) Tryz.f30 [dY a, dY y] [] C4 = a4x N a y := by
 kernel_rfl
abbrev b9R (s : LB -> LB -> Option (Bool)) : Prop := ∀ {a y u}, s a y = some u -> PRT 30 [dY a, dY y] [dB u]
theorem c7X (s : LB -> LB -> Option (Bool)) (hs : b9R s) : EO ⟨30, a6U s⟩ := by
 refine ⟨d6 Tryz.func30 (by kernel_rfl) (c := d5 Tryz.f30) (by kernel_rfl), fun R ds K r h => ?_, fun R ds K => ?_⟩
 . simp only [a6U] at h
   split at h
   . obtain ⟨u, h1, h2⟩ := j4 h
     exact ⟨_, h2, hs h1⟩
   . cases h
 . simp only [a6U]
   split
   . rw [I8]; rfl
   . rfl
theorem c9c (N : Nat) : b9R (a4x N) := fun {a y u} h => q6 (cx := b5M N) (by kernel_rfl) (g7 ⟨a4n _ (a6p N), trivial⟩ trivial) Tryz.func30 (by kernel_rfl) (by kernel_rfl) (lz (by kernel_rfl)) (by rfl) (by rfl) (by rfl) (rf := C4) ((b9q ..).trans h) (fun rs' m h => by
 unfold C4 at h
 split at h
 . cases h; exact ⟨rfl, rfl⟩
 . cases h)
abbrev d4l := a0a (a0a (Option (Bool)))
noncomputable def a1h {R : Type} (s : d4l) (ds : List D) (K : List D -> Option R) : Option R :=
 match ds with
 | [.agg [.v (.int .i64 a) .no, .v (.int .i64 y) .no, .v (.int .i64 z) .no, .v (.int .i64 O) .no, .v (.bytes x4) .no, .v (.int .i64 x5) .no, .v (.bool x6) .no], .agg [.v (.int .i64 x7) .no, .v (.int .i64 x8) .no, .v (.int .i64 x9) .no, .v (.int .i64 xa) .no, .v (.bytes xb) .no, .v (.int .i64 xc) .no, .v (.bool xd) .no]] => d3 (s a y z O x4 x5 x6 x7 x8 x9 xa xb xc xd) fun u => K [dB u]
 | _ => none
noncomputable def w8 (N : Nat) (a y z O : Int) (x4 : LB) (x5 : Int) (x6 : Bool) (x7 x8 x9 xa : Int) (xb : LB) (xc : Int) (xd : Bool) : Option (Bool) := br (decide (a = x7)) (br (decide (y = x8)) (br (decide (z = x9)) (br (decide (O = xa)) (br (decide (x5 = xc)) (br (x6 == xd) (d3 (a4x N x4 xb) fun b0 => some b0) (some false)) (some false)) (some false)) (some false)) (some false)) (some false)
noncomputable def b4Z (N : Nat) : Cx := cxO [⟨30, a6U (a4x N)⟩] []
theorem c0P (N : Nat) (a y z O x4 x5 x6 x7 x8 x9 xa xb xc xd : _) : g8 (b4Z N) Tryz.f10 [g3a a y z O x4 x5 x6, g3a x7 x8 x9 xa xb xc xd] [] C4 = w8 N a y z O x4 x5 x6 x7 x8 x9 xa xb xc xd := by
 kernel_rfl
abbrev b8R (s : d4l) : Prop := ∀ {a y z O x4 x5 x6 x7 x8 x9 xa xb xc xd u}, s a y z O x4 x5 x6 x7 x8 x9 xa xb xc xd = some u -> PRT 10 [g3a a y z O x4 x5 x6, g3a x7 x8 x9 xa xb xc xd] [dB u]
theorem b4J (s : d4l) (hs : b8R s) : EO ⟨10, a1h s⟩ := by
 refine ⟨d6 Tryz.func10 (by kernel_rfl) (c := d5 Tryz.f10) (by kernel_rfl), fun R ds K r h => ?_, fun R ds K => ?_⟩
 . simp only [a1h] at h
   split at h
   . obtain ⟨u, h1, h2⟩ := j4 h
     exact ⟨_, h2, hs h1⟩
   . cases h
 . simp only [a1h]
   split
   . rw [I8]; rfl
   . rfl
theorem c0A (N : Nat) : b8R (w8 N) := fun {a y z O x4 x5 x6 x7 x8 x9 xa xb xc xd u} h => q6 (cx := b4Z N) (by kernel_rfl) (g7 ⟨c7X _ (c9c N), trivial⟩ trivial) Tryz.func10 (by kernel_rfl) (by kernel_rfl) (lz (by kernel_rfl)) (by rfl) (by rfl) (by rfl) (rf := C4) ((c0P ..).trans h) (fun rs' m h => by
 unfold C4 at h
 split at h
 . cases h; exact ⟨rfl, rfl⟩
 . cases h)
noncomputable def a5d {R : Type} (s : List V -> Option (LB)) (ds : List D) (K : List D -> Option R) : Option R :=
 match ds with
 | [.v (.sl 22 a) .no] => d3 (s a) fun u => K [dY u]
 | _ => none
noncomputable def a0O {R : Type} (N : Nat) (Bw : List V) (Lq : LB -> Int -> Option R) (K0 : LB -> Option R) (l1 : LB) (n2 : Int) : Option R := br (decide (n2 < (Bw.length : Int))) (br (decide (0 <= n2) && decide (n2 < (Bw.length : Int))) (at? Bw n2.toNat fun a => a.unBytes fun l1_1 => br (decide ((l1.length + l1_1.length) * 1 <= 140737488355328)) (Lq (l1 ++ l1_1) (GA.wrap (n2 + 1))) none) none) (K0 l1)
noncomputable def W0 {R : Type} (N : Nat) (Bw : List V) : Nat -> LB -> Int -> (LB -> Option R) -> Option R | 0, _, _, _ => none | t + 1, l1, n2, K0 => a0O N Bw (fun l1 n2 => W0 N Bw t l1 n2 K0) K0 l1 n2
noncomputable def a8Q {R : Type} (N : Nat) (ds : List D) (m : Mem) (K : Ex -> List D -> Mem -> Option R) : Option R :=
 match ds, m with
 | [(.v (.sl 22 Bw) .no), (.v (.bytes l1) (.own (.slot 3) 5)), (.v (.int .i64 n2) .no)], [[]] => W0 N Bw N l1 n2 (fun a0 => K (.exit 0) [(.v (.bytes a0) (.own (.slot 3) 5))] [[]])
 | _, _ => none
noncomputable def a1I (N : Nat) (a : List V) : Option (LB) := W0 N a N [] 0 fun l0 => some l0
noncomputable def a1c (N : Nat) : Cx := { T := T, isPure := a5S [], pureK := fun g ds K => a2y [] g ds K, memK := fun g dst ds m K => Y9 [] g dst ds m K, meth := a3N [], keep := fun r => match r with | 3 => [0, 3, 4] | _ => [], keepX := fun r => match r with | 3 => [3] | _ => [], loopT := fun r ds m K => match r with | 3 => a8Q N ds m K | _ => none, jumps := 9 }
theorem b6N {R : Type} (N : Nat) (Bw : List V) (l1 : LB) (n2 : Int) (L : List D -> Mem -> Option R) (K : Ex -> List D -> Mem -> Option R) :
 a0k (fun st K => codeK (a1c N) (G1 Tryz.f36 0) st K) 18 [0, 3, 4] [3] L [(.v (.sl 22 Bw) .no), (.v (.bytes l1) (.own (.slot 3) 5)), (dI n2)] [[]] K = a0O N Bw (fun l1 n2 => L [(.v (.sl 22 Bw) .no), (.v (.bytes l1) (.own (.slot 3) 5)), (dI n2)] [[]]) (fun a0 => K (.exit 0) [(.v (.bytes a0) (.own (.slot 3) 5))] [[]]) l1 n2 := by
 kernel_rfl
theorem a7k {R : Type} (N : Nat) (Bw : List V) (K : Ex -> List D -> Mem -> Option R) : ∀ (t : Nat) (l1 : LB) (n2 : Int),
 a0T (fun st K => codeK (a1c N) (G1 Tryz.f36 0) st K) 18 [0, 3, 4] [3] t [(.v (.sl 22 Bw) .no), (.v (.bytes l1) (.own (.slot 3) 5)), (dI n2)] [[]] K = W0 N Bw t l1 n2 (fun a0 => K (.exit 0) [(.v (.bytes a0) (.own (.slot 3) 5))] [[]])
 | 0, l1, n2 => rfl
 | t + 1, l1, n2 => (b6N N Bw l1 n2 _ K).trans (congrArg (fun L => a0O N Bw L (fun a0 => K (.exit 0) [(.v (.bytes a0) (.own (.slot 3) 5))] [[]]) l1 n2) (funext fun l1 => funext fun n2 => a7k N Bw K t l1 n2))
theorem c2r (N : Nat) (a : _) : g8 (a1c N) Tryz.f36 [.v (.sl 22 a) .no] [] Q5 = a1I N a := by
 kernel_rfl
abbrev c5a (s : List V -> Option (LB)) : Prop := ∀ {a u}, s a = some u -> PRT 36 [.v (.sl 22 a) .no] [dY u]
theorem d0E (s : List V -> Option (LB)) (hs : c5a s) : EO ⟨36, a5d s⟩ := by
 refine ⟨d6 Tryz.func36 (by kernel_rfl) (c := d5 Tryz.f36) (by kernel_rfl), fun R ds K r h => ?_, fun R ds K => ?_⟩
 . simp only [a5d] at h
   split at h
   . obtain ⟨u, h1, h2⟩ := j4 h
     exact ⟨_, h2, hs h1⟩
   . cases h
 . simp only [a5d]
   split
   . rw [I8]; rfl
   . rfl
theorem c9S (N : Nat) : CxOK Tryz.prog (a1c N) :=
 L2 (es := []) (me := []) (ms := []) a6l trivial trivial trivial rfl (fun _ _ _ _ => rfl) (fun _ _ _ _ _ _ => rfl) rfl
theorem c2z (N : Nat) : V4 (a1c N) 18 (G1 Tryz.f36 0) := by
 refine M0 (rid := 3) (by kernel_rfl) rfl rfl fun R ds m K r h => ?_
 have h : a8Q N ds m K = some r := h
 unfold a8Q at h
 split at h
 . exact ⟨N, Eq.trans (a7k ..) h⟩
 . cases h
theorem c9b (N : Nat) : v8 (a1c N) Tryz.f36.ntmps (d5 Tryz.f36) :=
 C1 (k := 1) (by kernel_rfl) ⟨trivial, c2z N⟩
theorem d2C (N : Nat) : c5a (a1I N) := fun {a u} h => q6 (cx := a1c N) (by kernel_rfl) (c9S N) Tryz.func36 (by kernel_rfl) (by kernel_rfl) (c9b N) (by rfl) (by rfl) (by rfl) (rf := Q5) ((c2r ..).trans h) (fun rs' m h => by
 unfold Q5 at h
 split at h
 . cases h; exact ⟨rfl, rfl⟩
 . cases h)
noncomputable def a3F {R : Type} (s : LB -> Int -> LB -> Int -> Option (Bool)) (ds : List D) (K : List D -> Option R) : Option R :=
 match ds with
 | [.agg [.v (.bytes a) .no, .v (.int .i64 y) .no], .agg [.v (.bytes z) .no, .v (.int .i64 O) .no]] => d3 (s a y z O) fun u => K [dB u]
 | _ => none
noncomputable def D2 (N : Nat) (a : LB) (y : Int) (z : LB) (O : Int) : Option (Bool) := br (decide (y = O)) (d3 (G4 N a z) fun n0 => some (decide (n0 = 0))) (some false)
noncomputable def c0F (N : Nat) : Cx := cxO [⟨19, W3 (G4 N)⟩] []
theorem c2t (N : Nat) (a y z O : _) : g8 (c0F N) Tryz.f11 [.agg [dY a, dI y], .agg [dY z, dI O]] [] C4 = D2 N a y z O := by
 kernel_rfl
abbrev c4S (s : LB -> Int -> LB -> Int -> Option (Bool)) : Prop := ∀ {a y z O u}, s a y z O = some u -> PRT 11 [.agg [dY a, dI y], .agg [dY z, dI O]] [dB u]
theorem c0D (s : LB -> Int -> LB -> Int -> Option (Bool)) (hs : c4S s) : EO ⟨11, a3F s⟩ := by
 refine ⟨d6 Tryz.func11 (by kernel_rfl) (c := d5 Tryz.f11) (by kernel_rfl), fun R ds K r h => ?_, fun R ds K => ?_⟩
 . simp only [a3F] at h
   split at h
   . obtain ⟨u, h1, h2⟩ := j4 h
     exact ⟨_, h2, hs h1⟩
   . cases h
 . simp only [a3F]
   split
   . rw [I8]; rfl
   . rfl
theorem c4B (N : Nat) : c4S (D2 N) := fun {a y z O u} h => q6 (cx := c0F N) (by kernel_rfl) (g7 ⟨a4n _ (a6p N), trivial⟩ trivial) Tryz.func11 (by kernel_rfl) (by kernel_rfl) (lz (by kernel_rfl)) (by rfl) (by rfl) (by rfl) (rf := C4) ((c2t ..).trans h) (fun rs' m h => by
 unfold C4 at h
 split at h
 . cases h; exact ⟨rfl, rfl⟩
 . cases h)
noncomputable def S1 {R : Type} (s : Int -> Option (LB)) (ds : List D) (K : List D -> Option R) : Option R :=
 match ds with
 | [.v (.int .i64 a) .no] => d3 (s a) fun u => K [dY u]
 | _ => none
noncomputable def A0 (N : Nat) (a : Int) : Option (LB) := some [Gz (GI.wrap (a2c GA a 8)).toNat, Gz (GI.wrap a).toNat]
noncomputable def b2G (N : Nat) : Cx := cxO [] []
theorem b7k (N : Nat) (a : _) : g8 (b2G N) Tryz.f62 [dI a] [] Q5 = A0 N a := by
 kernel_rfl
abbrev b4F (s : Int -> Option (LB)) : Prop := ∀ {a u}, s a = some u -> PRT 62 [dI a] [dY u]
theorem a5M (s : Int -> Option (LB)) (hs : b4F s) : EO ⟨62, S1 s⟩ := by
 refine ⟨d6 Tryz.func62 (by kernel_rfl) (c := d5 Tryz.f62) (by kernel_rfl), fun R ds K r h => ?_, fun R ds K => ?_⟩
 . simp only [S1] at h
   split at h
   . obtain ⟨u, h1, h2⟩ := j4 h
     exact ⟨_, h2, hs h1⟩
   . cases h
 . simp only [S1]
   split
   . rw [I8]; rfl
   . rfl
theorem a8T (N : Nat) : b4F (A0 N) := fun {a u} h => q6 (cx := b2G N) (by kernel_rfl) (g7 trivial trivial) Tryz.func62 (by kernel_rfl) (by kernel_rfl) (lz (by kernel_rfl)) (by rfl) (by rfl) (by rfl) (rf := Q5) ((b7k ..).trans h) (fun rs' m h => by
 unfold Q5 at h
 split at h
 . cases h; exact ⟨rfl, rfl⟩
 . cases h)
noncomputable def a2O {R : Type} (s : Int -> Option (Int)) (ds : List D) (K : List D -> Option R) : Option R :=
 match ds with
 | [.v (.int .i64 a) .no] => d3 (s a) fun u => K [dI u]
 | _ => none
noncomputable def D3 (N : Nat) (a : Int) : Option (Int) := br (decide (a = 0)) (some 256) (some a)
noncomputable def b6o (N : Nat) : Cx := cxO [] []
theorem c0R (N : Nat) (a : _) : g8 (b6o N) Tryz.f78 [dI a] [] E0 = D3 N a := by
 kernel_rfl
abbrev c0x (s : Int -> Option (Int)) : Prop := ∀ {a u}, s a = some u -> PRT 78 [dI a] [dI u]
theorem a8n (s : Int -> Option (Int)) (hs : c0x s) : EO ⟨78, a2O s⟩ := by
 refine ⟨d6 Tryz.func78 (by kernel_rfl) (c := d5 Tryz.f78) (by kernel_rfl), fun R ds K r h => ?_, fun R ds K => ?_⟩
 . simp only [a2O] at h
   split at h
   . obtain ⟨u, h1, h2⟩ := j4 h
     exact ⟨_, h2, hs h1⟩
   . cases h
 . simp only [a2O]
   split
   . rw [I8]; rfl
   . rfl
theorem b2q (N : Nat) : c0x (D3 N) := fun {a u} h => q6 (cx := b6o N) (by kernel_rfl) (g7 trivial trivial) Tryz.func78 (by kernel_rfl) (by kernel_rfl) (lz (by kernel_rfl)) (by rfl) (by rfl) (by rfl) (rf := E0) ((c0R ..).trans h) (fun rs' m h => by
 unfold E0 at h
 split at h
 . cases h; exact ⟨rfl, rfl⟩
 . cases h)
noncomputable def a7Z {R : Type} (s : LB -> Option (Int × Int × Int × Int × Int)) (ds : List D) (K : List D -> Option R) : Option R :=
 match ds with
 | [.v (.bytes a) .no] => T3 (s a) fun u r1 r2 r3 r4 => K [.agg [dI u, dI r1, dI r2, dI r3, dI r4]]
 | _ => none
noncomputable def b1v (rs : List D) (_ : Mem) : Option (Int × Int × Int × Int × Int) :=
 match rs with
 | [.agg [.v (.int .i64 u) _, .v (.int .i64 r1) _, .v (.int .i64 r2) _, .v (.int .i64 r3) _, .v (.int .i64 r4) _]] => some (u, r1, r2, r3, r4)
 | _ => none
noncomputable def a2z (N : Nat) (a : LB) : Option (Int × Int × Int × Int × Int) := br (decide (0 < (a.length : Int))) (at? a 0 fun u0 => br (decide (1 < (a.length : Int))) (at? a 1 fun u1 => br (decide (2 < (a.length : Int))) (at? a 2 fun u2 => br (decide (3 < (a.length : Int))) (at? a 3 fun u3 => br (decide (4 < (a.length : Int))) (at? a 4 fun u4 => some (GA.wrap (u0.toNat : Int), GA.wrap (u1.toNat : Int), GA.wrap (u2.toNat : Int), GA.wrap (u3.toNat : Int), GA.wrap (u4.toNat : Int))) none) none) none) none) none
noncomputable def b5W (N : Nat) : Cx := cxO [] []
theorem c0i (N : Nat) (a : _) : g8 (b5W N) Tryz.f73 [dY a] [] b1v = a2z N a := by
 kernel_rfl
abbrev c0q (s : LB -> Option (Int × Int × Int × Int × Int)) : Prop := ∀ {a u r1 r2 r3 r4}, s a = some (u, r1, r2, r3, r4) -> PRT 73 [dY a] [.agg [dI u, dI r1, dI r2, dI r3, dI r4]]
theorem c6Z (s : LB -> Option (Int × Int × Int × Int × Int)) (hs : c0q s) : EO ⟨73, a7Z s⟩ := by
 refine ⟨d6 Tryz.func73 (by kernel_rfl) (c := d5 Tryz.f73) (by kernel_rfl), fun R ds K r h => ?_, fun R ds K => ?_⟩
 . simp only [a7Z] at h
   split at h
   . obtain ⟨u, r1, r2, r3, r4, h1, h2⟩ := O4 h
     exact ⟨_, h2, hs h1⟩
   . cases h
 . simp only [a7Z]
   split
   . rw [c3X]; rfl
   . rfl
theorem c9O (N : Nat) : c0q (a2z N) := fun {a u r1 r2 r3 r4} h => q6 (cx := b5W N) (by kernel_rfl) (g7 trivial trivial) Tryz.func73 (by kernel_rfl) (by kernel_rfl) (lz (by kernel_rfl)) (by rfl) (by rfl) (by rfl) (rf := b1v) ((c0i ..).trans h) (fun rs' m h => by
 unfold b1v at h
 split at h
 . cases h; exact ⟨rfl, rfl⟩
 . cases h)
abbrev d2K := a8f (Option (Bool))
abbrev g5a (a0 : List Int) (a1 : Int) (a2 : Nat) (a3 : LB) (a4 a5 a6 a7 a8 a9 Az AJ Br : Int) (AK : LB) (AR : Int) (Bu Bv : Bool) (AS : LB) (An : Int) : Bx := ⟨102, [.v (.mset a0) .no, .fn a1 [59, 76] 0 a2, .v (.bytes a3) (.own (.slot 0) 5), dI a4, dI a5, dI a6, dI a7, dI a8, dI a9, dI Az, dI AJ, dI Br, dY AK, dI AR, dB Bu, dB Bv, dY AS, dI An]⟩
noncomputable def a1m {R : Type} (s : d2K) (dst : Nat) (ds : List D) (m : Mem) (K : List D -> Mem -> Option R) : Option R :=
 match ds with
 | [.ptr (Ac + 1) Ab 0] => u9 [(Ac, Ab)] m fun Bs => (match Bs with
   | [⟨102, [.v (.mset b) .no, .fn f [59, 76] 0 Au, .v (.bytes i) (.own (.slot 0) 5), .v (.int .i64 d) .no, .v (.int .i64 l) .no, .v (.int .i64 n) .no, .v (.int .i64 e) .no, .v (.int .i64 p) .no, .v (.int .i64 j) .no, .v (.int .i64 o) .no, .v (.int .i64 q) .no, .v (.int .i64 w) .no, .v (.bytes Aa) .no, .v (.int .i64 x) .no, .v (.bool S) .no, .v (.bool U) .no, .v (.bytes yg) .no, .v (.int .i64 Z) .no]⟩] => cond (GR Ab Au) (d3 (s b f i d l n e p j o q w Aa x S U yg Z) fun u => j3 [(Ac, Ab)] [g5a b f Ab i d l n e p j o q w Aa x S U yg Z] m fun m' => K [dB u] m') none
   | _ => none)
 | _ => none
noncomputable def b2F {α : Type} (K : Bool -> a8f (Option α)) (rs : List D) (m : Mem) : Option α :=
 match rs, m with
 | [.v (.bool u) _], [_, [(0, ⟨102, [.v (.mset z0) .no, .fn z1 [59, 76] 0 0, .v (.bytes z2) (.own (.slot 0) 5), .v (.int .i64 z3) .no, .v (.int .i64 z4) .no, .v (.int .i64 z5) .no, .v (.int .i64 z6) .no, .v (.int .i64 z7) .no, .v (.int .i64 z8) .no, .v (.int .i64 z9) .no, .v (.int .i64 za) .no, .v (.int .i64 zb) .no, .v (.bytes zc) .no, .v (.int .i64 zd) .no, .v (.bool ze) .no, .v (.bool zf) .no, .v (.bytes zg) .no, .v (.int .i64 zh) .no]⟩)]] => K u z0 z1 z2 z3 z4 z5 z6 z7 z8 z9 za zb zc zd ze zf zg zh
 | _, _ => none
noncomputable def a2n {R : Type} (N : Nat) (b : List Int) (f : Int) (i : LB) (d l n e p j o q w : Int) (Aa : LB) (x : Int) (S U : Bool) (yg : LB) (Z : Int) (K0 : Bool -> Option R) : Option R := K0 true
noncomputable def L0 (N : Nat) : d2K := fun b f i d l n e p j o q w Aa x S U yg Z => a2n N b f i d l n e p j o q w Aa x S U yg Z (fun u => some u)
noncomputable def b6a (N : Nat) : Cx := cxO [] []
theorem c1X {R : Type} (N : Nat) (b f i d l n e p j o q w Aa x S U yg Z K : _) : g8 (R := R) (b6a N) Tryz.f61 [.ptr 1 0 0] [C0 0 [g5a b f 0 i d l n e p j o q w Aa x S U yg Z]] (b2F K) = a2n N b f i d l n e p j o q w Aa x S U yg Z (fun u => K u b f i d l n e p j o q w Aa x S U yg Z) := by
 kernel_rfl
abbrev b8X (s : d2K) : Prop := ∀ {b f i d l n e p j o q w Aa x S U yg Z u}, s b f i d l n e p j o q w Aa x S U yg Z = some u -> VR2 61 [.ptr 1 0 0] [g5a b f 0 i d l n e p j o q w Aa x S U yg Z] [dB u] [g5a b f 0 i d l n e p j o q w Aa x S U yg Z]
theorem a8y (s : d2K) (hs : b8X s) : MEO ⟨61, a1m s⟩ := by
 refine ⟨d6 Tryz.func61 (by kernel_rfl) (c := d5 Tryz.f61) (by kernel_rfl), fun R dst ds m K r h => ?_⟩
 simp only [a1m] at h
 split at h
 . obtain ⟨Bs, a1, a2, a3, h⟩ := g4 h
   split at h
   . rcases g5 h with ⟨hc, hk⟩ | ⟨_, hk⟩
     . have hc := GE hc
       subst hc
       obtain ⟨u, h1, h2⟩ := j4 hk
       rw [d9] at h2
       exact ⟨_, _, h2, hs h1 _ _ m dst _ _ a1 a2 a3 rfl rfl ⟨g6 _ rfl, trivial⟩ (j6 (m8 rfl (by repeat (first | exact trivial | refine ⟨by first | exact .inl ⟨rfl, rfl⟩ | exact .inr ⟨_, _, rfl, rfl⟩, ?_⟩)))) (j6 (m8 rfl (by repeat (first | exact trivial | refine ⟨by first | exact .inl ⟨rfl, rfl⟩ | exact .inr ⟨_, _, rfl, rfl⟩, ?_⟩))))⟩
     . cases hk
   . cases h
 . cases h
open Classical in
theorem b0W (N : Nat) : b8X (L0 N) := fun {b f i d l n e p j o q w Aa x S U yg Z u} h => by
 refine E6 (cx := b6a N) (by kernel_rfl) (g7 trivial trivial) Tryz.func61 (by kernel_rfl) (by kernel_rfl) (lz (by kernel_rfl)) (by rfl) (rf := b2F (fun Ae Z0 Z1 Z2 Z3 Z4 Z5 Z6 Z7 Z8 Z9 Za Zb Zc Zd Ze Zf Zg Zh => if Z0 = b /\ Z1 = f /\ Z2 = i /\ Z3 = d /\ Z4 = l /\ Z5 = n /\ Z6 = e /\ Z7 = p /\ Z8 = j /\ Z9 = o /\ Za = q /\ Zb = w /\ Zc = Aa /\ Zd = x /\ Ze = S /\ Zf = U /\ Zg = yg /\ Zh = Z then some Ae else none)) (r := u) ?_ ?_
 . exact (c1X ..).trans ((congrArg (a2n N b f i d l n e p j o q w Aa x S U yg Z) (by funext; exact if_pos (by simp))).trans h)
 . intro rs' m' hx
   unfold b2F at hx
   split at hx
   . dsimp only at hx
     split at hx
     . rename_i hk
       obtain ⟨rfl, rfl, rfl, rfl, rfl, rfl, rfl, rfl, rfl, rfl, rfl, rfl, rfl, rfl, rfl, rfl, rfl, rfl⟩ := hk
       cases hx; exact ⟨rfl, rfl, _, rfl⟩
     . cases hx
   . cases hx
abbrev d1n := Int -> a8f (Option (LB))
noncomputable def a2D {R : Type} (s : d1n) (dst : Nat) (ds : List D) (m : Mem) (K : List D -> Mem -> Option R) : Option R :=
 match ds with
 | [.ptr (Ac + 1) Ab 0, .v (.int .i64 a) .no] => u9 [(Ac, Ab)] m fun Bs => (match Bs with
   | [⟨102, [.v (.mset b) .no, .fn f [59, 76] 0 Au, .v (.bytes i) (.own (.slot 0) 5), .v (.int .i64 d) .no, .v (.int .i64 l) .no, .v (.int .i64 n) .no, .v (.int .i64 e) .no, .v (.int .i64 p) .no, .v (.int .i64 j) .no, .v (.int .i64 o) .no, .v (.int .i64 q) .no, .v (.int .i64 w) .no, .v (.bytes Aa) .no, .v (.int .i64 x) .no, .v (.bool S) .no, .v (.bool U) .no, .v (.bytes yg) .no, .v (.int .i64 Z) .no]⟩] => cond (GR Ab Au) (d3 (s a b f i d l n e p j o q w Aa x S U yg Z) fun u => j3 [(Ac, Ab)] [g5a b f Ab i d l n e p j o q w Aa x S U yg Z] m fun m' => K [dY u] m') none
   | _ => none)
 | _ => none
noncomputable def A9 {α : Type} (K : LB -> a8f (Option α)) (rs : List D) (m : Mem) : Option α :=
 match rs, m with
 | [.v (.bytes u) _], [_, [(0, ⟨102, [.v (.mset z0) .no, .fn z1 [59, 76] 0 0, .v (.bytes z2) (.own (.slot 0) 5), .v (.int .i64 z3) .no, .v (.int .i64 z4) .no, .v (.int .i64 z5) .no, .v (.int .i64 z6) .no, .v (.int .i64 z7) .no, .v (.int .i64 z8) .no, .v (.int .i64 z9) .no, .v (.int .i64 za) .no, .v (.int .i64 zb) .no, .v (.bytes zc) .no, .v (.int .i64 zd) .no, .v (.bool ze) .no, .v (.bool zf) .no, .v (.bytes zg) .no, .v (.int .i64 zh) .no]⟩)]] => K u z0 z1 z2 z3 z4 z5 z6 z7 z8 z9 za zb zc zd ze zf zg zh
 | _, _ => none
noncomputable def a4Y {R : Type} (N : Nat) (a : Int) (b : List Int) (f : Int) (i : LB) (d l n e p j o q w : Int) (Aa : LB) (x : Int) (S U : Bool) (yg : LB) (Z : Int) (K0 : LB -> Option R) : Option R := br (decide (256 <= (yg.length : Int))) (K0 [Gz (GI.wrap a).toNat, Gz (GI.wrap 0).toNat]) (K0 [Gz (GI.wrap a).toNat, Gz (GI.wrap (yg.length : Int)).toNat])
noncomputable def L6 (N : Nat) : d1n := fun a b f i d l n e p j o q w Aa x S U yg Z => a4Y N a b f i d l n e p j o q w Aa x S U yg Z (fun u => some u)
noncomputable def b2t (N : Nat) : Cx := cxO [] []
theorem b8C {R : Type} (N : Nat) (a b f i d l n e p j o q w Aa x S U yg Z K : _) : g8 (R := R) (b2t N) Tryz.f64 [.ptr 1 0 0, dI a] [C0 0 [g5a b f 0 i d l n e p j o q w Aa x S U yg Z]] (A9 K) = a4Y N a b f i d l n e p j o q w Aa x S U yg Z (fun u => K u b f i d l n e p j o q w Aa x S U yg Z) := by
 kernel_rfl
abbrev b4P (s : d1n) : Prop := ∀ {a b f i d l n e p j o q w Aa x S U yg Z u}, s a b f i d l n e p j o q w Aa x S U yg Z = some u -> VR2 64 [.ptr 1 0 0, dI a] [g5a b f 0 i d l n e p j o q w Aa x S U yg Z] [dY u] [g5a b f 0 i d l n e p j o q w Aa x S U yg Z]
theorem b2B (s : d1n) (hs : b4P s) : MEO ⟨64, a2D s⟩ := by
 refine ⟨d6 Tryz.func64 (by kernel_rfl) (c := d5 Tryz.f64) (by kernel_rfl), fun R dst ds m K r h => ?_⟩
 simp only [a2D] at h
 split at h
 . obtain ⟨Bs, a1, a2, a3, h⟩ := g4 h
   split at h
   . rcases g5 h with ⟨hc, hk⟩ | ⟨_, hk⟩
     . have hc := GE hc
       subst hc
       obtain ⟨u, h1, h2⟩ := j4 hk
       rw [d9] at h2
       exact ⟨_, _, h2, hs h1 _ _ m dst _ _ a1 a2 a3 rfl rfl ⟨g6 _ rfl, d7 _, trivial⟩ (j6 (m8 rfl (by repeat (first | exact trivial | refine ⟨by first | exact .inl ⟨rfl, rfl⟩ | exact .inr ⟨_, _, rfl, rfl⟩, ?_⟩)))) (j6 (m8 rfl (by repeat (first | exact trivial | refine ⟨by first | exact .inl ⟨rfl, rfl⟩ | exact .inr ⟨_, _, rfl, rfl⟩, ?_⟩))))⟩
     . cases hk
   . cases h
 . cases h
open Classical in
theorem b5V (N : Nat) : b4P (L6 N) := fun {a b f i d l n e p j o q w Aa x S U yg Z u} h => by
 refine E6 (cx := b2t N) (by kernel_rfl) (g7 trivial trivial) Tryz.func64 (by kernel_rfl) (by kernel_rfl) (lz (by kernel_rfl)) (by rfl) (rf := A9 (fun Ae Z0 Z1 Z2 Z3 Z4 Z5 Z6 Z7 Z8 Z9 Za Zb Zc Zd Ze Zf Zg Zh => if Z0 = b /\ Z1 = f /\ Z2 = i /\ Z3 = d /\ Z4 = l /\ Z5 = n /\ Z6 = e /\ Z7 = p /\ Z8 = j /\ Z9 = o /\ Za = q /\ Zb = w /\ Zc = Aa /\ Zd = x /\ Ze = S /\ Zf = U /\ Zg = yg /\ Zh = Z then some Ae else none)) (r := u) ?_ ?_
 . exact (b8C ..).trans ((congrArg (a4Y N a b f i d l n e p j o q w Aa x S U yg Z) (by funext; exact if_pos (by simp))).trans h)
 . intro rs' m' hx
   unfold A9 at hx
   split at hx
   . dsimp only at hx
     split at hx
     . rename_i hk
       obtain ⟨rfl, rfl, rfl, rfl, rfl, rfl, rfl, rfl, rfl, rfl, rfl, rfl, rfl, rfl, rfl, rfl, rfl, rfl⟩ := hk
       cases hx; exact ⟨rfl, rfl, _, rfl⟩
     . cases hx
   . cases hx
abbrev d2A := LB -> Int -> a8f (Option (Int × Int × Int × Int × Int × LB × Int × Bool))
noncomputable def a4L {R : Type} (s : d2A) (dst : Nat) (ds : List D) (m : Mem) (K : List D -> Mem -> Option R) : Option R :=
 match ds with
 | [.ptr (Ac + 1) Ab 0, .v (.bytes a) .no, .v (.int .i64 y) .no] => u9 [(Ac, Ab)] m fun Bs => (match Bs with
   | [⟨102, [.v (.mset b) .no, .fn f [59, 76] 0 Au, .v (.bytes i) (.own (.slot 0) 5), .v (.int .i64 d) .no, .v (.int .i64 l) .no, .v (.int .i64 n) .no, .v (.int .i64 e) .no, .v (.int .i64 p) .no, .v (.int .i64 j) .no, .v (.int .i64 o) .no, .v (.int .i64 q) .no, .v (.int .i64 w) .no, .v (.bytes Aa) .no, .v (.int .i64 x) .no, .v (.bool S) .no, .v (.bool U) .no, .v (.bytes yg) .no, .v (.int .i64 Z) .no]⟩] => cond (GR Ab Au) (H9 (s a y b f i d l n e p j o q w Aa x S U yg Z) fun z1 z8 z9 za zb zc zd ze => j3 [(Ac, Ab)] [g5a b z1 Ab i d l n e p z8 z9 za zb zc zd ze U yg Z] m fun m' => K [] m') none
   | _ => none)
 | _ => none
noncomputable def a8Y {α : Type} (K : a8f (Option α)) (rs : List D) (m : Mem) : Option α :=
 match rs, m with
 | [], [_, [(0, ⟨102, [.v (.mset z0) .no, .fn z1 [59, 76] 0 0, .v (.bytes z2) (.own (.slot 0) 5), .v (.int .i64 z3) .no, .v (.int .i64 z4) .no, .v (.int .i64 z5) .no, .v (.int .i64 z6) .no, .v (.int .i64 z7) .no, .v (.int .i64 z8) .no, .v (.int .i64 z9) .no, .v (.int .i64 za) .no, .v (.int .i64 zb) .no, .v (.bytes zc) .no, .v (.int .i64 zd) .no, .v (.bool ze) .no, .v (.bool zf) .no, .v (.bytes zg) .no, .v (.int .i64 zh) .no]⟩)]] => K z0 z1 z2 z3 z4 z5 z6 z7 z8 z9 za zb zc zd ze zf zg zh
 | _, _ => none
noncomputable def a8q {R : Type} (N : Nat) (a : LB) (y : Int) (b : List Int) (f : Int) (i : LB) (d l n e p j o q w : Int) (Aa : LB) (x : Int) (S U : Bool) (yg : LB) (Z : Int) (K0 : Int -> a0a (Option R)) : Option R := K0 0 d l n e a y false
noncomputable def q9 (N : Nat) : d2A := fun a y b f i d l n e p j o q w Aa x S U yg Z => a8q N a y b f i d l n e p j o q w Aa x S U yg Z (fun z1 z8 z9 za zb zc zd ze => some (z1, z8, z9, za, zb, zc, zd, ze))
noncomputable def b2P (N : Nat) : Cx := cxO [] []
theorem b6U {R : Type} (N : Nat) (a y b f i d l n e p j o q w Aa x S U yg Z K : _) : g8 (R := R) (b2P N) Tryz.f77 [.ptr 1 0 0, dY a, dI y] [C0 0 [g5a b f 0 i d l n e p j o q w Aa x S U yg Z]] (a8Y K) = a8q N a y b f i d l n e p j o q w Aa x S U yg Z (fun z1 z8 z9 za zb zc zd ze => K b z1 i d l n e p z8 z9 za zb zc zd ze U yg Z) := by
 kernel_rfl
abbrev b5B (s : d2A) : Prop := ∀ {a y b f i d l n e p j o q w Aa x S U yg Z z1 z8 z9 za zb zc zd ze}, s a y b f i d l n e p j o q w Aa x S U yg Z = some (z1, z8, z9, za, zb, zc, zd, ze) -> VR2 77 [.ptr 1 0 0, dY a, dI y] [g5a b f 0 i d l n e p j o q w Aa x S U yg Z] [] [g5a b z1 0 i d l n e p z8 z9 za zb zc zd ze U yg Z]
theorem b2o (s : d2A) (hs : b5B s) : MEO ⟨77, a4L s⟩ := by
 refine ⟨d6 Tryz.func77 (by kernel_rfl) (c := d5 Tryz.f77) (by kernel_rfl), fun R dst ds m K r h => ?_⟩
 simp only [a4L] at h
 split at h
 . obtain ⟨Bs, a1, a2, a3, h⟩ := g4 h
   split at h
   . rcases g5 h with ⟨hc, hk⟩ | ⟨_, hk⟩
     . have hc := GE hc
       subst hc
       obtain ⟨z1, z8, z9, za, zb, zc, zd, ze, h1, h2⟩ := O3 hk
       rw [d9] at h2
       exact ⟨_, _, h2, hs h1 _ _ m dst _ _ a1 a2 a3 rfl rfl ⟨g6 _ rfl, d7 _, d7 _, trivial⟩ (j6 (m8 rfl (by repeat (first | exact trivial | refine ⟨by first | exact .inl ⟨rfl, rfl⟩ | exact .inr ⟨_, _, rfl, rfl⟩, ?_⟩)))) (j6 (m8 rfl (by repeat (first | exact trivial | refine ⟨by first | exact .inl ⟨rfl, rfl⟩ | exact .inr ⟨_, _, rfl, rfl⟩, ?_⟩))))⟩
     . cases hk
   . cases h
 . cases h
open Classical in
theorem b5v (N : Nat) : b5B (q9 N) := fun {a y b f i d l n e p j o q w Aa x S U yg Z z1 z8 z9 za zb zc zd ze} h => by
 refine E6 (cx := b2P N) (by kernel_rfl) (g7 trivial trivial) Tryz.func77 (by kernel_rfl) (by kernel_rfl) (lz (by kernel_rfl)) (by rfl) (rf := a8Y (fun Z0 Z1 Z2 Z3 Z4 Z5 Z6 Z7 Z8 Z9 Za Zb Zc Zd Ze Zf Zg Zh => if Z0 = b /\ Z2 = i /\ Z3 = d /\ Z4 = l /\ Z5 = n /\ Z6 = e /\ Z7 = p /\ Zf = U /\ Zg = yg /\ Zh = Z then some (Z1, Z8, Z9, Za, Zb, Zc, Zd, Ze) else none)) (r := (z1, z8, z9, za, zb, zc, zd, ze)) ?_ ?_
 . exact (b6U ..).trans ((congrArg (a8q N a y b f i d l n e p j o q w Aa x S U yg Z) (by funext; exact if_pos (by simp))).trans h)
 . intro rs' m' hx
   unfold a8Y at hx
   split at hx
   . dsimp only at hx
     split at hx
     . rename_i hk
       obtain ⟨rfl, rfl, rfl, rfl, rfl, rfl, rfl, rfl, rfl, rfl⟩ := hk
       cases hx; exact ⟨rfl, rfl, _, rfl⟩
     . cases hx
   . cases hx
abbrev d1J := Int -> a8f (Option (LB × Int × LB × Int × Int × Int × Int × LB × Int × Bool))
noncomputable def a1p {R : Type} (s : d1J) (dst : Nat) (ds : List D) (m : Mem) (K : List D -> Mem -> Option R) : Option R :=
 match ds with
 | [.ptr (Ac + 1) Ab 0, .v (.int .u8 a) .no] => u9 [(Ac, Ab)] m fun Bs => (match Bs with
   | [⟨102, [.v (.mset b) .no, .fn f [59, 76] 0 Au, .v (.bytes i) (.own (.slot 0) 5), .v (.int .i64 d) .no, .v (.int .i64 l) .no, .v (.int .i64 n) .no, .v (.int .i64 e) .no, .v (.int .i64 p) .no, .v (.int .i64 j) .no, .v (.int .i64 o) .no, .v (.int .i64 q) .no, .v (.int .i64 w) .no, .v (.bytes Aa) .no, .v (.int .i64 x) .no, .v (.bool S) .no, .v (.bool U) .no, .v (.bytes yg) .no, .v (.int .i64 Z) .no]⟩] => cond (GR Ab Au) (a5D (s a b f i d l n e p j o q w Aa x S U yg Z) fun u z1 z2 z8 z9 za zb zc zd ze => j3 [(Ac, Ab)] [g5a b z1 Ab z2 d l n e p z8 z9 za zb zc zd ze U yg Z] m fun m' => K [dY u] m') none
   | _ => none)
 | _ => none
noncomputable def a1H {R : Type} (N : Nat) (a : Int) (b : List Int) (f : Int) (i : LB) (d l n e p j o q w : Int) (Aa : LB) (x : Int) (S U : Bool) (yg : LB) (Z : Int) (K0 : LB -> Int -> LB -> a0a (Option R)) : Option R := br (decide ((i.length + [Gz a.toNat].length) * 1 <= 140737488355328)) (br (decide (((i ++ [Gz a.toNat]).length : Int) = p)) (H9 (q9 N (i ++ [Gz a.toNat]) 256 b f [] d l n e p j o q w Aa x S U yg Z) fun n0 n1 n2 n3 n4 l5 n6 b7 => K0 [] n0 [] n1 n2 n3 n4 l5 n6 b7) (K0 [] f (i ++ [Gz a.toNat]) j o q w Aa x S)) none
noncomputable def a0h (N : Nat) : d1J := fun a b f i d l n e p j o q w Aa x S U yg Z => a1H N a b f i d l n e p j o q w Aa x S U yg Z (fun u z1 z2 z8 z9 za zb zc zd ze => some (u, z1, z2, z8, z9, za, zb, zc, zd, ze))
noncomputable def a6G (N : Nat) : Cx := cxO [] [⟨77, a4L (q9 N)⟩]
theorem b2U {R : Type} (N : Nat) (a b f i d l n e p j o q w Aa x S U yg Z K : _) : g8 (R := R) (a6G N) Tryz.f76 [.ptr 1 0 0, .v (.int .u8 a) .no] [C0 0 [g5a b f 0 i d l n e p j o q w Aa x S U yg Z]] (A9 K) = a1H N a b f i d l n e p j o q w Aa x S U yg Z (fun u z1 z2 z8 z9 za zb zc zd ze => K u b z1 z2 d l n e p z8 z9 za zb zc zd ze U yg Z) := by
 kernel_rfl
abbrev a9q (s : d1J) : Prop := ∀ {a b f i d l n e p j o q w Aa x S U yg Z u z1 z2 z8 z9 za zb zc zd ze}, s a b f i d l n e p j o q w Aa x S U yg Z = some (u, z1, z2, z8, z9, za, zb, zc, zd, ze) -> VR2 76 [.ptr 1 0 0, .v (.int .u8 a) .no] [g5a b f 0 i d l n e p j o q w Aa x S U yg Z] [dY u] [g5a b z1 0 z2 d l n e p z8 z9 za zb zc zd ze U yg Z]
theorem b7B (s : d1J) (hs : a9q s) : MEO ⟨76, a1p s⟩ := by
 refine ⟨d6 Tryz.func76 (by kernel_rfl) (c := d5 Tryz.f76) (by kernel_rfl), fun R dst ds m K r h => ?_⟩
 simp only [a1p] at h
 split at h
 . obtain ⟨Bs, a1, a2, a3, h⟩ := g4 h
   split at h
   . rcases g5 h with ⟨hc, hk⟩ | ⟨_, hk⟩
     . have hc := GE hc
       subst hc
       obtain ⟨u, z1, z2, z8, z9, za, zb, zc, zd, ze, h1, h2⟩ := b2L hk
       rw [d9] at h2
       exact ⟨_, _, h2, hs h1 _ _ m dst _ _ a1 a2 a3 rfl rfl ⟨g6 _ rfl, d7 _, trivial⟩ (j6 (m8 rfl (by repeat (first | exact trivial | refine ⟨by first | exact .inl ⟨rfl, rfl⟩ | exact .inr ⟨_, _, rfl, rfl⟩, ?_⟩)))) (j6 (m8 rfl (by repeat (first | exact trivial | refine ⟨by first | exact .inl ⟨rfl, rfl⟩ | exact .inr ⟨_, _, rfl, rfl⟩, ?_⟩))))⟩
     . cases hk
   . cases h
 . cases h
open Classical in
theorem c2f (N : Nat) : a9q (a0h N) := fun {a b f i d l n e p j o q w Aa x S U yg Z u z1 z2 z8 z9 za zb zc zd ze} h => by
 refine E6 (cx := a6G N) (by kernel_rfl) (g7 trivial ⟨b2o _ (b5v N), trivial⟩) Tryz.func76 (by kernel_rfl) (by kernel_rfl) (lz (by kernel_rfl)) (by rfl) (rf := A9 (fun Ae Z0 Z1 Z2 Z3 Z4 Z5 Z6 Z7 Z8 Z9 Za Zb Zc Zd Ze Zf Zg Zh => if Z0 = b /\ Z3 = d /\ Z4 = l /\ Z5 = n /\ Z6 = e /\ Z7 = p /\ Zf = U /\ Zg = yg /\ Zh = Z then some (Ae, Z1, Z2, Z8, Z9, Za, Zb, Zc, Zd, Ze) else none)) (r := (u, z1, z2, z8, z9, za, zb, zc, zd, ze)) ?_ ?_
 . exact (b2U ..).trans ((congrArg (a1H N a b f i d l n e p j o q w Aa x S U yg Z) (by funext; exact if_pos (by simp))).trans h)
 . intro rs' m' hx
   unfold A9 at hx
   split at hx
   . dsimp only at hx
     split at hx
     . rename_i hk
       obtain ⟨rfl, rfl, rfl, rfl, rfl, rfl, rfl, rfl, rfl⟩ := hk
       cases hx; exact ⟨rfl, rfl, _, rfl⟩
     . cases hx
   . cases hx
abbrev d1R := Int -> Int -> Int -> Int -> Int -> a8f (Option (LB × LB × Int))
noncomputable def b2N {R : Type} (s : d1R) (dst : Nat) (ds : List D) (m : Mem) (K : List D -> Mem -> Option R) : Option R :=
 match ds with
 | [.ptr (Ac + 1) Ab 0, .agg [.v (.int .i64 a) .no, .v (.int .i64 y) .no, .v (.int .i64 z) .no, .v (.int .i64 O) .no, .v (.int .i64 x4) .no]] => u9 [(Ac, Ab)] m fun Bs => (match Bs with
   | [⟨102, [.v (.mset b) .no, .fn f [59, 76] 0 Au, .v (.bytes i) (.own (.slot 0) 5), .v (.int .i64 d) .no, .v (.int .i64 l) .no, .v (.int .i64 n) .no, .v (.int .i64 e) .no, .v (.int .i64 p) .no, .v (.int .i64 j) .no, .v (.int .i64 o) .no, .v (.int .i64 q) .no, .v (.int .i64 w) .no, .v (.bytes Aa) .no, .v (.int .i64 x) .no, .v (.bool S) .no, .v (.bool U) .no, .v (.bytes yg) .no, .v (.int .i64 Z) .no]⟩] => cond (GR Ab Au) (a3n (s a y z O x4 b f i d l n e p j o q w Aa x S U yg Z) fun u zg zh => j3 [(Ac, Ab)] [g5a b f Ab i d l n e p j o q w Aa x S U zg zh] m fun m' => K [dY u] m') none
   | _ => none)
 | _ => none
noncomputable def a7M {R : Type} (N : Nat) (a y z O x4 : Int) (b : List Int) (f : Int) (i : LB) (d l n e p j o q w : Int) (Aa : LB) (x : Int) (S U : Bool) (yg : LB) (Z : Int) (K0 : LB -> LB -> Int -> Option R) : Option R := d3 (D3 N x4) fun n0 => br (!decide (z = 0)) (d3 (A0 N 27270) fun l1 => K0 l1 yg Z) (br (!decide (O = 0)) (d3 (A0 N 27270) fun l2 => K0 l2 yg Z) (br (decide (Z = 0)) (d3 (A0 N 27013) fun l3 => K0 l3 yg Z) (br (decide ((yg.length : Int) < n0)) (d3 (L6 N 108 b f i d l n e p j o q w Aa x S U yg Z) fun l4 => K0 l4 yg Z) (br (decide (0 <= n0) && decide (n0 <= (yg.length : Int))) (br (decide ((1 + (Ig n0.toNat yg).length) * 1 <= 140737488355328)) (br (decide (0 <= n0) && decide (n0 <= (yg.length : Int))) (br (decide (0 < ((GU n0.toNat yg).length : Int))) (d3 (L6 N 97 b f i d l n e p j o q w Aa x S U (GU n0.toNat yg) Z) fun l5 => br (decide ((([Gz (Int.toNat 192)] ++ Ig n0.toNat yg).length + l5.length) * 1 <= 140737488355328)) (K0 ([Gz (Int.toNat 192)] ++ Ig n0.toNat yg ++ l5) (GU n0.toNat yg) Z) none) (d3 (A0 N Z) fun l6 => br (decide ((([Gz (Int.toNat 192)] ++ Ig n0.toNat yg).length + l6.length) * 1 <= 140737488355328)) (K0 ([Gz (Int.toNat 192)] ++ Ig n0.toNat yg ++ l6) (GU n0.toNat yg) 0) none)) none) none) none))))
noncomputable def a7j (N : Nat) : d1R := fun a y z O x4 b f i d l n e p j o q w Aa x S U yg Z => a7M N a y z O x4 b f i d l n e p j o q w Aa x S U yg Z (fun u zg zh => some (u, zg, zh))
noncomputable def b5y (N : Nat) : Cx := cxO [⟨78, a2O (D3 N)⟩, ⟨62, S1 (A0 N)⟩] [⟨64, a2D (L6 N)⟩]
theorem c1M {R : Type} (N : Nat) (a y z O x4 b f i d l n e p j o q w Aa x S U yg Z K : _) : g8 (R := R) (b5y N) Tryz.f75 [.ptr 1 0 0, .agg [dI a, dI y, dI z, dI O, dI x4]] [C0 0 [g5a b f 0 i d l n e p j o q w Aa x S U yg Z]] (A9 K) = a7M N a y z O x4 b f i d l n e p j o q w Aa x S U yg Z (fun u zg zh => K u b f i d l n e p j o q w Aa x S U zg zh) := by
 kernel_rfl
abbrev c0h (s : d1R) : Prop := ∀ {a y z O x4 b f i d l n e p j o q w Aa x S U yg Z u zg zh}, s a y z O x4 b f i d l n e p j o q w Aa x S U yg Z = some (u, zg, zh) -> VR2 75 [.ptr 1 0 0, .agg [dI a, dI y, dI z, dI O, dI x4]] [g5a b f 0 i d l n e p j o q w Aa x S U yg Z] [dY u] [g5a b f 0 i d l n e p j o q w Aa x S U zg zh]
theorem c5Y (s : d1R) (hs : c0h s) : MEO ⟨75, b2N s⟩ := by
 refine ⟨d6 Tryz.func75 (by kernel_rfl) (c := d5 Tryz.f75) (by kernel_rfl), fun R dst ds m K r h => ?_⟩
 simp only [b2N] at h
 split at h
 . obtain ⟨Bs, a1, a2, a3, h⟩ := g4 h
   split at h
   . rcases g5 h with ⟨hc, hk⟩ | ⟨_, hk⟩
     . have hc := GE hc
       subst hc
       obtain ⟨u, zg, zh, h1, h2⟩ := a2i hk
       rw [d9] at h2
       exact ⟨_, _, h2, hs h1 _ _ m dst _ _ a1 a2 a3 rfl rfl ⟨g6 _ rfl, L3 ⟨d7 _, d7 _, d7 _, d7 _, d7 _, trivial⟩, trivial⟩ (j6 (m8 rfl (by repeat (first | exact trivial | refine ⟨by first | exact .inl ⟨rfl, rfl⟩ | exact .inr ⟨_, _, rfl, rfl⟩, ?_⟩)))) (j6 (m8 rfl (by repeat (first | exact trivial | refine ⟨by first | exact .inl ⟨rfl, rfl⟩ | exact .inr ⟨_, _, rfl, rfl⟩, ?_⟩))))⟩
     . cases hk
   . cases h
 . cases h
open Classical in
theorem c8n (N : Nat) : c0h (a7j N) := fun {a y z O x4 b f i d l n e p j o q w Aa x S U yg Z u zg zh} h => by
 refine E6 (cx := b5y N) (by kernel_rfl) (g7 ⟨a8n _ (b2q N), a5M _ (a8T N), trivial⟩ ⟨b2B _ (b5V N), trivial⟩) Tryz.func75 (by kernel_rfl) (by kernel_rfl) (lz (by kernel_rfl)) (by rfl) (rf := A9 (fun Ae Z0 Z1 Z2 Z3 Z4 Z5 Z6 Z7 Z8 Z9 Za Zb Zc Zd Ze Zf Zg Zh => if Z0 = b /\ Z1 = f /\ Z2 = i /\ Z3 = d /\ Z4 = l /\ Z5 = n /\ Z6 = e /\ Z7 = p /\ Z8 = j /\ Z9 = o /\ Za = q /\ Zb = w /\ Zc = Aa /\ Zd = x /\ Ze = S /\ Zf = U then some (Ae, Zg, Zh) else none)) (r := (u, zg, zh)) ?_ ?_
 . exact (c1M ..).trans ((congrArg (a7M N a y z O x4 b f i d l n e p j o q w Aa x S U yg Z) (by funext; exact if_pos (by simp))).trans h)
 . intro rs' m' hx
   unfold A9 at hx
   split at hx
   . dsimp only at hx
     split at hx
     . rename_i hk
       obtain ⟨rfl, rfl, rfl, rfl, rfl, rfl, rfl, rfl, rfl, rfl, rfl, rfl, rfl, rfl, rfl, rfl⟩ := hk
       cases hx; exact ⟨rfl, rfl, _, rfl⟩
     . cases hx
   . cases hx
abbrev d1N := Int -> a8f (Option (LB × Int × LB × Int × Int × Int × Int × Int × Int × Int × Int × Int × LB × Int × Bool × Bool × LB × Int))
noncomputable def a3y {R : Type} (s : d1N) (dst : Nat) (ds : List D) (m : Mem) (K : List D -> Mem -> Option R) : Option R :=
 match ds with
 | [.ptr (Ac + 1) Ab 0, .v (.int .u8 a) .no] => u9 [(Ac, Ab)] m fun Bs => (match Bs with
   | [⟨102, [.v (.mset b) .no, .fn f [59, 76] 0 Au, .v (.bytes i) (.own (.slot 0) 5), .v (.int .i64 d) .no, .v (.int .i64 l) .no, .v (.int .i64 n) .no, .v (.int .i64 e) .no, .v (.int .i64 p) .no, .v (.int .i64 j) .no, .v (.int .i64 o) .no, .v (.int .i64 q) .no, .v (.int .i64 w) .no, .v (.bytes Aa) .no, .v (.int .i64 x) .no, .v (.bool S) .no, .v (.bool U) .no, .v (.bytes yg) .no, .v (.int .i64 Z) .no]⟩] => cond (GR Ab Au) (b6n (s a b f i d l n e p j o q w Aa x S U yg Z) fun u z1 z2 z3 z4 z5 z6 z7 z8 z9 za zb zc zd ze zf zg zh => j3 [(Ac, Ab)] [g5a b z1 Ab z2 z3 z4 z5 z6 z7 z8 z9 za zb zc zd ze zf zg zh] m fun m' => K [dY u] m') none
   | _ => none)
 | _ => none
noncomputable def V6 {R : Type} (N : Nat) (a : Int) (b : List Int) (f : Int) (i : LB) (d l n e p j o q w : Int) (Aa : LB) (x : Int) (S U : Bool) (yg : LB) (Z : Int) (K0 : LB -> Int -> LB -> Int -> Int -> Int -> Int -> Int -> a0a (Bool -> LB -> Int -> Option R)) : Option R := br (decide ((i.length + [Gz a.toNat].length) * 1 <= 140737488355328)) (br (decide (((i ++ [Gz a.toNat]).length : Int) < 5)) (K0 [] f (i ++ [Gz a.toNat]) d l n e p j o q w Aa x S U yg Z) (T3 (a2z N (i ++ [Gz a.toNat])) fun n0 n1 n2 n3 n4 => br (decide (n0 = 255)) (d3 (A0 N 28160) fun l5 => K0 l5 f [] d l n e p j o q w Aa x S U yg Z) (br (decide (a2c GA n1 4 = 6)) (d3 (A0 N 27904) fun l6 => K0 l6 f [] d l n e p j o q w Aa x S U yg Z) (br (decide (a2c GA n1 4 = 9)) (d3 (A0 N 27904) fun l7 => K0 l7 f [] d l n e p j o q w Aa x S U yg Z) (T3 (L1 N n0) fun n8 b9 BJ Ai bc => br bc (br (!Ai) (br (decide (n1 = 192)) (a3n (a7j N n0 n1 n2 n3 n4 b f [] d l n e p j o q w Aa x S U yg Z) fun ld BG nf => K0 ld f [] d l n e p j o q w Aa x S U BG nf) (br (a5v n1 b) (br (decide (0 < n4)) (K0 [Gz (GI.wrap n1).toNat] 2 [] n0 n1 n2 n3 n4 j o q w Aa x S true [] 0) (H9 (q9 N [] 256 b f [] n0 n1 n2 n3 n4 j o q w Aa x S true [] 0) fun ng nh ni nj nk ll Af bn => K0 [] ng [] n0 n1 n2 n3 n4 nh ni nj nk ll Af bn true [] 0)) (br bc (br b9 (br (decide (0 < n4)) (K0 [Gz (GI.wrap n1).toNat] 2 [] n0 n1 n2 n3 n4 j o q w Aa x S b9 [] 0) (br b9 (H9 (q9 N [] 256 b f [] n0 n1 n2 n3 n4 j o q w Aa x S b9 [] 0) fun Av np nq nr ns DP nu CN => K0 [] Av [] n0 n1 n2 n3 n4 np nq nr ns DP nu CN b9 [] 0) (d3 (D3 N n4) fun nw => H9 (q9 N [] nw b f [] n0 n1 n2 n3 n4 j o q w Aa x S b9 [] 0) fun AA ny nz Aq Ar CQ Ao CO => K0 [] AA [] n0 n1 n2 n3 n4 ny nz Aq Ar CQ Ao CO b9 [] 0))) (br b9 (H9 (q9 N [] 256 b f [] n0 n1 n2 n3 n4 j o q w Aa x S b9 [] 0) fun As BC Dm Ax Ay AO CJ Ej => K0 [] As [] n0 n1 n2 n3 n4 BC Dm Ax Ay AO CJ Ej b9 [] 0) (d3 (D3 N n4) fun Ak => H9 (q9 N [] Ak b f [] n0 n1 n2 n3 n4 j o q w Aa x S b9 [] 0) fun BE BB AB Bz AP BD Am BF => K0 [] BE [] n0 n1 n2 n3 n4 BB AB Bz AP BD Am BF b9 [] 0))) (d3 (D3 N n4) fun AD => H9 (q9 N [] AD b f [] n0 n1 n2 n3 n4 j o q w Aa x S false [] 0) fun AE AL AV Bc CR Ek De AT => K0 [] AE [] n0 n1 n2 n3 n4 AL AV Bc CR Ek De AT false [] 0)))) (br (a5v n1 b) (br (decide (0 < n4)) (K0 [Gz (GI.wrap n1).toNat] 2 [] n0 n1 n2 n3 n4 j o q w Aa x S true [] 0) (H9 (q9 N [] 256 b f [] n0 n1 n2 n3 n4 j o q w Aa x S true [] 0) fun DQ Bd CL Dg Dh CM El Dn => K0 [] DQ [] n0 n1 n2 n3 n4 Bd CL Dg Dh CM El Dn true [] 0)) (br bc (br b9 (br (decide (0 < n4)) (K0 [Gz (GI.wrap n1).toNat] 2 [] n0 n1 n2 n3 n4 j o q w Aa x S b9 [] 0) (br b9 (H9 (q9 N [] 256 b f [] n0 n1 n2 n3 n4 j o q w Aa x S b9 [] 0) fun Dk CB CT CU CV CW CX CY => K0 [] Dk [] n0 n1 n2 n3 n4 CB CT CU CV CW CX CY b9 [] 0) (d3 (D3 N n4) fun Em => H9 (q9 N [] Em b f [] n0 n1 n2 n3 n4 j o q w Aa x S b9 [] 0) fun Do Dp Dq Dr Ds Eo Ep Dt => K0 [] Do [] n0 n1 n2 n3 n4 Dp Dq Dr Ds Eo Ep Dt b9 [] 0))) (br b9 (H9 (q9 N [] 256 b f [] n0 n1 n2 n3 n4 j o q w Aa x S b9 [] 0) fun Du Dv Er Es Et Eu Ev Ew => K0 [] Du [] n0 n1 n2 n3 n4 Dv Er Es Et Eu Ev Ew b9 [] 0) (d3 (D3 N n4) fun Dw => H9 (q9 N [] Dw b f [] n0 n1 n2 n3 n4 j o q w Aa x S b9 [] 0) fun Dx Dy Ey Dz Ez EA DA EB => K0 [] Dx [] n0 n1 n2 n3 n4 Dy Ey Dz Ez EA DA EB b9 [] 0))) (d3 (D3 N n4) fun DB => H9 (q9 N [] DB b f [] n0 n1 n2 n3 n4 j o q w Aa x S false [] 0) fun DC DD DE EC ED EE DF EF => K0 [] DC [] n0 n1 n2 n3 n4 DD DE EC ED EE DF EF false [] 0)))) (br (a5v n1 b) (br (decide (0 < n4)) (K0 [Gz (GI.wrap n1).toNat] 2 [] n0 n1 n2 n3 n4 j o q w Aa x S true [] 0) (H9 (q9 N [] 256 b f [] n0 n1 n2 n3 n4 j o q w Aa x S true [] 0) fun EG EH DG EI DR DS DT EJ => K0 [] EG [] n0 n1 n2 n3 n4 EH DG EI DR DS DT EJ true [] 0)) (br bc (br b9 (br (decide (0 < n4)) (K0 [Gz (GI.wrap n1).toNat] 2 [] n0 n1 n2 n3 n4 j o q w Aa x S b9 [] 0) (br b9 (H9 (q9 N [] 256 b f [] n0 n1 n2 n3 n4 j o q w Aa x S b9 [] 0) fun DU DV DW DX DY EK DZ EL => K0 [] DU [] n0 n1 n2 n3 n4 DV DW DX DY EK DZ EL b9 [] 0) (d3 (D3 N n4) fun Ea => H9 (q9 N [] Ea b f [] n0 n1 n2 n3 n4 j o q w Aa x S b9 [] 0) fun EM EN EO Eb EP ER ES ET => K0 [] EM [] n0 n1 n2 n3 n4 EN EO Eb EP ER ES ET b9 [] 0))) (br b9 (H9 (q9 N [] 256 b f [] n0 n1 n2 n3 n4 j o q w Aa x S b9 [] 0) fun EU EV EW EX EY EZ Fa Fb => K0 [] EU [] n0 n1 n2 n3 n4 EV EW EX EY EZ Fa Fb b9 [] 0) (d3 (D3 N n4) fun Fc => H9 (q9 N [] Fc b f [] n0 n1 n2 n3 n4 j o q w Aa x S b9 [] 0) fun Fe Ff Fg Fh Fi Fj Fk Fl => K0 [] Fe [] n0 n1 n2 n3 n4 Ff Fg Fh Fi Fj Fk Fl b9 [] 0))) (d3 (D3 N n4) fun Fm => H9 (q9 N [] Fm b f [] n0 n1 n2 n3 n4 j o q w Aa x S false [] 0) fun Fo Fp Fq Fs Ft Fu Fv Fw => K0 [] Fo [] n0 n1 n2 n3 n4 Fp Fq Fs Ft Fu Fv Fw false [] 0)))))))) none
noncomputable def F3 (N : Nat) : d1N := fun a b f i d l n e p j o q w Aa x S U yg Z => V6 N a b f i d l n e p j o q w Aa x S U yg Z (fun u z1 z2 z3 z4 z5 z6 z7 z8 z9 za zb zc zd ze zf zg zh => some (u, z1, z2, z3, z4, z5, z6, z7, z8, z9, za, zb, zc, zd, ze, zf, zg, zh))
noncomputable def a9V (N : Nat) : Cx := cxO [⟨73, a7Z (a2z N)⟩, ⟨62, S1 (A0 N)⟩, ⟨74, a4c (L1 N)⟩, ⟨78, a2O (D3 N)⟩] [⟨77, a4L (q9 N)⟩, ⟨75, b2N (a7j N)⟩]
theorem b4m {R : Type} (N : Nat) (a b f i d l n e p j o q w Aa x S U yg Z K : _) : g8 (R := R) (a9V N) Tryz.f59 [.ptr 1 0 0, .v (.int .u8 a) .no] [C0 0 [g5a b f 0 i d l n e p j o q w Aa x S U yg Z]] (A9 K) = V6 N a b f i d l n e p j o q w Aa x S U yg Z (fun u z1 z2 z3 z4 z5 z6 z7 z8 z9 za zb zc zd ze zf zg zh => K u b z1 z2 z3 z4 z5 z6 z7 z8 z9 za zb zc zd ze zf zg zh) := by
 kernel_rfl
abbrev b2a (s : d1N) : Prop := ∀ {a b f i d l n e p j o q w Aa x S U yg Z u z1 z2 z3 z4 z5 z6 z7 z8 z9 za zb zc zd ze zf zg zh}, s a b f i d l n e p j o q w Aa x S U yg Z = some (u, z1, z2, z3, z4, z5, z6, z7, z8, z9, za, zb, zc, zd, ze, zf, zg, zh) -> VR2 59 [.ptr 1 0 0, .v (.int .u8 a) .no] [g5a b f 0 i d l n e p j o q w Aa x S U yg Z] [dY u] [g5a b z1 0 z2 z3 z4 z5 z6 z7 z8 z9 za zb zc zd ze zf zg zh]
theorem c1x (s : d1N) (hs : b2a s) : MEO ⟨59, a3y s⟩ := by
 refine ⟨d6 Tryz.func59 (by kernel_rfl) (c := d5 Tryz.f59) (by kernel_rfl), fun R dst ds m K r h => ?_⟩
 simp only [a3y] at h
 split at h
 . obtain ⟨Bs, a1, a2, a3, h⟩ := g4 h
   split at h
   . rcases g5 h with ⟨hc, hk⟩ | ⟨_, hk⟩
     . have hc := GE hc
       subst hc
       obtain ⟨u, z1, z2, z3, z4, z5, z6, z7, z8, z9, za, zb, zc, zd, ze, zf, zg, zh, h1, h2⟩ := b1o hk
       rw [d9] at h2
       exact ⟨_, _, h2, hs h1 _ _ m dst _ _ a1 a2 a3 rfl rfl ⟨g6 _ rfl, d7 _, trivial⟩ (j6 (m8 rfl (by repeat (first | exact trivial | refine ⟨by first | exact .inl ⟨rfl, rfl⟩ | exact .inr ⟨_, _, rfl, rfl⟩, ?_⟩)))) (j6 (m8 rfl (by repeat (first | exact trivial | refine ⟨by first | exact .inl ⟨rfl, rfl⟩ | exact .inr ⟨_, _, rfl, rfl⟩, ?_⟩))))⟩
     . cases hk
   . cases h
 . cases h
open Classical in
theorem c2D (N : Nat) : b2a (F3 N) := fun {a b f i d l n e p j o q w Aa x S U yg Z u z1 z2 z3 z4 z5 z6 z7 z8 z9 za zb zc zd ze zf zg zh} h => by
 refine E6 (cx := a9V N) (by kernel_rfl) (g7 ⟨c6Z _ (c9O N), a5M _ (a8T N), b5i _ (c1t N), a8n _ (b2q N), trivial⟩ ⟨b2o _ (b5v N), c5Y _ (c8n N), trivial⟩) Tryz.func59 (by kernel_rfl) (by kernel_rfl) (lz (by kernel_rfl)) (by rfl) (rf := A9 (fun Ae Z0 Z1 Z2 Z3 Z4 Z5 Z6 Z7 Z8 Z9 Za Zb Zc Zd Ze Zf Zg Zh => if Z0 = b then some (Ae, Z1, Z2, Z3, Z4, Z5, Z6, Z7, Z8, Z9, Za, Zb, Zc, Zd, Ze, Zf, Zg, Zh) else none)) (r := (u, z1, z2, z3, z4, z5, z6, z7, z8, z9, za, zb, zc, zd, ze, zf, zg, zh)) ?_ ?_
 . exact (b4m ..).trans ((congrArg (V6 N a b f i d l n e p j o q w Aa x S U yg Z) (funext fun Ae => funext fun Z1 => funext fun Z2 => funext fun Z3 => funext fun Z4 => funext fun Z5 => funext fun Z6 => funext fun Z7 => funext fun Z8 => funext fun Z9 => funext fun Za => funext fun Zb => funext fun Zc => funext fun Zd => funext fun Ze => funext fun Zf => funext fun Zg => funext fun Zh => if_pos rfl)).trans h)
 . intro rs' m' hx
   unfold A9 at hx
   split at hx
   . dsimp only at hx
     split at hx
     . rename_i hk
       subst hk
       cases hx; exact ⟨rfl, rfl, _, rfl⟩
     . cases hx
   . cases hx
abbrev d1Y := LB -> a8f (Option (LB × Int × LB × Int × Int × Int × Int × Int × Int × Int × Int × Int × LB × Int × Bool × Bool × LB × Int))
noncomputable def a1v {R : Type} (s : d1Y) (dst : Nat) (ds : List D) (m : Mem) (K : List D -> Mem -> Option R) : Option R :=
 match ds with
 | [.ptr (Ac + 1) Ab 0, .v (.bytes a) .no] => u9 [(Ac, Ab)] m fun Bs => (match Bs with
   | [⟨102, [.v (.mset b) .no, .fn f [59, 76] 0 Au, .v (.bytes i) (.own (.slot 0) 5), .v (.int .i64 d) .no, .v (.int .i64 l) .no, .v (.int .i64 n) .no, .v (.int .i64 e) .no, .v (.int .i64 p) .no, .v (.int .i64 j) .no, .v (.int .i64 o) .no, .v (.int .i64 q) .no, .v (.int .i64 w) .no, .v (.bytes Aa) .no, .v (.int .i64 x) .no, .v (.bool S) .no, .v (.bool U) .no, .v (.bytes yg) .no, .v (.int .i64 Z) .no]⟩] => cond (GR Ab Au) (b6n (s a b f i d l n e p j o q w Aa x S U yg Z) fun u z1 z2 z3 z4 z5 z6 z7 z8 z9 za zb zc zd ze zf zg zh => j3 [(Ac, Ab)] [g5a b z1 Ab z2 z3 z4 z5 z6 z7 z8 z9 za zb zc zd ze zf zg zh] m fun m' => K [dY u] m') none
   | _ => none)
 | _ => none
noncomputable def M2 {R : Type} (N : Nat) (l1 : LB) (n2 : Int) (Bt : List Int) (Lq : LB -> Int -> Int -> LB -> Int -> Int -> Int -> Int -> Int -> a0a (Bool -> LB -> Int -> Option R)) (K0 : LB -> Int -> LB -> Int -> Int -> Int -> Int -> Int -> a0a (Bool -> LB -> Int -> Option R)) (l0 : LB) (n3 n5 : Int) (l6 : LB) (n7 n8 n9 na nb nc nd Ad nf : Int) (Ap : LB) (nh : Int) (AF bj : Bool) (lk : LB) (nl : Int) : Option R := br (decide (n3 < n2)) (br (decide (0 <= n3) && decide (n3 < (l1.length : Int))) (at? l1 n3.toNat fun u0 => br (decide (n5 = 0)) (K0 l0 n5 l6 n7 n8 n9 na nb nc nd Ad nf Ap nh AF bj lk nl) (br (decide (n5 = 1)) (b6n (F3 N (u0.toNat : Int) Bt n5 l6 n7 n8 n9 na nb nc nd Ad nf Ap nh AF bj lk nl) fun l1 n2 l3 n4 n5 n6 n7 n8 n9 na nb nc ld Ad bf bg lh ni => br (decide ((l0.length + l1.length) * 1 <= 140737488355328)) (Lq (l0 ++ l1) (GA.wrap (n3 + 1)) n2 l3 n4 n5 n6 n7 n8 n9 na nb nc ld Ad bf bg lh ni) none) (br (decide (n5 = 2)) (a5D (a0h N (u0.toNat : Int) Bt n5 l6 n7 n8 n9 na nb nc nd Ad nf Ap nh AF bj lk nl) fun lj nk ll Af nn Av np lq nr DH => br (decide ((l0.length + lj.length) * 1 <= 140737488355328)) (Lq (l0 ++ lj) (GA.wrap (n3 + 1)) nk ll n7 n8 n9 na nb Af nn Av np lq nr DH bj lk nl) none) none))) none) (K0 l0 n5 l6 n7 n8 n9 na nb nc nd Ad nf Ap nh AF bj lk nl)
noncomputable def G0 {R : Type} (N : Nat) (l1 : LB) (n2 : Int) (Bt : List Int) : Nat -> LB -> Int -> Int -> LB -> Int -> Int -> Int -> Int -> Int -> a0a (Bool -> LB -> Int -> (LB -> Int -> LB -> Int -> Int -> Int -> Int -> Int -> a0a (Bool -> LB -> Int -> Option R)) -> Option R) | 0, _, _, _, _, _, _, _, _, _, _, _, _, _, _, _, _, _, _, _, _ => none | t + 1, l0, n3, n5, l6, n7, n8, n9, na, nb, nc, nd, Ad, nf, Ap, nh, AF, bj, lk, nl, K0 => M2 N l1 n2 Bt (fun l0 n3 n5 l6 n7 n8 n9 na nb nc nd Ad nf Ap nh AF bj lk nl => G0 N l1 n2 Bt t l0 n3 n5 l6 n7 n8 n9 na nb nc nd Ad nf Ap nh AF bj lk nl K0) K0 l0 n3 n5 l6 n7 n8 n9 na nb nc nd Ad nf Ap nh AF bj lk nl
noncomputable def a1Z {R : Type} (N : Nat) (ds : List D) (m : Mem) (K : Ex -> List D -> Mem -> Option R) : Option R :=
 match ds, m with
 | [(.ptr 1 0 0), (.v (.bytes l0) (.own (.slot 5) 5)), (.v (.bytes l1) .no), (.v (.int .i64 n2) .no), (.v (.int .i64 n3) .no)], [[], [(0, ⟨102, [(.v (.mset Bt) .no), (.fn n5 [59, 76] 0 0), (.v (.bytes l6) (.own (.slot 0) 5)), (.v (.int .i64 n7) .no), (.v (.int .i64 n8) .no), (.v (.int .i64 n9) .no), (.v (.int .i64 na) .no), (.v (.int .i64 nb) .no), (.v (.int .i64 nc) .no), (.v (.int .i64 nd) .no), (.v (.int .i64 Ad) .no), (.v (.int .i64 nf) .no), (.v (.bytes Ap) .no), (.v (.int .i64 nh) .no), (.v (.bool AF) .no), (.v (.bool bj) .no), (.v (.bytes lk) .no), (.v (.int .i64 nl) .no)]⟩)]] => G0 N l1 n2 Bt N l0 n3 n5 l6 n7 n8 n9 na nb nc nd Ad nf Ap nh AF bj lk nl (fun a0 a2 a3 a4 a5 a6 a7 a8 a9 Az AJ Br AK AR Bu Bv AS An => K (.exit 0) [(.v (.bytes a0) (.own (.slot 5) 5))] [[], [(0, ⟨102, [(.v (.mset Bt) .no), (.fn a2 [59, 76] 0 0), (.v (.bytes a3) (.own (.slot 0) 5)), (.v (.int .i64 a4) .no), (.v (.int .i64 a5) .no), (.v (.int .i64 a6) .no), (.v (.int .i64 a7) .no), (.v (.int .i64 a8) .no), (.v (.int .i64 a9) .no), (.v (.int .i64 Az) .no), (.v (.int .i64 AJ) .no), (.v (.int .i64 Br) .no), (.v (.bytes AK) .no), (.v (.int .i64 AR) .no), (.v (.bool Bu) .no), (.v (.bool Bv) .no), (.v (.bytes AS) .no), (.v (.int .i64 An) .no)]⟩)]])
 | _, _ => none
noncomputable def a4A {R : Type} (N : Nat) (a : LB) (b : List Int) (f : Int) (i : LB) (d l n e p j o q w : Int) (Aa : LB) (x : Int) (S U : Bool) (yg : LB) (Z : Int) (K0 : LB -> Int -> LB -> Int -> Int -> Int -> Int -> Int -> a0a (Bool -> LB -> Int -> Option R)) : Option R := d3 (L0 N b f i d l n e p j o q w Aa x S U yg Z) fun b0 => br (!b0) (K0 [] f i d l n e p j o q w Aa x S U yg Z) (G0 N a (a.length : Int) b N [] 0 f i d l n e p j o q w Aa x S U yg Z fun l1 n2 l3 n4 n5 n6 n7 n8 n9 na nb nc ld Ad bf bg lh ni => K0 l1 n2 l3 n4 n5 n6 n7 n8 n9 na nb nc ld Ad bf bg lh ni)
noncomputable def a0f (N : Nat) : d1Y := fun a b f i d l n e p j o q w Aa x S U yg Z => a4A N a b f i d l n e p j o q w Aa x S U yg Z (fun u z1 z2 z3 z4 z5 z6 z7 z8 z9 za zb zc zd ze zf zg zh => some (u, z1, z2, z3, z4, z5, z6, z7, z8, z9, za, zb, zc, zd, ze, zf, zg, zh))
noncomputable def K6 (N : Nat) : Cx := { T := T, isPure := a5S [], pureK := fun g ds K => a2y [] g ds K, memK := fun g dst ds m K => Y9 [⟨61, a1m (L0 N)⟩, ⟨59, a3y (F3 N)⟩, ⟨76, a1p (a0h N)⟩] g dst ds m K, meth := a3N [], keep := fun r => match r with | 5 => [0, 5, 11, 12, 13] | _ => [], keepX := fun r => match r with | 5 => [5] | _ => [], loopT := fun r ds m K => match r with | 5 => a1Z N ds m K | _ => none, jumps := 9 }
theorem a8z {R : Type} (N : Nat) (l1 : LB) (n2 : Int) (Bt : List Int) (l0 : LB) (n3 n5 : Int) (l6 : LB) (n7 n8 n9 na nb nc nd Ad nf : Int) (Ap : LB) (nh : Int) (AF bj : Bool) (lk : LB) (nl : Int) (L : List D -> Mem -> Option R) (K : Ex -> List D -> Mem -> Option R) :
 a0k (fun st K => codeK (K6 N) (G1 Tryz.f34 0) st K) 32 [0, 5, 11, 12, 13] [5] L [(.ptr 1 0 0), (.v (.bytes l0) (.own (.slot 5) 5)), (dY l1), (dI n2), (dI n3)] [[], [(0, ⟨102, [(.v (.mset Bt) .no), (.fn n5 [59, 76] 0 0), (.v (.bytes l6) (.own (.slot 0) 5)), (dI n7), (dI n8), (dI n9), (dI na), (dI nb), (dI nc), (dI nd), (dI Ad), (dI nf), (dY Ap), (dI nh), (dB AF), (dB bj), (dY lk), (dI nl)]⟩)]] K = M2 N l1 n2 Bt (fun l0 n3 n5 l6 n7 n8 n9 na nb nc nd Ad nf Ap nh AF bj lk nl => L [(.ptr 1 0 0), (.v (.bytes l0) (.own (.slot 5) 5)), (dY l1), (dI n2), (dI n3)] [[], [(0, ⟨102, [(.v (.mset Bt) .no), (.fn n5 [59, 76] 0 0), (.v (.bytes l6) (.own (.slot 0) 5)), (dI n7), (dI n8), (dI n9), (dI na), (dI nb), (dI nc), (dI nd), (dI Ad), (dI nf), (dY Ap), (dI nh), (dB AF), (dB bj), (dY lk), (dI nl)]⟩)]]) (fun a0 a2 a3 a4 a5 a6 a7 a8 a9 Az AJ Br AK AR Bu Bv AS An => K (.exit 0) [(.v (.bytes a0) (.own (.slot 5) 5))] [[], [(0, ⟨102, [(.v (.mset Bt) .no), (.fn a2 [59, 76] 0 0), (.v (.bytes a3) (.own (.slot 0) 5)), (dI a4), (dI a5), (dI a6), (dI a7), (dI a8), (dI a9), (dI Az), (dI AJ), (dI Br), (dY AK), (dI AR), (dB Bu), (dB Bv), (dY AS), (dI An)]⟩)]]) l0 n3 n5 l6 n7 n8 n9 na nb nc nd Ad nf Ap nh AF bj lk nl := by
 kernel_rfl
theorem a2k {R : Type} (N : Nat) (l1 : LB) (n2 : Int) (Bt : List Int) (K : Ex -> List D -> Mem -> Option R) : ∀ (t : Nat) (l0 : LB) (n3 n5 : Int) (l6 : LB) (n7 n8 n9 na nb nc nd Ad nf : Int) (Ap : LB) (nh : Int) (AF bj : Bool) (lk : LB) (nl : Int),
 a0T (fun st K => codeK (K6 N) (G1 Tryz.f34 0) st K) 32 [0, 5, 11, 12, 13] [5] t [(.ptr 1 0 0), (.v (.bytes l0) (.own (.slot 5) 5)), (dY l1), (dI n2), (dI n3)] [[], [(0, ⟨102, [(.v (.mset Bt) .no), (.fn n5 [59, 76] 0 0), (.v (.bytes l6) (.own (.slot 0) 5)), (dI n7), (dI n8), (dI n9), (dI na), (dI nb), (dI nc), (dI nd), (dI Ad), (dI nf), (dY Ap), (dI nh), (dB AF), (dB bj), (dY lk), (dI nl)]⟩)]] K = G0 N l1 n2 Bt t l0 n3 n5 l6 n7 n8 n9 na nb nc nd Ad nf Ap nh AF bj lk nl (fun a0 a2 a3 a4 a5 a6 a7 a8 a9 Az AJ Br AK AR Bu Bv AS An => K (.exit 0) [(.v (.bytes a0) (.own (.slot 5) 5))] [[], [(0, ⟨102, [(.v (.mset Bt) .no), (.fn a2 [59, 76] 0 0), (.v (.bytes a3) (.own (.slot 0) 5)), (dI a4), (dI a5), (dI a6), (dI a7), (dI a8), (dI a9), (dI Az), (dI AJ), (dI Br), (dY AK), (dI AR), (dB Bu), (dB Bv), (dY AS), (dI An)]⟩)]])
 | 0, l0, n3, n5, l6, n7, n8, n9, na, nb, nc, nd, Ad, nf, Ap, nh, AF, bj, lk, nl => rfl
 | t + 1, l0, n3, n5, l6, n7, n8, n9, na, nb, nc, nd, Ad, nf, Ap, nh, AF, bj, lk, nl => (a8z N l1 n2 Bt l0 n3 n5 l6 n7 n8 n9 na nb nc nd Ad nf Ap nh AF bj lk nl _ K).trans (congrArg (fun L => M2 N l1 n2 Bt L (fun a0 a2 a3 a4 a5 a6 a7 a8 a9 Az AJ Br AK AR Bu Bv AS An => K (.exit 0) [(.v (.bytes a0) (.own (.slot 5) 5))] [[], [(0, ⟨102, [(.v (.mset Bt) .no), (.fn a2 [59, 76] 0 0), (.v (.bytes a3) (.own (.slot 0) 5)), (dI a4), (dI a5), (dI a6), (dI a7), (dI a8), (dI a9), (dI Az), (dI AJ), (dI Br), (dY AK), (dI AR), (dB Bu), (dB Bv), (dY AS), (dI An)]⟩)]]) l0 n3 n5 l6 n7 n8 n9 na nb nc nd Ad nf Ap nh AF bj lk nl) (funext fun l0 => funext fun n3 => funext fun n5 => funext fun l6 => funext fun n7 => funext fun n8 => funext fun n9 => funext fun na => funext fun nb => funext fun nc => funext fun nd => funext fun Ad => funext fun nf => funext fun Ap => funext fun nh => funext fun AF => funext fun bj => funext fun lk => funext fun nl => a2k N l1 n2 Bt K t l0 n3 n5 l6 n7 n8 n9 na nb nc nd Ad nf Ap nh AF bj lk nl))
theorem b0V {R : Type} (N : Nat) (a b f i d l n e p j o q w Aa x S U yg Z K : _) : g8 (R := R) (K6 N) Tryz.f34 [.ptr 1 0 0, dY a] [C0 0 [g5a b f 0 i d l n e p j o q w Aa x S U yg Z]] (A9 K) = a4A N a b f i d l n e p j o q w Aa x S U yg Z (fun u z1 z2 z3 z4 z5 z6 z7 z8 z9 za zb zc zd ze zf zg zh => K u b z1 z2 z3 z4 z5 z6 z7 z8 z9 za zb zc zd ze zf zg zh) := by
 kernel_rfl
abbrev a9y (s : d1Y) : Prop := ∀ {a b f i d l n e p j o q w Aa x S U yg Z u z1 z2 z3 z4 z5 z6 z7 z8 z9 za zb zc zd ze zf zg zh}, s a b f i d l n e p j o q w Aa x S U yg Z = some (u, z1, z2, z3, z4, z5, z6, z7, z8, z9, za, zb, zc, zd, ze, zf, zg, zh) -> VR2 34 [.ptr 1 0 0, dY a] [g5a b f 0 i d l n e p j o q w Aa x S U yg Z] [dY u] [g5a b z1 0 z2 z3 z4 z5 z6 z7 z8 z9 za zb zc zd ze zf zg zh]
theorem b6V (s : d1Y) (hs : a9y s) : MEO ⟨34, a1v s⟩ := by
 refine ⟨d6 Tryz.func34 (by kernel_rfl) (c := d5 Tryz.f34) (by kernel_rfl), fun R dst ds m K r h => ?_⟩
 simp only [a1v] at h
 split at h
 . obtain ⟨Bs, a1, a2, a3, h⟩ := g4 h
   split at h
   . rcases g5 h with ⟨hc, hk⟩ | ⟨_, hk⟩
     . have hc := GE hc
       subst hc
       obtain ⟨u, z1, z2, z3, z4, z5, z6, z7, z8, z9, za, zb, zc, zd, ze, zf, zg, zh, h1, h2⟩ := b1o hk
       rw [d9] at h2
       exact ⟨_, _, h2, hs h1 _ _ m dst _ _ a1 a2 a3 rfl rfl ⟨g6 _ rfl, d7 _, trivial⟩ (j6 (m8 rfl (by repeat (first | exact trivial | refine ⟨by first | exact .inl ⟨rfl, rfl⟩ | exact .inr ⟨_, _, rfl, rfl⟩, ?_⟩)))) (j6 (m8 rfl (by repeat (first | exact trivial | refine ⟨by first | exact .inl ⟨rfl, rfl⟩ | exact .inr ⟨_, _, rfl, rfl⟩, ?_⟩))))⟩
     . cases hk
   . cases h
 . cases h
theorem b7I (N : Nat) : CxOK Tryz.prog (K6 N) :=
 L2 (es := []) (me := [⟨61, a1m (L0 N)⟩, ⟨59, a3y (F3 N)⟩, ⟨76, a1p (a0h N)⟩]) (ms := []) a6l trivial ⟨a8y _ (b0W N), c1x _ (c2D N), b7B _ (c2f N), trivial⟩ trivial rfl (fun _ _ _ _ => rfl) (fun _ _ _ _ _ _ => rfl) rfl
theorem b3q (N : Nat) : V4 (K6 N) 32 (G1 Tryz.f34 0) := by
 refine M0 (rid := 5) (by kernel_rfl) rfl rfl fun R ds m K r h => ?_
 have h : a1Z N ds m K = some r := h
 unfold a1Z at h
 split at h
 . exact ⟨N, Eq.trans (a2k ..) h⟩
 . cases h
theorem b8k (N : Nat) : v8 (K6 N) Tryz.f34.ntmps (d5 Tryz.f34) :=
 C1 (k := 1) (by kernel_rfl) ⟨trivial, b3q N⟩
open Classical in
theorem b9b (N : Nat) : a9y (a0f N) := fun {a b f i d l n e p j o q w Aa x S U yg Z u z1 z2 z3 z4 z5 z6 z7 z8 z9 za zb zc zd ze zf zg zh} h => by
 refine E6 (cx := K6 N) (by kernel_rfl) (b7I N) Tryz.func34 (by kernel_rfl) (by kernel_rfl) (b8k N) (by rfl) (rf := A9 (fun Ae Z0 Z1 Z2 Z3 Z4 Z5 Z6 Z7 Z8 Z9 Za Zb Zc Zd Ze Zf Zg Zh => if Z0 = b then some (Ae, Z1, Z2, Z3, Z4, Z5, Z6, Z7, Z8, Z9, Za, Zb, Zc, Zd, Ze, Zf, Zg, Zh) else none)) (r := (u, z1, z2, z3, z4, z5, z6, z7, z8, z9, za, zb, zc, zd, ze, zf, zg, zh)) ?_ ?_
 . exact (b0V ..).trans ((congrArg (a4A N a b f i d l n e p j o q w Aa x S U yg Z) (funext fun Ae => funext fun Z1 => funext fun Z2 => funext fun Z3 => funext fun Z4 => funext fun Z5 => funext fun Z6 => funext fun Z7 => funext fun Z8 => funext fun Z9 => funext fun Za => funext fun Zb => funext fun Zc => funext fun Zd => funext fun Ze => funext fun Zf => funext fun Zg => funext fun Zh => if_pos rfl)).trans h)
 . intro rs' m' hx
   unfold A9 at hx
   split at hx
   . dsimp only at hx
     split at hx
     . rename_i hk
       subst hk
       cases hx; exact ⟨rfl, rfl, _, rfl⟩
     . cases hx
   . cases hx
abbrev d1H := a8f (Option (Int × Int × Int × Int × LB × Int × Bool × Bool))
noncomputable def a1F {R : Type} (s : d1H) (dst : Nat) (ds : List D) (m : Mem) (K : List D -> Mem -> Option R) : Option R :=
 match ds with
 | [.ptr (Ac + 1) Ab 0] => u9 [(Ac, Ab)] m fun Bs => (match Bs with
   | [⟨102, [.v (.mset b) .no, .fn f [59, 76] 0 Au, .v (.bytes i) (.own (.slot 0) 5), .v (.int .i64 d) .no, .v (.int .i64 l) .no, .v (.int .i64 n) .no, .v (.int .i64 e) .no, .v (.int .i64 p) .no, .v (.int .i64 j) .no, .v (.int .i64 o) .no, .v (.int .i64 q) .no, .v (.int .i64 w) .no, .v (.bytes Aa) .no, .v (.int .i64 x) .no, .v (.bool S) .no, .v (.bool U) .no, .v (.bytes yg) .no, .v (.int .i64 Z) .no]⟩] => cond (GR Ab Au) (H9 (s b f i d l n e p j o q w Aa x S U yg Z) fun u r1 r2 r3 r4 r5 r6 r7 => j3 [(Ac, Ab)] [g5a b f Ab i d l n e p j o q w Aa x S U yg Z] m fun m' => K [g3a u r1 r2 r3 r4 r5 r6, dB r7] m') none
   | _ => none)
 | _ => none
noncomputable def a4v {α : Type} (K : a0a (Bool -> a8f (Option α))) (rs : List D) (m : Mem) : Option α :=
 match rs, m with
 | [.agg [.v (.int .i64 u) _, .v (.int .i64 r1) _, .v (.int .i64 r2) _, .v (.int .i64 r3) _, .v (.bytes r4) _, .v (.int .i64 r5) _, .v (.bool r6) _], .v (.bool r7) _], [_, [(0, ⟨102, [.v (.mset z0) .no, .fn z1 [59, 76] 0 0, .v (.bytes z2) (.own (.slot 0) 5), .v (.int .i64 z3) .no, .v (.int .i64 z4) .no, .v (.int .i64 z5) .no, .v (.int .i64 z6) .no, .v (.int .i64 z7) .no, .v (.int .i64 z8) .no, .v (.int .i64 z9) .no, .v (.int .i64 za) .no, .v (.int .i64 zb) .no, .v (.bytes zc) .no, .v (.int .i64 zd) .no, .v (.bool ze) .no, .v (.bool zf) .no, .v (.bytes zg) .no, .v (.int .i64 zh) .no]⟩)]] => K u r1 r2 r3 r4 r5 r6 r7 z0 z1 z2 z3 z4 z5 z6 z7 z8 z9 za zb zc zd ze zf zg zh
 | _, _ => none
noncomputable def Y3 {R : Type} (N : Nat) (b : List Int) (f : Int) (i : LB) (d l n e p j o q w : Int) (Aa : LB) (x : Int) (S U : Bool) (yg : LB) (Z : Int) (K0 : a0a (Bool -> Option R)) : Option R := d3 (L0 N b f i d l n e p j o q w Aa x S U yg Z) fun b0 => br (!b0) (K0 0 0 0 0 [] 0 false false) (br (!decide (f = 0)) (K0 0 0 0 0 [] 0 false false) (d3 (j5 N Aa) fun l1 => K0 j o q w l1 x S true))
noncomputable def K3 (N : Nat) : d1H := fun b f i d l n e p j o q w Aa x S U yg Z => Y3 N b f i d l n e p j o q w Aa x S U yg Z (fun u r1 r2 r3 r4 r5 r6 r7 => some (u, r1, r2, r3, r4, r5, r6, r7))
noncomputable def a7g (N : Nat) : Cx := cxO [⟨29, E4 (j5 N)⟩] [⟨61, a1m (L0 N)⟩]
theorem b1p {R : Type} (N : Nat) (b f i d l n e p j o q w Aa x S U yg Z K : _) : g8 (R := R) (a7g N) Tryz.f35 [.ptr 1 0 0] [C0 0 [g5a b f 0 i d l n e p j o q w Aa x S U yg Z]] (a4v K) = Y3 N b f i d l n e p j o q w Aa x S U yg Z (fun u r1 r2 r3 r4 r5 r6 r7 => K u r1 r2 r3 r4 r5 r6 r7 b f i d l n e p j o q w Aa x S U yg Z) := by
 kernel_rfl
abbrev a9o (s : d1H) : Prop := ∀ {b f i d l n e p j o q w Aa x S U yg Z u r1 r2 r3 r4 r5 r6 r7}, s b f i d l n e p j o q w Aa x S U yg Z = some (u, r1, r2, r3, r4, r5, r6, r7) -> VR2 35 [.ptr 1 0 0] [g5a b f 0 i d l n e p j o q w Aa x S U yg Z] [g3a u r1 r2 r3 r4 r5 r6, dB r7] [g5a b f 0 i d l n e p j o q w Aa x S U yg Z]
theorem b6A (s : d1H) (hs : a9o s) : MEO ⟨35, a1F s⟩ := by
 refine ⟨d6 Tryz.func35 (by kernel_rfl) (c := d5 Tryz.f35) (by kernel_rfl), fun R dst ds m K r h => ?_⟩
 simp only [a1F] at h
 split at h
 . obtain ⟨Bs, a1, a2, a3, h⟩ := g4 h
   split at h
   . rcases g5 h with ⟨hc, hk⟩ | ⟨_, hk⟩
     . have hc := GE hc
       subst hc
       obtain ⟨u, r1, r2, r3, r4, r5, r6, r7, h1, h2⟩ := O3 hk
       rw [d9] at h2
       exact ⟨_, _, h2, hs h1 _ _ m dst _ _ a1 a2 a3 rfl rfl ⟨g6 _ rfl, trivial⟩ (j6 (m8 rfl (by repeat (first | exact trivial | refine ⟨by first | exact .inl ⟨rfl, rfl⟩ | exact .inr ⟨_, _, rfl, rfl⟩, ?_⟩)))) (j6 (m8 rfl (by repeat (first | exact trivial | refine ⟨by first | exact .inl ⟨rfl, rfl⟩ | exact .inr ⟨_, _, rfl, rfl⟩, ?_⟩))))⟩
     . cases hk
   . cases h
 . cases h
open Classical in
theorem c1Z (N : Nat) : a9o (K3 N) := fun {b f i d l n e p j o q w Aa x S U yg Z u r1 r2 r3 r4 r5 r6 r7} h => by
 refine E6 (cx := a7g N) (by kernel_rfl) (g7 ⟨I2 _ (M7 N), trivial⟩ ⟨a8y _ (b0W N), trivial⟩) Tryz.func35 (by kernel_rfl) (by kernel_rfl) (lz (by kernel_rfl)) (by rfl) (rf := a4v (fun Ae BA BL CC CD CE CF CG Z0 Z1 Z2 Z3 Z4 Z5 Z6 Z7 Z8 Z9 Za Zb Zc Zd Ze Zf Zg Zh => if Z0 = b /\ Z1 = f /\ Z2 = i /\ Z3 = d /\ Z4 = l /\ Z5 = n /\ Z6 = e /\ Z7 = p /\ Z8 = j /\ Z9 = o /\ Za = q /\ Zb = w /\ Zc = Aa /\ Zd = x /\ Ze = S /\ Zf = U /\ Zg = yg /\ Zh = Z then some (Ae, BA, BL, CC, CD, CE, CF, CG) else none)) (r := (u, r1, r2, r3, r4, r5, r6, r7)) ?_ ?_
 . exact (b1p ..).trans ((congrArg (Y3 N b f i d l n e p j o q w Aa x S U yg Z) (by funext; exact if_pos (by simp))).trans h)
 . intro rs' m' hx
   unfold a4v at hx
   split at hx
   . dsimp only at hx
     split at hx
     . rename_i hk
       obtain ⟨rfl, rfl, rfl, rfl, rfl, rfl, rfl, rfl, rfl, rfl, rfl, rfl, rfl, rfl, rfl, rfl, rfl, rfl⟩ := hk
       cases hx; exact ⟨rfl, rfl, _, rfl⟩
     . cases hx
   . cases hx
abbrev d2m := LB -> Int -> a8f (Option (LB × Int × LB × Int))
noncomputable def a4N {R : Type} (s : d2m) (dst : Nat) (ds : List D) (m : Mem) (K : List D -> Mem -> Option R) : Option R :=
 match ds with
 | [.ptr (Ac + 1) Ab 0, .agg [.v (.bytes a) .no, .v (.int .i64 y) .no]] => u9 [(Ac, Ab)] m fun Bs => (match Bs with
   | [⟨102, [.v (.mset b) .no, .fn f [59, 76] 0 Au, .v (.bytes i) (.own (.slot 0) 5), .v (.int .i64 d) .no, .v (.int .i64 l) .no, .v (.int .i64 n) .no, .v (.int .i64 e) .no, .v (.int .i64 p) .no, .v (.int .i64 j) .no, .v (.int .i64 o) .no, .v (.int .i64 q) .no, .v (.int .i64 w) .no, .v (.bytes Aa) .no, .v (.int .i64 x) .no, .v (.bool S) .no, .v (.bool U) .no, .v (.bytes yg) .no, .v (.int .i64 Z) .no]⟩] => cond (GR Ab Au) (M8 (s a y b f i d l n e p j o q w Aa x S U yg Z) fun u z1 zg zh => j3 [(Ac, Ab)] [g5a b z1 Ab i d l n e p j o q w Aa x S U zg zh] m fun m' => K [dY u] m') none
   | _ => none)
 | _ => none
noncomputable def a5g {R : Type} (N : Nat) (a : LB) (y : Int) (b : List Int) (f : Int) (i : LB) (d l n e p j o q w : Int) (Aa : LB) (x : Int) (S U : Bool) (yg : LB) (Z : Int) (K0 : LB -> Int -> LB -> Int -> Option R) : Option R := d3 (L0 N b f i d l n e p j o q w Aa x S U yg Z) fun b0 => br (!b0) (K0 [] f yg Z) (br (!decide (f = 0)) (K0 [] f yg Z) (Q3 (J2 N a y) fun l1 n2 => br (!decide (n2 = 0)) (d3 (A0 N 28416) fun l3 => K0 l3 1 yg Z) (br (decide ((a.length : Int) = 0)) (d3 (A0 N y) fun l4 => K0 l4 1 yg Z) (br (!U) (br (decide ((a.length : Int) = x)) (d3 (A0 N y) fun l5 => d3 (Y8 N [V.bytes [Gz (GI.wrap o).toNat], V.bytes a, V.bytes l5]) fun l6 => K0 l6 1 yg Z) (d3 (j5 N a) fun l7 => d3 (L6 N 97 b 1 i d l n e p j o q w Aa x S U l7 y) fun l8 => K0 l8 1 l7 y)) (d3 (j5 N a) fun l9 => d3 (L6 N 97 b 1 i d l n e p j o q w Aa x S U l9 y) fun la => K0 la 1 l9 y)))))
noncomputable def a0M (N : Nat) : d2m := fun a y b f i d l n e p j o q w Aa x S U yg Z => a5g N a y b f i d l n e p j o q w Aa x S U yg Z (fun u z1 zg zh => some (u, z1, zg, zh))
noncomputable def a5Z (N : Nat) : Cx := { T := T, isPure := a5S [⟨5, X9 (J2 N)⟩, ⟨62, S1 (A0 N)⟩, ⟨63, a2K (Y8 N)⟩, ⟨29, E4 (j5 N)⟩], pureK := fun g ds K => a2y [⟨5, X9 (J2 N)⟩, ⟨62, S1 (A0 N)⟩, ⟨63, a2K (Y8 N)⟩, ⟨29, E4 (j5 N)⟩] g ds K, memK := fun g dst ds m K => Y9 [⟨61, a1m (L0 N)⟩, ⟨64, a2D (L6 N)⟩] g dst ds m K, meth := a3N [], keep := fun _ => [], keepX := fun _ => [], loopT := fun _ _ _ _ => none, jumps := 9, dyn := true }
theorem b7z {R : Type} (N : Nat) (a y b f i d l n e p j o q w Aa x S U yg Z K : _) : g8 (R := R) (a5Z N) Tryz.f37 [.ptr 1 0 0, .agg [dY a, dI y]] [C0 0 [g5a b f 0 i d l n e p j o q w Aa x S U yg Z]] (A9 K) = a5g N a y b f i d l n e p j o q w Aa x S U yg Z (fun u z1 zg zh => K u b z1 i d l n e p j o q w Aa x S U zg zh) := by
 kernel_rfl
abbrev b4Y (s : d2m) : Prop := ∀ {a y b f i d l n e p j o q w Aa x S U yg Z u z1 zg zh}, s a y b f i d l n e p j o q w Aa x S U yg Z = some (u, z1, zg, zh) -> VR2 37 [.ptr 1 0 0, .agg [dY a, dI y]] [g5a b f 0 i d l n e p j o q w Aa x S U yg Z] [dY u] [g5a b z1 0 i d l n e p j o q w Aa x S U zg zh]
theorem c3P (s : d2m) (hs : b4Y s) : MEO ⟨37, a4N s⟩ := by
 refine ⟨d6 Tryz.func37 (by kernel_rfl) (c := d5 Tryz.f37) (by kernel_rfl), fun R dst ds m K r h => ?_⟩
 simp only [a4N] at h
 split at h
 . obtain ⟨Bs, a1, a2, a3, h⟩ := g4 h
   split at h
   . rcases g5 h with ⟨hc, hk⟩ | ⟨_, hk⟩
     . have hc := GE hc
       subst hc
       obtain ⟨u, z1, zg, zh, h1, h2⟩ := a0F hk
       rw [d9] at h2
       exact ⟨_, _, h2, hs h1 _ _ m dst _ _ a1 a2 a3 rfl rfl ⟨g6 _ rfl, L3 ⟨d7 _, d7 _, trivial⟩, trivial⟩ (j6 (m8 rfl (by repeat (first | exact trivial | refine ⟨by first | exact .inl ⟨rfl, rfl⟩ | exact .inr ⟨_, _, rfl, rfl⟩, ?_⟩)))) (j6 (m8 rfl (by repeat (first | exact trivial | refine ⟨by first | exact .inl ⟨rfl, rfl⟩ | exact .inr ⟨_, _, rfl, rfl⟩, ?_⟩))))⟩
     . cases hk
   . cases h
 . cases h
theorem c3Q (N : Nat) : CxOK Tryz.prog (a5Z N) :=
 L2 (es := [⟨5, X9 (J2 N)⟩, ⟨62, S1 (A0 N)⟩, ⟨63, a2K (Y8 N)⟩, ⟨29, E4 (j5 N)⟩]) (me := [⟨61, a1m (L0 N)⟩, ⟨64, a2D (L6 N)⟩]) (ms := []) a6l ⟨b1c _ (b7Y N), a5M _ (a8T N), c7z _ (c8g N), I2 _ (M7 N), trivial⟩ ⟨a8y _ (b0W N), b2B _ (b5V N), trivial⟩ trivial rfl (fun _ _ _ _ => rfl) (fun _ _ _ _ _ _ => rfl) rfl
open Classical in
theorem c7y (N : Nat) : b4Y (a0M N) := fun {a y b f i d l n e p j o q w Aa x S U yg Z u z1 zg zh} h => by
 refine E6 (cx := a5Z N) (by kernel_rfl) (c3Q N) Tryz.func37 (by kernel_rfl) (by kernel_rfl) (lz (by kernel_rfl)) (by rfl) (rf := A9 (fun Ae Z0 Z1 Z2 Z3 Z4 Z5 Z6 Z7 Z8 Z9 Za Zb Zc Zd Ze Zf Zg Zh => if Z0 = b /\ Z2 = i /\ Z3 = d /\ Z4 = l /\ Z5 = n /\ Z6 = e /\ Z7 = p /\ Z8 = j /\ Z9 = o /\ Za = q /\ Zb = w /\ Zc = Aa /\ Zd = x /\ Ze = S /\ Zf = U then some (Ae, Z1, Zg, Zh) else none)) (r := (u, z1, zg, zh)) ?_ ?_
 . exact (b7z ..).trans ((congrArg (a5g N a y b f i d l n e p j o q w Aa x S U yg Z) (by funext; exact if_pos (by simp))).trans h)
 . intro rs' m' hx
   unfold A9 at hx
   split at hx
   . dsimp only at hx
     split at hx
     . rename_i hk
       obtain ⟨rfl, rfl, rfl, rfl, rfl, rfl, rfl, rfl, rfl, rfl, rfl, rfl, rfl, rfl, rfl⟩ := hk
       cases hx; exact ⟨rfl, rfl, _, rfl⟩
     . cases hx
   . cases hx
abbrev d1g := Int -> Int -> Int -> Int -> Int -> b0k (Option (LB × Int × Int × Int × Int × Int × Int × Bool))
abbrev g6a (a0 : Bool) (a1 a2 a3 a4 : Int) (a5 : LB) (a6 : Int) (a7 a8 : Bool) (a9 : Int) (Az : Nat) (AJ Br AK AR Bu : Int) (Bv AS : Bool) (An Be : Int) (Bf : LB) (Bg : Bool) (Bh : LB) (Bi : Int) (Bj : Bool) : Bx := ⟨99, [dB a0, dI a1, dI a2, dI a3, dI a4, dY a5, dI a6, dB a7, dB a8, .fn a9 [79, 87, 93] 0 Az, dI AJ, dI Br, dI AK, dI AR, dI Bu, dB Bv, dB AS, dI An, .v (.int .u8 Be) .no, .v (.bytes Bf) (.own (.slot 0) 5), dB Bg, dY Bh, dI Bi, dB Bj]⟩
noncomputable def a4R {R : Type} (s : d1g) (dst : Nat) (ds : List D) (m : Mem) (K : List D -> Mem -> Option R) : Option R :=
 match ds with
 | [.ptr (Ac + 1) Ab 0, .agg [.v (.int .i64 a) .no, .v (.int .i64 y) .no, .v (.int .i64 z) .no, .v (.int .i64 O) .no, .v (.int .i64 x4) .no]] => u9 [(Ac, Ab)] m fun Bs => (match Bs with
   | [⟨99, [.v (.bool b) .no, .v (.int .i64 f) .no, .v (.int .i64 i) .no, .v (.int .i64 d) .no, .v (.int .i64 l) .no, .v (.bytes n) .no, .v (.int .i64 e) .no, .v (.bool p) .no, .v (.bool j) .no, .fn o [79, 87, 93] 0 Au, .v (.int .i64 q) .no, .v (.int .i64 w) .no, .v (.int .i64 Aa) .no, .v (.int .i64 x) .no, .v (.int .i64 S) .no, .v (.bool U) .no, .v (.bool yg) .no, .v (.int .i64 Z) .no, .v (.int .u8 yi) .no, .v (.bytes yj) (.own (.slot 0) 5), .v (.bool yk) .no, .v (.bytes yl) .no, .v (.int .i64 ym) .no, .v (.bool yn) .no]⟩] => cond (GR Ab Au) (H9 (s a y z O x4 b f i d l n e p j o q w Aa x S U yg Z yi yj yk yl ym yn) fun u z9 za zb zc zd ze zf => j3 [(Ac, Ab)] [g6a b f i d l n e p j z9 Ab za zb zc zd ze zf yg Z yi yj yk yl ym yn] m fun m' => K [dY u] m') none
   | _ => none)
 | _ => none
noncomputable def A8 {α : Type} (K : LB -> b0k (Option α)) (rs : List D) (m : Mem) : Option α :=
 match rs, m with
 | [.v (.bytes u) _], [_, [(0, ⟨99, [.v (.bool z0) .no, .v (.int .i64 z1) .no, .v (.int .i64 z2) .no, .v (.int .i64 z3) .no, .v (.int .i64 z4) .no, .v (.bytes z5) .no, .v (.int .i64 z6) .no, .v (.bool z7) .no, .v (.bool z8) .no, .fn z9 [79, 87, 93] 0 0, .v (.int .i64 za) .no, .v (.int .i64 zb) .no, .v (.int .i64 zc) .no, .v (.int .i64 zd) .no, .v (.int .i64 ze) .no, .v (.bool zf) .no, .v (.bool zg) .no, .v (.int .i64 zh) .no, .v (.int .u8 zi) .no, .v (.bytes zj) (.own (.slot 0) 5), .v (.bool zk) .no, .v (.bytes zl) .no, .v (.int .i64 zm) .no, .v (.bool zn) .no]⟩)]] => K u z0 z1 z2 z3 z4 z5 z6 z7 z8 z9 za zb zc zd ze zf zg zh zi zj zk zl zm zn
 | _, _ => none
noncomputable def a2t {R : Type} (N : Nat) (a y z O x4 : Int) (b : Bool) (f i d l : Int) (n : LB) (e : Int) (p j : Bool) (o q w Aa x S : Int) (U yg : Bool) (Z yi : Int) (yj : LB) (yk : Bool) (yl : LB) (ym : Int) (yn : Bool) (K0 : LB -> Int -> Int -> Int -> Int -> Int -> Int -> Bool -> Option R) : Option R := K0 [Gz (GI.wrap a).toNat, Gz (GI.wrap y).toNat, Gz (GI.wrap z).toNat, Gz (GI.wrap O).toNat, Gz (GI.wrap x4).toNat] 1 a y z O x4 true
noncomputable def M1 (N : Nat) : d1g := fun a y z O x4 b f i d l n e p j o q w Aa x S U yg Z yi yj yk yl ym yn => a2t N a y z O x4 b f i d l n e p j o q w Aa x S U yg Z yi yj yk yl ym yn (fun u z9 za zb zc zd ze zf => some (u, z9, za, zb, zc, zd, ze, zf))
noncomputable def b1X (N : Nat) : Cx := cxO [] []
theorem b8n {R : Type} (N : Nat) (a y z O x4 b f i d l n e p j o q w Aa x S U yg Z yi yj yk yl ym yn K : _) : g8 (R := R) (b1X N) Tryz.f60 [.ptr 1 0 0, .agg [dI a, dI y, dI z, dI O, dI x4]] [C0 0 [g6a b f i d l n e p j o 0 q w Aa x S U yg Z yi yj yk yl ym yn]] (A8 K) = a2t N a y z O x4 b f i d l n e p j o q w Aa x S U yg Z yi yj yk yl ym yn (fun u z9 za zb zc zd ze zf => K u b f i d l n e p j z9 za zb zc zd ze zf yg Z yi yj yk yl ym yn) := by
 kernel_rfl
abbrev b4S (s : d1g) : Prop := ∀ {a y z O x4 b f i d l n e p j o q w Aa x S U yg Z yi yj yk yl ym yn u z9 za zb zc zd ze zf}, s a y z O x4 b f i d l n e p j o q w Aa x S U yg Z yi yj yk yl ym yn = some (u, z9, za, zb, zc, zd, ze, zf) -> VR2 60 [.ptr 1 0 0, .agg [dI a, dI y, dI z, dI O, dI x4]] [g6a b f i d l n e p j o 0 q w Aa x S U yg Z yi yj yk yl ym yn] [dY u] [g6a b f i d l n e p j z9 0 za zb zc zd ze zf yg Z yi yj yk yl ym yn]
theorem b2w (s : d1g) (hs : b4S s) : MEO ⟨60, a4R s⟩ := by
 refine ⟨d6 Tryz.func60 (by kernel_rfl) (c := d5 Tryz.f60) (by kernel_rfl), fun R dst ds m K r h => ?_⟩
 simp only [a4R] at h
 split at h
 . obtain ⟨Bs, a1, a2, a3, h⟩ := g4 h
   split at h
   . rcases g5 h with ⟨hc, hk⟩ | ⟨_, hk⟩
     . have hc := GE hc
       subst hc
       obtain ⟨u, z9, za, zb, zc, zd, ze, zf, h1, h2⟩ := O3 hk
       rw [d9] at h2
       exact ⟨_, _, h2, hs h1 _ _ m dst _ _ a1 a2 a3 rfl rfl ⟨g6 _ rfl, L3 ⟨d7 _, d7 _, d7 _, d7 _, d7 _, trivial⟩, trivial⟩ (j6 (m8 rfl (by repeat (first | exact trivial | refine ⟨by first | exact .inl ⟨rfl, rfl⟩ | exact .inr ⟨_, _, rfl, rfl⟩, ?_⟩)))) (j6 (m8 rfl (by repeat (first | exact trivial | refine ⟨by first | exact .inl ⟨rfl, rfl⟩ | exact .inr ⟨_, _, rfl, rfl⟩, ?_⟩))))⟩
     . cases hk
   . cases h
 . cases h
open Classical in
theorem b5Z (N : Nat) : b4S (M1 N) := fun {a y z O x4 b f i d l n e p j o q w Aa x S U yg Z yi yj yk yl ym yn u z9 za zb zc zd ze zf} h => by
 refine E6 (cx := b1X N) (by kernel_rfl) (g7 trivial trivial) Tryz.func60 (by kernel_rfl) (by kernel_rfl) (lz (by kernel_rfl)) (by rfl) (rf := A8 (fun Ae Z0 Z1 Z2 Z3 Z4 Z5 Z6 Z7 Z8 Z9 Za Zb Zc Zd Ze Zf Zg Zh Zi Zj Zk Zl Zm Zn => if Z0 = b /\ Z1 = f /\ Z2 = i /\ Z3 = d /\ Z4 = l /\ Z5 = n /\ Z6 = e /\ Z7 = p /\ Z8 = j /\ Zg = yg /\ Zh = Z /\ Zi = yi /\ Zj = yj /\ Zk = yk /\ Zl = yl /\ Zm = ym /\ Zn = yn then some (Ae, Z9, Za, Zb, Zc, Zd, Ze, Zf) else none)) (r := (u, z9, za, zb, zc, zd, ze, zf)) ?_ ?_
 . exact (b8n ..).trans ((congrArg (a2t N a y z O x4 b f i d l n e p j o q w Aa x S U yg Z yi yj yk yl ym yn) (by funext; exact if_pos (by simp))).trans h)
 . intro rs' m' hx
   unfold A8 at hx
   split at hx
   . dsimp only at hx
     split at hx
     . rename_i hk
       obtain ⟨rfl, rfl, rfl, rfl, rfl, rfl, rfl, rfl, rfl, rfl, rfl, rfl, rfl, rfl, rfl, rfl, rfl⟩ := hk
       cases hx; exact ⟨rfl, rfl, _, rfl⟩
     . cases hx
   . cases hx
abbrev d2O := b0k (Option (LB × Int × Bool × Int))
noncomputable def b7X {R : Type} (s : d2O) (dst : Nat) (ds : List D) (m : Mem) (K : List D -> Mem -> Option R) : Option R :=
 match ds with
 | [.ptr (Ac + 1) Ab 0] => u9 [(Ac, Ab)] m fun Bs => (match Bs with
   | [⟨99, [.v (.bool b) .no, .v (.int .i64 f) .no, .v (.int .i64 i) .no, .v (.int .i64 d) .no, .v (.int .i64 l) .no, .v (.bytes n) .no, .v (.int .i64 e) .no, .v (.bool p) .no, .v (.bool j) .no, .fn o [79, 87, 93] 0 Au, .v (.int .i64 q) .no, .v (.int .i64 w) .no, .v (.int .i64 Aa) .no, .v (.int .i64 x) .no, .v (.int .i64 S) .no, .v (.bool U) .no, .v (.bool yg) .no, .v (.int .i64 Z) .no, .v (.int .u8 yi) .no, .v (.bytes yj) (.own (.slot 0) 5), .v (.bool yk) .no, .v (.bytes yl) .no, .v (.int .i64 ym) .no, .v (.bool yn) .no]⟩] => cond (GR Ab Au) (M8 (s b f i d l n e p j o q w Aa x S U yg Z yi yj yk yl ym yn) fun u z9 zf zh => j3 [(Ac, Ab)] [g6a b f i d l n e p j z9 Ab q w Aa x S zf yg zh yi yj yk yl ym yn] m fun m' => K [dY u] m') none
   | _ => none)
 | _ => none
noncomputable def b0R {R : Type} (N : Nat) (b : Bool) (f i d l : Int) (n : LB) (e : Int) (p j : Bool) (o q w Aa x S : Int) (U yg : Bool) (Z yi : Int) (yj : LB) (yk : Bool) (yl : LB) (ym : Int) (yn : Bool) (K0 : LB -> Int -> Bool -> Int -> Option R) : Option R := br (!yg) (br (decide (0 < (n.length : Int))) (d3 (j5 N n) fun l0 => K0 l0 o false Z) (d3 (D3 N S) fun n1 => K0 [] 3 false n1)) (d3 (D3 N S) fun n2 => K0 [] 3 false n2)
noncomputable def a0w (N : Nat) : d2O := fun b f i d l n e p j o q w Aa x S U yg Z yi yj yk yl ym yn => b0R N b f i d l n e p j o q w Aa x S U yg Z yi yj yk yl ym yn (fun u z9 zf zh => some (u, z9, zf, zh))
noncomputable def c0O (N : Nat) : Cx := cxO [⟨29, E4 (j5 N)⟩, ⟨78, a2O (D3 N)⟩] []
theorem c2I {R : Type} (N : Nat) (b f i d l n e p j o q w Aa x S U yg Z yi yj yk yl ym yn K : _) : g8 (R := R) (c0O N) Tryz.f86 [.ptr 1 0 0] [C0 0 [g6a b f i d l n e p j o 0 q w Aa x S U yg Z yi yj yk yl ym yn]] (A8 K) = b0R N b f i d l n e p j o q w Aa x S U yg Z yi yj yk yl ym yn (fun u z9 zf zh => K u b f i d l n e p j z9 q w Aa x S zf yg zh yi yj yk yl ym yn) := by
 kernel_rfl
abbrev c4X (s : d2O) : Prop := ∀ {b f i d l n e p j o q w Aa x S U yg Z yi yj yk yl ym yn u z9 zf zh}, s b f i d l n e p j o q w Aa x S U yg Z yi yj yk yl ym yn = some (u, z9, zf, zh) -> VR2 86 [.ptr 1 0 0] [g6a b f i d l n e p j o 0 q w Aa x S U yg Z yi yj yk yl ym yn] [dY u] [g6a b f i d l n e p j z9 0 q w Aa x S zf yg zh yi yj yk yl ym yn]
theorem d0f (s : d2O) (hs : c4X s) : MEO ⟨86, b7X s⟩ := by
 refine ⟨d6 Tryz.func86 (by kernel_rfl) (c := d5 Tryz.f86) (by kernel_rfl), fun R dst ds m K r h => ?_⟩
 simp only [b7X] at h
 split at h
 . obtain ⟨Bs, a1, a2, a3, h⟩ := g4 h
   split at h
   . rcases g5 h with ⟨hc, hk⟩ | ⟨_, hk⟩
     . have hc := GE hc
       subst hc
       obtain ⟨u, z9, zf, zh, h1, h2⟩ := a0F hk
       rw [d9] at h2
       exact ⟨_, _, h2, hs h1 _ _ m dst _ _ a1 a2 a3 rfl rfl ⟨g6 _ rfl, trivial⟩ (j6 (m8 rfl (by repeat (first | exact trivial | refine ⟨by first | exact .inl ⟨rfl, rfl⟩ | exact .inr ⟨_, _, rfl, rfl⟩, ?_⟩)))) (j6 (m8 rfl (by repeat (first | exact trivial | refine ⟨by first | exact .inl ⟨rfl, rfl⟩ | exact .inr ⟨_, _, rfl, rfl⟩, ?_⟩))))⟩
     . cases hk
   . cases h
 . cases h
open Classical in
theorem d2Y (N : Nat) : c4X (a0w N) := fun {b f i d l n e p j o q w Aa x S U yg Z yi yj yk yl ym yn u z9 zf zh} h => by
 refine E6 (cx := c0O N) (by kernel_rfl) (g7 ⟨I2 _ (M7 N), a8n _ (b2q N), trivial⟩ trivial) Tryz.func86 (by kernel_rfl) (by kernel_rfl) (lz (by kernel_rfl)) (by rfl) (rf := A8 (fun Ae Z0 Z1 Z2 Z3 Z4 Z5 Z6 Z7 Z8 Z9 Za Zb Zc Zd Ze Zf Zg Zh Zi Zj Zk Zl Zm Zn => if Z0 = b /\ Z1 = f /\ Z2 = i /\ Z3 = d /\ Z4 = l /\ Z5 = n /\ Z6 = e /\ Z7 = p /\ Z8 = j /\ Za = q /\ Zb = w /\ Zc = Aa /\ Zd = x /\ Ze = S /\ Zg = yg /\ Zi = yi /\ Zj = yj /\ Zk = yk /\ Zl = yl /\ Zm = ym /\ Zn = yn then some (Ae, Z9, Zf, Zh) else none)) (r := (u, z9, zf, zh)) ?_ ?_
 . exact (c2I ..).trans ((congrArg (b0R N b f i d l n e p j o q w Aa x S U yg Z yi yj yk yl ym yn) (by funext; exact if_pos (by simp))).trans h)
 . intro rs' m' hx
   unfold A8 at hx
   split at hx
   . dsimp only at hx
     split at hx
     . rename_i hk
       obtain ⟨rfl, rfl, rfl, rfl, rfl, rfl, rfl, rfl, rfl, rfl, rfl, rfl, rfl, rfl, rfl, rfl, rfl, rfl, rfl, rfl, rfl⟩ := hk
       cases hx; exact ⟨rfl, rfl, _, rfl⟩
     . cases hx
   . cases hx
end En
end Go.Proofs.YtfafflepalgcnaaGreat
