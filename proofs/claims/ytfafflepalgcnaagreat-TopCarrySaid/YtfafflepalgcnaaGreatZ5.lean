/- Texts. -/
import Derived.Test.YtfafflepalgcnaaGreatZ4
set_option linter.unusedSimpArgs false
set_option linter.unusedVariables false
set_option linter.unusedSectionVars false
open Go.IntKind renaming i64 → GA
namespace Go.Proofs.YtfafflepalgcnaaGreat
namespace En
open Go Go.Proofs
abbrev VR2 := c1H Tryz.prog T
abbrev MEO := MEntOK Tryz.prog T
abbrev EO := EntOK Tryz.prog T
abbrev PRT := F6 Tryz.prog T
theorem lz {cx : Cx} {n : Nat} {fn : Func} (h : (D6 (d5 fn)).length = 0) : v8 cx n (d5 fn) := C1 (k := 0) h trivial
set_option maxRecDepth 100000
set_option maxHeartbeats 8000000
noncomputable def E4 {R : Type} (s : LB -> Option (LB)) (ds : List D) (K : List D -> Option R) : Option R :=
 match ds with
 | [.v (.bytes a) .no] => d3 (s a) fun u => K [dY u]
 | _ => none
abbrev d1Z (s : LB -> Option (LB)) : Prop := ∀ a u, s a = some u -> PRT 29 [dY a] [dY u]
theorem I2 (s : LB -> Option (LB)) (hs : d1Z s) : EO ⟨29, E4 s⟩ := by
 refine ⟨d6 Tryz.func29 (by kernel_rfl) (c := d5 Tryz.f29) (by kernel_rfl), fun R ds K r h => ?_, fun R ds K => ?_⟩
 . simp only [E4] at h
   split at h
   . obtain ⟨u, h1, h2⟩ := j4 h
     exact ⟨_, h2, hs _ _ h1⟩
   . cases h
 . simp only [E4]
   split
   . rw [I8]; rfl
   . rfl
abbrev Ty0 := Int -> Int -> Int -> Bool -> Int -> Bool -> LB -> Int -> Option (LB × Int)
noncomputable def a2p {R : Type} (s : Ty0) (ds : List D) (K : List D -> Option R) : Option R :=
 match ds with
 | [.agg [.v (.int .i64 a) .no, .v (.int .i64 y) .no, .v (.int .i64 z) .no, .v (.bool O) .no, .v (.int .i64 x4) .no, .v (.bool x5) .no, .v (.bytes x6) .no], .v (.int .i64 x7) .no] => Q3 (s a y z O x4 x5 x6 x7) fun u r1 => K [dY u, dI r1]
 | _ => none
abbrev c7G (s : Ty0) : Prop := ∀ a y z O x4 x5 x6 x7 u r1, s a y z O x4 x5 x6 x7 = some (u, r1) -> PRT 84 [g0a a y z O x4 x5 x6, dI x7] [dY u, dI r1]
theorem b0Y (s : Ty0) (hs : c7G s) : EO ⟨84, a2p s⟩ := by
 refine ⟨d6 Tryz.func84 (by kernel_rfl) (c := d5 Tryz.f84) (by kernel_rfl), fun R ds K r h => ?_, fun R ds K => ?_⟩
 . simp only [a2p] at h
   split at h
   . obtain ⟨u, r1, h1, h2⟩ := O2 h
     exact ⟨_, h2, hs _ _ _ _ _ _ _ _ _ _ h1⟩
   . cases h
 . simp only [a2p]
   split
   . rw [a6k]; rfl
   . rfl
abbrev Ty1 := LB -> Int -> Option (Int × Int × Int × Bool × Int × Bool × LB × Int)
noncomputable def a2x {R : Type} (s : Ty1) (ds : List D) (K : List D -> Option R) : Option R :=
 match ds with
 | [.v (.bytes a) .no, .v (.int .i64 y) .no] => H9 (s a y) fun u r1 r2 r3 r4 r5 r6 r7 => K [g0a u r1 r2 r3 r4 r5 r6, dI r7]
 | _ => none
abbrev c6K (s : Ty1) : Prop := ∀ a y u r1 r2 r3 r4 r5 r6 r7, s a y = some (u, r1, r2, r3, r4, r5, r6, r7) -> PRT 68 [dY a, dI y] [g0a u r1 r2 r3 r4 r5 r6, dI r7]
theorem b1A (s : Ty1) (hs : c6K s) : EO ⟨68, a2x s⟩ := by
 refine ⟨d6 Tryz.func68 (by kernel_rfl) (c := d5 Tryz.f68) (by kernel_rfl), fun R ds K r h => ?_, fun R ds K => ?_⟩
 . simp only [a2x] at h
   split at h
   . obtain ⟨u, r1, r2, r3, r4, r5, r6, r7, h1, h2⟩ := O3 h
     exact ⟨_, h2, hs _ _ _ _ _ _ _ _ _ _ h1⟩
   . cases h
 . simp only [a2x]
   split
   . rw [c8V]; rfl
   . rfl
abbrev Ty2 := Int -> Int -> Int -> Bool -> Int -> Bool -> LB -> Int -> Int -> Int -> Bool -> Int -> Bool -> LB -> Option (Bool)
noncomputable def a7G {R : Type} (s : Ty2) (ds : List D) (K : List D -> Option R) : Option R :=
 match ds with
 | [.agg [.v (.int .i64 a) .no, .v (.int .i64 y) .no, .v (.int .i64 z) .no, .v (.bool O) .no, .v (.int .i64 x4) .no, .v (.bool x5) .no, .v (.bytes x6) .no], .agg [.v (.int .i64 x7) .no, .v (.int .i64 x8) .no, .v (.int .i64 x9) .no, .v (.bool xa) .no, .v (.int .i64 xb) .no, .v (.bool xc) .no, .v (.bytes xd) .no]] => d3 (s a y z O x4 x5 x6 x7 x8 x9 xa xb xc xd) fun u => K [dB u]
 | _ => none
abbrev d2h (s : Ty2) : Prop := ∀ a y z O x4 x5 x6 x7 x8 x9 xa xb xc xd u, s a y z O x4 x5 x6 x7 x8 x9 xa xb xc xd = some u -> PRT 47 [g0a a y z O x4 x5 x6, g0a x7 x8 x9 xa xb xc xd] [dB u]
theorem c1P (s : Ty2) (hs : d2h s) : EO ⟨47, a7G s⟩ := by
 refine ⟨d6 Tryz.func47 (by kernel_rfl) (c := d5 Tryz.f47) (by kernel_rfl), fun R ds K r h => ?_, fun R ds K => ?_⟩
 . simp only [a7G] at h
   split at h
   . obtain ⟨u, h1, h2⟩ := j4 h
     exact ⟨_, h2, hs _ _ _ _ _ _ _ _ _ _ _ _ _ _ _ h1⟩
   . cases h
 . simp only [a7G]
   split
   . rw [I8]; rfl
   . rfl
noncomputable def b0K {R : Type} (s : Int -> Option (Int)) (ds : List D) (K : List D -> Option R) : Option R :=
 match ds with
 | [.v (.int .i64 a) .no] => d3 (s a) fun u => K [dI u]
 | _ => none
noncomputable def E0 (rs : List D) (_ : Mem) : Option (Int) :=
 match rs with
 | [.v (.int .i64 u) _] => some (u)
 | _ => none
noncomputable def a5u (N : Nat) (a : Int) : Option (Int) := br (decide (a = 0)) (some 1) (br (decide (a = 1)) (some 2) (some 0))
noncomputable def c2c (N : Nat) : Cx := cxO [] []
theorem c3Y (N : Nat) (a : _) : g8 (c2c N) Tryz.f65 [dI a] [] E0 = a5u N a := by
 kernel_rfl
abbrev c4Y (s : Int -> Option (Int)) : Prop := ∀ {a u}, s a = some u -> PRT 65 [dI a] [dI u]
theorem c8U (s : Int -> Option (Int)) (hs : c4Y s) : EO ⟨65, b0K s⟩ := by
 refine ⟨d6 Tryz.func65 (by kernel_rfl) (c := d5 Tryz.f65) (by kernel_rfl), fun R ds K r h => ?_, fun R ds K => ?_⟩
 . simp only [b0K] at h
   split at h
   . obtain ⟨u, h1, h2⟩ := j4 h
     exact ⟨_, h2, hs h1⟩
   . cases h
 . simp only [b0K]
   split
   . rw [I8]; rfl
   . rfl
theorem d2s (N : Nat) : c4Y (a5u N) := fun {a u} h => q6 (cx := c2c N) (by kernel_rfl) (g7 trivial trivial) Tryz.func65 (by kernel_rfl) (by kernel_rfl) (lz (by kernel_rfl)) (by rfl) (by rfl) (by rfl) (rf := E0) ((c3Y ..).trans h) (fun rs' m h => by
 unfold E0 at h
 split at h
 . cases h; exact ⟨rfl, rfl⟩
 . cases h)
noncomputable def a4B {R : Type} (s : LB -> Int -> Option (List V × Int)) (ds : List D) (K : List D -> Option R) : Option R :=
 match ds with
 | [.v (.bytes a) .no, .v (.int .i64 y) .no] => Q3 (s a y) fun u r1 => K [.v (.sl 22 u) .no, dI r1]
 | _ => none
noncomputable def b1f (rs : List D) (_ : Mem) : Option (List V × Int) :=
 match rs with
 | [.v (.sl 22 u) _, .v (.int .i64 r1) _] => some (u, r1)
 | _ => none
noncomputable def a6h {R : Type} (N : Nat) (n0 : Int) (Lq : List V -> LB -> Option R) (K0 : List V -> Option R) (Aj : List V) (l2 : LB) : Option R := br (decide (0 < (l2.length : Int))) (br (decide (0 <= match false with | true => max n0 (l2.length : Int) | false => min n0 (l2.length : Int)) && decide ((match false with | true => max n0 (l2.length : Int) | false => min n0 (l2.length : Int)) <= (l2.length : Int))) (d3 (j5 N (List.take (match false with | true => max n0 (l2.length : Int) | false => min n0 (l2.length : Int)).toNat l2)) fun l0 => br (decide ((Aj.length + [V.bytes l0].length) * 24 <= 140737488355328)) (br (decide (0 <= match false with | true => max n0 (l2.length : Int) | false => min n0 (l2.length : Int)) && decide ((match false with | true => max n0 (l2.length : Int) | false => min n0 (l2.length : Int)) <= (l2.length : Int))) (Lq (Aj ++ [V.bytes l0]) (List.drop (match false with | true => max n0 (l2.length : Int) | false => min n0 (l2.length : Int)).toNat l2)) none) none) none) (K0 Aj)
noncomputable def R6 {R : Type} (N : Nat) (n0 : Int) : Nat -> List V -> LB -> (List V -> Option R) -> Option R | 0, _, _, _ => none | t + 1, Aj, l2, K0 => a6h N n0 (fun Aj l2 => R6 N n0 t Aj l2 K0) K0 Aj l2
noncomputable def a5R {R : Type} (N : Nat) (ds : List D) (m : Mem) (K : Ex -> List D -> Mem -> Option R) : Option R :=
 match ds, m with
 | [(.v (.int .i64 n0) .no), (.v (.sl 22 Aj) (.own (.slot 6) 22)), (.v (.bytes l2) .no)], [[]] => R6 N n0 N Aj l2 (fun a0 => K (.exit 0) [(.v (.sl 22 a0) (.own (.slot 6) 22))] [[]])
 | _, _ => none
noncomputable def a0d (N : Nat) (a : LB) (y : Int) : Option (List V × Int) := br (decide (y < 1)) (some ([], 1)) (R6 N y N [] a fun l0 => some (l0, 0))
noncomputable def V1 (N : Nat) : Cx := { T := T, isPure := a5S [⟨29, E4 (j5 N)⟩], pureK := fun g ds K => a2y [⟨29, E4 (j5 N)⟩] g ds K, memK := fun g dst ds m K => Y9 [] g dst ds m K, meth := a3N [], keep := fun r => match r with | 5 => [1, 6, 7] | _ => [], keepX := fun r => match r with | 5 => [6] | _ => [], loopT := fun r ds m K => match r with | 5 => a5R N ds m K | _ => none, jumps := 9 }
theorem b4x {R : Type} (N : Nat) (n0 : Int) (Aj : List V) (l2 : LB) (L : List D -> Mem -> Option R) (K : Ex -> List D -> Mem -> Option R) :
 a0k (fun st K => codeK (V1 N) (G1 Tryz.f66 0) st K) 30 [1, 6, 7] [6] L [(dI n0), (.v (.sl 22 Aj) (.own (.slot 6) 22)), (dY l2)] [[]] K = a6h N n0 (fun Aj l2 => L [(dI n0), (.v (.sl 22 Aj) (.own (.slot 6) 22)), (dY l2)] [[]]) (fun a0 => K (.exit 0) [(.v (.sl 22 a0) (.own (.slot 6) 22))] [[]]) Aj l2 := by
 kernel_rfl
theorem a5F {R : Type} (N : Nat) (n0 : Int) (K : Ex -> List D -> Mem -> Option R) : ∀ (t : Nat) (Aj : List V) (l2 : LB),
 a0T (fun st K => codeK (V1 N) (G1 Tryz.f66 0) st K) 30 [1, 6, 7] [6] t [(dI n0), (.v (.sl 22 Aj) (.own (.slot 6) 22)), (dY l2)] [[]] K = R6 N n0 t Aj l2 (fun a0 => K (.exit 0) [(.v (.sl 22 a0) (.own (.slot 6) 22))] [[]])
 | 0, Aj, l2 => rfl
 | t + 1, Aj, l2 => (b4x N n0 Aj l2 _ K).trans (congrArg (fun L => a6h N n0 L (fun a0 => K (.exit 0) [(.v (.sl 22 a0) (.own (.slot 6) 22))] [[]]) Aj l2) (funext fun Aj => funext fun l2 => a5F N n0 K t Aj l2))
theorem b8Y (N : Nat) (a y : _) : g8 (V1 N) Tryz.f66 [dY a, dI y] [] b1f = a0d N a y := by
 kernel_rfl
abbrev c0w (s : LB -> Int -> Option (List V × Int)) : Prop := ∀ {a y u r1}, s a y = some (u, r1) -> PRT 66 [dY a, dI y] [.v (.sl 22 u) .no, dI r1]
theorem b5j (s : LB -> Int -> Option (List V × Int)) (hs : c0w s) : EO ⟨66, a4B s⟩ := by
 refine ⟨d6 Tryz.func66 (by kernel_rfl) (c := d5 Tryz.f66) (by kernel_rfl), fun R ds K r h => ?_, fun R ds K => ?_⟩
 . simp only [a4B] at h
   split at h
   . obtain ⟨u, r1, h1, h2⟩ := O2 h
     exact ⟨_, h2, hs h1⟩
   . cases h
 . simp only [a4B]
   split
   . rw [a6k]; rfl
   . rfl
theorem c6v (N : Nat) : CxOK Tryz.prog (V1 N) :=
 L2 (es := [⟨29, E4 (j5 N)⟩]) (me := []) (ms := []) a6l ⟨I2 _ (M7 N), trivial⟩ trivial trivial rfl (fun _ _ _ _ => rfl) (fun _ _ _ _ _ _ => rfl) rfl
theorem c0J (N : Nat) : V4 (V1 N) 30 (G1 Tryz.f66 0) := by
 refine M0 (rid := 5) (by kernel_rfl) rfl rfl fun R ds m K r h => ?_
 have h : a5R N ds m K = some r := h
 unfold a5R at h
 split at h
 . exact ⟨N, Eq.trans (a5F ..) h⟩
 . cases h
theorem c6I (N : Nat) : v8 (V1 N) Tryz.f66.ntmps (d5 Tryz.f66) :=
 C1 (k := 1) (by kernel_rfl) ⟨trivial, c0J N⟩
theorem b9L (N : Nat) : c0w (a0d N) := fun {a y u r1} h => q6 (cx := V1 N) (by kernel_rfl) (c6v N) Tryz.func66 (by kernel_rfl) (by kernel_rfl) (c6I N) (by rfl) (by rfl) (by rfl) (rf := b1f) ((b8Y ..).trans h) (fun rs' m h => by
 unfold b1f at h
 split at h
 . cases h; exact ⟨rfl, rfl⟩
 . cases h)
noncomputable def b0P {R : Type} (s : Int -> Int -> Option (Bool)) (ds : List D) (K : List D -> Option R) : Option R :=
 match ds with
 | [.v (.int .i64 a) .no, .v (.int .i64 y) .no] => d3 (s a y) fun u => K [dB u]
 | _ => none
noncomputable def C4 (rs : List D) (_ : Mem) : Option (Bool) :=
 match rs with
 | [.v (.bool u) _] => some (u)
 | _ => none
noncomputable def O6 (N : Nat) (a y : Int) : Option (Bool) := br (decide (1 <= a)) (br (decide (a <= 254)) (d3 (a5u N y) fun n0 => some (decide (0 < n0))) (some false)) (some false)
noncomputable def b9E (N : Nat) : Cx := cxO [⟨65, b0K (a5u N)⟩] []
theorem c3h (N : Nat) (a y : _) : g8 (b9E N) Tryz.f42 [dI a, dI y] [] C4 = O6 N a y := by
 kernel_rfl
abbrev c5w (s : Int -> Int -> Option (Bool)) : Prop := ∀ a y u, s a y = some u -> PRT 42 [dI a, dI y] [dB u]
theorem c9V (s : Int -> Int -> Option (Bool)) (hs : c5w s) : EO ⟨42, b0P s⟩ := by
 refine ⟨d6 Tryz.func42 (by kernel_rfl) (c := d5 Tryz.f42) (by kernel_rfl), fun R ds K r h => ?_, fun R ds K => ?_⟩
 . simp only [b0P] at h
   split at h
   . obtain ⟨u, h1, h2⟩ := j4 h
     exact ⟨_, h2, hs _ _ _ h1⟩
   . cases h
 . simp only [b0P]
   split
   . rw [I8]; rfl
   . rfl
theorem d1K (N : Nat) : c5w (O6 N) := fun a y u h => q6 (cx := b9E N) (by kernel_rfl) (g7 ⟨c8U _ (d2s N), trivial⟩ trivial) Tryz.func42 (by kernel_rfl) (by kernel_rfl) (lz (by kernel_rfl)) (by rfl) (by rfl) (by rfl) (rf := C4) ((c3h ..).trans h) (fun rs' m h => by
 unfold C4 at h
 split at h
 . cases h; exact ⟨rfl, rfl⟩
 . cases h)
abbrev Ty3 := Int -> Int -> Int -> Bool -> Int -> Bool -> LB -> Option (Int)
noncomputable def a7y {R : Type} (s : Ty3) (ds : List D) (K : List D -> Option R) : Option R :=
 match ds with
 | [.agg [.v (.int .i64 a) .no, .v (.int .i64 y) .no, .v (.int .i64 z) .no, .v (.bool O) .no, .v (.int .i64 x4) .no, .v (.bool x5) .no, .v (.bytes x6) .no]] => d3 (s a y z O x4 x5 x6) fun u => K [dI u]
 | _ => none
noncomputable def J1 (N : Nat) (a y z : Int) (O : Bool) (x4 : Int) (x5 : Bool) (x6 : LB) : Option (Int) := br (!decide ((x6.length : Int) = 1)) (some 0) (br (decide (0 < (x6.length : Int))) (at? x6 0 fun u0 => br (decide (254 < GA.wrap (u0.toNat : Int))) (some 0) (br (decide (0 < (x6.length : Int))) (at? x6 0 fun u1 => some (GA.wrap (u1.toNat : Int))) none)) none)
noncomputable def c0z (N : Nat) : Cx := cxO [] []
theorem c3v (N : Nat) (a y z O x4 x5 x6 : _) : g8 (c0z N) Tryz.f71 [g0a a y z O x4 x5 x6] [] E0 = J1 N a y z O x4 x5 x6 := by
 kernel_rfl
abbrev c4M (s : Ty3) : Prop := ∀ {a y z O x4 x5 x6 u}, s a y z O x4 x5 x6 = some u -> PRT 71 [g0a a y z O x4 x5 x6] [dI u]
theorem b8G (s : Ty3) (hs : c4M s) : EO ⟨71, a7y s⟩ := by
 refine ⟨d6 Tryz.func71 (by kernel_rfl) (c := d5 Tryz.f71) (by kernel_rfl), fun R ds K r h => ?_, fun R ds K => ?_⟩
 . simp only [a7y] at h
   split at h
   . obtain ⟨u, h1, h2⟩ := j4 h
     exact ⟨_, h2, hs h1⟩
   . cases h
 . simp only [a7y]
   split
   . rw [I8]; rfl
   . rfl
theorem c5u (N : Nat) : c4M (J1 N) := fun {a y z O x4 x5 x6 u} h => q6 (cx := c0z N) (by kernel_rfl) (g7 trivial trivial) Tryz.func71 (by kernel_rfl) (by kernel_rfl) (lz (by kernel_rfl)) (by rfl) (by rfl) (by rfl) (rf := E0) ((c3v ..).trans h) (fun rs' m h => by
 unfold E0 at h
 split at h
 . cases h; exact ⟨rfl, rfl⟩
 . cases h)
abbrev Ty4 := a3W (Option (Bool))
abbrev g1a (a0 a1 a2 a3 a4 : Int) (a5 : LB) (a6 : Int) (a7 : List V) (a8 : LB) (a9 : Int) (Az : LB) : Bx := ⟨82, [dI a0, dI a1, dI a2, dI a3, dI a4, dY a5, dI a6, .v (.sl 22 a7) .no, .v (.bytes a8) (.own (.slot 0) 5), dI a9, dY Az]⟩
noncomputable def a7v {R : Type} (s : Ty4) (dst : Nat) (ds : List D) (m : Mem) (K : List D -> Mem -> Option R) : Option R :=
 match ds with
 | [.ptr (Ac + 1) Ab 0] => u9 [(Ac, Ab)] m fun Bs => (match Bs with
   | [⟨82, [.v (.int .i64 b) .no, .v (.int .i64 f) .no, .v (.int .i64 i) .no, .v (.int .i64 d) .no, .v (.int .i64 l) .no, .v (.bytes n) _, .v (.int .i64 e) .no, .v (.sl 22 p) _, .v (.bytes j) (.own (.slot 0) 5), .v (.int .i64 o) .no, .v (.bytes q) _]⟩] => d3 (s b f i d l n e p j o q) fun u => j3 [(Ac, Ab)] [g1a b f i d l n e p j o q] m fun m' => K [dB u] m'
   | _ => none)
 | _ => none
noncomputable def b8j {α : Type} (K : Bool -> a3W (Option α)) (rs : List D) (m : Mem) : Option α :=
 match rs, m with
 | [.v (.bool u) _], [_, [(0, ⟨82, [.v (.int .i64 z0) .no, .v (.int .i64 z1) .no, .v (.int .i64 z2) .no, .v (.int .i64 z3) .no, .v (.int .i64 z4) .no, .v (.bytes z5) _, .v (.int .i64 z6) .no, .v (.sl 22 z7) _, .v (.bytes z8) (.own (.slot 0) 5), .v (.int .i64 z9) .no, .v (.bytes za) _]⟩)]] => K u z0 z1 z2 z3 z4 z5 z6 z7 z8 z9 za
 | _, _ => none
noncomputable def b7u {R : Type} (N : Nat) (b f i d l : Int) (n : LB) (e : Int) (p : List V) (j : LB) (o : Int) (q : LB) (K0 : Bool -> Option R) : Option R := K0 (decide (0 < f))
noncomputable def a1M (N : Nat) : Ty4 := fun b f i d l n e p j o q => b7u N b f i d l n e p j o q (fun u => some u)
noncomputable def c1J (N : Nat) : Cx := cxO [] []
theorem c2X {R : Type} (N : Nat) (b f i d l n e p j o q K : _) : g8 (R := R) (c1J N) Tryz.f45 [.ptr 1 0 0] [C0 0 [g1a b f i d l n e p j o q]] (b8j K) = b7u N b f i d l n e p j o q (fun u => K u b f i d l n e p j o q) := by
 kernel_rfl
abbrev c4A (s : Ty4) : Prop := ∀ {b f i d l n e p j o q u}, s b f i d l n e p j o q = some u -> ViewRet Tryz.prog T 45 [.ptr 1 0 0] [g1a b f i d l n e p j o q] [dB u] [g1a b f i d l n e p j o q]
theorem b1E (s : Ty4) (hs : c4A s) : MEO ⟨45, a7v s⟩ := by
 refine ⟨d6 Tryz.func45 (by kernel_rfl) (c := d5 Tryz.f45) (by kernel_rfl), fun R dst ds m K r h => ?_⟩
 simp only [a7v] at h
 split at h
 . obtain ⟨Bs, a1, a2, a3, h⟩ := g4 h
   split at h
   . obtain ⟨u, h1, h2⟩ := j4 h
     rw [d9] at h2
     exact ⟨_, _, h2, ViewRet.weakIn (hs h1) (by exact ⟨⟨rfl, .inl rfl, .inl rfl, .inl rfl, .inl rfl, .inl rfl, .inr ⟨_, _, rfl, rfl⟩, .inl rfl, .inr ⟨_, _, rfl, rfl⟩, .inl rfl, .inl rfl, .inr ⟨_, _, rfl, rfl⟩, trivial⟩, trivial⟩) rfl _ _ m dst a1 a2 a3 ⟨g6 _ rfl, trivial⟩⟩
   . cases h
 . cases h
open Classical in
theorem b7Q (N : Nat) : c4A (a1M N) := fun {b f i d l n e p j o q u} h => by
 refine o9 (cx := c1J N) (by kernel_rfl) (g7 trivial trivial) Tryz.func45 (by kernel_rfl) (by kernel_rfl) (lz (by kernel_rfl)) (by rfl) (by rfl) (by rfl) (rf := b8j (fun Ae Z0 Z1 Z2 Z3 Z4 Z5 Z6 Z7 Z8 Z9 Za => if Z0 = b /\ Z1 = f /\ Z2 = i /\ Z3 = d /\ Z4 = l /\ Z5 = n /\ Z6 = e /\ Z7 = p /\ Z8 = j /\ Z9 = o /\ Za = q then some Ae else none)) (r := u) ?_ ?_
 . exact (c2X ..).trans ((congrArg (b7u N b f i d l n e p j o q) (by funext; exact if_pos (by simp))).trans h)
 . intro rs' m' hx
   unfold b8j at hx
   split at hx
   . dsimp only at hx
     split at hx
     . rename_i hk
       obtain ⟨rfl, rfl, rfl, rfl, rfl, rfl, rfl, rfl, rfl, rfl, rfl⟩ := hk
       cases hx; exact ⟨rfl, rfl, _, [⟨82, [_, _, _, _, _, _, _, _, _, _, _]⟩], rfl, rfl, ⟨⟨rfl, .inl rfl, .inl rfl, .inl rfl, .inl rfl, .inl rfl, .inr ⟨_, _, rfl, rfl⟩, .inl rfl, .inr ⟨_, _, rfl, rfl⟩, .inl rfl, .inl rfl, .inr ⟨_, _, rfl, rfl⟩, trivial⟩, trivial⟩⟩
     . cases hx
   . cases hx
abbrev Ty5 := Int -> Int -> Int -> Bool -> Int -> Bool -> LB -> a3W (Option (LB))
noncomputable def b1P {R : Type} (s : Ty5) (dst : Nat) (ds : List D) (m : Mem) (K : List D -> Mem -> Option R) : Option R :=
 match ds with
 | [.ptr (Ac + 1) Ab 0, .agg [.v (.int .i64 a) .no, .v (.int .i64 y) .no, .v (.int .i64 z) .no, .v (.bool O) .no, .v (.int .i64 x4) .no, .v (.bool x5) .no, .v (.bytes x6) .no]] => u9 [(Ac, Ab)] m fun Bs => (match Bs with
   | [⟨82, [.v (.int .i64 b) .no, .v (.int .i64 f) .no, .v (.int .i64 i) .no, .v (.int .i64 d) .no, .v (.int .i64 l) .no, .v (.bytes n) _, .v (.int .i64 e) .no, .v (.sl 22 p) _, .v (.bytes j) (.own (.slot 0) 5), .v (.int .i64 o) .no, .v (.bytes q) _]⟩] => d3 (s a y z O x4 x5 x6 b f i d l n e p j o q) fun u => j3 [(Ac, Ab)] [g1a b f i d l n e p j o q] m fun m' => K [dY u] m'
   | _ => none)
 | _ => none
noncomputable def C7 {α : Type} (K : LB -> a3W (Option α)) (rs : List D) (m : Mem) : Option α :=
 match rs, m with
 | [.v (.bytes u) _], [_, [(0, ⟨82, [.v (.int .i64 z0) .no, .v (.int .i64 z1) .no, .v (.int .i64 z2) .no, .v (.int .i64 z3) .no, .v (.int .i64 z4) .no, .v (.bytes z5) _, .v (.int .i64 z6) .no, .v (.sl 22 z7) _, .v (.bytes z8) (.own (.slot 0) 5), .v (.int .i64 z9) .no, .v (.bytes za) _]⟩)]] => K u z0 z1 z2 z3 z4 z5 z6 z7 z8 z9 za
 | _, _ => none
noncomputable def c4n {R : Type} (N : Nat) (a y z : Int) (O : Bool) (x4 : Int) (x5 : Bool) (x6 : LB) (b f i d l : Int) (n : LB) (e : Int) (p : List V) (j : LB) (o : Int) (q : LB) (K0 : LB -> Option R) : Option R := Q3 (a2w N a y z O x4 x5 x6 b) fun l0 n1 => K0 l0
noncomputable def a4h (N : Nat) : Ty5 := fun a y z O x4 x5 x6 b f i d l n e p j o q => c4n N a y z O x4 x5 x6 b f i d l n e p j o q (fun u => some u)
noncomputable def c4E (N : Nat) : Cx := cxO [⟨84, a2p (a2w N)⟩] []
theorem c7s {R : Type} (N : Nat) (a y z O x4 x5 x6 b f i d l n e p j o q K : _) : g8 (R := R) (c4E N) Tryz.f70 [.ptr 1 0 0, g0a a y z O x4 x5 x6] [C0 0 [g1a b f i d l n e p j o q]] (C7 K) = c4n N a y z O x4 x5 x6 b f i d l n e p j o q (fun u => K u b f i d l n e p j o q) := by
 kernel_rfl
abbrev c9h (s : Ty5) : Prop := ∀ {a y z O x4 x5 x6 b f i d l n e p j o q u}, s a y z O x4 x5 x6 b f i d l n e p j o q = some u -> ViewRet Tryz.prog T 70 [.ptr 1 0 0, g0a a y z O x4 x5 x6] [g1a b f i d l n e p j o q] [dY u] [g1a b f i d l n e p j o q]
theorem b8e (s : Ty5) (hs : c9h s) : MEO ⟨70, b1P s⟩ := by
 refine ⟨d6 Tryz.func70 (by kernel_rfl) (c := d5 Tryz.f70) (by kernel_rfl), fun R dst ds m K r h => ?_⟩
 simp only [b1P] at h
 split at h
 . obtain ⟨Bs, a1, a2, a3, h⟩ := g4 h
   split at h
   . obtain ⟨u, h1, h2⟩ := j4 h
     rw [d9] at h2
     exact ⟨_, _, h2, ViewRet.weakIn (hs h1) (by exact ⟨⟨rfl, .inl rfl, .inl rfl, .inl rfl, .inl rfl, .inl rfl, .inr ⟨_, _, rfl, rfl⟩, .inl rfl, .inr ⟨_, _, rfl, rfl⟩, .inl rfl, .inl rfl, .inr ⟨_, _, rfl, rfl⟩, trivial⟩, trivial⟩) rfl _ _ m dst a1 a2 a3 ⟨g6 _ rfl, L3 ⟨d7 _, d7 _, d7 _, d7 _, d7 _, d7 _, d7 _, trivial⟩, trivial⟩⟩
   . cases h
 . cases h
open Classical in
theorem c3d (N : Nat) : c9h (a4h N) := fun {a y z O x4 x5 x6 b f i d l n e p j o q u} h => by
 refine o9 (cx := c4E N) (by kernel_rfl) (g7 ⟨b0Y _ (b4G N), trivial⟩ trivial) Tryz.func70 (by kernel_rfl) (by kernel_rfl) (lz (by kernel_rfl)) (by rfl) (by rfl) (by rfl) (rf := C7 (fun Ae Z0 Z1 Z2 Z3 Z4 Z5 Z6 Z7 Z8 Z9 Za => if Z0 = b /\ Z1 = f /\ Z2 = i /\ Z3 = d /\ Z4 = l /\ Z5 = n /\ Z6 = e /\ Z7 = p /\ Z8 = j /\ Z9 = o /\ Za = q then some Ae else none)) (r := u) ?_ ?_
 . exact (c7s ..).trans ((congrArg (c4n N a y z O x4 x5 x6 b f i d l n e p j o q) (by funext; exact if_pos (by simp))).trans h)
 . intro rs' m' hx
   unfold C7 at hx
   split at hx
   . dsimp only at hx
     split at hx
     . rename_i hk
       obtain ⟨rfl, rfl, rfl, rfl, rfl, rfl, rfl, rfl, rfl, rfl, rfl⟩ := hk
       cases hx; exact ⟨rfl, rfl, _, [⟨82, [_, _, _, _, _, _, _, _, _, _, _]⟩], rfl, rfl, ⟨⟨rfl, .inl rfl, .inl rfl, .inl rfl, .inl rfl, .inl rfl, .inr ⟨_, _, rfl, rfl⟩, .inl rfl, .inr ⟨_, _, rfl, rfl⟩, .inl rfl, .inl rfl, .inr ⟨_, _, rfl, rfl⟩, trivial⟩, trivial⟩⟩
     . cases hx
   . cases hx
abbrev Ty6 := LB -> a3W (Option (Int × Int × Int × Bool × Int × Bool × LB × Int))
noncomputable def a8H {R : Type} (s : Ty6) (dst : Nat) (ds : List D) (m : Mem) (K : List D -> Mem -> Option R) : Option R :=
 match ds with
 | [.ptr (Ac + 1) Ab 0, .v (.bytes a) .no] => u9 [(Ac, Ab)] m fun Bs => (match Bs with
   | [⟨82, [.v (.int .i64 b) .no, .v (.int .i64 f) .no, .v (.int .i64 i) .no, .v (.int .i64 d) .no, .v (.int .i64 l) .no, .v (.bytes n) _, .v (.int .i64 e) .no, .v (.sl 22 p) _, .v (.bytes j) (.own (.slot 0) 5), .v (.int .i64 o) .no, .v (.bytes q) _]⟩] => H9 (s a b f i d l n e p j o q) fun u r1 r2 r3 r4 r5 r6 r7 => j3 [(Ac, Ab)] [g1a b f i d l n e p j o q] m fun m' => K [g0a u r1 r2 r3 r4 r5 r6, dI r7] m'
   | _ => none)
 | _ => none
noncomputable def a9i {α : Type} (K : Int -> Int -> Int -> Bool -> Int -> Bool -> LB -> Int -> a3W (Option α)) (rs : List D) (m : Mem) : Option α :=
 match rs, m with
 | [.agg [.v (.int .i64 u) _, .v (.int .i64 r1) _, .v (.int .i64 r2) _, .v (.bool r3) _, .v (.int .i64 r4) _, .v (.bool r5) _, .v (.bytes r6) _], .v (.int .i64 r7) _], [_, [(0, ⟨82, [.v (.int .i64 z0) .no, .v (.int .i64 z1) .no, .v (.int .i64 z2) .no, .v (.int .i64 z3) .no, .v (.int .i64 z4) .no, .v (.bytes z5) _, .v (.int .i64 z6) .no, .v (.sl 22 z7) _, .v (.bytes z8) (.own (.slot 0) 5), .v (.int .i64 z9) .no, .v (.bytes za) _]⟩)]] => K u r1 r2 r3 r4 r5 r6 r7 z0 z1 z2 z3 z4 z5 z6 z7 z8 z9 za
 | _, _ => none
noncomputable def a4X {R : Type} (N : Nat) (a : LB) (b f i d l : Int) (n : LB) (e : Int) (p : List V) (j : LB) (o : Int) (q : LB) (K0 : Int -> Int -> Int -> Bool -> Int -> Bool -> LB -> Int -> Option R) : Option R := H9 (S0 N a b) fun n0 n1 n2 b3 n4 b5 l6 n7 => br (decide (n7 = 6)) (K0 n0 n1 n2 b3 n4 b5 l6 1) (br (!decide (n7 = 0)) (K0 n0 n1 n2 b3 n4 b5 l6 2) (br (!decide (n0 = 0)) (K0 n0 n1 n2 b3 n4 b5 l6 2) (br (decide (n1 = 0)) (br (decide (f < (l6.length : Int))) (K0 n0 n1 n2 b3 n4 b5 l6 2) (K0 n0 n1 n2 b3 n4 b5 l6 0)) (K0 n0 n1 n2 b3 n4 b5 l6 0))))
noncomputable def a0K (N : Nat) : Ty6 := fun a b f i d l n e p j o q => a4X N a b f i d l n e p j o q (fun u r1 r2 r3 r4 r5 r6 r7 => some (u, r1, r2, r3, r4, r5, r6, r7))
noncomputable def b2W (N : Nat) : Cx := cxO [⟨68, a2x (S0 N)⟩] []
theorem b8y {R : Type} (N : Nat) (a b f i d l n e p j o q K : _) : g8 (R := R) (b2W N) Tryz.f46 [.ptr 1 0 0, dY a] [C0 0 [g1a b f i d l n e p j o q]] (a9i K) = a4X N a b f i d l n e p j o q (fun u r1 r2 r3 r4 r5 r6 r7 => K u r1 r2 r3 r4 r5 r6 r7 b f i d l n e p j o q) := by
 kernel_rfl
abbrev b5Q (s : Ty6) : Prop := ∀ {a b f i d l n e p j o q u r1 r2 r3 r4 r5 r6 r7}, s a b f i d l n e p j o q = some (u, r1, r2, r3, r4, r5, r6, r7) -> ViewRet Tryz.prog T 46 [.ptr 1 0 0, dY a] [g1a b f i d l n e p j o q] [g0a u r1 r2 r3 r4 r5 r6, dI r7] [g1a b f i d l n e p j o q]
theorem c3j (s : Ty6) (hs : b5Q s) : MEO ⟨46, a8H s⟩ := by
 refine ⟨d6 Tryz.func46 (by kernel_rfl) (c := d5 Tryz.f46) (by kernel_rfl), fun R dst ds m K r h => ?_⟩
 simp only [a8H] at h
 split at h
 . obtain ⟨Bs, a1, a2, a3, h⟩ := g4 h
   split at h
   . obtain ⟨u, r1, r2, r3, r4, r5, r6, r7, h1, h2⟩ := O3 h
     rw [d9] at h2
     exact ⟨_, _, h2, ViewRet.weakIn (hs h1) (by exact ⟨⟨rfl, .inl rfl, .inl rfl, .inl rfl, .inl rfl, .inl rfl, .inr ⟨_, _, rfl, rfl⟩, .inl rfl, .inr ⟨_, _, rfl, rfl⟩, .inl rfl, .inl rfl, .inr ⟨_, _, rfl, rfl⟩, trivial⟩, trivial⟩) rfl _ _ m dst a1 a2 a3 ⟨g6 _ rfl, d7 _, trivial⟩⟩
   . cases h
 . cases h
open Classical in
theorem c6Y (N : Nat) : b5Q (a0K N) := fun {a b f i d l n e p j o q u r1 r2 r3 r4 r5 r6 r7} h => by
 refine o9 (cx := b2W N) (by kernel_rfl) (g7 ⟨b1A _ (b5h N), trivial⟩ trivial) Tryz.func46 (by kernel_rfl) (by kernel_rfl) (lz (by kernel_rfl)) (by rfl) (by rfl) (by rfl) (rf := a9i (fun Ae BA BL CC CD CE CF CG Z0 Z1 Z2 Z3 Z4 Z5 Z6 Z7 Z8 Z9 Za => if Z0 = b /\ Z1 = f /\ Z2 = i /\ Z3 = d /\ Z4 = l /\ Z5 = n /\ Z6 = e /\ Z7 = p /\ Z8 = j /\ Z9 = o /\ Za = q then some (Ae, BA, BL, CC, CD, CE, CF, CG) else none)) (r := (u, r1, r2, r3, r4, r5, r6, r7)) ?_ ?_
 . exact (b8y ..).trans ((congrArg (a4X N a b f i d l n e p j o q) (by funext; exact if_pos (by simp))).trans h)
 . intro rs' m' hx
   unfold a9i at hx
   split at hx
   . dsimp only at hx
     split at hx
     . rename_i hk
       obtain ⟨rfl, rfl, rfl, rfl, rfl, rfl, rfl, rfl, rfl, rfl, rfl⟩ := hk
       cases hx; exact ⟨rfl, rfl, _, [⟨82, [_, _, _, _, _, _, _, _, _, _, _]⟩], rfl, rfl, ⟨⟨rfl, .inl rfl, .inl rfl, .inl rfl, .inl rfl, .inl rfl, .inr ⟨_, _, rfl, rfl⟩, .inl rfl, .inr ⟨_, _, rfl, rfl⟩, .inl rfl, .inl rfl, .inr ⟨_, _, rfl, rfl⟩, trivial⟩, trivial⟩⟩
     . cases hx
   . cases hx
abbrev Ty7 := Int -> a3W (Option (LB))
noncomputable def a2I {R : Type} (s : Ty7) (dst : Nat) (ds : List D) (m : Mem) (K : List D -> Mem -> Option R) : Option R :=
 match ds with
 | [.ptr (Ac + 1) Ab 0, .v (.int .i64 a) .no] => u9 [(Ac, Ab)] m fun Bs => (match Bs with
   | [⟨82, [.v (.int .i64 b) .no, .v (.int .i64 f) .no, .v (.int .i64 i) .no, .v (.int .i64 d) .no, .v (.int .i64 l) .no, .v (.bytes n) _, .v (.int .i64 e) .no, .v (.sl 22 p) _, .v (.bytes j) (.own (.slot 0) 5), .v (.int .i64 o) .no, .v (.bytes q) _]⟩] => d3 (s a b f i d l n e p j o q) fun u => j3 [(Ac, Ab)] [g1a b f i d l n e p j o q] m fun m' => K [dY u] m'
   | _ => none)
 | _ => none
noncomputable def b1O {R : Type} (N : Nat) (a b f i d l : Int) (n : LB) (e : Int) (p : List V) (j : LB) (o : Int) (q : LB) (K0 : LB -> Option R) : Option R := d3 (a4h N 0 1 d false a false [] b f i d l n e p j o q) fun l0 => K0 l0
noncomputable def t7 (N : Nat) : Ty7 := fun a b f i d l n e p j o q => b1O N a b f i d l n e p j o q (fun u => some u)
noncomputable def b5k (N : Nat) : Cx := cxO [] [⟨70, b1P (a4h N)⟩]
theorem b9P {R : Type} (N : Nat) (a b f i d l n e p j o q K : _) : g8 (R := R) (b5k N) Tryz.f49 [.ptr 1 0 0, dI a] [C0 0 [g1a b f i d l n e p j o q]] (C7 K) = b1O N a b f i d l n e p j o q (fun u => K u b f i d l n e p j o q) := by
 kernel_rfl
abbrev c1s (s : Ty7) : Prop := ∀ {a b f i d l n e p j o q u}, s a b f i d l n e p j o q = some u -> ViewRet Tryz.prog T 49 [.ptr 1 0 0, dI a] [g1a b f i d l n e p j o q] [dY u] [g1a b f i d l n e p j o q]
theorem a5i (s : Ty7) (hs : c1s s) : MEO ⟨49, a2I s⟩ := by
 refine ⟨d6 Tryz.func49 (by kernel_rfl) (c := d5 Tryz.f49) (by kernel_rfl), fun R dst ds m K r h => ?_⟩
 simp only [a2I] at h
 split at h
 . obtain ⟨Bs, a1, a2, a3, h⟩ := g4 h
   split at h
   . obtain ⟨u, h1, h2⟩ := j4 h
     rw [d9] at h2
     exact ⟨_, _, h2, ViewRet.weakIn (hs h1) (by exact ⟨⟨rfl, .inl rfl, .inl rfl, .inl rfl, .inl rfl, .inl rfl, .inr ⟨_, _, rfl, rfl⟩, .inl rfl, .inr ⟨_, _, rfl, rfl⟩, .inl rfl, .inl rfl, .inr ⟨_, _, rfl, rfl⟩, trivial⟩, trivial⟩) rfl _ _ m dst a1 a2 a3 ⟨g6 _ rfl, d7 _, trivial⟩⟩
   . cases h
 . cases h
open Classical in
theorem a6L (N : Nat) : c1s (t7 N) := fun {a b f i d l n e p j o q u} h => by
 refine o9 (cx := b5k N) (by kernel_rfl) (g7 trivial ⟨b8e _ (c3d N), trivial⟩) Tryz.func49 (by kernel_rfl) (by kernel_rfl) (lz (by kernel_rfl)) (by rfl) (by rfl) (by rfl) (rf := C7 (fun Ae Z0 Z1 Z2 Z3 Z4 Z5 Z6 Z7 Z8 Z9 Za => if Z0 = b /\ Z1 = f /\ Z2 = i /\ Z3 = d /\ Z4 = l /\ Z5 = n /\ Z6 = e /\ Z7 = p /\ Z8 = j /\ Z9 = o /\ Za = q then some Ae else none)) (r := u) ?_ ?_
 . exact (b9P ..).trans ((congrArg (b1O N a b f i d l n e p j o q) (by funext; exact if_pos (by simp))).trans h)
 . intro rs' m' hx
   unfold C7 at hx
   split at hx
   . dsimp only at hx
     split at hx
     . rename_i hk
       obtain ⟨rfl, rfl, rfl, rfl, rfl, rfl, rfl, rfl, rfl, rfl, rfl⟩ := hk
       cases hx; exact ⟨rfl, rfl, _, [⟨82, [_, _, _, _, _, _, _, _, _, _, _]⟩], rfl, rfl, ⟨⟨rfl, .inl rfl, .inl rfl, .inl rfl, .inl rfl, .inl rfl, .inr ⟨_, _, rfl, rfl⟩, .inl rfl, .inr ⟨_, _, rfl, rfl⟩, .inl rfl, .inl rfl, .inr ⟨_, _, rfl, rfl⟩, trivial⟩, trivial⟩⟩
     . cases hx
   . cases hx
abbrev Ty8 := Int -> Bool -> LB -> a3W (Option (LB))
noncomputable def a3C {R : Type} (s : Ty8) (dst : Nat) (ds : List D) (m : Mem) (K : List D -> Mem -> Option R) : Option R :=
 match ds with
 | [.ptr (Ac + 1) Ab 0, .v (.int .i64 a) .no, .v (.bool y) .no, .v (.bytes z) .no] => u9 [(Ac, Ab)] m fun Bs => (match Bs with
   | [⟨82, [.v (.int .i64 b) .no, .v (.int .i64 f) .no, .v (.int .i64 i) .no, .v (.int .i64 d) .no, .v (.int .i64 l) .no, .v (.bytes n) _, .v (.int .i64 e) .no, .v (.sl 22 p) _, .v (.bytes j) (.own (.slot 0) 5), .v (.int .i64 o) .no, .v (.bytes q) _]⟩] => d3 (s a y z b f i d l n e p j o q) fun u => j3 [(Ac, Ab)] [g1a b f i d l n e p j o q] m fun m' => K [dY u] m'
   | _ => none)
 | _ => none
noncomputable def a5L {R : Type} (N : Nat) (a : Int) (y : Bool) (z : LB) (b f i d l : Int) (n : LB) (e : Int) (p : List V) (j : LB) (o : Int) (q : LB) (K0 : LB -> Option R) : Option R := d3 (a4h N 0 2 0 false a y z b f i d l n e p j o q) fun l0 => K0 l0
noncomputable def I7 (N : Nat) : Ty8 := fun a y z b f i d l n e p j o q => a5L N a y z b f i d l n e p j o q (fun u => some u)
noncomputable def a9Q (N : Nat) : Cx := cxO [] [⟨70, b1P (a4h N)⟩]
theorem b4n {R : Type} (N : Nat) (a y z b f i d l n e p j o q K : _) : g8 (R := R) (a9Q N) Tryz.f48 [.ptr 1 0 0, dI a, dB y, dY z] [C0 0 [g1a b f i d l n e p j o q]] (C7 K) = a5L N a y z b f i d l n e p j o q (fun u => K u b f i d l n e p j o q) := by
 kernel_rfl
abbrev b1H (s : Ty8) : Prop := ∀ {a y z b f i d l n e p j o q u}, s a y z b f i d l n e p j o q = some u -> ViewRet Tryz.prog T 48 [.ptr 1 0 0, dI a, dB y, dY z] [g1a b f i d l n e p j o q] [dY u] [g1a b f i d l n e p j o q]
theorem a9M (s : Ty8) (hs : b1H s) : MEO ⟨48, a3C s⟩ := by
 refine ⟨d6 Tryz.func48 (by kernel_rfl) (c := d5 Tryz.f48) (by kernel_rfl), fun R dst ds m K r h => ?_⟩
 simp only [a3C] at h
 split at h
 . obtain ⟨Bs, a1, a2, a3, h⟩ := g4 h
   split at h
   . obtain ⟨u, h1, h2⟩ := j4 h
     rw [d9] at h2
     exact ⟨_, _, h2, ViewRet.weakIn (hs h1) (by exact ⟨⟨rfl, .inl rfl, .inl rfl, .inl rfl, .inl rfl, .inl rfl, .inr ⟨_, _, rfl, rfl⟩, .inl rfl, .inr ⟨_, _, rfl, rfl⟩, .inl rfl, .inl rfl, .inr ⟨_, _, rfl, rfl⟩, trivial⟩, trivial⟩) rfl _ _ m dst a1 a2 a3 ⟨g6 _ rfl, d7 _, d7 _, d7 _, trivial⟩⟩
   . cases h
 . cases h
open Classical in
theorem b2S (N : Nat) : b1H (I7 N) := fun {a y z b f i d l n e p j o q u} h => by
 refine o9 (cx := a9Q N) (by kernel_rfl) (g7 trivial ⟨b8e _ (c3d N), trivial⟩) Tryz.func48 (by kernel_rfl) (by kernel_rfl) (lz (by kernel_rfl)) (by rfl) (by rfl) (by rfl) (rf := C7 (fun Ae Z0 Z1 Z2 Z3 Z4 Z5 Z6 Z7 Z8 Z9 Za => if Z0 = b /\ Z1 = f /\ Z2 = i /\ Z3 = d /\ Z4 = l /\ Z5 = n /\ Z6 = e /\ Z7 = p /\ Z8 = j /\ Z9 = o /\ Za = q then some Ae else none)) (r := u) ?_ ?_
 . exact (b4n ..).trans ((congrArg (a5L N a y z b f i d l n e p j o q) (by funext; exact if_pos (by simp))).trans h)
 . intro rs' m' hx
   unfold C7 at hx
   split at hx
   . dsimp only at hx
     split at hx
     . rename_i hk
       obtain ⟨rfl, rfl, rfl, rfl, rfl, rfl, rfl, rfl, rfl, rfl, rfl⟩ := hk
       cases hx; exact ⟨rfl, rfl, _, [⟨82, [_, _, _, _, _, _, _, _, _, _, _]⟩], rfl, rfl, ⟨⟨rfl, .inl rfl, .inl rfl, .inl rfl, .inl rfl, .inl rfl, .inr ⟨_, _, rfl, rfl⟩, .inl rfl, .inr ⟨_, _, rfl, rfl⟩, .inl rfl, .inl rfl, .inr ⟨_, _, rfl, rfl⟩, trivial⟩, trivial⟩⟩
     . cases hx
   . cases hx
abbrev Ty9 := a3W (Option (LB × Int × LB × Int × List V))
noncomputable def a6R {R : Type} (s : Ty9) (dst : Nat) (ds : List D) (m : Mem) (K : List D -> Mem -> Option R) : Option R :=
 match ds with
 | [.ptr (Ac + 1) Ab 0] => u9 [(Ac, Ab)] m fun Bs => (match Bs with
   | [⟨82, [.v (.int .i64 b) .no, .v (.int .i64 f) .no, .v (.int .i64 i) .no, .v (.int .i64 d) .no, .v (.int .i64 l) .no, .v (.bytes n) _, .v (.int .i64 e) .no, .v (.sl 22 p) _, .v (.bytes j) (.own (.slot 0) 5), .v (.int .i64 o) .no, .v (.bytes q) _]⟩] => T3 (s b f i d l n e p j o q) fun u z4 z5 z6 z7 => j3 [(Ac, Ab)] [g1a b f i d z4 z5 z6 z7 j o q] m fun m' => K [dY u] m'
   | _ => none)
 | _ => none
noncomputable def a6P {R : Type} (N : Nat) (b f i d l : Int) (n : LB) (e : Int) (p : List V) (j : LB) (o : Int) (q : LB) (K0 : LB -> Int -> LB -> Int -> List V -> Option R) : Option R := br (decide (0 < (p.length : Int))) (at? p 0 fun a => a.unBytes fun l1 => br (decide (1 <= (p.length : Int))) (d3 (a4h N 0 0 l (decide (0 < ((List.drop 1 p).length : Int))) 0 false l1 b f i d l n e (List.drop 1 p) j o q) fun l2 => d3 (j5 N l2) fun l3 => K0 l3 (GA.wrap (1 - l)) l2 l (List.drop 1 p)) none) none
noncomputable def N1 (N : Nat) : Ty9 := fun b f i d l n e p j o q => a6P N b f i d l n e p j o q (fun u z4 z5 z6 z7 => some (u, z4, z5, z6, z7))
noncomputable def b5U (N : Nat) : Cx := cxO [⟨29, E4 (j5 N)⟩] [⟨70, b1P (a4h N)⟩]
theorem c1a {R : Type} (N : Nat) (b f i d l n e p j o q K : _) : g8 (R := R) (b5U N) Tryz.f67 [.ptr 1 0 0] [C0 0 [g1a b f i d l n e p j o q]] (C7 K) = a6P N b f i d l n e p j o q (fun u z4 z5 z6 z7 => K u b f i d z4 z5 z6 z7 j o q) := by
 kernel_rfl
abbrev c1o (s : Ty9) : Prop := ∀ {b f i d l n e p j o q u z4 z5 z6 z7}, s b f i d l n e p j o q = some (u, z4, z5, z6, z7) -> ViewRet Tryz.prog T 67 [.ptr 1 0 0] [g1a b f i d l n e p j o q] [dY u] [g1a b f i d z4 z5 z6 z7 j o q]
theorem b5x (s : Ty9) (hs : c1o s) : MEO ⟨67, a6R s⟩ := by
 refine ⟨d6 Tryz.func67 (by kernel_rfl) (c := d5 Tryz.f67) (by kernel_rfl), fun R dst ds m K r h => ?_⟩
 simp only [a6R] at h
 split at h
 . obtain ⟨Bs, a1, a2, a3, h⟩ := g4 h
   split at h
   . obtain ⟨u, z4, z5, z6, z7, h1, h2⟩ := O4 h
     rw [d9] at h2
     exact ⟨_, _, h2, ViewRet.weakIn (hs h1) (by exact ⟨⟨rfl, .inl rfl, .inl rfl, .inl rfl, .inl rfl, .inl rfl, .inr ⟨_, _, rfl, rfl⟩, .inl rfl, .inr ⟨_, _, rfl, rfl⟩, .inl rfl, .inl rfl, .inr ⟨_, _, rfl, rfl⟩, trivial⟩, trivial⟩) rfl _ _ m dst a1 a2 a3 ⟨g6 _ rfl, trivial⟩⟩
   . cases h
 . cases h
open Classical in
theorem c1I (N : Nat) : c1o (N1 N) := fun {b f i d l n e p j o q u z4 z5 z6 z7} h => by
 refine o9 (cx := b5U N) (by kernel_rfl) (g7 ⟨I2 _ (M7 N), trivial⟩ ⟨b8e _ (c3d N), trivial⟩) Tryz.func67 (by kernel_rfl) (by kernel_rfl) (lz (by kernel_rfl)) (by rfl) (by rfl) (by rfl) (rf := C7 (fun Ae Z0 Z1 Z2 Z3 Z4 Z5 Z6 Z7 Z8 Z9 Za => if Z0 = b /\ Z1 = f /\ Z2 = i /\ Z3 = d /\ Z8 = j /\ Z9 = o /\ Za = q then some (Ae, Z4, Z5, Z6, Z7) else none)) (r := (u, z4, z5, z6, z7)) ?_ ?_
 . exact (c1a ..).trans ((congrArg (a6P N b f i d l n e p j o q) (by funext; exact if_pos (by simp))).trans h)
 . intro rs' m' hx
   unfold C7 at hx
   split at hx
   . dsimp only at hx
     split at hx
     . rename_i hk
       obtain ⟨rfl, rfl, rfl, rfl, rfl, rfl, rfl⟩ := hk
       cases hx; exact ⟨rfl, rfl, _, [⟨82, [_, _, _, _, _, _, _, _, _, _, _]⟩], rfl, rfl, ⟨⟨rfl, .inl rfl, .inl rfl, .inl rfl, .inl rfl, .inl rfl, .inr ⟨_, _, rfl, rfl⟩, .inl rfl, .inr ⟨_, _, rfl, rfl⟩, .inl rfl, .inl rfl, .inr ⟨_, _, rfl, rfl⟩, trivial⟩, trivial⟩⟩
     . cases hx
   . cases hx
abbrev d2f := LB -> a3W (Option (LB × Int × LB × Int × List V))
noncomputable def b7T {R : Type} (s : d2f) (dst : Nat) (ds : List D) (m : Mem) (K : List D -> Mem -> Option R) : Option R :=
 match ds with
 | [.ptr (Ac + 1) Ab 0, .v (.bytes a) .no] => u9 [(Ac, Ab)] m fun Bs => (match Bs with
   | [⟨82, [.v (.int .i64 b) .no, .v (.int .i64 f) .no, .v (.int .i64 i) .no, .v (.int .i64 d) .no, .v (.int .i64 l) .no, .v (.bytes n) _, .v (.int .i64 e) .no, .v (.sl 22 p) _, .v (.bytes j) (.own (.slot 0) 5), .v (.int .i64 o) .no, .v (.bytes q) _]⟩] => T3 (s a b f i d l n e p j o q) fun u z4 z5 z6 z7 => j3 [(Ac, Ab)] [g1a b f i d z4 z5 z6 z7 j o q] m fun m' => K [dY u] m'
   | _ => none)
 | _ => none
noncomputable def b0O {R : Type} (N : Nat) (a : LB) (b f i d l : Int) (n : LB) (e : Int) (p : List V) (j : LB) (o : Int) (q : LB) (K0 : LB -> Int -> LB -> Int -> List V -> Option R) : Option R := Q3 (a0d N a i) fun l0 n1 => br (decide ((a.length : Int) = 0)) (T3 (N1 N b f i d l n e [V.bytes []] j o q) fun l2 n3 l4 n5 l6 => K0 l2 n3 l4 n5 l6) (T3 (N1 N b f i d l n e l0 j o q) fun l7 n8 l9 na lb => K0 l7 n8 l9 na lb)
noncomputable def a7w (N : Nat) : d2f := fun a b f i d l n e p j o q => b0O N a b f i d l n e p j o q (fun u z4 z5 z6 z7 => some (u, z4, z5, z6, z7))
noncomputable def b8V (N : Nat) : Cx := cxO [⟨66, a4B (a0d N)⟩] [⟨67, a6R (N1 N)⟩]
theorem c2S {R : Type} (N : Nat) (a b f i d l n e p j o q K : _) : g8 (R := R) (b8V N) Tryz.f44 [.ptr 1 0 0, dY a] [C0 0 [g1a b f i d l n e p j o q]] (C7 K) = b0O N a b f i d l n e p j o q (fun u z4 z5 z6 z7 => K u b f i d z4 z5 z6 z7 j o q) := by
 kernel_rfl
abbrev c4O (s : d2f) : Prop := ∀ {a b f i d l n e p j o q u z4 z5 z6 z7}, s a b f i d l n e p j o q = some (u, z4, z5, z6, z7) -> ViewRet Tryz.prog T 44 [.ptr 1 0 0, dY a] [g1a b f i d l n e p j o q] [dY u] [g1a b f i d z4 z5 z6 z7 j o q]
theorem d0m (s : d2f) (hs : c4O s) : MEO ⟨44, b7T s⟩ := by
 refine ⟨d6 Tryz.func44 (by kernel_rfl) (c := d5 Tryz.f44) (by kernel_rfl), fun R dst ds m K r h => ?_⟩
 simp only [b7T] at h
 split at h
 . obtain ⟨Bs, a1, a2, a3, h⟩ := g4 h
   split at h
   . obtain ⟨u, z4, z5, z6, z7, h1, h2⟩ := O4 h
     rw [d9] at h2
     exact ⟨_, _, h2, ViewRet.weakIn (hs h1) (by exact ⟨⟨rfl, .inl rfl, .inl rfl, .inl rfl, .inl rfl, .inl rfl, .inr ⟨_, _, rfl, rfl⟩, .inl rfl, .inr ⟨_, _, rfl, rfl⟩, .inl rfl, .inl rfl, .inr ⟨_, _, rfl, rfl⟩, trivial⟩, trivial⟩) rfl _ _ m dst a1 a2 a3 ⟨g6 _ rfl, d7 _, trivial⟩⟩
   . cases h
 . cases h
open Classical in
theorem d1e (N : Nat) : c4O (a7w N) := fun {a b f i d l n e p j o q u z4 z5 z6 z7} h => by
 refine o9 (cx := b8V N) (by kernel_rfl) (g7 ⟨b5j _ (b9L N), trivial⟩ ⟨b5x _ (c1I N), trivial⟩) Tryz.func44 (by kernel_rfl) (by kernel_rfl) (lz (by kernel_rfl)) (by rfl) (by rfl) (by rfl) (rf := C7 (fun Ae Z0 Z1 Z2 Z3 Z4 Z5 Z6 Z7 Z8 Z9 Za => if Z0 = b /\ Z1 = f /\ Z2 = i /\ Z3 = d /\ Z8 = j /\ Z9 = o /\ Za = q then some (Ae, Z4, Z5, Z6, Z7) else none)) (r := (u, z4, z5, z6, z7)) ?_ ?_
 . exact (c2S ..).trans ((congrArg (b0O N a b f i d l n e p j o q) (by funext; exact if_pos (by simp))).trans h)
 . intro rs' m' hx
   unfold C7 at hx
   split at hx
   . dsimp only at hx
     split at hx
     . rename_i hk
       obtain ⟨rfl, rfl, rfl, rfl, rfl, rfl, rfl⟩ := hk
       cases hx; exact ⟨rfl, rfl, _, [⟨82, [_, _, _, _, _, _, _, _, _, _, _]⟩], rfl, rfl, ⟨⟨rfl, .inl rfl, .inl rfl, .inl rfl, .inl rfl, .inl rfl, .inr ⟨_, _, rfl, rfl⟩, .inl rfl, .inr ⟨_, _, rfl, rfl⟩, .inl rfl, .inl rfl, .inr ⟨_, _, rfl, rfl⟩, trivial⟩, trivial⟩⟩
     . cases hx
   . cases hx
abbrev d3b := Int -> Int -> Int -> Bool -> Int -> Bool -> LB -> a3W (Option (LB × Int × LB × Int))
noncomputable def b8l {R : Type} (s : d3b) (dst : Nat) (ds : List D) (m : Mem) (K : List D -> Mem -> Option R) : Option R :=
 match ds with
 | [.ptr (Ac + 1) Ab 0, .agg [.v (.int .i64 a) .no, .v (.int .i64 y) .no, .v (.int .i64 z) .no, .v (.bool O) .no, .v (.int .i64 x4) .no, .v (.bool x5) .no, .v (.bytes x6) .no]] => u9 [(Ac, Ab)] m fun Bs => (match Bs with
   | [⟨82, [.v (.int .i64 b) .no, .v (.int .i64 f) .no, .v (.int .i64 i) .no, .v (.int .i64 d) .no, .v (.int .i64 l) .no, .v (.bytes n) _, .v (.int .i64 e) .no, .v (.sl 22 p) _, .v (.bytes j) (.own (.slot 0) 5), .v (.int .i64 o) .no, .v (.bytes q) _]⟩] => M8 (s a y z O x4 x5 x6 b f i d l n e p j o q) fun u z3 z8 z9 => j3 [(Ac, Ab)] [g1a b f i z3 l n e p z8 z9 q] m fun m' => K [dY u] m'
   | _ => none)
 | _ => none
noncomputable def b0r {R : Type} (N : Nat) (a y z : Int) (O : Bool) (x4 : Int) (x5 : Bool) (x6 : LB) (b f i d l : Int) (n : LB) (e : Int) (p : List V) (j : LB) (o : Int) (q : LB) (K0 : LB -> Int -> LB -> Int -> Option R) : Option R := br (!decide (z = d)) (d3 (t7 N 2 b f i d l n e p j o q) fun l0 => K0 l0 d j o) (br (decide (o = 4)) (br (decide (0 < (p.length : Int))) (d3 (t7 N 2 b f i d l n e p j o q) fun l1 => K0 l1 d j o) (br (!decide (o = 1)) (br (decide ((0 + x6.length) * 1 <= 140737488355328)) (br (decide (65552 < (([] ++ x6).length : Int))) (d3 (t7 N 2 b f i (GA.wrap (1 - d)) l n e p [] 0 q) fun l2 => K0 l2 (GA.wrap (1 - d)) [] 0) (br O (d3 (t7 N 0 b f i (GA.wrap (1 - d)) l n e p ([] ++ x6) 1 q) fun l3 => K0 l3 (GA.wrap (1 - d)) ([] ++ x6) 1) (K0 [] (GA.wrap (1 - d)) ([] ++ x6) 2))) none) (br (decide ((j.length + x6.length) * 1 <= 140737488355328)) (br (decide (65552 < ((j ++ x6).length : Int))) (d3 (t7 N 2 b f i (GA.wrap (1 - d)) l n e p [] 0 q) fun l4 => K0 l4 (GA.wrap (1 - d)) [] 0) (br O (d3 (t7 N 0 b f i (GA.wrap (1 - d)) l n e p (j ++ x6) 1 q) fun l5 => K0 l5 (GA.wrap (1 - d)) (j ++ x6) 1) (K0 [] (GA.wrap (1 - d)) (j ++ x6) 2))) none))) (br (!decide (o = 1)) (br (decide ((0 + x6.length) * 1 <= 140737488355328)) (br (decide (65552 < (([] ++ x6).length : Int))) (d3 (t7 N 2 b f i (GA.wrap (1 - d)) l n e p [] 0 q) fun l6 => K0 l6 (GA.wrap (1 - d)) [] 0) (br O (d3 (t7 N 0 b f i (GA.wrap (1 - d)) l n e p ([] ++ x6) 1 q) fun l7 => K0 l7 (GA.wrap (1 - d)) ([] ++ x6) 1) (K0 [] (GA.wrap (1 - d)) ([] ++ x6) 2))) none) (br (decide ((j.length + x6.length) * 1 <= 140737488355328)) (br (decide (65552 < ((j ++ x6).length : Int))) (d3 (t7 N 2 b f i (GA.wrap (1 - d)) l n e p [] 0 q) fun l8 => K0 l8 (GA.wrap (1 - d)) [] 0) (br O (d3 (t7 N 0 b f i (GA.wrap (1 - d)) l n e p (j ++ x6) 1 q) fun l9 => K0 l9 (GA.wrap (1 - d)) (j ++ x6) 1) (K0 [] (GA.wrap (1 - d)) (j ++ x6) 2))) none)))
noncomputable def a7I (N : Nat) : d3b := fun a y z O x4 x5 x6 b f i d l n e p j o q => b0r N a y z O x4 x5 x6 b f i d l n e p j o q (fun u z3 z8 z9 => some (u, z3, z8, z9))
noncomputable def c0Z (N : Nat) : Cx := cxO [] [⟨49, a2I (t7 N)⟩]
theorem c2Q {R : Type} (N : Nat) (a y z O x4 x5 x6 b f i d l n e p j o q K : _) : g8 (R := R) (c0Z N) Tryz.f50 [.ptr 1 0 0, g0a a y z O x4 x5 x6] [C0 0 [g1a b f i d l n e p j o q]] (C7 K) = b0r N a y z O x4 x5 x6 b f i d l n e p j o q (fun u z3 z8 z9 => K u b f i z3 l n e p z8 z9 q) := by
 kernel_rfl
abbrev c5c (s : d3b) : Prop := ∀ {a y z O x4 x5 x6 b f i d l n e p j o q u z3 z8 z9}, s a y z O x4 x5 x6 b f i d l n e p j o q = some (u, z3, z8, z9) -> ViewRet Tryz.prog T 50 [.ptr 1 0 0, g0a a y z O x4 x5 x6] [g1a b f i d l n e p j o q] [dY u] [g1a b f i z3 l n e p z8 z9 q]
theorem c9d (s : d3b) (hs : c5c s) : MEO ⟨50, b8l s⟩ := by
 refine ⟨d6 Tryz.func50 (by kernel_rfl) (c := d5 Tryz.f50) (by kernel_rfl), fun R dst ds m K r h => ?_⟩
 simp only [b8l] at h
 split at h
 . obtain ⟨Bs, a1, a2, a3, h⟩ := g4 h
   split at h
   . obtain ⟨u, z3, z8, z9, h1, h2⟩ := a0F h
     rw [d9] at h2
     exact ⟨_, _, h2, ViewRet.weakIn (hs h1) (by exact ⟨⟨rfl, .inl rfl, .inl rfl, .inl rfl, .inl rfl, .inl rfl, .inr ⟨_, _, rfl, rfl⟩, .inl rfl, .inr ⟨_, _, rfl, rfl⟩, .inl rfl, .inl rfl, .inr ⟨_, _, rfl, rfl⟩, trivial⟩, trivial⟩) rfl _ _ m dst a1 a2 a3 ⟨g6 _ rfl, L3 ⟨d7 _, d7 _, d7 _, d7 _, d7 _, d7 _, d7 _, trivial⟩, trivial⟩⟩
   . cases h
 . cases h
open Classical in
theorem d1T (N : Nat) : c5c (a7I N) := fun {a y z O x4 x5 x6 b f i d l n e p j o q u z3 z8 z9} h => by
 refine o9 (cx := c0Z N) (by kernel_rfl) (g7 trivial ⟨a5i _ (a6L N), trivial⟩) Tryz.func50 (by kernel_rfl) (by kernel_rfl) (lz (by kernel_rfl)) (by rfl) (by rfl) (by rfl) (rf := C7 (fun Ae Z0 Z1 Z2 Z3 Z4 Z5 Z6 Z7 Z8 Z9 Za => if Z0 = b /\ Z1 = f /\ Z2 = i /\ Z4 = l /\ Z5 = n /\ Z6 = e /\ Z7 = p /\ Za = q then some (Ae, Z3, Z8, Z9) else none)) (r := (u, z3, z8, z9)) ?_ ?_
 . exact (c2Q ..).trans ((congrArg (b0r N a y z O x4 x5 x6 b f i d l n e p j o q) (by funext; exact if_pos (by simp))).trans h)
 . intro rs' m' hx
   unfold C7 at hx
   split at hx
   . dsimp only at hx
     split at hx
     . rename_i hk
       obtain ⟨rfl, rfl, rfl, rfl, rfl, rfl, rfl, rfl⟩ := hk
       cases hx; exact ⟨rfl, rfl, _, [⟨82, [_, _, _, _, _, _, _, _, _, _, _]⟩], rfl, rfl, ⟨⟨rfl, .inl rfl, .inl rfl, .inl rfl, .inl rfl, .inl rfl, .inr ⟨_, _, rfl, rfl⟩, .inl rfl, .inr ⟨_, _, rfl, rfl⟩, .inl rfl, .inl rfl, .inr ⟨_, _, rfl, rfl⟩, trivial⟩, trivial⟩⟩
     . cases hx
   . cases hx
abbrev d1z := Int -> Int -> Int -> Bool -> Int -> Bool -> LB -> a3W (Option (LB × Int × LB × Int × List V))
noncomputable def b2I {R : Type} (s : d1z) (dst : Nat) (ds : List D) (m : Mem) (K : List D -> Mem -> Option R) : Option R :=
 match ds with
 | [.ptr (Ac + 1) Ab 0, .agg [.v (.int .i64 a) .no, .v (.int .i64 y) .no, .v (.int .i64 z) .no, .v (.bool O) .no, .v (.int .i64 x4) .no, .v (.bool x5) .no, .v (.bytes x6) .no]] => u9 [(Ac, Ab)] m fun Bs => (match Bs with
   | [⟨82, [.v (.int .i64 b) .no, .v (.int .i64 f) .no, .v (.int .i64 i) .no, .v (.int .i64 d) .no, .v (.int .i64 l) .no, .v (.bytes n) _, .v (.int .i64 e) .no, .v (.sl 22 p) _, .v (.bytes j) (.own (.slot 0) 5), .v (.int .i64 o) .no, .v (.bytes q) _]⟩] => T3 (s a y z O x4 x5 x6 b f i d l n e p j o q) fun u z4 z5 z6 z7 => j3 [(Ac, Ab)] [g1a b f i d z4 z5 z6 z7 j o q] m fun m' => K [dY u] m'
   | _ => none)
 | _ => none
noncomputable def a7a {R : Type} (N : Nat) (a y z : Int) (O : Bool) (x4 : Int) (x5 : Bool) (x6 : LB) (b f i d l : Int) (n : LB) (e : Int) (p : List V) (j : LB) (o : Int) (q : LB) (K0 : LB -> Int -> LB -> Int -> List V -> Option R) : Option R := br (decide (o = 4)) (br (decide (z = e)) (d3 (j5 N n) fun l0 => K0 l0 l n e p) (br (decide (o = 4)) (br (decide (0 < (p.length : Int))) (T3 (N1 N b f i d l n e p j o q) fun l1 n2 l3 n4 l5 => K0 l1 n2 l3 n4 l5) (d3 (t7 N 0 b f i d l n e p j o q) fun l6 => K0 l6 l n e p)) (d3 (t7 N 0 b f i d l n e p j o q) fun l7 => K0 l7 l n e p))) (br (decide (o = 4)) (br (decide (0 < (p.length : Int))) (T3 (N1 N b f i d l n e p j o q) fun l8 n9 la nb Ag => K0 l8 n9 la nb Ag) (d3 (t7 N 0 b f i d l n e p j o q) fun ld => K0 ld l n e p)) (d3 (t7 N 0 b f i d l n e p j o q) fun BG => K0 BG l n e p))
noncomputable def a4o (N : Nat) : d1z := fun a y z O x4 x5 x6 b f i d l n e p j o q => a7a N a y z O x4 x5 x6 b f i d l n e p j o q (fun u z4 z5 z6 z7 => some (u, z4, z5, z6, z7))
noncomputable def b5G (N : Nat) : Cx := cxO [⟨29, E4 (j5 N)⟩] [⟨49, a2I (t7 N)⟩, ⟨67, a6R (N1 N)⟩]
theorem c0o {R : Type} (N : Nat) (a y z O x4 x5 x6 b f i d l n e p j o q K : _) : g8 (R := R) (b5G N) Tryz.f51 [.ptr 1 0 0, g0a a y z O x4 x5 x6] [C0 0 [g1a b f i d l n e p j o q]] (C7 K) = a7a N a y z O x4 x5 x6 b f i d l n e p j o q (fun u z4 z5 z6 z7 => K u b f i d z4 z5 z6 z7 j o q) := by
 kernel_rfl
abbrev b9S (s : d1z) : Prop := ∀ {a y z O x4 x5 x6 b f i d l n e p j o q u z4 z5 z6 z7}, s a y z O x4 x5 x6 b f i d l n e p j o q = some (u, z4, z5, z6, z7) -> ViewRet Tryz.prog T 51 [.ptr 1 0 0, g0a a y z O x4 x5 x6] [g1a b f i d l n e p j o q] [dY u] [g1a b f i d z4 z5 z6 z7 j o q]
theorem c6s (s : d1z) (hs : b9S s) : MEO ⟨51, b2I s⟩ := by
 refine ⟨d6 Tryz.func51 (by kernel_rfl) (c := d5 Tryz.f51) (by kernel_rfl), fun R dst ds m K r h => ?_⟩
 simp only [b2I] at h
 split at h
 . obtain ⟨Bs, a1, a2, a3, h⟩ := g4 h
   split at h
   . obtain ⟨u, z4, z5, z6, z7, h1, h2⟩ := O4 h
     rw [d9] at h2
     exact ⟨_, _, h2, ViewRet.weakIn (hs h1) (by exact ⟨⟨rfl, .inl rfl, .inl rfl, .inl rfl, .inl rfl, .inl rfl, .inr ⟨_, _, rfl, rfl⟩, .inl rfl, .inr ⟨_, _, rfl, rfl⟩, .inl rfl, .inl rfl, .inr ⟨_, _, rfl, rfl⟩, trivial⟩, trivial⟩) rfl _ _ m dst a1 a2 a3 ⟨g6 _ rfl, L3 ⟨d7 _, d7 _, d7 _, d7 _, d7 _, d7 _, d7 _, trivial⟩, trivial⟩⟩
   . cases h
 . cases h
open Classical in
theorem c9j (N : Nat) : b9S (a4o N) := fun {a y z O x4 x5 x6 b f i d l n e p j o q u z4 z5 z6 z7} h => by
 refine o9 (cx := b5G N) (by kernel_rfl) (g7 ⟨I2 _ (M7 N), trivial⟩ ⟨a5i _ (a6L N), b5x _ (c1I N), trivial⟩) Tryz.func51 (by kernel_rfl) (by kernel_rfl) (lz (by kernel_rfl)) (by rfl) (by rfl) (by rfl) (rf := C7 (fun Ae Z0 Z1 Z2 Z3 Z4 Z5 Z6 Z7 Z8 Z9 Za => if Z0 = b /\ Z1 = f /\ Z2 = i /\ Z3 = d /\ Z8 = j /\ Z9 = o /\ Za = q then some (Ae, Z4, Z5, Z6, Z7) else none)) (r := (u, z4, z5, z6, z7)) ?_ ?_
 . exact (c0o ..).trans ((congrArg (a7a N a y z O x4 x5 x6 b f i d l n e p j o q) (by funext; exact if_pos (by simp))).trans h)
 . intro rs' m' hx
   unfold C7 at hx
   split at hx
   . dsimp only at hx
     split at hx
     . rename_i hk
       obtain ⟨rfl, rfl, rfl, rfl, rfl, rfl, rfl⟩ := hk
       cases hx; exact ⟨rfl, rfl, _, [⟨82, [_, _, _, _, _, _, _, _, _, _, _]⟩], rfl, rfl, ⟨⟨rfl, .inl rfl, .inl rfl, .inl rfl, .inl rfl, .inl rfl, .inr ⟨_, _, rfl, rfl⟩, .inl rfl, .inr ⟨_, _, rfl, rfl⟩, .inl rfl, .inl rfl, .inr ⟨_, _, rfl, rfl⟩, trivial⟩, trivial⟩⟩
     . cases hx
   . cases hx
abbrev d1F := Int -> Int -> Int -> Bool -> Int -> Bool -> LB -> a3W (Option (LB × Int × Int × Int × LB × List V × LB × Int))
noncomputable def b2h {R : Type} (s : d1F) (dst : Nat) (ds : List D) (m : Mem) (K : List D -> Mem -> Option R) : Option R :=
 match ds with
 | [.ptr (Ac + 1) Ab 0, .agg [.v (.int .i64 a) .no, .v (.int .i64 y) .no, .v (.int .i64 z) .no, .v (.bool O) .no, .v (.int .i64 x4) .no, .v (.bool x5) .no, .v (.bytes x6) .no]] => u9 [(Ac, Ab)] m fun Bs => (match Bs with
   | [⟨82, [.v (.int .i64 b) .no, .v (.int .i64 f) .no, .v (.int .i64 i) .no, .v (.int .i64 d) .no, .v (.int .i64 l) .no, .v (.bytes n) _, .v (.int .i64 e) .no, .v (.sl 22 p) _, .v (.bytes j) (.own (.slot 0) 5), .v (.int .i64 o) .no, .v (.bytes q) _]⟩] => H9 (s a y z O x4 x5 x6 b f i d l n e p j o q) fun u z2 z3 z4 z5 z7 z8 z9 => j3 [(Ac, Ab)] [g1a b f z2 z3 z4 z5 e z7 z8 z9 q] m fun m' => K [dY u] m'
   | _ => none)
 | _ => none
noncomputable def a6O {R : Type} (N : Nat) (a y z : Int) (O : Bool) (x4 : Int) (x5 : Bool) (x6 : LB) (b f i d l : Int) (n : LB) (e : Int) (p : List V) (j : LB) (o : Int) (q : LB) (K0 : LB -> Int -> Int -> Int -> LB -> List V -> LB -> Int -> Option R) : Option R := br x5 (d3 (t7 N 2 b f i d l n e p j o q) fun l0 => K0 l0 i d l n p j o) (br (decide (x4 = 0)) (d3 (I7 N x4 true x6 b f i 0 0 [] e [] [] 0 q) fun l1 => K0 l1 i 0 0 [] [] [] 0) (br (decide (x4 = 1)) (d3 (J1 N a y z O x4 x5 x6) fun n2 => br (decide (0 < n2)) (d3 (J1 N a y z O x4 x5 x6) fun n3 => d3 (I7 N x4 true x6 b f n3 d l n e p j o q) fun l4 => K0 l4 n3 d l n p j o) (br (decide (x4 = 2)) (d3 (I7 N x4 true x6 b f i d l n e [] [] 0 q) fun l5 => K0 l5 i d l n [] [] 0) (d3 (t7 N 2 b f i d l n e p j o q) fun l6 => K0 l6 i d l n p j o))) (br (decide (x4 = 2)) (d3 (I7 N x4 true x6 b f i d l n e [] [] 0 q) fun l7 => K0 l7 i d l n [] [] 0) (d3 (t7 N 2 b f i d l n e p j o q) fun l8 => K0 l8 i d l n p j o))))
noncomputable def a4w (N : Nat) : d1F := fun a y z O x4 x5 x6 b f i d l n e p j o q => a6O N a y z O x4 x5 x6 b f i d l n e p j o q (fun u z2 z3 z4 z5 z7 z8 z9 => some (u, z2, z3, z4, z5, z7, z8, z9))
noncomputable def b4W (N : Nat) : Cx := cxO [⟨71, a7y (J1 N)⟩] [⟨49, a2I (t7 N)⟩, ⟨48, a3C (I7 N)⟩]
theorem c1g {R : Type} (N : Nat) (a y z O x4 x5 x6 b f i d l n e p j o q K : _) : g8 (R := R) (b4W N) Tryz.f52 [.ptr 1 0 0, g0a a y z O x4 x5 x6] [C0 0 [g1a b f i d l n e p j o q]] (C7 K) = a6O N a y z O x4 x5 x6 b f i d l n e p j o q (fun u z2 z3 z4 z5 z7 z8 z9 => K u b f z2 z3 z4 z5 e z7 z8 z9 q) := by
 kernel_rfl
abbrev b9g (s : d1F) : Prop := ∀ {a y z O x4 x5 x6 b f i d l n e p j o q u z2 z3 z4 z5 z7 z8 z9}, s a y z O x4 x5 x6 b f i d l n e p j o q = some (u, z2, z3, z4, z5, z7, z8, z9) -> ViewRet Tryz.prog T 52 [.ptr 1 0 0, g0a a y z O x4 x5 x6] [g1a b f i d l n e p j o q] [dY u] [g1a b f z2 z3 z4 z5 e z7 z8 z9 q]
theorem c7t (s : d1F) (hs : b9g s) : MEO ⟨52, b2h s⟩ := by
 refine ⟨d6 Tryz.func52 (by kernel_rfl) (c := d5 Tryz.f52) (by kernel_rfl), fun R dst ds m K r h => ?_⟩
 simp only [b2h] at h
 split at h
 . obtain ⟨Bs, a1, a2, a3, h⟩ := g4 h
   split at h
   . obtain ⟨u, z2, z3, z4, z5, z7, z8, z9, h1, h2⟩ := O3 h
     rw [d9] at h2
     exact ⟨_, _, h2, ViewRet.weakIn (hs h1) (by exact ⟨⟨rfl, .inl rfl, .inl rfl, .inl rfl, .inl rfl, .inl rfl, .inr ⟨_, _, rfl, rfl⟩, .inl rfl, .inr ⟨_, _, rfl, rfl⟩, .inl rfl, .inl rfl, .inr ⟨_, _, rfl, rfl⟩, trivial⟩, trivial⟩) rfl _ _ m dst a1 a2 a3 ⟨g6 _ rfl, L3 ⟨d7 _, d7 _, d7 _, d7 _, d7 _, d7 _, d7 _, trivial⟩, trivial⟩⟩
   . cases h
 . cases h
open Classical in
theorem c8q (N : Nat) : b9g (a4w N) := fun {a y z O x4 x5 x6 b f i d l n e p j o q u z2 z3 z4 z5 z7 z8 z9} h => by
 refine o9 (cx := b4W N) (by kernel_rfl) (g7 ⟨b8G _ (c5u N), trivial⟩ ⟨a5i _ (a6L N), a9M _ (b2S N), trivial⟩) Tryz.func52 (by kernel_rfl) (by kernel_rfl) (lz (by kernel_rfl)) (by rfl) (by rfl) (by rfl) (rf := C7 (fun Ae Z0 Z1 Z2 Z3 Z4 Z5 Z6 Z7 Z8 Z9 Za => if Z0 = b /\ Z1 = f /\ Z6 = e /\ Za = q then some (Ae, Z2, Z3, Z4, Z5, Z7, Z8, Z9) else none)) (r := (u, z2, z3, z4, z5, z7, z8, z9)) ?_ ?_
 . exact (c1g ..).trans ((congrArg (a6O N a y z O x4 x5 x6 b f i d l n e p j o q) (by funext; exact if_pos (by simp))).trans h)
 . intro rs' m' hx
   unfold C7 at hx
   split at hx
   . dsimp only at hx
     split at hx
     . rename_i hk
       obtain ⟨rfl, rfl, rfl, rfl⟩ := hk
       cases hx; exact ⟨rfl, rfl, _, [⟨82, [_, _, _, _, _, _, _, _, _, _, _]⟩], rfl, rfl, ⟨⟨rfl, .inl rfl, .inl rfl, .inl rfl, .inl rfl, .inl rfl, .inr ⟨_, _, rfl, rfl⟩, .inl rfl, .inr ⟨_, _, rfl, rfl⟩, .inl rfl, .inl rfl, .inr ⟨_, _, rfl, rfl⟩, trivial⟩, trivial⟩⟩
     . cases hx
   . cases hx
abbrev d2F := LB -> a3W (Option (LB × Int × Int × Int × LB × Int × List V × LB × Int))
noncomputable def a3w {R : Type} (s : d2F) (dst : Nat) (ds : List D) (m : Mem) (K : List D -> Mem -> Option R) : Option R :=
 match ds with
 | [.ptr (Ac + 1) Ab 0, .v (.bytes a) .no] => u9 [(Ac, Ab)] m fun Bs => (match Bs with
   | [⟨82, [.v (.int .i64 b) .no, .v (.int .i64 f) .no, .v (.int .i64 i) .no, .v (.int .i64 d) .no, .v (.int .i64 l) .no, .v (.bytes n) _, .v (.int .i64 e) .no, .v (.sl 22 p) _, .v (.bytes j) (.own (.slot 0) 5), .v (.int .i64 o) .no, .v (.bytes q) _]⟩] => c2V (s a b f i d l n e p j o q) fun u z2 z3 z4 z5 z6 z7 z8 z9 => j3 [(Ac, Ab)] [g1a b f z2 z3 z4 z5 z6 z7 z8 z9 q] m fun m' => K [dY u] m'
   | _ => none)
 | _ => none
noncomputable def a2S {R : Type} (N : Nat) (a : LB) (b f i d l : Int) (n : LB) (e : Int) (p : List V) (j : LB) (o : Int) (q : LB) (K0 : LB -> Int -> Int -> Int -> LB -> Int -> List V -> LB -> Int -> Option R) : Option R := d3 (a1M N b f i d l n e p j o q) fun b0 => br (!b0) (K0 [] i d l n e p j o) (br (decide (o = 2)) (K0 [] i d l n e p j o) (H9 (a0K N a b f i d l n e p j o q) fun n1 n2 n3 b4 n5 b6 l7 n8 => br (decide (o = 3)) (br (decide (n8 = 0)) (d3 (a6Y N n1 n2 n3 b4 n5 b6 l7 0 2 0 false 3 true q) fun b9 => br b9 (K0 [] i d l n e p j 2) (d3 (I7 N 3 false q b f i d l n e p j o q) fun la => K0 la i d l n e p j o)) (d3 (I7 N 3 false q b f i d l n e p j o q) fun lb => K0 lb i d l n e p j o)) (br (!decide (n8 = 0)) (d3 (t7 N n8 b f i d l n e p j o q) fun Ag => K0 Ag i d l n e p j o) (br (decide (n2 = 0)) (M8 (a7I N n1 n2 n3 b4 n5 b6 l7 b f i d l n e p j o q) fun ld Ad lf ng => K0 ld i Ad l n e p lf ng) (br (decide (n2 = 1)) (T3 (a4o N n1 n2 n3 b4 n5 b6 l7 b f i d l n e p j o q) fun lh ni lj nk ll => K0 lh i d ni lj nk ll j o) (H9 (a4w N n1 n2 n3 b4 n5 b6 l7 b f i d l n e p j o q) fun BM nn Av np lq lr AN nt => K0 BM nn Av np lq e lr AN nt))))))
noncomputable def W2 (N : Nat) : d2F := fun a b f i d l n e p j o q => a2S N a b f i d l n e p j o q (fun u z2 z3 z4 z5 z6 z7 z8 z9 => some (u, z2, z3, z4, z5, z6, z7, z8, z9))
noncomputable def a9l (N : Nat) : Cx := cxO [⟨47, a7G (a6Y N)⟩] [⟨45, a7v (a1M N)⟩, ⟨46, a8H (a0K N)⟩, ⟨48, a3C (I7 N)⟩, ⟨49, a2I (t7 N)⟩, ⟨50, b8l (a7I N)⟩, ⟨51, b2I (a4o N)⟩, ⟨52, b2h (a4w N)⟩]
theorem b4C {R : Type} (N : Nat) (a b f i d l n e p j o q K : _) : g8 (R := R) (a9l N) Tryz.f23 [.ptr 1 0 0, dY a] [C0 0 [g1a b f i d l n e p j o q]] (C7 K) = a2S N a b f i d l n e p j o q (fun u z2 z3 z4 z5 z6 z7 z8 z9 => K u b f z2 z3 z4 z5 z6 z7 z8 z9 q) := by
 kernel_rfl
abbrev b2r (s : d2F) : Prop := ∀ {a b f i d l n e p j o q u z2 z3 z4 z5 z6 z7 z8 z9}, s a b f i d l n e p j o q = some (u, z2, z3, z4, z5, z6, z7, z8, z9) -> ViewRet Tryz.prog T 23 [.ptr 1 0 0, dY a] [g1a b f i d l n e p j o q] [dY u] [g1a b f z2 z3 z4 z5 z6 z7 z8 z9 q]
theorem b9F (s : d2F) (hs : b2r s) : MEO ⟨23, a3w s⟩ := by
 refine ⟨d6 Tryz.func23 (by kernel_rfl) (c := d5 Tryz.f23) (by kernel_rfl), fun R dst ds m K r h => ?_⟩
 simp only [a3w] at h
 split at h
 . obtain ⟨Bs, a1, a2, a3, h⟩ := g4 h
   split at h
   . obtain ⟨u, z2, z3, z4, z5, z6, z7, z8, z9, h1, h2⟩ := b5A h
     rw [d9] at h2
     exact ⟨_, _, h2, ViewRet.weakIn (hs h1) (by exact ⟨⟨rfl, .inl rfl, .inl rfl, .inl rfl, .inl rfl, .inl rfl, .inr ⟨_, _, rfl, rfl⟩, .inl rfl, .inr ⟨_, _, rfl, rfl⟩, .inl rfl, .inl rfl, .inr ⟨_, _, rfl, rfl⟩, trivial⟩, trivial⟩) rfl _ _ m dst a1 a2 a3 ⟨g6 _ rfl, d7 _, trivial⟩⟩
   . cases h
 . cases h
open Classical in
theorem c3i (N : Nat) : b2r (W2 N) := fun {a b f i d l n e p j o q u z2 z3 z4 z5 z6 z7 z8 z9} h => by
 refine o9 (cx := a9l N) (by kernel_rfl) (g7 ⟨c1P _ (c4N N), trivial⟩ ⟨b1E _ (b7Q N), c3j _ (c6Y N), a9M _ (b2S N), a5i _ (a6L N), c9d _ (d1T N), c6s _ (c9j N), c7t _ (c8q N), trivial⟩) Tryz.func23 (by kernel_rfl) (by kernel_rfl) (lz (by kernel_rfl)) (by rfl) (by rfl) (by rfl) (rf := C7 (fun Ae Z0 Z1 Z2 Z3 Z4 Z5 Z6 Z7 Z8 Z9 Za => if Z0 = b /\ Z1 = f /\ Za = q then some (Ae, Z2, Z3, Z4, Z5, Z6, Z7, Z8, Z9) else none)) (r := (u, z2, z3, z4, z5, z6, z7, z8, z9)) ?_ ?_
 . exact (b4C ..).trans ((congrArg (a2S N a b f i d l n e p j o q) (by funext; exact if_pos (by simp))).trans h)
 . intro rs' m' hx
   unfold C7 at hx
   split at hx
   . dsimp only at hx
     split at hx
     . rename_i hk
       obtain ⟨rfl, rfl, rfl⟩ := hk
       cases hx; exact ⟨rfl, rfl, _, [⟨82, [_, _, _, _, _, _, _, _, _, _, _]⟩], rfl, rfl, ⟨⟨rfl, .inl rfl, .inl rfl, .inl rfl, .inl rfl, .inl rfl, .inr ⟨_, _, rfl, rfl⟩, .inl rfl, .inr ⟨_, _, rfl, rfl⟩, .inl rfl, .inl rfl, .inr ⟨_, _, rfl, rfl⟩, trivial⟩, trivial⟩⟩
     . cases hx
   . cases hx
abbrev d2p := a3W (Option (LB × Bool))
noncomputable def a3l {R : Type} (s : d2p) (dst : Nat) (ds : List D) (m : Mem) (K : List D -> Mem -> Option R) : Option R :=
 match ds with
 | [.ptr (Ac + 1) Ab 0] => u9 [(Ac, Ab)] m fun Bs => (match Bs with
   | [⟨82, [.v (.int .i64 b) .no, .v (.int .i64 f) .no, .v (.int .i64 i) .no, .v (.int .i64 d) .no, .v (.int .i64 l) .no, .v (.bytes n) _, .v (.int .i64 e) .no, .v (.sl 22 p) _, .v (.bytes j) (.own (.slot 0) 5), .v (.int .i64 o) .no, .v (.bytes q) _]⟩] => Q3 (s b f i d l n e p j o q) fun u r1 => j3 [(Ac, Ab)] [g1a b f i d l n e p j o q] m fun m' => K [dY u, dB r1] m'
   | _ => none)
 | _ => none
noncomputable def a6f {α : Type} (K : LB -> Bool -> a3W (Option α)) (rs : List D) (m : Mem) : Option α :=
 match rs, m with
 | [.v (.bytes u) _, .v (.bool r1) _], [_, [(0, ⟨82, [.v (.int .i64 z0) .no, .v (.int .i64 z1) .no, .v (.int .i64 z2) .no, .v (.int .i64 z3) .no, .v (.int .i64 z4) .no, .v (.bytes z5) _, .v (.int .i64 z6) .no, .v (.sl 22 z7) _, .v (.bytes z8) (.own (.slot 0) 5), .v (.int .i64 z9) .no, .v (.bytes za) _]⟩)]] => K u r1 z0 z1 z2 z3 z4 z5 z6 z7 z8 z9 za
 | _, _ => none
noncomputable def a3s {R : Type} (N : Nat) (b f i d l : Int) (n : LB) (e : Int) (p : List V) (j : LB) (o : Int) (q : LB) (K0 : LB -> Bool -> Option R) : Option R := d3 (a1M N b f i d l n e p j o q) fun b0 => br (!b0) (K0 [] false) (br (!decide (o = 2)) (br (!decide (o = 3)) (K0 [] false) (d3 (j5 N j) fun l1 => K0 l1 true)) (d3 (j5 N j) fun l2 => K0 l2 true))
noncomputable def V7 (N : Nat) : d2p := fun b f i d l n e p j o q => a3s N b f i d l n e p j o q (fun u r1 => some (u, r1))
noncomputable def b0a (N : Nat) : Cx := cxO [⟨29, E4 (j5 N)⟩] [⟨45, a7v (a1M N)⟩]
theorem b4t {R : Type} (N : Nat) (b f i d l n e p j o q K : _) : g8 (R := R) (b0a N) Tryz.f24 [.ptr 1 0 0] [C0 0 [g1a b f i d l n e p j o q]] (a6f K) = a3s N b f i d l n e p j o q (fun u r1 => K u r1 b f i d l n e p j o q) := by
 kernel_rfl
abbrev b1I (s : d2p) : Prop := ∀ {b f i d l n e p j o q u r1}, s b f i d l n e p j o q = some (u, r1) -> ViewRet Tryz.prog T 24 [.ptr 1 0 0] [g1a b f i d l n e p j o q] [dY u, dB r1] [g1a b f i d l n e p j o q]
theorem b9s (s : d2p) (hs : b1I s) : MEO ⟨24, a3l s⟩ := by
 refine ⟨d6 Tryz.func24 (by kernel_rfl) (c := d5 Tryz.f24) (by kernel_rfl), fun R dst ds m K r h => ?_⟩
 simp only [a3l] at h
 split at h
 . obtain ⟨Bs, a1, a2, a3, h⟩ := g4 h
   split at h
   . obtain ⟨u, r1, h1, h2⟩ := O2 h
     rw [d9] at h2
     exact ⟨_, _, h2, ViewRet.weakIn (hs h1) (by exact ⟨⟨rfl, .inl rfl, .inl rfl, .inl rfl, .inl rfl, .inl rfl, .inr ⟨_, _, rfl, rfl⟩, .inl rfl, .inr ⟨_, _, rfl, rfl⟩, .inl rfl, .inl rfl, .inr ⟨_, _, rfl, rfl⟩, trivial⟩, trivial⟩) rfl _ _ m dst a1 a2 a3 ⟨g6 _ rfl, trivial⟩⟩
   . cases h
 . cases h
open Classical in
theorem c4k (N : Nat) : b1I (V7 N) := fun {b f i d l n e p j o q u r1} h => by
 refine o9 (cx := b0a N) (by kernel_rfl) (g7 ⟨I2 _ (M7 N), trivial⟩ ⟨b1E _ (b7Q N), trivial⟩) Tryz.func24 (by kernel_rfl) (by kernel_rfl) (lz (by kernel_rfl)) (by rfl) (by rfl) (by rfl) (rf := a6f (fun Ae BA Z0 Z1 Z2 Z3 Z4 Z5 Z6 Z7 Z8 Z9 Za => if Z0 = b /\ Z1 = f /\ Z2 = i /\ Z3 = d /\ Z4 = l /\ Z5 = n /\ Z6 = e /\ Z7 = p /\ Z8 = j /\ Z9 = o /\ Za = q then some (Ae, BA) else none)) (r := (u, r1)) ?_ ?_
 . exact (b4t ..).trans ((congrArg (a3s N b f i d l n e p j o q) (by funext; exact if_pos (by simp))).trans h)
 . intro rs' m' hx
   unfold a6f at hx
   split at hx
   . dsimp only at hx
     split at hx
     . rename_i hk
       obtain ⟨rfl, rfl, rfl, rfl, rfl, rfl, rfl, rfl, rfl, rfl, rfl⟩ := hk
       cases hx; exact ⟨rfl, rfl, _, [⟨82, [_, _, _, _, _, _, _, _, _, _, _]⟩], rfl, rfl, ⟨⟨rfl, .inl rfl, .inl rfl, .inl rfl, .inl rfl, .inl rfl, .inr ⟨_, _, rfl, rfl⟩, .inl rfl, .inr ⟨_, _, rfl, rfl⟩, .inl rfl, .inl rfl, .inr ⟨_, _, rfl, rfl⟩, trivial⟩, trivial⟩⟩
     . cases hx
   . cases hx
abbrev d2L := LB -> a3W (Option (LB × Int × LB × Int × List V × Int))
noncomputable def a7X {R : Type} (s : d2L) (dst : Nat) (ds : List D) (m : Mem) (K : List D -> Mem -> Option R) : Option R :=
 match ds with
 | [.ptr (Ac + 1) Ab 0, .v (.bytes a) .no] => u9 [(Ac, Ab)] m fun Bs => (match Bs with
   | [⟨82, [.v (.int .i64 b) .no, .v (.int .i64 f) .no, .v (.int .i64 i) .no, .v (.int .i64 d) .no, .v (.int .i64 l) .no, .v (.bytes n) _, .v (.int .i64 e) .no, .v (.sl 22 p) _, .v (.bytes j) (.own (.slot 0) 5), .v (.int .i64 o) .no, .v (.bytes q) _]⟩] => d1E (s a b f i d l n e p j o q) fun u z4 z5 z6 z7 z9 => j3 [(Ac, Ab)] [g1a b f i d z4 z5 z6 z7 j z9 q] m fun m' => K [dY u] m'
   | _ => none)
 | _ => none
noncomputable def a7Y {R : Type} (N : Nat) (a : LB) (b f i d l : Int) (n : LB) (e : Int) (p : List V) (j : LB) (o : Int) (q : LB) (K0 : LB -> Int -> LB -> Int -> List V -> Int -> Option R) : Option R := d3 (a1M N b f i d l n e p j o q) fun b0 => br (!b0) (K0 [] l n e p o) (br (!decide (o = 2)) (K0 [] l n e p o) (T3 (a7w N a b f i d l n e p j 4 q) fun l1 n2 l3 n4 l5 => K0 l1 n2 l3 n4 l5 4))
noncomputable def a2l (N : Nat) : d2L := fun a b f i d l n e p j o q => a7Y N a b f i d l n e p j o q (fun u z4 z5 z6 z7 z9 => some (u, z4, z5, z6, z7, z9))
noncomputable def b5d (N : Nat) : Cx := cxO [] [⟨45, a7v (a1M N)⟩, ⟨44, b7T (a7w N)⟩]
theorem b8Z {R : Type} (N : Nat) (a b f i d l n e p j o q K : _) : g8 (R := R) (b5d N) Tryz.f25 [.ptr 1 0 0, dY a] [C0 0 [g1a b f i d l n e p j o q]] (C7 K) = a7Y N a b f i d l n e p j o q (fun u z4 z5 z6 z7 z9 => K u b f i d z4 z5 z6 z7 j z9 q) := by
 kernel_rfl
abbrev c1D (s : d2L) : Prop := ∀ {a b f i d l n e p j o q u z4 z5 z6 z7 z9}, s a b f i d l n e p j o q = some (u, z4, z5, z6, z7, z9) -> ViewRet Tryz.prog T 25 [.ptr 1 0 0, dY a] [g1a b f i d l n e p j o q] [dY u] [g1a b f i d z4 z5 z6 z7 j z9 q]
theorem c6T (s : d2L) (hs : c1D s) : MEO ⟨25, a7X s⟩ := by
 refine ⟨d6 Tryz.func25 (by kernel_rfl) (c := d5 Tryz.f25) (by kernel_rfl), fun R dst ds m K r h => ?_⟩
 simp only [a7X] at h
 split at h
 . obtain ⟨Bs, a1, a2, a3, h⟩ := g4 h
   split at h
   . obtain ⟨u, z4, z5, z6, z7, z9, h1, h2⟩ := c6D h
     rw [d9] at h2
     exact ⟨_, _, h2, ViewRet.weakIn (hs h1) (by exact ⟨⟨rfl, .inl rfl, .inl rfl, .inl rfl, .inl rfl, .inl rfl, .inr ⟨_, _, rfl, rfl⟩, .inl rfl, .inr ⟨_, _, rfl, rfl⟩, .inl rfl, .inl rfl, .inr ⟨_, _, rfl, rfl⟩, trivial⟩, trivial⟩) rfl _ _ m dst a1 a2 a3 ⟨g6 _ rfl, d7 _, trivial⟩⟩
   . cases h
 . cases h
open Classical in
theorem c8z (N : Nat) : c1D (a2l N) := fun {a b f i d l n e p j o q u z4 z5 z6 z7 z9} h => by
 refine o9 (cx := b5d N) (by kernel_rfl) (g7 trivial ⟨b1E _ (b7Q N), d0m _ (d1e N), trivial⟩) Tryz.func25 (by kernel_rfl) (by kernel_rfl) (lz (by kernel_rfl)) (by rfl) (by rfl) (by rfl) (rf := C7 (fun Ae Z0 Z1 Z2 Z3 Z4 Z5 Z6 Z7 Z8 Z9 Za => if Z0 = b /\ Z1 = f /\ Z2 = i /\ Z3 = d /\ Z8 = j /\ Za = q then some (Ae, Z4, Z5, Z6, Z7, Z9) else none)) (r := (u, z4, z5, z6, z7, z9)) ?_ ?_
 . exact (b8Z ..).trans ((congrArg (a7Y N a b f i d l n e p j o q) (by funext; exact if_pos (by simp))).trans h)
 . intro rs' m' hx
   unfold C7 at hx
   split at hx
   . dsimp only at hx
     split at hx
     . rename_i hk
       obtain ⟨rfl, rfl, rfl, rfl, rfl, rfl⟩ := hk
       cases hx; exact ⟨rfl, rfl, _, [⟨82, [_, _, _, _, _, _, _, _, _, _, _]⟩], rfl, rfl, ⟨⟨rfl, .inl rfl, .inl rfl, .inl rfl, .inl rfl, .inl rfl, .inr ⟨_, _, rfl, rfl⟩, .inl rfl, .inr ⟨_, _, rfl, rfl⟩, .inl rfl, .inl rfl, .inr ⟨_, _, rfl, rfl⟩, trivial⟩, trivial⟩⟩
     . cases hx
   . cases hx
abbrev d1U := a3o (Option (Bool))
abbrev g2a (a0 a1 a2 a3 a4 : Int) (a5 : LB) (a6 : Int) (a7 : List V) (a8 : LB) (a9 Az : Int) (AJ : LB) (Br : Bool) (AK : Int) : Bx := ⟨80, [dI a0, dI a1, dI a2, dI a3, dI a4, dY a5, dI a6, .v (.sl 22 a7) .no, .v (.bytes a8) (.own (.slot 0) 5), dI a9, dI Az, dY AJ, dB Br, dI AK]⟩
noncomputable def a7t {R : Type} (s : d1U) (dst : Nat) (ds : List D) (m : Mem) (K : List D -> Mem -> Option R) : Option R :=
 match ds with
 | [.ptr (Ac + 1) Ab 0] => u9 [(Ac, Ab)] m fun Bs => (match Bs with
   | [⟨80, [.v (.int .i64 b) .no, .v (.int .i64 f) .no, .v (.int .i64 i) .no, .v (.int .i64 d) .no, .v (.int .i64 l) .no, .v (.bytes n) _, .v (.int .i64 e) .no, .v (.sl 22 p) _, .v (.bytes j) (.own (.slot 0) 5), .v (.int .i64 o) .no, .v (.int .i64 q) .no, .v (.bytes w) _, .v (.bool Aa) .no, .v (.int .i64 x) .no]⟩] => d3 (s b f i d l n e p j o q w Aa x) fun u => j3 [(Ac, Ab)] [g2a b f i d l n e p j o q w Aa x] m fun m' => K [dB u] m'
   | _ => none)
 | _ => none
noncomputable def b6X {α : Type} (K : Bool -> a3o (Option α)) (rs : List D) (m : Mem) : Option α :=
 match rs, m with
 | [.v (.bool u) _], [_, [(0, ⟨80, [.v (.int .i64 z0) .no, .v (.int .i64 z1) .no, .v (.int .i64 z2) .no, .v (.int .i64 z3) .no, .v (.int .i64 z4) .no, .v (.bytes z5) _, .v (.int .i64 z6) .no, .v (.sl 22 z7) _, .v (.bytes z8) (.own (.slot 0) 5), .v (.int .i64 z9) .no, .v (.int .i64 za) .no, .v (.bytes zb) _, .v (.bool zc) .no, .v (.int .i64 zd) .no]⟩)]] => K u z0 z1 z2 z3 z4 z5 z6 z7 z8 z9 za zb zc zd
 | _, _ => none
noncomputable def b7H {R : Type} (N : Nat) (b f i d l : Int) (n : LB) (e : Int) (p : List V) (j : LB) (o q : Int) (w : LB) (Aa : Bool) (x : Int) (K0 : Bool -> Option R) : Option R := K0 (decide (0 < f))
noncomputable def a1s (N : Nat) : d1U := fun b f i d l n e p j o q w Aa x => b7H N b f i d l n e p j o q w Aa x (fun u => some u)
noncomputable def c0L (N : Nat) : Cx := cxO [] []
theorem c3G {R : Type} (N : Nat) (b f i d l n e p j o q w Aa x K : _) : g8 (R := R) (c0L N) Tryz.f43 [.ptr 1 0 0] [C0 0 [g2a b f i d l n e p j o q w Aa x]] (b6X K) = b7H N b f i d l n e p j o q w Aa x (fun u => K u b f i d l n e p j o q w Aa x) := by
 kernel_rfl
abbrev c5r (s : d1U) : Prop := ∀ {b f i d l n e p j o q w Aa x u}, s b f i d l n e p j o q w Aa x = some u -> ViewRet Tryz.prog T 43 [.ptr 1 0 0] [g2a b f i d l n e p j o q w Aa x] [dB u] [g2a b f i d l n e p j o q w Aa x]
theorem b2m (s : d1U) (hs : c5r s) : MEO ⟨43, a7t s⟩ := by
 refine ⟨d6 Tryz.func43 (by kernel_rfl) (c := d5 Tryz.f43) (by kernel_rfl), fun R dst ds m K r h => ?_⟩
 simp only [a7t] at h
 split at h
 . obtain ⟨Bs, a1, a2, a3, h⟩ := g4 h
   split at h
   . obtain ⟨u, h1, h2⟩ := j4 h
     rw [d9] at h2
     exact ⟨_, _, h2, ViewRet.weakIn (hs h1) (by exact ⟨⟨rfl, .inl rfl, .inl rfl, .inl rfl, .inl rfl, .inl rfl, .inr ⟨_, _, rfl, rfl⟩, .inl rfl, .inr ⟨_, _, rfl, rfl⟩, .inl rfl, .inl rfl, .inl rfl, .inr ⟨_, _, rfl, rfl⟩, .inl rfl, .inl rfl, trivial⟩, trivial⟩) rfl _ _ m dst a1 a2 a3 ⟨g6 _ rfl, trivial⟩⟩
   . cases h
 . cases h
open Classical in
theorem b7N (N : Nat) : c5r (a1s N) := fun {b f i d l n e p j o q w Aa x u} h => by
 refine o9 (cx := c0L N) (by kernel_rfl) (g7 trivial trivial) Tryz.func43 (by kernel_rfl) (by kernel_rfl) (lz (by kernel_rfl)) (by rfl) (by rfl) (by rfl) (rf := b6X (fun Ae Z0 Z1 Z2 Z3 Z4 Z5 Z6 Z7 Z8 Z9 Za Zb Zc Zd => if Z0 = b /\ Z1 = f /\ Z2 = i /\ Z3 = d /\ Z4 = l /\ Z5 = n /\ Z6 = e /\ Z7 = p /\ Z8 = j /\ Z9 = o /\ Za = q /\ Zb = w /\ Zc = Aa /\ Zd = x then some Ae else none)) (r := u) ?_ ?_
 . exact (c3G ..).trans ((congrArg (b7H N b f i d l n e p j o q w Aa x) (by funext; exact if_pos (by simp))).trans h)
 . intro rs' m' hx
   unfold b6X at hx
   split at hx
   . dsimp only at hx
     split at hx
     . rename_i hk
       obtain ⟨rfl, rfl, rfl, rfl, rfl, rfl, rfl, rfl, rfl, rfl, rfl, rfl, rfl, rfl⟩ := hk
       cases hx; exact ⟨rfl, rfl, _, [⟨80, [_, _, _, _, _, _, _, _, _, _, _, _, _, _]⟩], rfl, rfl, ⟨⟨rfl, .inl rfl, .inl rfl, .inl rfl, .inl rfl, .inl rfl, .inr ⟨_, _, rfl, rfl⟩, .inl rfl, .inr ⟨_, _, rfl, rfl⟩, .inl rfl, .inl rfl, .inl rfl, .inr ⟨_, _, rfl, rfl⟩, .inl rfl, .inl rfl, trivial⟩, trivial⟩⟩
     . cases hx
   . cases hx
abbrev d1C := Int -> Int -> Int -> Bool -> Int -> Bool -> LB -> a3o (Option (LB))
noncomputable def b0T {R : Type} (s : d1C) (dst : Nat) (ds : List D) (m : Mem) (K : List D -> Mem -> Option R) : Option R :=
 match ds with
 | [.ptr (Ac + 1) Ab 0, .agg [.v (.int .i64 a) .no, .v (.int .i64 y) .no, .v (.int .i64 z) .no, .v (.bool O) .no, .v (.int .i64 x4) .no, .v (.bool x5) .no, .v (.bytes x6) .no]] => u9 [(Ac, Ab)] m fun Bs => (match Bs with
   | [⟨80, [.v (.int .i64 b) .no, .v (.int .i64 f) .no, .v (.int .i64 i) .no, .v (.int .i64 d) .no, .v (.int .i64 l) .no, .v (.bytes n) _, .v (.int .i64 e) .no, .v (.sl 22 p) _, .v (.bytes j) (.own (.slot 0) 5), .v (.int .i64 o) .no, .v (.int .i64 q) .no, .v (.bytes w) _, .v (.bool Aa) .no, .v (.int .i64 x) .no]⟩] => d3 (s a y z O x4 x5 x6 b f i d l n e p j o q w Aa x) fun u => j3 [(Ac, Ab)] [g2a b f i d l n e p j o q w Aa x] m fun m' => K [dY u] m'
   | _ => none)
 | _ => none
noncomputable def u7 {α : Type} (K : LB -> a3o (Option α)) (rs : List D) (m : Mem) : Option α :=
 match rs, m with
 | [.v (.bytes u) _], [_, [(0, ⟨80, [.v (.int .i64 z0) .no, .v (.int .i64 z1) .no, .v (.int .i64 z2) .no, .v (.int .i64 z3) .no, .v (.int .i64 z4) .no, .v (.bytes z5) _, .v (.int .i64 z6) .no, .v (.sl 22 z7) _, .v (.bytes z8) (.own (.slot 0) 5), .v (.int .i64 z9) .no, .v (.int .i64 za) .no, .v (.bytes zb) _, .v (.bool zc) .no, .v (.int .i64 zd) .no]⟩)]] => K u z0 z1 z2 z3 z4 z5 z6 z7 z8 z9 za zb zc zd
 | _, _ => none
noncomputable def c4s {R : Type} (N : Nat) (a y z : Int) (O : Bool) (x4 : Int) (x5 : Bool) (x6 : LB) (b f i d l : Int) (n : LB) (e : Int) (p : List V) (j : LB) (o q : Int) (w : LB) (Aa : Bool) (x : Int) (K0 : LB -> Option R) : Option R := Q3 (a2w N a y z O x4 x5 x6 b) fun l0 n1 => K0 l0
noncomputable def a3U (N : Nat) : d1C := fun a y z O x4 x5 x6 b f i d l n e p j o q w Aa x => c4s N a y z O x4 x5 x6 b f i d l n e p j o q w Aa x (fun u => some u)
noncomputable def c4y (N : Nat) : Cx := cxO [⟨84, a2p (a2w N)⟩] []
theorem c6w {R : Type} (N : Nat) (a y z O x4 x5 x6 b f i d l n e p j o q w Aa x K : _) : g8 (R := R) (c4y N) Tryz.f70 [.ptr 1 0 0, g0a a y z O x4 x5 x6] [C0 0 [g2a b f i d l n e p j o q w Aa x]] (u7 K) = c4s N a y z O x4 x5 x6 b f i d l n e p j o q w Aa x (fun u => K u b f i d l n e p j o q w Aa x) := by
 kernel_rfl
abbrev c8j (s : d1C) : Prop := ∀ {a y z O x4 x5 x6 b f i d l n e p j o q w Aa x u}, s a y z O x4 x5 x6 b f i d l n e p j o q w Aa x = some u -> ViewRet Tryz.prog T 70 [.ptr 1 0 0, g0a a y z O x4 x5 x6] [g2a b f i d l n e p j o q w Aa x] [dY u] [g2a b f i d l n e p j o q w Aa x]
theorem b6w (s : d1C) (hs : c8j s) : MEO ⟨70, b0T s⟩ := by
 refine ⟨d6 Tryz.func70 (by kernel_rfl) (c := d5 Tryz.f70) (by kernel_rfl), fun R dst ds m K r h => ?_⟩
 simp only [b0T] at h
 split at h
 . obtain ⟨Bs, a1, a2, a3, h⟩ := g4 h
   split at h
   . obtain ⟨u, h1, h2⟩ := j4 h
     rw [d9] at h2
     exact ⟨_, _, h2, ViewRet.weakIn (hs h1) (by exact ⟨⟨rfl, .inl rfl, .inl rfl, .inl rfl, .inl rfl, .inl rfl, .inr ⟨_, _, rfl, rfl⟩, .inl rfl, .inr ⟨_, _, rfl, rfl⟩, .inl rfl, .inl rfl, .inl rfl, .inr ⟨_, _, rfl, rfl⟩, .inl rfl, .inl rfl, trivial⟩, trivial⟩) rfl _ _ m dst a1 a2 a3 ⟨g6 _ rfl, L3 ⟨d7 _, d7 _, d7 _, d7 _, d7 _, d7 _, d7 _, trivial⟩, trivial⟩⟩
   . cases h
 . cases h
open Classical in
theorem c2R (N : Nat) : c8j (a3U N) := fun {a y z O x4 x5 x6 b f i d l n e p j o q w Aa x u} h => by
 refine o9 (cx := c4y N) (by kernel_rfl) (g7 ⟨b0Y _ (b4G N), trivial⟩ trivial) Tryz.func70 (by kernel_rfl) (by kernel_rfl) (lz (by kernel_rfl)) (by rfl) (by rfl) (by rfl) (rf := u7 (fun Ae Z0 Z1 Z2 Z3 Z4 Z5 Z6 Z7 Z8 Z9 Za Zb Zc Zd => if Z0 = b /\ Z1 = f /\ Z2 = i /\ Z3 = d /\ Z4 = l /\ Z5 = n /\ Z6 = e /\ Z7 = p /\ Z8 = j /\ Z9 = o /\ Za = q /\ Zb = w /\ Zc = Aa /\ Zd = x then some Ae else none)) (r := u) ?_ ?_
 . exact (c6w ..).trans ((congrArg (c4s N a y z O x4 x5 x6 b f i d l n e p j o q w Aa x) (by funext; exact if_pos (by simp))).trans h)
 . intro rs' m' hx
   unfold u7 at hx
   split at hx
   . dsimp only at hx
     split at hx
     . rename_i hk
       obtain ⟨rfl, rfl, rfl, rfl, rfl, rfl, rfl, rfl, rfl, rfl, rfl, rfl, rfl, rfl⟩ := hk
       cases hx; exact ⟨rfl, rfl, _, [⟨80, [_, _, _, _, _, _, _, _, _, _, _, _, _, _]⟩], rfl, rfl, ⟨⟨rfl, .inl rfl, .inl rfl, .inl rfl, .inl rfl, .inl rfl, .inr ⟨_, _, rfl, rfl⟩, .inl rfl, .inr ⟨_, _, rfl, rfl⟩, .inl rfl, .inl rfl, .inl rfl, .inr ⟨_, _, rfl, rfl⟩, .inl rfl, .inl rfl, trivial⟩, trivial⟩⟩
     . cases hx
   . cases hx
abbrev d1y := LB -> a3o (Option (Int × Int × Int × Bool × Int × Bool × LB × Int))
noncomputable def a8N {R : Type} (s : d1y) (dst : Nat) (ds : List D) (m : Mem) (K : List D -> Mem -> Option R) : Option R :=
 match ds with
 | [.ptr (Ac + 1) Ab 0, .v (.bytes a) .no] => u9 [(Ac, Ab)] m fun Bs => (match Bs with
   | [⟨80, [.v (.int .i64 b) .no, .v (.int .i64 f) .no, .v (.int .i64 i) .no, .v (.int .i64 d) .no, .v (.int .i64 l) .no, .v (.bytes n) _, .v (.int .i64 e) .no, .v (.sl 22 p) _, .v (.bytes j) (.own (.slot 0) 5), .v (.int .i64 o) .no, .v (.int .i64 q) .no, .v (.bytes w) _, .v (.bool Aa) .no, .v (.int .i64 x) .no]⟩] => H9 (s a b f i d l n e p j o q w Aa x) fun u r1 r2 r3 r4 r5 r6 r7 => j3 [(Ac, Ab)] [g2a b f i d l n e p j o q w Aa x] m fun m' => K [g0a u r1 r2 r3 r4 r5 r6, dI r7] m'
   | _ => none)
 | _ => none
noncomputable def a8i {α : Type} (K : Int -> Int -> Int -> Bool -> Int -> Bool -> LB -> Int -> a3o (Option α)) (rs : List D) (m : Mem) : Option α :=
 match rs, m with
 | [.agg [.v (.int .i64 u) _, .v (.int .i64 r1) _, .v (.int .i64 r2) _, .v (.bool r3) _, .v (.int .i64 r4) _, .v (.bool r5) _, .v (.bytes r6) _], .v (.int .i64 r7) _], [_, [(0, ⟨80, [.v (.int .i64 z0) .no, .v (.int .i64 z1) .no, .v (.int .i64 z2) .no, .v (.int .i64 z3) .no, .v (.int .i64 z4) .no, .v (.bytes z5) _, .v (.int .i64 z6) .no, .v (.sl 22 z7) _, .v (.bytes z8) (.own (.slot 0) 5), .v (.int .i64 z9) .no, .v (.int .i64 za) .no, .v (.bytes zb) _, .v (.bool zc) .no, .v (.int .i64 zd) .no]⟩)]] => K u r1 r2 r3 r4 r5 r6 r7 z0 z1 z2 z3 z4 z5 z6 z7 z8 z9 za zb zc zd
 | _, _ => none
noncomputable def a8e {R : Type} (N : Nat) (a : LB) (b f i d l : Int) (n : LB) (e : Int) (p : List V) (j : LB) (o q : Int) (w : LB) (Aa : Bool) (x : Int) (K0 : Int -> Int -> Int -> Bool -> Int -> Bool -> LB -> Int -> Option R) : Option R := H9 (S0 N a b) fun n0 n1 n2 b3 n4 b5 l6 n7 => br (decide (n7 = 6)) (K0 n0 n1 n2 b3 n4 b5 l6 1) (br (!decide (n7 = 0)) (K0 n0 n1 n2 b3 n4 b5 l6 2) (br (!decide (n0 = 0)) (K0 n0 n1 n2 b3 n4 b5 l6 2) (br (decide (n1 = 0)) (br (decide (f < (l6.length : Int))) (K0 n0 n1 n2 b3 n4 b5 l6 2) (K0 n0 n1 n2 b3 n4 b5 l6 0)) (K0 n0 n1 n2 b3 n4 b5 l6 0))))
noncomputable def a2s (N : Nat) : d1y := fun a b f i d l n e p j o q w Aa x => a8e N a b f i d l n e p j o q w Aa x (fun u r1 r2 r3 r4 r5 r6 r7 => some (u, r1, r2, r3, r4, r5, r6, r7))
noncomputable def b3H (N : Nat) : Cx := cxO [⟨68, a2x (S0 N)⟩] []
theorem b6L {R : Type} (N : Nat) (a b f i d l n e p j o q w Aa x K : _) : g8 (R := R) (b3H N) Tryz.f46 [.ptr 1 0 0, dY a] [C0 0 [g2a b f i d l n e p j o q w Aa x]] (a8i K) = a8e N a b f i d l n e p j o q w Aa x (fun u r1 r2 r3 r4 r5 r6 r7 => K u r1 r2 r3 r4 r5 r6 r7 b f i d l n e p j o q w Aa x) := by
 kernel_rfl
abbrev b5z (s : d1y) : Prop := ∀ {a b f i d l n e p j o q w Aa x u r1 r2 r3 r4 r5 r6 r7}, s a b f i d l n e p j o q w Aa x = some (u, r1, r2, r3, r4, r5, r6, r7) -> ViewRet Tryz.prog T 46 [.ptr 1 0 0, dY a] [g2a b f i d l n e p j o q w Aa x] [g0a u r1 r2 r3 r4 r5 r6, dI r7] [g2a b f i d l n e p j o q w Aa x]
theorem c3A (s : d1y) (hs : b5z s) : MEO ⟨46, a8N s⟩ := by
 refine ⟨d6 Tryz.func46 (by kernel_rfl) (c := d5 Tryz.f46) (by kernel_rfl), fun R dst ds m K r h => ?_⟩
 simp only [a8N] at h
 split at h
 . obtain ⟨Bs, a1, a2, a3, h⟩ := g4 h
   split at h
   . obtain ⟨u, r1, r2, r3, r4, r5, r6, r7, h1, h2⟩ := O3 h
     rw [d9] at h2
     exact ⟨_, _, h2, ViewRet.weakIn (hs h1) (by exact ⟨⟨rfl, .inl rfl, .inl rfl, .inl rfl, .inl rfl, .inl rfl, .inr ⟨_, _, rfl, rfl⟩, .inl rfl, .inr ⟨_, _, rfl, rfl⟩, .inl rfl, .inl rfl, .inl rfl, .inr ⟨_, _, rfl, rfl⟩, .inl rfl, .inl rfl, trivial⟩, trivial⟩) rfl _ _ m dst a1 a2 a3 ⟨g6 _ rfl, d7 _, trivial⟩⟩
   . cases h
 . cases h
open Classical in
theorem c7Z (N : Nat) : b5z (a2s N) := fun {a b f i d l n e p j o q w Aa x u r1 r2 r3 r4 r5 r6 r7} h => by
 refine o9 (cx := b3H N) (by kernel_rfl) (g7 ⟨b1A _ (b5h N), trivial⟩ trivial) Tryz.func46 (by kernel_rfl) (by kernel_rfl) (lz (by kernel_rfl)) (by rfl) (by rfl) (by rfl) (rf := a8i (fun Ae BA BL CC CD CE CF CG Z0 Z1 Z2 Z3 Z4 Z5 Z6 Z7 Z8 Z9 Za Zb Zc Zd => if Z0 = b /\ Z1 = f /\ Z2 = i /\ Z3 = d /\ Z4 = l /\ Z5 = n /\ Z6 = e /\ Z7 = p /\ Z8 = j /\ Z9 = o /\ Za = q /\ Zb = w /\ Zc = Aa /\ Zd = x then some (Ae, BA, BL, CC, CD, CE, CF, CG) else none)) (r := (u, r1, r2, r3, r4, r5, r6, r7)) ?_ ?_
 . exact (b6L ..).trans ((congrArg (a8e N a b f i d l n e p j o q w Aa x) (by funext; exact if_pos (by simp))).trans h)
 . intro rs' m' hx
   unfold a8i at hx
   split at hx
   . dsimp only at hx
     split at hx
     . rename_i hk
       obtain ⟨rfl, rfl, rfl, rfl, rfl, rfl, rfl, rfl, rfl, rfl, rfl, rfl, rfl, rfl⟩ := hk
       cases hx; exact ⟨rfl, rfl, _, [⟨80, [_, _, _, _, _, _, _, _, _, _, _, _, _, _]⟩], rfl, rfl, ⟨⟨rfl, .inl rfl, .inl rfl, .inl rfl, .inl rfl, .inl rfl, .inr ⟨_, _, rfl, rfl⟩, .inl rfl, .inr ⟨_, _, rfl, rfl⟩, .inl rfl, .inl rfl, .inl rfl, .inr ⟨_, _, rfl, rfl⟩, .inl rfl, .inl rfl, trivial⟩, trivial⟩⟩
     . cases hx
   . cases hx
abbrev d3g := Int -> a3o (Option (LB))
noncomputable def a2m {R : Type} (s : d3g) (dst : Nat) (ds : List D) (m : Mem) (K : List D -> Mem -> Option R) : Option R :=
 match ds with
 | [.ptr (Ac + 1) Ab 0, .v (.int .i64 a) .no] => u9 [(Ac, Ab)] m fun Bs => (match Bs with
   | [⟨80, [.v (.int .i64 b) .no, .v (.int .i64 f) .no, .v (.int .i64 i) .no, .v (.int .i64 d) .no, .v (.int .i64 l) .no, .v (.bytes n) _, .v (.int .i64 e) .no, .v (.sl 22 p) _, .v (.bytes j) (.own (.slot 0) 5), .v (.int .i64 o) .no, .v (.int .i64 q) .no, .v (.bytes w) _, .v (.bool Aa) .no, .v (.int .i64 x) .no]⟩] => d3 (s a b f i d l n e p j o q w Aa x) fun u => j3 [(Ac, Ab)] [g2a b f i d l n e p j o q w Aa x] m fun m' => K [dY u] m'
   | _ => none)
 | _ => none
noncomputable def b3x {R : Type} (N : Nat) (a b f i d l : Int) (n : LB) (e : Int) (p : List V) (j : LB) (o q : Int) (w : LB) (Aa : Bool) (x : Int) (K0 : LB -> Option R) : Option R := d3 (a3U N 0 1 d false a false [] b f i d l n e p j o q w Aa x) fun l0 => K0 l0
noncomputable def w7 (N : Nat) : d3g := fun a b f i d l n e p j o q w Aa x => b3x N a b f i d l n e p j o q w Aa x (fun u => some u)
noncomputable def b5I (N : Nat) : Cx := cxO [] [⟨70, b0T (a3U N)⟩]
theorem c0f {R : Type} (N : Nat) (a b f i d l n e p j o q w Aa x K : _) : g8 (R := R) (b5I N) Tryz.f49 [.ptr 1 0 0, dI a] [C0 0 [g2a b f i d l n e p j o q w Aa x]] (u7 K) = b3x N a b f i d l n e p j o q w Aa x (fun u => K u b f i d l n e p j o q w Aa x) := by
 kernel_rfl
abbrev b9X (s : d3g) : Prop := ∀ {a b f i d l n e p j o q w Aa x u}, s a b f i d l n e p j o q w Aa x = some u -> ViewRet Tryz.prog T 49 [.ptr 1 0 0, dI a] [g2a b f i d l n e p j o q w Aa x] [dY u] [g2a b f i d l n e p j o q w Aa x]
theorem a5q (s : d3g) (hs : b9X s) : MEO ⟨49, a2m s⟩ := by
 refine ⟨d6 Tryz.func49 (by kernel_rfl) (c := d5 Tryz.f49) (by kernel_rfl), fun R dst ds m K r h => ?_⟩
 simp only [a2m] at h
 split at h
 . obtain ⟨Bs, a1, a2, a3, h⟩ := g4 h
   split at h
   . obtain ⟨u, h1, h2⟩ := j4 h
     rw [d9] at h2
     exact ⟨_, _, h2, ViewRet.weakIn (hs h1) (by exact ⟨⟨rfl, .inl rfl, .inl rfl, .inl rfl, .inl rfl, .inl rfl, .inr ⟨_, _, rfl, rfl⟩, .inl rfl, .inr ⟨_, _, rfl, rfl⟩, .inl rfl, .inl rfl, .inl rfl, .inr ⟨_, _, rfl, rfl⟩, .inl rfl, .inl rfl, trivial⟩, trivial⟩) rfl _ _ m dst a1 a2 a3 ⟨g6 _ rfl, d7 _, trivial⟩⟩
   . cases h
 . cases h
open Classical in
theorem a6A (N : Nat) : b9X (w7 N) := fun {a b f i d l n e p j o q w Aa x u} h => by
 refine o9 (cx := b5I N) (by kernel_rfl) (g7 trivial ⟨b6w _ (c2R N), trivial⟩) Tryz.func49 (by kernel_rfl) (by kernel_rfl) (lz (by kernel_rfl)) (by rfl) (by rfl) (by rfl) (rf := u7 (fun Ae Z0 Z1 Z2 Z3 Z4 Z5 Z6 Z7 Z8 Z9 Za Zb Zc Zd => if Z0 = b /\ Z1 = f /\ Z2 = i /\ Z3 = d /\ Z4 = l /\ Z5 = n /\ Z6 = e /\ Z7 = p /\ Z8 = j /\ Z9 = o /\ Za = q /\ Zb = w /\ Zc = Aa /\ Zd = x then some Ae else none)) (r := u) ?_ ?_
 . exact (c0f ..).trans ((congrArg (b3x N a b f i d l n e p j o q w Aa x) (by funext; exact if_pos (by simp))).trans h)
 . intro rs' m' hx
   unfold u7 at hx
   split at hx
   . dsimp only at hx
     split at hx
     . rename_i hk
       obtain ⟨rfl, rfl, rfl, rfl, rfl, rfl, rfl, rfl, rfl, rfl, rfl, rfl, rfl, rfl⟩ := hk
       cases hx; exact ⟨rfl, rfl, _, [⟨80, [_, _, _, _, _, _, _, _, _, _, _, _, _, _]⟩], rfl, rfl, ⟨⟨rfl, .inl rfl, .inl rfl, .inl rfl, .inl rfl, .inl rfl, .inr ⟨_, _, rfl, rfl⟩, .inl rfl, .inr ⟨_, _, rfl, rfl⟩, .inl rfl, .inl rfl, .inl rfl, .inr ⟨_, _, rfl, rfl⟩, .inl rfl, .inl rfl, trivial⟩, trivial⟩⟩
     . cases hx
   . cases hx
abbrev d2n := Int -> Bool -> LB -> a3o (Option (LB))
noncomputable def a2Y {R : Type} (s : d2n) (dst : Nat) (ds : List D) (m : Mem) (K : List D -> Mem -> Option R) : Option R :=
 match ds with
 | [.ptr (Ac + 1) Ab 0, .v (.int .i64 a) .no, .v (.bool y) .no, .v (.bytes z) .no] => u9 [(Ac, Ab)] m fun Bs => (match Bs with
   | [⟨80, [.v (.int .i64 b) .no, .v (.int .i64 f) .no, .v (.int .i64 i) .no, .v (.int .i64 d) .no, .v (.int .i64 l) .no, .v (.bytes n) _, .v (.int .i64 e) .no, .v (.sl 22 p) _, .v (.bytes j) (.own (.slot 0) 5), .v (.int .i64 o) .no, .v (.int .i64 q) .no, .v (.bytes w) _, .v (.bool Aa) .no, .v (.int .i64 x) .no]⟩] => d3 (s a y z b f i d l n e p j o q w Aa x) fun u => j3 [(Ac, Ab)] [g2a b f i d l n e p j o q w Aa x] m fun m' => K [dY u] m'
   | _ => none)
 | _ => none
noncomputable def a5W {R : Type} (N : Nat) (a : Int) (y : Bool) (z : LB) (b f i d l : Int) (n : LB) (e : Int) (p : List V) (j : LB) (o q : Int) (w : LB) (Aa : Bool) (x : Int) (K0 : LB -> Option R) : Option R := d3 (a3U N 0 2 0 false a y z b f i d l n e p j o q w Aa x) fun l0 => K0 l0
noncomputable def F2 (N : Nat) : d2n := fun a y z b f i d l n e p j o q w Aa x => a5W N a y z b f i d l n e p j o q w Aa x (fun u => some u)
noncomputable def a9U (N : Nat) : Cx := cxO [] [⟨70, b0T (a3U N)⟩]
theorem b4z {R : Type} (N : Nat) (a y z b f i d l n e p j o q w Aa x K : _) : g8 (R := R) (a9U N) Tryz.f48 [.ptr 1 0 0, dI a, dB y, dY z] [C0 0 [g2a b f i d l n e p j o q w Aa x]] (u7 K) = a5W N a y z b f i d l n e p j o q w Aa x (fun u => K u b f i d l n e p j o q w Aa x) := by
 kernel_rfl
abbrev b2z (s : d2n) : Prop := ∀ {a y z b f i d l n e p j o q w Aa x u}, s a y z b f i d l n e p j o q w Aa x = some u -> ViewRet Tryz.prog T 48 [.ptr 1 0 0, dI a, dB y, dY z] [g2a b f i d l n e p j o q w Aa x] [dY u] [g2a b f i d l n e p j o q w Aa x]
theorem a9x (s : d2n) (hs : b2z s) : MEO ⟨48, a2Y s⟩ := by
 refine ⟨d6 Tryz.func48 (by kernel_rfl) (c := d5 Tryz.f48) (by kernel_rfl), fun R dst ds m K r h => ?_⟩
 simp only [a2Y] at h
 split at h
 . obtain ⟨Bs, a1, a2, a3, h⟩ := g4 h
   split at h
   . obtain ⟨u, h1, h2⟩ := j4 h
     rw [d9] at h2
     exact ⟨_, _, h2, ViewRet.weakIn (hs h1) (by exact ⟨⟨rfl, .inl rfl, .inl rfl, .inl rfl, .inl rfl, .inl rfl, .inr ⟨_, _, rfl, rfl⟩, .inl rfl, .inr ⟨_, _, rfl, rfl⟩, .inl rfl, .inl rfl, .inl rfl, .inr ⟨_, _, rfl, rfl⟩, .inl rfl, .inl rfl, trivial⟩, trivial⟩) rfl _ _ m dst a1 a2 a3 ⟨g6 _ rfl, d7 _, d7 _, d7 _, trivial⟩⟩
   . cases h
 . cases h
open Classical in
theorem b1x (N : Nat) : b2z (F2 N) := fun {a y z b f i d l n e p j o q w Aa x u} h => by
 refine o9 (cx := a9U N) (by kernel_rfl) (g7 trivial ⟨b6w _ (c2R N), trivial⟩) Tryz.func48 (by kernel_rfl) (by kernel_rfl) (lz (by kernel_rfl)) (by rfl) (by rfl) (by rfl) (rf := u7 (fun Ae Z0 Z1 Z2 Z3 Z4 Z5 Z6 Z7 Z8 Z9 Za Zb Zc Zd => if Z0 = b /\ Z1 = f /\ Z2 = i /\ Z3 = d /\ Z4 = l /\ Z5 = n /\ Z6 = e /\ Z7 = p /\ Z8 = j /\ Z9 = o /\ Za = q /\ Zb = w /\ Zc = Aa /\ Zd = x then some Ae else none)) (r := u) ?_ ?_
 . exact (b4z ..).trans ((congrArg (a5W N a y z b f i d l n e p j o q w Aa x) (by funext; exact if_pos (by simp))).trans h)
 . intro rs' m' hx
   unfold u7 at hx
   split at hx
   . dsimp only at hx
     split at hx
     . rename_i hk
       obtain ⟨rfl, rfl, rfl, rfl, rfl, rfl, rfl, rfl, rfl, rfl, rfl, rfl, rfl, rfl⟩ := hk
       cases hx; exact ⟨rfl, rfl, _, [⟨80, [_, _, _, _, _, _, _, _, _, _, _, _, _, _]⟩], rfl, rfl, ⟨⟨rfl, .inl rfl, .inl rfl, .inl rfl, .inl rfl, .inl rfl, .inr ⟨_, _, rfl, rfl⟩, .inl rfl, .inr ⟨_, _, rfl, rfl⟩, .inl rfl, .inl rfl, .inl rfl, .inr ⟨_, _, rfl, rfl⟩, .inl rfl, .inl rfl, trivial⟩, trivial⟩⟩
     . cases hx
   . cases hx
end En
end Go.Proofs.YtfafflepalgcnaaGreat
