/- Texts. -/
import Derived.Test.YtfafflepalgcnaaGreatZ5
set_option linter.unusedSimpArgs false
set_option linter.unusedVariables false
set_option linter.unusedSectionVars false
open Go.BinOp renaming or → IP, and → JB
open Go.IntKind renaming i64 → GA, u8 → GI
open Int renaming toNat → GX
open List renaming drop → GU, take → Ig
open UInt8 renaming ofNat → Gz
namespace Go.Proofs.YtfafflepalgcnaaGreat
namespace En
open Go Go.Proofs
set_option maxRecDepth 100000
set_option maxHeartbeats 8000000
abbrev d2l := a3o (Option (LB × Int × LB × Int × List V))
noncomputable def a7S {R : Type} (s : d2l) (dst : Nat) (ds : List D) (m : Mem) (K : List D -> Mem -> Option R) : Option R :=
 match ds with
 | [.ptr (Ac + 1) Ab 0] => u9 [(Ac, Ab)] m fun Bs => (match Bs with
   | [⟨80, [.v (.int .i64 b) .no, .v (.int .i64 f) .no, .v (.int .i64 i) .no, .v (.int .i64 d) .no, .v (.int .i64 l) .no, .v (.bytes n) _, .v (.int .i64 e) .no, .v (.sl 22 p) _, .v (.bytes j) (.own (.slot 0) 5), .v (.int .i64 o) .no, .v (.int .i64 q) .no, .v (.bytes w) _, .v (.bool Aa) .no, .v (.int .i64 x) .no]⟩] => T3 (s b f i d l n e p j o q w Aa x) fun u z4 z5 z6 z7 => j3 [(Ac, Ab)] [g2a b f i d z4 z5 z6 z7 j o q w Aa x] m fun m' => K [dY u] m'
   | _ => none)
 | _ => none
noncomputable def a7n {R : Type} (N : Nat) (b f i d l : Int) (n : LB) (e : Int) (p : List V) (j : LB) (o q : Int) (w : LB) (Aa : Bool) (x : Int) (K0 : LB -> Int -> LB -> Int -> List V -> Option R) : Option R := br (decide (0 < (p.length : Int))) (at? p 0 fun a => a.unBytes fun l1 => br (decide (1 <= (p.length : Int))) (d3 (a3U N 0 0 l (decide (0 < ((GU 1 p).length : Int))) 0 false l1 b f i d l n e (GU 1 p) j o q w Aa x) fun l2 => d3 (j5 N l2) fun l3 => K0 l3 (GA.wrap (1 - l)) l2 l (GU 1 p)) none) none
noncomputable def Q1 (N : Nat) : d2l := fun b f i d l n e p j o q w Aa x => a7n N b f i d l n e p j o q w Aa x (fun u z4 z5 z6 z7 => some (u, z4, z5, z6, z7))
noncomputable def b5D (N : Nat) : Cx := cxO [⟨29, E4 (j5 N)⟩] [⟨70, b0T (a3U N)⟩]
theorem b9K {R : Type} (N : Nat) (b f i d l n e p j o q w Aa x K : _) : g8 (R := R) (b5D N) Tryz.f67 [.ptr 1 0 0] [C0 0 [g2a b f i d l n e p j o q w Aa x]] (u7 K) = a7n N b f i d l n e p j o q w Aa x (fun u z4 z5 z6 z7 => K u b f i d z4 z5 z6 z7 j o q w Aa x) := by
 kernel_rfl
abbrev b9m (s : d2l) : Prop := ∀ {b f i d l n e p j o q w Aa x u z4 z5 z6 z7}, s b f i d l n e p j o q w Aa x = some (u, z4, z5, z6, z7) -> ViewRet Tryz.prog T 67 [.ptr 1 0 0] [g2a b f i d l n e p j o q w Aa x] [dY u] [g2a b f i d z4 z5 z6 z7 j o q w Aa x]
theorem b5R (s : d2l) (hs : b9m s) : MEO ⟨67, a7S s⟩ := by
 refine ⟨d6 Tryz.func67 (by kernel_rfl) (c := d5 Tryz.f67) (by kernel_rfl), fun R dst ds m K r h => ?_⟩
 simp only [a7S] at h
 split at h
 . obtain ⟨Bs, a1, a2, a3, h⟩ := g4 h
   split at h
   . obtain ⟨u, z4, z5, z6, z7, h1, h2⟩ := O4 h
     rw [d9] at h2
     exact ⟨_, _, h2, ViewRet.weakIn (hs h1) (by exact ⟨⟨rfl, .inl rfl, .inl rfl, .inl rfl, .inl rfl, .inl rfl, .inr ⟨_, _, rfl, rfl⟩, .inl rfl, .inr ⟨_, _, rfl, rfl⟩, .inl rfl, .inl rfl, .inl rfl, .inr ⟨_, _, rfl, rfl⟩, .inl rfl, .inl rfl, trivial⟩, trivial⟩) rfl _ _ m dst a1 a2 a3 ⟨g6 _ rfl, trivial⟩⟩
   . cases h
 . cases h
open Classical in
theorem c0U (N : Nat) : b9m (Q1 N) := fun {b f i d l n e p j o q w Aa x u z4 z5 z6 z7} h => by
 refine o9 (cx := b5D N) (by kernel_rfl) (g7 ⟨I2 _ (M7 N), trivial⟩ ⟨b6w _ (c2R N), trivial⟩) Tryz.func67 (by kernel_rfl) (by kernel_rfl) (lz (by kernel_rfl)) (by rfl) (by rfl) (by rfl) (rf := u7 (fun Ae Z0 Z1 Z2 Z3 Z4 Z5 Z6 Z7 Z8 Z9 Za Zb Zc Zd => if Z0 = b /\ Z1 = f /\ Z2 = i /\ Z3 = d /\ Z8 = j /\ Z9 = o /\ Za = q /\ Zb = w /\ Zc = Aa /\ Zd = x then some (Ae, Z4, Z5, Z6, Z7) else none)) (r := (u, z4, z5, z6, z7)) ?_ ?_
 . exact (b9K ..).trans ((congrArg (a7n N b f i d l n e p j o q w Aa x) (by funext; exact if_pos (by simp))).trans h)
 . intro rs' m' hx
   unfold u7 at hx
   split at hx
   . dsimp only at hx
     split at hx
     . rename_i hk
       obtain ⟨rfl, rfl, rfl, rfl, rfl, rfl, rfl, rfl, rfl, rfl⟩ := hk
       cases hx; exact ⟨rfl, rfl, _, [⟨80, [_, _, _, _, _, _, _, _, _, _, _, _, _, _]⟩], rfl, rfl, ⟨⟨rfl, .inl rfl, .inl rfl, .inl rfl, .inl rfl, .inl rfl, .inr ⟨_, _, rfl, rfl⟩, .inl rfl, .inr ⟨_, _, rfl, rfl⟩, .inl rfl, .inl rfl, .inl rfl, .inr ⟨_, _, rfl, rfl⟩, .inl rfl, .inl rfl, trivial⟩, trivial⟩⟩
     . cases hx
   . cases hx
abbrev d1t := LB -> a3o (Option (LB × Int × LB × Int × List V))
noncomputable def b2D {R : Type} (s : d1t) (dst : Nat) (ds : List D) (m : Mem) (K : List D -> Mem -> Option R) : Option R :=
 match ds with
 | [.ptr (Ac + 1) Ab 0, .v (.bytes a) .no] => u9 [(Ac, Ab)] m fun Bs => (match Bs with
   | [⟨80, [.v (.int .i64 b) .no, .v (.int .i64 f) .no, .v (.int .i64 i) .no, .v (.int .i64 d) .no, .v (.int .i64 l) .no, .v (.bytes n) _, .v (.int .i64 e) .no, .v (.sl 22 p) _, .v (.bytes j) (.own (.slot 0) 5), .v (.int .i64 o) .no, .v (.int .i64 q) .no, .v (.bytes w) _, .v (.bool Aa) .no, .v (.int .i64 x) .no]⟩] => T3 (s a b f i d l n e p j o q w Aa x) fun u z4 z5 z6 z7 => j3 [(Ac, Ab)] [g2a b f i d z4 z5 z6 z7 j o q w Aa x] m fun m' => K [dY u] m'
   | _ => none)
 | _ => none
noncomputable def a7b {R : Type} (N : Nat) (a : LB) (b f i d l : Int) (n : LB) (e : Int) (p : List V) (j : LB) (o q : Int) (w : LB) (Aa : Bool) (x : Int) (K0 : LB -> Int -> LB -> Int -> List V -> Option R) : Option R := Q3 (a0d N a i) fun l0 n1 => br (decide ((a.length : Int) = 0)) (T3 (Q1 N b f i d l n e [V.bytes []] j o q w Aa x) fun l2 n3 l4 n5 l6 => K0 l2 n3 l4 n5 l6) (T3 (Q1 N b f i d l n e l0 j o q w Aa x) fun l7 n8 l9 na lb => K0 l7 n8 l9 na lb)
noncomputable def a4C (N : Nat) : d1t := fun a b f i d l n e p j o q w Aa x => a7b N a b f i d l n e p j o q w Aa x (fun u z4 z5 z6 z7 => some (u, z4, z5, z6, z7))
noncomputable def b5m (N : Nat) : Cx := cxO [⟨66, a4B (a0d N)⟩] [⟨67, a7S (Q1 N)⟩]
theorem c0j {R : Type} (N : Nat) (a b f i d l n e p j o q w Aa x K : _) : g8 (R := R) (b5m N) Tryz.f44 [.ptr 1 0 0, dY a] [C0 0 [g2a b f i d l n e p j o q w Aa x]] (u7 K) = a7b N a b f i d l n e p j o q w Aa x (fun u z4 z5 z6 z7 => K u b f i d z4 z5 z6 z7 j o q w Aa x) := by
 kernel_rfl
abbrev c0Q (s : d1t) : Prop := ∀ {a b f i d l n e p j o q w Aa x u z4 z5 z6 z7}, s a b f i d l n e p j o q w Aa x = some (u, z4, z5, z6, z7) -> ViewRet Tryz.prog T 44 [.ptr 1 0 0, dY a] [g2a b f i d l n e p j o q w Aa x] [dY u] [g2a b f i d z4 z5 z6 z7 j o q w Aa x]
theorem c7w (s : d1t) (hs : c0Q s) : MEO ⟨44, b2D s⟩ := by
 refine ⟨d6 Tryz.func44 (by kernel_rfl) (c := d5 Tryz.f44) (by kernel_rfl), fun R dst ds m K r h => ?_⟩
 simp only [b2D] at h
 split at h
 . obtain ⟨Bs, a1, a2, a3, h⟩ := g4 h
   split at h
   . obtain ⟨u, z4, z5, z6, z7, h1, h2⟩ := O4 h
     rw [d9] at h2
     exact ⟨_, _, h2, ViewRet.weakIn (hs h1) (by exact ⟨⟨rfl, .inl rfl, .inl rfl, .inl rfl, .inl rfl, .inl rfl, .inr ⟨_, _, rfl, rfl⟩, .inl rfl, .inr ⟨_, _, rfl, rfl⟩, .inl rfl, .inl rfl, .inl rfl, .inr ⟨_, _, rfl, rfl⟩, .inl rfl, .inl rfl, trivial⟩, trivial⟩) rfl _ _ m dst a1 a2 a3 ⟨g6 _ rfl, d7 _, trivial⟩⟩
   . cases h
 . cases h
open Classical in
theorem c8L (N : Nat) : c0Q (a4C N) := fun {a b f i d l n e p j o q w Aa x u z4 z5 z6 z7} h => by
 refine o9 (cx := b5m N) (by kernel_rfl) (g7 ⟨b5j _ (b9L N), trivial⟩ ⟨b5R _ (c0U N), trivial⟩) Tryz.func44 (by kernel_rfl) (by kernel_rfl) (lz (by kernel_rfl)) (by rfl) (by rfl) (by rfl) (rf := u7 (fun Ae Z0 Z1 Z2 Z3 Z4 Z5 Z6 Z7 Z8 Z9 Za Zb Zc Zd => if Z0 = b /\ Z1 = f /\ Z2 = i /\ Z3 = d /\ Z8 = j /\ Z9 = o /\ Za = q /\ Zb = w /\ Zc = Aa /\ Zd = x then some (Ae, Z4, Z5, Z6, Z7) else none)) (r := (u, z4, z5, z6, z7)) ?_ ?_
 . exact (c0j ..).trans ((congrArg (a7b N a b f i d l n e p j o q w Aa x) (by funext; exact if_pos (by simp))).trans h)
 . intro rs' m' hx
   unfold u7 at hx
   split at hx
   . dsimp only at hx
     split at hx
     . rename_i hk
       obtain ⟨rfl, rfl, rfl, rfl, rfl, rfl, rfl, rfl, rfl, rfl⟩ := hk
       cases hx; exact ⟨rfl, rfl, _, [⟨80, [_, _, _, _, _, _, _, _, _, _, _, _, _, _]⟩], rfl, rfl, ⟨⟨rfl, .inl rfl, .inl rfl, .inl rfl, .inl rfl, .inl rfl, .inr ⟨_, _, rfl, rfl⟩, .inl rfl, .inr ⟨_, _, rfl, rfl⟩, .inl rfl, .inl rfl, .inl rfl, .inr ⟨_, _, rfl, rfl⟩, .inl rfl, .inl rfl, trivial⟩, trivial⟩⟩
     . cases hx
   . cases hx
abbrev d1i := Int -> a3o (Option (LB × Int × Int))
noncomputable def a6E {R : Type} (s : d1i) (dst : Nat) (ds : List D) (m : Mem) (K : List D -> Mem -> Option R) : Option R :=
 match ds with
 | [.ptr (Ac + 1) Ab 0, .v (.int .i64 a) .no] => u9 [(Ac, Ab)] m fun Bs => (match Bs with
   | [⟨80, [.v (.int .i64 b) .no, .v (.int .i64 f) .no, .v (.int .i64 i) .no, .v (.int .i64 d) .no, .v (.int .i64 l) .no, .v (.bytes n) _, .v (.int .i64 e) .no, .v (.sl 22 p) _, .v (.bytes j) (.own (.slot 0) 5), .v (.int .i64 o) .no, .v (.int .i64 q) .no, .v (.bytes w) _, .v (.bool Aa) .no, .v (.int .i64 x) .no]⟩] => a3n (s a b f i d l n e p j o q w Aa x) fun u z9 zd => j3 [(Ac, Ab)] [g2a b f i d l n e p j z9 q w Aa zd] m fun m' => K [dY u] m'
   | _ => none)
 | _ => none
noncomputable def b7b {R : Type} (N : Nat) (a b f i d l : Int) (n : LB) (e : Int) (p : List V) (j : LB) (o q : Int) (w : LB) (Aa : Bool) (x : Int) (K0 : LB -> Int -> Int -> Option R) : Option R := K0 [] 3 a
noncomputable def a1G (N : Nat) : d1i := fun a b f i d l n e p j o q w Aa x => b7b N a b f i d l n e p j o q w Aa x (fun u z9 zd => some (u, z9, zd))
noncomputable def b9z (N : Nat) : Cx := cxO [] []
theorem c2B {R : Type} (N : Nat) (a b f i d l n e p j o q w Aa x K : _) : g8 (R := R) (b9z N) Tryz.f72 [.ptr 1 0 0, dI a] [C0 0 [g2a b f i d l n e p j o q w Aa x]] (u7 K) = b7b N a b f i d l n e p j o q w Aa x (fun u z9 zd => K u b f i d l n e p j z9 q w Aa zd) := by
 kernel_rfl
abbrev c4D (s : d1i) : Prop := ∀ {a b f i d l n e p j o q w Aa x u z9 zd}, s a b f i d l n e p j o q w Aa x = some (u, z9, zd) -> ViewRet Tryz.prog T 72 [.ptr 1 0 0, dI a] [g2a b f i d l n e p j o q w Aa x] [dY u] [g2a b f i d l n e p j z9 q w Aa zd]
theorem b0U (s : d1i) (hs : c4D s) : MEO ⟨72, a6E s⟩ := by
 refine ⟨d6 Tryz.func72 (by kernel_rfl) (c := d5 Tryz.f72) (by kernel_rfl), fun R dst ds m K r h => ?_⟩
 simp only [a6E] at h
 split at h
 . obtain ⟨Bs, a1, a2, a3, h⟩ := g4 h
   split at h
   . obtain ⟨u, z9, zd, h1, h2⟩ := a2i h
     rw [d9] at h2
     exact ⟨_, _, h2, ViewRet.weakIn (hs h1) (by exact ⟨⟨rfl, .inl rfl, .inl rfl, .inl rfl, .inl rfl, .inl rfl, .inr ⟨_, _, rfl, rfl⟩, .inl rfl, .inr ⟨_, _, rfl, rfl⟩, .inl rfl, .inl rfl, .inl rfl, .inr ⟨_, _, rfl, rfl⟩, .inl rfl, .inl rfl, trivial⟩, trivial⟩) rfl _ _ m dst a1 a2 a3 ⟨g6 _ rfl, d7 _, trivial⟩⟩
   . cases h
 . cases h
open Classical in
theorem b7d (N : Nat) : c4D (a1G N) := fun {a b f i d l n e p j o q w Aa x u z9 zd} h => by
 refine o9 (cx := b9z N) (by kernel_rfl) (g7 trivial trivial) Tryz.func72 (by kernel_rfl) (by kernel_rfl) (lz (by kernel_rfl)) (by rfl) (by rfl) (by rfl) (rf := u7 (fun Ae Z0 Z1 Z2 Z3 Z4 Z5 Z6 Z7 Z8 Z9 Za Zb Zc Zd => if Z0 = b /\ Z1 = f /\ Z2 = i /\ Z3 = d /\ Z4 = l /\ Z5 = n /\ Z6 = e /\ Z7 = p /\ Z8 = j /\ Za = q /\ Zb = w /\ Zc = Aa then some (Ae, Z9, Zd) else none)) (r := (u, z9, zd)) ?_ ?_
 . exact (c2B ..).trans ((congrArg (b7b N a b f i d l n e p j o q w Aa x) (by funext; exact if_pos (by simp))).trans h)
 . intro rs' m' hx
   unfold u7 at hx
   split at hx
   . dsimp only at hx
     split at hx
     . rename_i hk
       obtain ⟨rfl, rfl, rfl, rfl, rfl, rfl, rfl, rfl, rfl, rfl, rfl, rfl⟩ := hk
       cases hx; exact ⟨rfl, rfl, _, [⟨80, [_, _, _, _, _, _, _, _, _, _, _, _, _, _]⟩], rfl, rfl, ⟨⟨rfl, .inl rfl, .inl rfl, .inl rfl, .inl rfl, .inl rfl, .inr ⟨_, _, rfl, rfl⟩, .inl rfl, .inr ⟨_, _, rfl, rfl⟩, .inl rfl, .inl rfl, .inl rfl, .inr ⟨_, _, rfl, rfl⟩, .inl rfl, .inl rfl, trivial⟩, trivial⟩⟩
     . cases hx
   . cases hx
abbrev d1o := Int -> LB -> a3o (Option (LB × Int × Int × Int))
noncomputable def X2 {R : Type} (s : d1o) (dst : Nat) (ds : List D) (m : Mem) (K : List D -> Mem -> Option R) : Option R :=
 match ds with
 | [.ptr (Ac + 1) Ab 0, .v (.int .i64 a) .no, .v (.bytes y) .no] => u9 [(Ac, Ab)] m fun Bs => (match Bs with
   | [⟨80, [.v (.int .i64 b) .no, .v (.int .i64 f) .no, .v (.int .i64 i) .no, .v (.int .i64 d) .no, .v (.int .i64 l) .no, .v (.bytes n) _, .v (.int .i64 e) .no, .v (.sl 22 p) _, .v (.bytes j) (.own (.slot 0) 5), .v (.int .i64 o) .no, .v (.int .i64 q) .no, .v (.bytes w) _, .v (.bool Aa) .no, .v (.int .i64 x) .no]⟩] => M8 (s a y b f i d l n e p j o q w Aa x) fun u z9 za zd => j3 [(Ac, Ab)] [g2a b f i d l n e p j z9 za w Aa zd] m fun m' => K [dY u] m'
   | _ => none)
 | _ => none
noncomputable def a2X {R : Type} (N : Nat) (a : Int) (y : LB) (b f i d l : Int) (n : LB) (e : Int) (p : List V) (j : LB) (o q : Int) (w : LB) (Aa : Bool) (x : Int) (K0 : LB -> Int -> Int -> Int -> Option R) : Option R := br (decide (10 < GA.wrap (q + 1))) (a3n (a1G N a b f i d l n e p j o (GA.wrap (q + 1)) w Aa x) fun l0 n1 n2 => K0 l0 n1 (GA.wrap (q + 1)) n2) (K0 y o (GA.wrap (q + 1)) x)
noncomputable def k9 (N : Nat) : d1o := fun a y b f i d l n e p j o q w Aa x => a2X N a y b f i d l n e p j o q w Aa x (fun u z9 za zd => some (u, z9, za, zd))
noncomputable def a9O (N : Nat) : Cx := cxO [] [⟨72, a6E (a1G N)⟩]
theorem b4A {R : Type} (N : Nat) (a y b f i d l n e p j o q w Aa x K : _) : g8 (R := R) (a9O N) Tryz.f53 [.ptr 1 0 0, dI a, dY y] [C0 0 [g2a b f i d l n e p j o q w Aa x]] (u7 K) = a2X N a y b f i d l n e p j o q w Aa x (fun u z9 za zd => K u b f i d l n e p j z9 za w Aa zd) := by
 kernel_rfl
abbrev b1J (s : d1o) : Prop := ∀ {a y b f i d l n e p j o q w Aa x u z9 za zd}, s a y b f i d l n e p j o q w Aa x = some (u, z9, za, zd) -> ViewRet Tryz.prog T 53 [.ptr 1 0 0, dI a, dY y] [g2a b f i d l n e p j o q w Aa x] [dY u] [g2a b f i d l n e p j z9 za w Aa zd]
theorem a1q (s : d1o) (hs : b1J s) : MEO ⟨53, X2 s⟩ := by
 refine ⟨d6 Tryz.func53 (by kernel_rfl) (c := d5 Tryz.f53) (by kernel_rfl), fun R dst ds m K r h => ?_⟩
 simp only [X2] at h
 split at h
 . obtain ⟨Bs, a1, a2, a3, h⟩ := g4 h
   split at h
   . obtain ⟨u, z9, za, zd, h1, h2⟩ := a0F h
     rw [d9] at h2
     exact ⟨_, _, h2, ViewRet.weakIn (hs h1) (by exact ⟨⟨rfl, .inl rfl, .inl rfl, .inl rfl, .inl rfl, .inl rfl, .inr ⟨_, _, rfl, rfl⟩, .inl rfl, .inr ⟨_, _, rfl, rfl⟩, .inl rfl, .inl rfl, .inl rfl, .inr ⟨_, _, rfl, rfl⟩, .inl rfl, .inl rfl, trivial⟩, trivial⟩) rfl _ _ m dst a1 a2 a3 ⟨g6 _ rfl, d7 _, d7 _, trivial⟩⟩
   . cases h
 . cases h
open Classical in
theorem a2U (N : Nat) : b1J (k9 N) := fun {a y b f i d l n e p j o q w Aa x u z9 za zd} h => by
 refine o9 (cx := a9O N) (by kernel_rfl) (g7 trivial ⟨b0U _ (b7d N), trivial⟩) Tryz.func53 (by kernel_rfl) (by kernel_rfl) (lz (by kernel_rfl)) (by rfl) (by rfl) (by rfl) (rf := u7 (fun Ae Z0 Z1 Z2 Z3 Z4 Z5 Z6 Z7 Z8 Z9 Za Zb Zc Zd => if Z0 = b /\ Z1 = f /\ Z2 = i /\ Z3 = d /\ Z4 = l /\ Z5 = n /\ Z6 = e /\ Z7 = p /\ Z8 = j /\ Zb = w /\ Zc = Aa then some (Ae, Z9, Za, Zd) else none)) (r := (u, z9, za, zd)) ?_ ?_
 . exact (b4A ..).trans ((congrArg (a2X N a y b f i d l n e p j o q w Aa x) (by funext; exact if_pos (by simp))).trans h)
 . intro rs' m' hx
   unfold u7 at hx
   split at hx
   . dsimp only at hx
     split at hx
     . rename_i hk
       obtain ⟨rfl, rfl, rfl, rfl, rfl, rfl, rfl, rfl, rfl, rfl, rfl⟩ := hk
       cases hx; exact ⟨rfl, rfl, _, [⟨80, [_, _, _, _, _, _, _, _, _, _, _, _, _, _]⟩], rfl, rfl, ⟨⟨rfl, .inl rfl, .inl rfl, .inl rfl, .inl rfl, .inl rfl, .inr ⟨_, _, rfl, rfl⟩, .inl rfl, .inr ⟨_, _, rfl, rfl⟩, .inl rfl, .inl rfl, .inl rfl, .inr ⟨_, _, rfl, rfl⟩, .inl rfl, .inl rfl, trivial⟩, trivial⟩⟩
     . cases hx
   . cases hx
abbrev d1d := Int -> Int -> Int -> Bool -> Int -> Bool -> LB -> a3o (Option (LB × Int × LB × Int × Int × Bool × Int))
noncomputable def b7c {R : Type} (s : d1d) (dst : Nat) (ds : List D) (m : Mem) (K : List D -> Mem -> Option R) : Option R :=
 match ds with
 | [.ptr (Ac + 1) Ab 0, .agg [.v (.int .i64 a) .no, .v (.int .i64 y) .no, .v (.int .i64 z) .no, .v (.bool O) .no, .v (.int .i64 x4) .no, .v (.bool x5) .no, .v (.bytes x6) .no]] => u9 [(Ac, Ab)] m fun Bs => (match Bs with
   | [⟨80, [.v (.int .i64 b) .no, .v (.int .i64 f) .no, .v (.int .i64 i) .no, .v (.int .i64 d) .no, .v (.int .i64 l) .no, .v (.bytes n) _, .v (.int .i64 e) .no, .v (.sl 22 p) _, .v (.bytes j) (.own (.slot 0) 5), .v (.int .i64 o) .no, .v (.int .i64 q) .no, .v (.bytes w) _, .v (.bool Aa) .no, .v (.int .i64 x) .no]⟩] => c7B (s a y z O x4 x5 x6 b f i d l n e p j o q w Aa x) fun u z3 z8 z9 za zc zd => j3 [(Ac, Ab)] [g2a b f i z3 l n e p z8 z9 za w zc zd] m fun m' => K [dY u] m'
   | _ => none)
 | _ => none
noncomputable def b0F {R : Type} (N : Nat) (a y z : Int) (O : Bool) (x4 : Int) (x5 : Bool) (x6 : LB) (b f i d l : Int) (n : LB) (e : Int) (p : List V) (j : LB) (o q : Int) (w : LB) (Aa : Bool) (x : Int) (K0 : LB -> Int -> LB -> Int -> Int -> Bool -> Int -> Option R) : Option R := br (!decide (z = d)) (d3 (w7 N 2 b f i d l n e p j o q w Aa x) fun l0 => M8 (k9 N 28 l0 b f i d l n e p j o q w Aa x) fun l1 n2 n3 n4 => K0 l1 d j n2 n3 Aa n4) (br (decide (0 < (p.length : Int))) (d3 (w7 N 2 b f i d l n e p j o q w Aa x) fun l5 => M8 (k9 N 28 l5 b f i d l n e p j o q w Aa x) fun l6 n7 n8 n9 => K0 l6 d j n7 n8 Aa n9) (br (decide ((j.length + x6.length) * 1 <= 140737488355328)) (br (decide (65538 < ((j ++ x6).length : Int))) (a3n (a1G N 28 b f i (GA.wrap (1 - d)) l n e p (j ++ x6) o 0 w Aa x) fun la nb nc => K0 la (GA.wrap (1 - d)) (j ++ x6) nb 0 Aa nc) (br O (d3 (w7 N 0 b f i (GA.wrap (1 - d)) l n e p (j ++ x6) o 0 w Aa x) fun ld => K0 ld (GA.wrap (1 - d)) (j ++ x6) o 0 Aa x) (K0 [] (GA.wrap (1 - d)) (j ++ x6) 0 0 true x))) none))
noncomputable def a7x (N : Nat) : d1d := fun a y z O x4 x5 x6 b f i d l n e p j o q w Aa x => b0F N a y z O x4 x5 x6 b f i d l n e p j o q w Aa x (fun u z3 z8 z9 za zc zd => some (u, z3, z8, z9, za, zc, zd))
noncomputable def c0S (N : Nat) : Cx := cxO [] [⟨49, a2m (w7 N)⟩, ⟨72, a6E (a1G N)⟩, ⟨53, X2 (k9 N)⟩]
theorem c4o {R : Type} (N : Nat) (a y z O x4 x5 x6 b f i d l n e p j o q w Aa x K : _) : g8 (R := R) (c0S N) Tryz.f54 [.ptr 1 0 0, g0a a y z O x4 x5 x6] [C0 0 [g2a b f i d l n e p j o q w Aa x]] (u7 K) = b0F N a y z O x4 x5 x6 b f i d l n e p j o q w Aa x (fun u z3 z8 z9 za zc zd => K u b f i z3 l n e p z8 z9 za w zc zd) := by
 kernel_rfl
abbrev c4T (s : d1d) : Prop := ∀ {a y z O x4 x5 x6 b f i d l n e p j o q w Aa x u z3 z8 z9 za zc zd}, s a y z O x4 x5 x6 b f i d l n e p j o q w Aa x = some (u, z3, z8, z9, za, zc, zd) -> ViewRet Tryz.prog T 54 [.ptr 1 0 0, g0a a y z O x4 x5 x6] [g2a b f i d l n e p j o q w Aa x] [dY u] [g2a b f i z3 l n e p z8 z9 za w zc zd]
theorem c8i (s : d1d) (hs : c4T s) : MEO ⟨54, b7c s⟩ := by
 refine ⟨d6 Tryz.func54 (by kernel_rfl) (c := d5 Tryz.f54) (by kernel_rfl), fun R dst ds m K r h => ?_⟩
 simp only [b7c] at h
 split at h
 . obtain ⟨Bs, a1, a2, a3, h⟩ := g4 h
   split at h
   . obtain ⟨u, z3, z8, z9, za, zc, zd, h1, h2⟩ := b5q h
     rw [d9] at h2
     exact ⟨_, _, h2, ViewRet.weakIn (hs h1) (by exact ⟨⟨rfl, .inl rfl, .inl rfl, .inl rfl, .inl rfl, .inl rfl, .inr ⟨_, _, rfl, rfl⟩, .inl rfl, .inr ⟨_, _, rfl, rfl⟩, .inl rfl, .inl rfl, .inl rfl, .inr ⟨_, _, rfl, rfl⟩, .inl rfl, .inl rfl, trivial⟩, trivial⟩) rfl _ _ m dst a1 a2 a3 ⟨g6 _ rfl, L3 ⟨d7 _, d7 _, d7 _, d7 _, d7 _, d7 _, d7 _, trivial⟩, trivial⟩⟩
   . cases h
 . cases h
open Classical in
theorem d2c (N : Nat) : c4T (a7x N) := fun {a y z O x4 x5 x6 b f i d l n e p j o q w Aa x u z3 z8 z9 za zc zd} h => by
 refine o9 (cx := c0S N) (by kernel_rfl) (g7 trivial ⟨a5q _ (a6A N), b0U _ (b7d N), a1q _ (a2U N), trivial⟩) Tryz.func54 (by kernel_rfl) (by kernel_rfl) (lz (by kernel_rfl)) (by rfl) (by rfl) (by rfl) (rf := u7 (fun Ae Z0 Z1 Z2 Z3 Z4 Z5 Z6 Z7 Z8 Z9 Za Zb Zc Zd => if Z0 = b /\ Z1 = f /\ Z2 = i /\ Z4 = l /\ Z5 = n /\ Z6 = e /\ Z7 = p /\ Zb = w then some (Ae, Z3, Z8, Z9, Za, Zc, Zd) else none)) (r := (u, z3, z8, z9, za, zc, zd)) ?_ ?_
 . exact (c4o ..).trans ((congrArg (b0F N a y z O x4 x5 x6 b f i d l n e p j o q w Aa x) (by funext; exact if_pos (by simp))).trans h)
 . intro rs' m' hx
   unfold u7 at hx
   split at hx
   . dsimp only at hx
     split at hx
     . rename_i hk
       obtain ⟨rfl, rfl, rfl, rfl, rfl, rfl, rfl, rfl⟩ := hk
       cases hx; exact ⟨rfl, rfl, _, [⟨80, [_, _, _, _, _, _, _, _, _, _, _, _, _, _]⟩], rfl, rfl, ⟨⟨rfl, .inl rfl, .inl rfl, .inl rfl, .inl rfl, .inl rfl, .inr ⟨_, _, rfl, rfl⟩, .inl rfl, .inr ⟨_, _, rfl, rfl⟩, .inl rfl, .inl rfl, .inl rfl, .inr ⟨_, _, rfl, rfl⟩, .inl rfl, .inl rfl, trivial⟩, trivial⟩⟩
     . cases hx
   . cases hx
abbrev d3e := Int -> Int -> Int -> Bool -> Int -> Bool -> LB -> a3o (Option (LB × Int × LB × Int × List V × Int × Int × Int))
noncomputable def b3w {R : Type} (s : d3e) (dst : Nat) (ds : List D) (m : Mem) (K : List D -> Mem -> Option R) : Option R :=
 match ds with
 | [.ptr (Ac + 1) Ab 0, .agg [.v (.int .i64 a) .no, .v (.int .i64 y) .no, .v (.int .i64 z) .no, .v (.bool O) .no, .v (.int .i64 x4) .no, .v (.bool x5) .no, .v (.bytes x6) .no]] => u9 [(Ac, Ab)] m fun Bs => (match Bs with
   | [⟨80, [.v (.int .i64 b) .no, .v (.int .i64 f) .no, .v (.int .i64 i) .no, .v (.int .i64 d) .no, .v (.int .i64 l) .no, .v (.bytes n) _, .v (.int .i64 e) .no, .v (.sl 22 p) _, .v (.bytes j) (.own (.slot 0) 5), .v (.int .i64 o) .no, .v (.int .i64 q) .no, .v (.bytes w) _, .v (.bool Aa) .no, .v (.int .i64 x) .no]⟩] => H9 (s a y z O x4 x5 x6 b f i d l n e p j o q w Aa x) fun u z4 z5 z6 z7 z9 za zd => j3 [(Ac, Ab)] [g2a b f i d z4 z5 z6 z7 j z9 za w Aa zd] m fun m' => K [dY u] m'
   | _ => none)
 | _ => none
noncomputable def a6K {R : Type} (N : Nat) (a y z : Int) (O : Bool) (x4 : Int) (x5 : Bool) (x6 : LB) (b f i d l : Int) (n : LB) (e : Int) (p : List V) (j : LB) (o q : Int) (w : LB) (Aa : Bool) (x : Int) (K0 : LB -> Int -> LB -> Int -> List V -> Int -> Int -> Int -> Option R) : Option R := br (decide (z = e)) (d3 (j5 N n) fun l0 => M8 (k9 N 28 l0 b f i d l n e p j o q w Aa x) fun l1 n2 n3 n4 => K0 l1 l n e p n2 n3 n4) (br (decide (0 < (p.length : Int))) (T3 (Q1 N b f i d l n e p j o 0 w Aa x) fun l5 n6 l7 n8 l9 => K0 l5 n6 l7 n8 l9 o 0 x) (d3 (w7 N 0 b f i d l n e p j o q w Aa x) fun la => M8 (k9 N 28 la b f i d l n e p j o q w Aa x) fun lb nc nd Ad => K0 lb l n e p nc nd Ad))
noncomputable def a4D (N : Nat) : d3e := fun a y z O x4 x5 x6 b f i d l n e p j o q w Aa x => a6K N a y z O x4 x5 x6 b f i d l n e p j o q w Aa x (fun u z4 z5 z6 z7 z9 za zd => some (u, z4, z5, z6, z7, z9, za, zd))
noncomputable def b4T (N : Nat) : Cx := cxO [⟨29, E4 (j5 N)⟩] [⟨49, a2m (w7 N)⟩, ⟨67, a7S (Q1 N)⟩, ⟨53, X2 (k9 N)⟩]
theorem c0y {R : Type} (N : Nat) (a y z O x4 x5 x6 b f i d l n e p j o q w Aa x K : _) : g8 (R := R) (b4T N) Tryz.f55 [.ptr 1 0 0, g0a a y z O x4 x5 x6] [C0 0 [g2a b f i d l n e p j o q w Aa x]] (u7 K) = a6K N a y z O x4 x5 x6 b f i d l n e p j o q w Aa x (fun u z4 z5 z6 z7 z9 za zd => K u b f i d z4 z5 z6 z7 j z9 za w Aa zd) := by
 kernel_rfl
abbrev b9r (s : d3e) : Prop := ∀ {a y z O x4 x5 x6 b f i d l n e p j o q w Aa x u z4 z5 z6 z7 z9 za zd}, s a y z O x4 x5 x6 b f i d l n e p j o q w Aa x = some (u, z4, z5, z6, z7, z9, za, zd) -> ViewRet Tryz.prog T 55 [.ptr 1 0 0, g0a a y z O x4 x5 x6] [g2a b f i d l n e p j o q w Aa x] [dY u] [g2a b f i d z4 z5 z6 z7 j z9 za w Aa zd]
theorem c7k (s : d3e) (hs : b9r s) : MEO ⟨55, b3w s⟩ := by
 refine ⟨d6 Tryz.func55 (by kernel_rfl) (c := d5 Tryz.f55) (by kernel_rfl), fun R dst ds m K r h => ?_⟩
 simp only [b3w] at h
 split at h
 . obtain ⟨Bs, a1, a2, a3, h⟩ := g4 h
   split at h
   . obtain ⟨u, z4, z5, z6, z7, z9, za, zd, h1, h2⟩ := O3 h
     rw [d9] at h2
     exact ⟨_, _, h2, ViewRet.weakIn (hs h1) (by exact ⟨⟨rfl, .inl rfl, .inl rfl, .inl rfl, .inl rfl, .inl rfl, .inr ⟨_, _, rfl, rfl⟩, .inl rfl, .inr ⟨_, _, rfl, rfl⟩, .inl rfl, .inl rfl, .inl rfl, .inr ⟨_, _, rfl, rfl⟩, .inl rfl, .inl rfl, trivial⟩, trivial⟩) rfl _ _ m dst a1 a2 a3 ⟨g6 _ rfl, L3 ⟨d7 _, d7 _, d7 _, d7 _, d7 _, d7 _, d7 _, trivial⟩, trivial⟩⟩
   . cases h
 . cases h
open Classical in
theorem c9N (N : Nat) : b9r (a4D N) := fun {a y z O x4 x5 x6 b f i d l n e p j o q w Aa x u z4 z5 z6 z7 z9 za zd} h => by
 refine o9 (cx := b4T N) (by kernel_rfl) (g7 ⟨I2 _ (M7 N), trivial⟩ ⟨a5q _ (a6A N), b5R _ (c0U N), a1q _ (a2U N), trivial⟩) Tryz.func55 (by kernel_rfl) (by kernel_rfl) (lz (by kernel_rfl)) (by rfl) (by rfl) (by rfl) (rf := u7 (fun Ae Z0 Z1 Z2 Z3 Z4 Z5 Z6 Z7 Z8 Z9 Za Zb Zc Zd => if Z0 = b /\ Z1 = f /\ Z2 = i /\ Z3 = d /\ Z8 = j /\ Zb = w /\ Zc = Aa then some (Ae, Z4, Z5, Z6, Z7, Z9, Za, Zd) else none)) (r := (u, z4, z5, z6, z7, z9, za, zd)) ?_ ?_
 . exact (c0y ..).trans ((congrArg (a6K N a y z O x4 x5 x6 b f i d l n e p j o q w Aa x) (by funext; exact if_pos (by simp))).trans h)
 . intro rs' m' hx
   unfold u7 at hx
   split at hx
   . dsimp only at hx
     split at hx
     . rename_i hk
       obtain ⟨rfl, rfl, rfl, rfl, rfl, rfl, rfl⟩ := hk
       cases hx; exact ⟨rfl, rfl, _, [⟨80, [_, _, _, _, _, _, _, _, _, _, _, _, _, _]⟩], rfl, rfl, ⟨⟨rfl, .inl rfl, .inl rfl, .inl rfl, .inl rfl, .inl rfl, .inr ⟨_, _, rfl, rfl⟩, .inl rfl, .inr ⟨_, _, rfl, rfl⟩, .inl rfl, .inl rfl, .inl rfl, .inr ⟨_, _, rfl, rfl⟩, .inl rfl, .inl rfl, trivial⟩, trivial⟩⟩
     . cases hx
   . cases hx
abbrev d1r := Int -> Int -> Int -> Bool -> Int -> Bool -> LB -> a3o (Option (LB × Int × Int × Int × Int))
noncomputable def b3A {R : Type} (s : d1r) (dst : Nat) (ds : List D) (m : Mem) (K : List D -> Mem -> Option R) : Option R :=
 match ds with
 | [.ptr (Ac + 1) Ab 0, .agg [.v (.int .i64 a) .no, .v (.int .i64 y) .no, .v (.int .i64 z) .no, .v (.bool O) .no, .v (.int .i64 x4) .no, .v (.bool x5) .no, .v (.bytes x6) .no]] => u9 [(Ac, Ab)] m fun Bs => (match Bs with
   | [⟨80, [.v (.int .i64 b) .no, .v (.int .i64 f) .no, .v (.int .i64 i) .no, .v (.int .i64 d) .no, .v (.int .i64 l) .no, .v (.bytes n) _, .v (.int .i64 e) .no, .v (.sl 22 p) _, .v (.bytes j) (.own (.slot 0) 5), .v (.int .i64 o) .no, .v (.int .i64 q) .no, .v (.bytes w) _, .v (.bool Aa) .no, .v (.int .i64 x) .no]⟩] => T3 (s a y z O x4 x5 x6 b f i d l n e p j o q w Aa x) fun u z2 z9 za zd => j3 [(Ac, Ab)] [g2a b f z2 d l n e p j z9 za w Aa zd] m fun m' => K [dY u] m'
   | _ => none)
 | _ => none
noncomputable def a7o {R : Type} (N : Nat) (a y z : Int) (O : Bool) (x4 : Int) (x5 : Bool) (x6 : LB) (b f i d l : Int) (n : LB) (e : Int) (p : List V) (j : LB) (o q : Int) (w : LB) (Aa : Bool) (x : Int) (K0 : LB -> Int -> Int -> Int -> Int -> Option R) : Option R := br (!x5) (br (decide (x4 = 2)) (a3n (a1G N 28 b f i d l n e p j o q w Aa x) fun l0 n1 n2 => K0 l0 i n1 q n2) (br (!x5) (br (decide (x4 = 3)) (d3 (F2 N x4 true x6 b f i d l n e p j o 0 w Aa x) fun l3 => K0 l3 i o 0 x) (br (!x5) (br (decide (x4 = 1)) (d3 (J1 N a y z O x4 x5 x6) fun n4 => br (decide (0 < n4)) (d3 (J1 N a y z O x4 x5 x6) fun n5 => d3 (F2 N x4 true x6 b f n5 d l n e p j o 0 w Aa x) fun l6 => K0 l6 n5 o 0 x) (d3 (w7 N 2 b f i d l n e p j o q w Aa x) fun l7 => M8 (k9 N 28 l7 b f i d l n e p j o q w Aa x) fun l8 n9 na nb => K0 l8 i n9 na nb)) (d3 (w7 N 2 b f i d l n e p j o q w Aa x) fun Ag => M8 (k9 N 28 Ag b f i d l n e p j o q w Aa x) fun ld Ad nf ng => K0 ld i Ad nf ng)) (d3 (w7 N 2 b f i d l n e p j o q w Aa x) fun lh => M8 (k9 N 28 lh b f i d l n e p j o q w Aa x) fun AY nj nk nl => K0 AY i nj nk nl))) (br (!x5) (br (decide (x4 = 1)) (d3 (J1 N a y z O x4 x5 x6) fun Af => br (decide (0 < Af)) (d3 (J1 N a y z O x4 x5 x6) fun nn => d3 (F2 N x4 true x6 b f nn d l n e p j o 0 w Aa x) fun Al => K0 Al nn o 0 x) (d3 (w7 N 2 b f i d l n e p j o q w Aa x) fun lp => M8 (k9 N 28 lp b f i d l n e p j o q w Aa x) fun lq nr ns nt => K0 lq i nr ns nt)) (d3 (w7 N 2 b f i d l n e p j o q w Aa x) fun lu => M8 (k9 N 28 lu b f i d l n e p j o q w Aa x) fun Db nw AA ny => K0 Db i nw AA ny)) (d3 (w7 N 2 b f i d l n e p j o q w Aa x) fun lz => M8 (k9 N 28 lz b f i d l n e p j o q w Aa x) fun DO Ar Aw Ao => K0 DO i Ar Aw Ao)))) (br (!x5) (br (decide (x4 = 3)) (d3 (F2 N x4 true x6 b f i d l n e p j o 0 w Aa x) fun Ec => K0 Ec i o 0 x) (br (!x5) (br (decide (x4 = 1)) (d3 (J1 N a y z O x4 x5 x6) fun As => br (decide (0 < As)) (d3 (J1 N a y z O x4 x5 x6) fun BC => d3 (F2 N x4 true x6 b f BC d l n e p j o 0 w Aa x) fun CH => K0 CH BC o 0 x) (d3 (w7 N 2 b f i d l n e p j o q w Aa x) fun Ed => M8 (k9 N 28 Ed b f i d l n e p j o q w Aa x) fun Dc CI CJ BI => K0 Dc i CI CJ BI)) (d3 (w7 N 2 b f i d l n e p j o q w Aa x) fun Ee => M8 (k9 N 28 Ee b f i d l n e p j o q w Aa x) fun Dd BB AB Bz => K0 Dd i BB AB Bz)) (d3 (w7 N 2 b f i d l n e p j o q w Aa x) fun Ef => M8 (k9 N 28 Ef b f i d l n e p j o q w Aa x) fun BD Am AU AD => K0 BD i Am AU AD))) (br (!x5) (br (decide (x4 = 1)) (d3 (J1 N a y z O x4 x5 x6) fun AE => br (decide (0 < AE)) (d3 (J1 N a y z O x4 x5 x6) fun AL => d3 (F2 N x4 true x6 b f AL d l n e p j o 0 w Aa x) fun Eg => K0 Eg AL o 0 x) (d3 (w7 N 2 b f i d l n e p j o q w Aa x) fun CP => M8 (k9 N 28 CP b f i d l n e p j o q w Aa x) fun AZ Ba De Eh => K0 AZ i Ba De Eh)) (d3 (w7 N 2 b f i d l n e p j o q w Aa x) fun Bb => M8 (k9 N 28 Bb b f i d l n e p j o q w Aa x) fun Df CL Dg Dh => K0 Df i CL Dg Dh)) (d3 (w7 N 2 b f i d l n e p j o q w Aa x) fun CM => M8 (k9 N 28 CM b f i d l n e p j o q w Aa x) fun Di Dj Dk CB => K0 Di i Dj Dk CB)))
noncomputable def a4j (N : Nat) : d1r := fun a y z O x4 x5 x6 b f i d l n e p j o q w Aa x => a7o N a y z O x4 x5 x6 b f i d l n e p j o q w Aa x (fun u z2 z9 za zd => some (u, z2, z9, za, zd))
noncomputable def b4N (N : Nat) : Cx := cxO [⟨71, a7y (J1 N)⟩] [⟨49, a2m (w7 N)⟩, ⟨48, a2Y (F2 N)⟩, ⟨72, a6E (a1G N)⟩, ⟨53, X2 (k9 N)⟩]
theorem b8H {R : Type} (N : Nat) (a y z O x4 x5 x6 b f i d l n e p j o q w Aa x K : _) : g8 (R := R) (b4N N) Tryz.f56 [.ptr 1 0 0, g0a a y z O x4 x5 x6] [C0 0 [g2a b f i d l n e p j o q w Aa x]] (u7 K) = a7o N a y z O x4 x5 x6 b f i d l n e p j o q w Aa x (fun u z2 z9 za zd => K u b f z2 d l n e p j z9 za w Aa zd) := by
 kernel_rfl
abbrev c1K (s : d1r) : Prop := ∀ {a y z O x4 x5 x6 b f i d l n e p j o q w Aa x u z2 z9 za zd}, s a y z O x4 x5 x6 b f i d l n e p j o q w Aa x = some (u, z2, z9, za, zd) -> ViewRet Tryz.prog T 56 [.ptr 1 0 0, g0a a y z O x4 x5 x6] [g2a b f i d l n e p j o q w Aa x] [dY u] [g2a b f z2 d l n e p j z9 za w Aa zd]
theorem c8a (s : d1r) (hs : c1K s) : MEO ⟨56, b3A s⟩ := by
 refine ⟨d6 Tryz.func56 (by kernel_rfl) (c := d5 Tryz.f56) (by kernel_rfl), fun R dst ds m K r h => ?_⟩
 simp only [b3A] at h
 split at h
 . obtain ⟨Bs, a1, a2, a3, h⟩ := g4 h
   split at h
   . obtain ⟨u, z2, z9, za, zd, h1, h2⟩ := O4 h
     rw [d9] at h2
     exact ⟨_, _, h2, ViewRet.weakIn (hs h1) (by exact ⟨⟨rfl, .inl rfl, .inl rfl, .inl rfl, .inl rfl, .inl rfl, .inr ⟨_, _, rfl, rfl⟩, .inl rfl, .inr ⟨_, _, rfl, rfl⟩, .inl rfl, .inl rfl, .inl rfl, .inr ⟨_, _, rfl, rfl⟩, .inl rfl, .inl rfl, trivial⟩, trivial⟩) rfl _ _ m dst a1 a2 a3 ⟨g6 _ rfl, L3 ⟨d7 _, d7 _, d7 _, d7 _, d7 _, d7 _, d7 _, trivial⟩, trivial⟩⟩
   . cases h
 . cases h
open Classical in
theorem c9B (N : Nat) : c1K (a4j N) := fun {a y z O x4 x5 x6 b f i d l n e p j o q w Aa x u z2 z9 za zd} h => by
 refine o9 (cx := b4N N) (by kernel_rfl) (g7 ⟨b8G _ (c5u N), trivial⟩ ⟨a5q _ (a6A N), a9x _ (b1x N), b0U _ (b7d N), a1q _ (a2U N), trivial⟩) Tryz.func56 (by kernel_rfl) (by kernel_rfl) (lz (by kernel_rfl)) (by rfl) (by rfl) (by rfl) (rf := u7 (fun Ae Z0 Z1 Z2 Z3 Z4 Z5 Z6 Z7 Z8 Z9 Za Zb Zc Zd => if Z0 = b /\ Z1 = f /\ Z3 = d /\ Z4 = l /\ Z5 = n /\ Z6 = e /\ Z7 = p /\ Z8 = j /\ Zb = w /\ Zc = Aa then some (Ae, Z2, Z9, Za, Zd) else none)) (r := (u, z2, z9, za, zd)) ?_ ?_
 . exact (b8H ..).trans ((congrArg (a7o N a y z O x4 x5 x6 b f i d l n e p j o q w Aa x) (by funext; exact if_pos (by simp))).trans h)
 . intro rs' m' hx
   unfold u7 at hx
   split at hx
   . dsimp only at hx
     split at hx
     . rename_i hk
       obtain ⟨rfl, rfl, rfl, rfl, rfl, rfl, rfl, rfl, rfl, rfl⟩ := hk
       cases hx; exact ⟨rfl, rfl, _, [⟨80, [_, _, _, _, _, _, _, _, _, _, _, _, _, _]⟩], rfl, rfl, ⟨⟨rfl, .inl rfl, .inl rfl, .inl rfl, .inl rfl, .inl rfl, .inr ⟨_, _, rfl, rfl⟩, .inl rfl, .inr ⟨_, _, rfl, rfl⟩, .inl rfl, .inl rfl, .inl rfl, .inr ⟨_, _, rfl, rfl⟩, .inl rfl, .inl rfl, trivial⟩, trivial⟩⟩
     . cases hx
   . cases hx
abbrev d2I := LB -> a3o (Option (LB × Int × Int × Int × Int × LB × Int × List V × LB × Int × Int × Bool × Int))
noncomputable def a3p {R : Type} (s : d2I) (dst : Nat) (ds : List D) (m : Mem) (K : List D -> Mem -> Option R) : Option R :=
 match ds with
 | [.ptr (Ac + 1) Ab 0, .v (.bytes a) .no] => u9 [(Ac, Ab)] m fun Bs => (match Bs with
   | [⟨80, [.v (.int .i64 b) .no, .v (.int .i64 f) .no, .v (.int .i64 i) .no, .v (.int .i64 d) .no, .v (.int .i64 l) .no, .v (.bytes n) _, .v (.int .i64 e) .no, .v (.sl 22 p) _, .v (.bytes j) (.own (.slot 0) 5), .v (.int .i64 o) .no, .v (.int .i64 q) .no, .v (.bytes w) _, .v (.bool Aa) .no, .v (.int .i64 x) .no]⟩] => a9r (s a b f i d l n e p j o q w Aa x) fun u z1 z2 z3 z4 z5 z6 z7 z8 z9 za zc zd => j3 [(Ac, Ab)] [g2a b z1 z2 z3 z4 z5 z6 z7 z8 z9 za w zc zd] m fun m' => K [dY u] m'
   | _ => none)
 | _ => none
noncomputable def a2W {R : Type} (N : Nat) (a : LB) (b f i d l : Int) (n : LB) (e : Int) (p : List V) (j : LB) (o q : Int) (w : LB) (Aa : Bool) (x : Int) (K0 : LB -> Int -> Int -> Int -> Int -> LB -> Int -> List V -> LB -> Int -> Int -> Bool -> Int -> Option R) : Option R := d3 (a1s N b f i d l n e p j o q w Aa x) fun b0 => br (!b0) (K0 [] f i d l n e p j o q Aa x) (br (decide (o = 0)) (K0 [] f i d l n e p j o q Aa x) (br (decide (o = 3)) (K0 [] f i d l n e p j o q Aa x) (H9 (a2s N a b f i d l n e p j o q w Aa x) fun n1 n2 n3 b4 n5 b6 l7 n8 => br (decide (o = 1)) (br (decide (n8 = 0)) (d3 (a6Y N n1 n2 n3 b4 n5 b6 l7 0 2 0 false 1 true w) fun b9 => br b9 (br (decide (0 < (w.length : Int))) (at? w 0 fun u10 => K0 [] (GA.wrap (u10.toNat : Int)) i d l n e p j 0 q Aa x) none) (d3 (F2 N 1 false w b f i d l n e p j o q w Aa x) fun lb => M8 (k9 N 28 lb b f i d l n e p j o q w Aa x) fun Ag nd Ad nf => K0 Ag f i d l n e p j nd Ad Aa nf)) (d3 (F2 N 1 false w b f i d l n e p j o q w Aa x) fun Ap => M8 (k9 N 28 Ap b f i d l n e p j o q w Aa x) fun lh ni nj nk => K0 lh f i d l n e p j ni nj Aa nk)) (br (!decide (n8 = 0)) (d3 (w7 N n8 b f i d l n e p j o q w Aa x) fun ll => M8 (k9 N 28 ll b f i d l n e p j o q w Aa x) fun BM nn Av np => K0 BM f i d l n e p j nn Av Aa np) (br (decide (n2 = 0)) (c7B (a7x N n1 n2 n3 b4 n5 b6 l7 b f i d l n e p j o q w Aa x) fun lq nr AN nt nu CN nw => K0 lq f i nr l n e p AN nt nu CN nw) (br (decide (n2 = 1)) (H9 (a4D N n1 n2 n3 b4 n5 b6 l7 b f i d l n e p j o q w Aa x) fun lx ny lz Aq Dl Aw Ao AC => K0 lx f i d ny lz Aq Dl j Aw Ao Aa AC) (T3 (a4j N n1 n2 n3 b4 n5 b6 l7 b f i d l n e p j o q w Aa x) fun Ei BC Dm Ax Ay => K0 Ei f BC d l n e p j Dm Ax Aa Ay)))))))
noncomputable def N3 (N : Nat) : d2I := fun a b f i d l n e p j o q w Aa x => a2W N a b f i d l n e p j o q w Aa x (fun u z1 z2 z3 z4 z5 z6 z7 z8 z9 za zc zd => some (u, z1, z2, z3, z4, z5, z6, z7, z8, z9, za, zc, zd))
noncomputable def a9D (N : Nat) : Cx := cxO [⟨47, a7G (a6Y N)⟩] [⟨43, a7t (a1s N)⟩, ⟨46, a8N (a2s N)⟩, ⟨48, a2Y (F2 N)⟩, ⟨49, a2m (w7 N)⟩, ⟨54, b7c (a7x N)⟩, ⟨55, b3w (a4D N)⟩, ⟨56, b3A (a4j N)⟩, ⟨53, X2 (k9 N)⟩]
theorem b4u {R : Type} (N : Nat) (a b f i d l n e p j o q w Aa x K : _) : g8 (R := R) (a9D N) Tryz.f26 [.ptr 1 0 0, dY a] [C0 0 [g2a b f i d l n e p j o q w Aa x]] (u7 K) = a2W N a b f i d l n e p j o q w Aa x (fun u z1 z2 z3 z4 z5 z6 z7 z8 z9 za zc zd => K u b z1 z2 z3 z4 z5 z6 z7 z8 z9 za w zc zd) := by
 kernel_rfl
abbrev b2O (s : d2I) : Prop := ∀ {a b f i d l n e p j o q w Aa x u z1 z2 z3 z4 z5 z6 z7 z8 z9 za zc zd}, s a b f i d l n e p j o q w Aa x = some (u, z1, z2, z3, z4, z5, z6, z7, z8, z9, za, zc, zd) -> ViewRet Tryz.prog T 26 [.ptr 1 0 0, dY a] [g2a b f i d l n e p j o q w Aa x] [dY u] [g2a b z1 z2 z3 z4 z5 z6 z7 z8 z9 za w zc zd]
theorem c0t (s : d2I) (hs : b2O s) : MEO ⟨26, a3p s⟩ := by
 refine ⟨d6 Tryz.func26 (by kernel_rfl) (c := d5 Tryz.f26) (by kernel_rfl), fun R dst ds m K r h => ?_⟩
 simp only [a3p] at h
 split at h
 . obtain ⟨Bs, a1, a2, a3, h⟩ := g4 h
   split at h
   . obtain ⟨u, z1, z2, z3, z4, z5, z6, z7, z8, z9, za, zc, zd, h1, h2⟩ := b2d h
     rw [d9] at h2
     exact ⟨_, _, h2, ViewRet.weakIn (hs h1) (by exact ⟨⟨rfl, .inl rfl, .inl rfl, .inl rfl, .inl rfl, .inl rfl, .inr ⟨_, _, rfl, rfl⟩, .inl rfl, .inr ⟨_, _, rfl, rfl⟩, .inl rfl, .inl rfl, .inl rfl, .inr ⟨_, _, rfl, rfl⟩, .inl rfl, .inl rfl, trivial⟩, trivial⟩) rfl _ _ m dst a1 a2 a3 ⟨g6 _ rfl, d7 _, trivial⟩⟩
   . cases h
 . cases h
open Classical in
theorem c3U (N : Nat) : b2O (N3 N) := fun {a b f i d l n e p j o q w Aa x u z1 z2 z3 z4 z5 z6 z7 z8 z9 za zc zd} h => by
 refine o9 (cx := a9D N) (by kernel_rfl) (g7 ⟨c1P _ (c4N N), trivial⟩ ⟨b2m _ (b7N N), c3A _ (c7Z N), a9x _ (b1x N), a5q _ (a6A N), c8i _ (d2c N), c7k _ (c9N N), c8a _ (c9B N), a1q _ (a2U N), trivial⟩) Tryz.func26 (by kernel_rfl) (by kernel_rfl) (lz (by kernel_rfl)) (by rfl) (by rfl) (by rfl) (rf := u7 (fun Ae Z0 Z1 Z2 Z3 Z4 Z5 Z6 Z7 Z8 Z9 Za Zb Zc Zd => if Z0 = b /\ Zb = w then some (Ae, Z1, Z2, Z3, Z4, Z5, Z6, Z7, Z8, Z9, Za, Zc, Zd) else none)) (r := (u, z1, z2, z3, z4, z5, z6, z7, z8, z9, za, zc, zd)) ?_ ?_
 . exact (b4u ..).trans ((congrArg (a2W N a b f i d l n e p j o q w Aa x) (by funext; exact if_pos (by simp))).trans h)
 . intro rs' m' hx
   unfold u7 at hx
   split at hx
   . dsimp only at hx
     split at hx
     . rename_i hk
       obtain ⟨rfl, rfl⟩ := hk
       cases hx; exact ⟨rfl, rfl, _, [⟨80, [_, _, _, _, _, _, _, _, _, _, _, _, _, _]⟩], rfl, rfl, ⟨⟨rfl, .inl rfl, .inl rfl, .inl rfl, .inl rfl, .inl rfl, .inr ⟨_, _, rfl, rfl⟩, .inl rfl, .inr ⟨_, _, rfl, rfl⟩, .inl rfl, .inl rfl, .inl rfl, .inr ⟨_, _, rfl, rfl⟩, .inl rfl, .inl rfl, trivial⟩, trivial⟩⟩
     . cases hx
   . cases hx
abbrev d2S := a3o (Option (LB × Bool))
noncomputable def a1T {R : Type} (s : d2S) (dst : Nat) (ds : List D) (m : Mem) (K : List D -> Mem -> Option R) : Option R :=
 match ds with
 | [.ptr (Ac + 1) Ab 0] => u9 [(Ac, Ab)] m fun Bs => (match Bs with
   | [⟨80, [.v (.int .i64 b) .no, .v (.int .i64 f) .no, .v (.int .i64 i) .no, .v (.int .i64 d) .no, .v (.int .i64 l) .no, .v (.bytes n) _, .v (.int .i64 e) .no, .v (.sl 22 p) _, .v (.bytes j) (.own (.slot 0) 5), .v (.int .i64 o) .no, .v (.int .i64 q) .no, .v (.bytes w) _, .v (.bool Aa) .no, .v (.int .i64 x) .no]⟩] => Q3 (s b f i d l n e p j o q w Aa x) fun u r1 => j3 [(Ac, Ab)] [g2a b f i d l n e p j o q w Aa x] m fun m' => K [dY u, dB r1] m'
   | _ => none)
 | _ => none
noncomputable def a4b {α : Type} (K : LB -> Bool -> a3o (Option α)) (rs : List D) (m : Mem) : Option α :=
 match rs, m with
 | [.v (.bytes u) _, .v (.bool r1) _], [_, [(0, ⟨80, [.v (.int .i64 z0) .no, .v (.int .i64 z1) .no, .v (.int .i64 z2) .no, .v (.int .i64 z3) .no, .v (.int .i64 z4) .no, .v (.bytes z5) _, .v (.int .i64 z6) .no, .v (.sl 22 z7) _, .v (.bytes z8) (.own (.slot 0) 5), .v (.int .i64 z9) .no, .v (.int .i64 za) .no, .v (.bytes zb) _, .v (.bool zc) .no, .v (.int .i64 zd) .no]⟩)]] => K u r1 z0 z1 z2 z3 z4 z5 z6 z7 z8 z9 za zb zc zd
 | _, _ => none
noncomputable def a1u {R : Type} (N : Nat) (b f i d l : Int) (n : LB) (e : Int) (p : List V) (j : LB) (o q : Int) (w : LB) (Aa : Bool) (x : Int) (K0 : LB -> Bool -> Option R) : Option R := d3 (a1s N b f i d l n e p j o q w Aa x) fun b0 => br (!b0) (K0 [] false) (br (!Aa) (K0 [] false) (d3 (j5 N j) fun l1 => K0 l1 true))
noncomputable def M9 (N : Nat) : d2S := fun b f i d l n e p j o q w Aa x => a1u N b f i d l n e p j o q w Aa x (fun u r1 => some (u, r1))
noncomputable def a7W (N : Nat) : Cx := cxO [⟨29, E4 (j5 N)⟩] [⟨43, a7t (a1s N)⟩]
theorem b3t {R : Type} (N : Nat) (b f i d l n e p j o q w Aa x K : _) : g8 (R := R) (a7W N) Tryz.f27 [.ptr 1 0 0] [C0 0 [g2a b f i d l n e p j o q w Aa x]] (a4b K) = a1u N b f i d l n e p j o q w Aa x (fun u r1 => K u r1 b f i d l n e p j o q w Aa x) := by
 kernel_rfl
abbrev a9P (s : d2S) : Prop := ∀ {b f i d l n e p j o q w Aa x u r1}, s b f i d l n e p j o q w Aa x = some (u, r1) -> ViewRet Tryz.prog T 27 [.ptr 1 0 0] [g2a b f i d l n e p j o q w Aa x] [dY u, dB r1] [g2a b f i d l n e p j o q w Aa x]
theorem b8B (s : d2S) (hs : a9P s) : MEO ⟨27, a1T s⟩ := by
 refine ⟨d6 Tryz.func27 (by kernel_rfl) (c := d5 Tryz.f27) (by kernel_rfl), fun R dst ds m K r h => ?_⟩
 simp only [a1T] at h
 split at h
 . obtain ⟨Bs, a1, a2, a3, h⟩ := g4 h
   split at h
   . obtain ⟨u, r1, h1, h2⟩ := O2 h
     rw [d9] at h2
     exact ⟨_, _, h2, ViewRet.weakIn (hs h1) (by exact ⟨⟨rfl, .inl rfl, .inl rfl, .inl rfl, .inl rfl, .inl rfl, .inr ⟨_, _, rfl, rfl⟩, .inl rfl, .inr ⟨_, _, rfl, rfl⟩, .inl rfl, .inl rfl, .inl rfl, .inr ⟨_, _, rfl, rfl⟩, .inl rfl, .inl rfl, trivial⟩, trivial⟩) rfl _ _ m dst a1 a2 a3 ⟨g6 _ rfl, trivial⟩⟩
   . cases h
 . cases h
open Classical in
theorem b8M (N : Nat) : a9P (M9 N) := fun {b f i d l n e p j o q w Aa x u r1} h => by
 refine o9 (cx := a7W N) (by kernel_rfl) (g7 ⟨I2 _ (M7 N), trivial⟩ ⟨b2m _ (b7N N), trivial⟩) Tryz.func27 (by kernel_rfl) (by kernel_rfl) (lz (by kernel_rfl)) (by rfl) (by rfl) (by rfl) (rf := a4b (fun Ae BA Z0 Z1 Z2 Z3 Z4 Z5 Z6 Z7 Z8 Z9 Za Zb Zc Zd => if Z0 = b /\ Z1 = f /\ Z2 = i /\ Z3 = d /\ Z4 = l /\ Z5 = n /\ Z6 = e /\ Z7 = p /\ Z8 = j /\ Z9 = o /\ Za = q /\ Zb = w /\ Zc = Aa /\ Zd = x then some (Ae, BA) else none)) (r := (u, r1)) ?_ ?_
 . exact (b3t ..).trans ((congrArg (a1u N b f i d l n e p j o q w Aa x) (by funext; exact if_pos (by simp))).trans h)
 . intro rs' m' hx
   unfold a4b at hx
   split at hx
   . dsimp only at hx
     split at hx
     . rename_i hk
       obtain ⟨rfl, rfl, rfl, rfl, rfl, rfl, rfl, rfl, rfl, rfl, rfl, rfl, rfl, rfl⟩ := hk
       cases hx; exact ⟨rfl, rfl, _, [⟨80, [_, _, _, _, _, _, _, _, _, _, _, _, _, _]⟩], rfl, rfl, ⟨⟨rfl, .inl rfl, .inl rfl, .inl rfl, .inl rfl, .inl rfl, .inr ⟨_, _, rfl, rfl⟩, .inl rfl, .inr ⟨_, _, rfl, rfl⟩, .inl rfl, .inl rfl, .inl rfl, .inr ⟨_, _, rfl, rfl⟩, .inl rfl, .inl rfl, trivial⟩, trivial⟩⟩
     . cases hx
   . cases hx
abbrev d3m := LB -> a3o (Option (LB × Int × LB × Int × List V × LB × Int × Int × Bool))
noncomputable def b0v {R : Type} (s : d3m) (dst : Nat) (ds : List D) (m : Mem) (K : List D -> Mem -> Option R) : Option R :=
 match ds with
 | [.ptr (Ac + 1) Ab 0, .v (.bytes a) .no] => u9 [(Ac, Ab)] m fun Bs => (match Bs with
   | [⟨80, [.v (.int .i64 b) .no, .v (.int .i64 f) .no, .v (.int .i64 i) .no, .v (.int .i64 d) .no, .v (.int .i64 l) .no, .v (.bytes n) _, .v (.int .i64 e) .no, .v (.sl 22 p) _, .v (.bytes j) (.own (.slot 0) 5), .v (.int .i64 o) .no, .v (.int .i64 q) .no, .v (.bytes w) _, .v (.bool Aa) .no, .v (.int .i64 x) .no]⟩] => c2V (s a b f i d l n e p j o q w Aa x) fun u z4 z5 z6 z7 z8 z9 za zc => j3 [(Ac, Ab)] [g2a b f i d z4 z5 z6 z7 z8 z9 za w zc x] m fun m' => K [dY u] m'
   | _ => none)
 | _ => none
noncomputable def b0B {R : Type} (N : Nat) (a : LB) (b f i d l : Int) (n : LB) (e : Int) (p : List V) (j : LB) (o q : Int) (w : LB) (Aa : Bool) (x : Int) (K0 : LB -> Int -> LB -> Int -> List V -> LB -> Int -> Int -> Bool -> Option R) : Option R := d3 (a1s N b f i d l n e p j o q w Aa x) fun b0 => br (!b0) (K0 [] l n e p j o q Aa) (br (!decide (o = 0)) (K0 [] l n e p j o q Aa) (T3 (a4C N a b f i d l n e p [] 2 0 w false x) fun l1 n2 l3 n4 l5 => K0 l1 n2 l3 n4 l5 [] 2 0 false))
noncomputable def a1r (N : Nat) : d3m := fun a b f i d l n e p j o q w Aa x => b0B N a b f i d l n e p j o q w Aa x (fun u z4 z5 z6 z7 z8 z9 za zc => some (u, z4, z5, z6, z7, z8, z9, za, zc))
noncomputable def b9J (N : Nat) : Cx := cxO [] [⟨43, a7t (a1s N)⟩, ⟨44, b2D (a4C N)⟩]
theorem c4g {R : Type} (N : Nat) (a b f i d l n e p j o q w Aa x K : _) : g8 (R := R) (b9J N) Tryz.f22 [.ptr 1 0 0, dY a] [C0 0 [g2a b f i d l n e p j o q w Aa x]] (u7 K) = b0B N a b f i d l n e p j o q w Aa x (fun u z4 z5 z6 z7 z8 z9 za zc => K u b f i d z4 z5 z6 z7 z8 z9 za w zc x) := by
 kernel_rfl
abbrev c5n (s : d3m) : Prop := ∀ {a b f i d l n e p j o q w Aa x u z4 z5 z6 z7 z8 z9 za zc}, s a b f i d l n e p j o q w Aa x = some (u, z4, z5, z6, z7, z8, z9, za, zc) -> ViewRet Tryz.prog T 22 [.ptr 1 0 0, dY a] [g2a b f i d l n e p j o q w Aa x] [dY u] [g2a b f i d z4 z5 z6 z7 z8 z9 za w zc x]
theorem c9f (s : d3m) (hs : c5n s) : MEO ⟨22, b0v s⟩ := by
 refine ⟨d6 Tryz.func22 (by kernel_rfl) (c := d5 Tryz.f22) (by kernel_rfl), fun R dst ds m K r h => ?_⟩
 simp only [b0v] at h
 split at h
 . obtain ⟨Bs, a1, a2, a3, h⟩ := g4 h
   split at h
   . obtain ⟨u, z4, z5, z6, z7, z8, z9, za, zc, h1, h2⟩ := b5A h
     rw [d9] at h2
     exact ⟨_, _, h2, ViewRet.weakIn (hs h1) (by exact ⟨⟨rfl, .inl rfl, .inl rfl, .inl rfl, .inl rfl, .inl rfl, .inr ⟨_, _, rfl, rfl⟩, .inl rfl, .inr ⟨_, _, rfl, rfl⟩, .inl rfl, .inl rfl, .inl rfl, .inr ⟨_, _, rfl, rfl⟩, .inl rfl, .inl rfl, trivial⟩, trivial⟩) rfl _ _ m dst a1 a2 a3 ⟨g6 _ rfl, d7 _, trivial⟩⟩
   . cases h
 . cases h
open Classical in
theorem d1M (N : Nat) : c5n (a1r N) := fun {a b f i d l n e p j o q w Aa x u z4 z5 z6 z7 z8 z9 za zc} h => by
 refine o9 (cx := b9J N) (by kernel_rfl) (g7 trivial ⟨b2m _ (b7N N), c7w _ (c8L N), trivial⟩) Tryz.func22 (by kernel_rfl) (by kernel_rfl) (lz (by kernel_rfl)) (by rfl) (by rfl) (by rfl) (rf := u7 (fun Ae Z0 Z1 Z2 Z3 Z4 Z5 Z6 Z7 Z8 Z9 Za Zb Zc Zd => if Z0 = b /\ Z1 = f /\ Z2 = i /\ Z3 = d /\ Zb = w /\ Zd = x then some (Ae, Z4, Z5, Z6, Z7, Z8, Z9, Za, Zc) else none)) (r := (u, z4, z5, z6, z7, z8, z9, za, zc)) ?_ ?_
 . exact (c4g ..).trans ((congrArg (b0B N a b f i d l n e p j o q w Aa x) (by funext; exact if_pos (by simp))).trans h)
 . intro rs' m' hx
   unfold u7 at hx
   split at hx
   . dsimp only at hx
     split at hx
     . rename_i hk
       obtain ⟨rfl, rfl, rfl, rfl, rfl, rfl⟩ := hk
       cases hx; exact ⟨rfl, rfl, _, [⟨80, [_, _, _, _, _, _, _, _, _, _, _, _, _, _]⟩], rfl, rfl, ⟨⟨rfl, .inl rfl, .inl rfl, .inl rfl, .inl rfl, .inl rfl, .inr ⟨_, _, rfl, rfl⟩, .inl rfl, .inr ⟨_, _, rfl, rfl⟩, .inl rfl, .inl rfl, .inl rfl, .inr ⟨_, _, rfl, rfl⟩, .inl rfl, .inl rfl, trivial⟩, trivial⟩⟩
     . cases hx
   . cases hx
noncomputable def b8w {R : Type} (s : Int -> Int -> Option (LB × Int)) (ds : List D) (K : List D -> Option R) : Option R :=
 match ds with
 | [.v (.int .i64 a) .no, .v (.int .i64 y) .no] => Q3 (s a y) fun u r1 => K [dY u, dI r1]
 | _ => none
abbrev d4F (s : Int -> Int -> Option (LB × Int)) : Prop := ∀ a y u r1, s a y = some (u, r1) -> PRT 41 [dI a, dI y] [dY u, dI r1]
theorem d1A (s : Int -> Int -> Option (LB × Int)) (hs : d4F s) : EO ⟨41, b8w s⟩ := by
 refine ⟨d6 Tryz.func41 (by kernel_rfl) (c := d5 Tryz.f41) (by kernel_rfl), fun R ds K r h => ?_, fun R ds K => ?_⟩
 . simp only [b8w] at h
   split at h
   . obtain ⟨u, r1, h1, h2⟩ := O2 h
     exact ⟨_, h2, hs _ _ _ _ h1⟩
   . cases h
 . simp only [b8w]
   split
   . rw [a6k]; rfl
   . rfl
noncomputable def a2K {R : Type} (s : List V -> Option (LB)) (ds : List D) (K : List D -> Option R) : Option R :=
 match ds with
 | [.v (.sl 22 a) .no] => d3 (s a) fun u => K [dY u]
 | _ => none
abbrev c9y (s : List V -> Option (LB)) : Prop := ∀ a u, s a = some u -> PRT 63 [.v (.sl 22 a) .no] [dY u]
theorem c7z (s : List V -> Option (LB)) (hs : c9y s) : EO ⟨63, a2K s⟩ := by
 refine ⟨d6 Tryz.func63 (by kernel_rfl) (c := d5 Tryz.f63) (by kernel_rfl), fun R ds K r h => ?_, fun R ds K => ?_⟩
 . simp only [a2K] at h
   split at h
   . obtain ⟨u, h1, h2⟩ := j4 h
     exact ⟨_, h2, hs _ _ h1⟩
   . cases h
 . simp only [a2K]
   split
   . rw [I8]; rfl
   . rfl
noncomputable def b0w {R : Type} (s : List V -> Option (LB)) (ds : List D) (K : List D -> Option R) : Option R :=
 match ds with
 | [.v (.sl 22 a) .no] => d3 (s a) fun u => K [dY u]
 | _ => none
noncomputable def Q5 (rs : List D) (_ : Mem) : Option (LB) :=
 match rs with
 | [.v (.bytes u) _] => some (u)
 | _ => none
noncomputable def a0L {R : Type} (N : Nat) (Aj : List V) (n2 : Int) (Lq : LB -> Int -> Option R) (K0 : LB -> Option R) (l0 : LB) (n3 : Int) : Option R := br (decide (n3 < n2)) (br (decide (0 <= n3) && decide (n3 < (Aj.length : Int))) (at? Aj n3.toNat fun a => a.unBytes fun l1 => br (decide ((l0.length + l1.length) * 1 <= 140737488355328)) (Lq (l0 ++ l1) (GA.wrap (n3 + 1))) none) none) (K0 l0)
noncomputable def V0 {R : Type} (N : Nat) (Aj : List V) (n2 : Int) : Nat -> LB -> Int -> (LB -> Option R) -> Option R | 0, _, _, _ => none | t + 1, l0, n3, K0 => a0L N Aj n2 (fun l0 n3 => V0 N Aj n2 t l0 n3 K0) K0 l0 n3
noncomputable def a8D {R : Type} (N : Nat) (ds : List D) (m : Mem) (K : Ex -> List D -> Mem -> Option R) : Option R :=
 match ds, m with
 | [(.v (.bytes l0) (.own (.slot 3) 5)), (.v (.sl 22 Aj) .no), (.v (.int .i64 n2) .no), (.v (.int .i64 n3) .no)], [[]] => V0 N Aj n2 N l0 n3 (fun a0 => K (.exit 0) [(.v (.bytes a0) (.own (.slot 3) 5))] [[]])
 | _, _ => none
noncomputable def a4W (N : Nat) (a : List V) : Option (LB) := V0 N a (a.length : Int) N [] 0 fun l0 => some l0
noncomputable def a0S (N : Nat) : Cx := { T := T, isPure := a5S [], pureK := fun g ds K => a2y [] g ds K, memK := fun g dst ds m K => Y9 [] g dst ds m K, meth := a3N [], keep := fun r => match r with | 3 => [3, 6, 7, 8] | _ => [], keepX := fun r => match r with | 3 => [3] | _ => [], loopT := fun r ds m K => match r with | 3 => a8D N ds m K | _ => none, jumps := 9 }
theorem b6P {R : Type} (N : Nat) (Aj : List V) (n2 : Int) (l0 : LB) (n3 : Int) (L : List D -> Mem -> Option R) (K : Ex -> List D -> Mem -> Option R) :
 a0k (fun st K => codeK (a0S N) (G1 Tryz.f18 0) st K) 17 [3, 6, 7, 8] [3] L [(.v (.bytes l0) (.own (.slot 3) 5)), (.v (.sl 22 Aj) .no), (dI n2), (dI n3)] [[]] K = a0L N Aj n2 (fun l0 n3 => L [(.v (.bytes l0) (.own (.slot 3) 5)), (.v (.sl 22 Aj) .no), (dI n2), (dI n3)] [[]]) (fun a0 => K (.exit 0) [(.v (.bytes a0) (.own (.slot 3) 5))] [[]]) l0 n3 := by
 kernel_rfl
theorem a7e {R : Type} (N : Nat) (Aj : List V) (n2 : Int) (K : Ex -> List D -> Mem -> Option R) : ∀ (t : Nat) (l0 : LB) (n3 : Int),
 a0T (fun st K => codeK (a0S N) (G1 Tryz.f18 0) st K) 17 [3, 6, 7, 8] [3] t [(.v (.bytes l0) (.own (.slot 3) 5)), (.v (.sl 22 Aj) .no), (dI n2), (dI n3)] [[]] K = V0 N Aj n2 t l0 n3 (fun a0 => K (.exit 0) [(.v (.bytes a0) (.own (.slot 3) 5))] [[]])
 | 0, l0, n3 => rfl
 | t + 1, l0, n3 => (b6P N Aj n2 l0 n3 _ K).trans (congrArg (fun L => a0L N Aj n2 L (fun a0 => K (.exit 0) [(.v (.bytes a0) (.own (.slot 3) 5))] [[]]) l0 n3) (funext fun l0 => funext fun n3 => a7e N Aj n2 K t l0 n3))
theorem c4m (N : Nat) (a : _) : g8 (a0S N) Tryz.f18 [.v (.sl 22 a) .no] [] Q5 = a4W N a := by
 kernel_rfl
abbrev c4Z (s : List V -> Option (LB)) : Prop := ∀ {a u}, s a = some u -> PRT 18 [.v (.sl 22 a) .no] [dY u]
theorem d0H (s : List V -> Option (LB)) (hs : c4Z s) : EO ⟨18, b0w s⟩ := by
 refine ⟨d6 Tryz.func18 (by kernel_rfl) (c := d5 Tryz.f18) (by kernel_rfl), fun R ds K r h => ?_, fun R ds K => ?_⟩
 . simp only [b0w] at h
   split at h
   . obtain ⟨u, h1, h2⟩ := j4 h
     exact ⟨_, h2, hs h1⟩
   . cases h
 . simp only [b0w]
   split
   . rw [I8]; rfl
   . rfl
theorem c9p (N : Nat) : CxOK Tryz.prog (a0S N) :=
 L2 (es := []) (me := []) (ms := []) a6l trivial trivial trivial rfl (fun _ _ _ _ => rfl) (fun _ _ _ _ _ _ => rfl) rfl
theorem c3N (N : Nat) : V4 (a0S N) 17 (G1 Tryz.f18 0) := by
 refine M0 (rid := 3) (by kernel_rfl) rfl rfl fun R ds m K r h => ?_
 have h : a8D N ds m K = some r := h
 unfold a8D at h
 split at h
 . exact ⟨N, Eq.trans (a7e ..) h⟩
 . cases h
theorem c9g (N : Nat) : v8 (a0S N) Tryz.f18.ntmps (d5 Tryz.f18) :=
 C1 (k := 1) (by kernel_rfl) ⟨trivial, c3N N⟩
theorem d2d (N : Nat) : c4Z (a4W N) := fun {a u} h => q6 (cx := a0S N) (by kernel_rfl) (c9p N) Tryz.func18 (by kernel_rfl) (by kernel_rfl) (c9g N) (by rfl) (by rfl) (by rfl) (rf := Q5) ((c4m ..).trans h) (fun rs' m h => by
 unfold Q5 at h
 split at h
 . cases h; exact ⟨rfl, rfl⟩
 . cases h)
noncomputable def b1F {R : Type} (s : LB -> Option (Int × Int)) (ds : List D) (K : List D -> Option R) : Option R :=
 match ds with
 | [.v (.bytes a) .no] => Q3 (s a) fun u r1 => K [dI u, dI r1]
 | _ => none
noncomputable def a8S (rs : List D) (_ : Mem) : Option (Int × Int) :=
 match rs with
 | [.v (.int .i64 u) _, .v (.int .i64 r1) _] => some (u, r1)
 | _ => none
noncomputable def U2 {R : Type} (N : Nat) (l1 : LB) (n2 : Int) (Lq : Int -> Int -> Option R) (K0 : Int -> Option R) (n0 n3 : Int) : Option R := br (decide (n3 < n2)) (br (decide (0 <= n3) && decide (n3 < (l1.length : Int))) (at? l1 n3.toNat fun u0 => Lq (A7 IP GA (a4r GA n0 8) (GA.wrap (u0.toNat : Int))) (GA.wrap (n3 + 1))) none) (K0 n0)
noncomputable def P4 {R : Type} (N : Nat) (l1 : LB) (n2 : Int) : Nat -> Int -> Int -> (Int -> Option R) -> Option R | 0, _, _, _ => none | t + 1, n0, n3, K0 => U2 N l1 n2 (fun n0 n3 => P4 N l1 n2 t n0 n3 K0) K0 n0 n3
noncomputable def b1z {R : Type} (N : Nat) (ds : List D) (m : Mem) (K : Ex -> List D -> Mem -> Option R) : Option R :=
 match ds, m with
 | [(.v (.int .i64 n0) .no), (.v (.bytes l1) .no), (.v (.int .i64 n2) .no), (.v (.int .i64 n3) .no)], [[]] => P4 N l1 n2 N n0 n3 (fun a0 => K (.exit 0) [(.v (.int .i64 a0) .no)] [[]])
 | _, _ => none
noncomputable def R1 (N : Nat) (a : LB) : Option (Int × Int) := br (decide (8 < (a.length : Int))) (some (0, 3)) (P4 N a (a.length : Int) N 0 0 fun n0 => br (decide (n0 < 0)) (some (0, 2)) (some (n0, 0)))
noncomputable def a3j (N : Nat) : Cx := { T := T, isPure := a5S [], pureK := fun g ds K => a2y [] g ds K, memK := fun g dst ds m K => Y9 [] g dst ds m K, meth := a3N [], keep := fun r => match r with | 5 => [4, 10, 11, 12] | _ => [], keepX := fun r => match r with | 5 => [4] | _ => [], loopT := fun r ds m K => match r with | 5 => b1z N ds m K | _ => none, jumps := 9 }
theorem c1y {R : Type} (N : Nat) (l1 : LB) (n2 n0 n3 : Int) (L : List D -> Mem -> Option R) (K : Ex -> List D -> Mem -> Option R) :
 a0k (fun st K => codeK (a3j N) (G1 Tryz.f58 0) st K) 25 [4, 10, 11, 12] [4] L [(dI n0), (dY l1), (dI n2), (dI n3)] [[]] K = U2 N l1 n2 (fun n0 n3 => L [(dI n0), (dY l1), (dI n2), (dI n3)] [[]]) (fun a0 => K (.exit 0) [(dI a0)] [[]]) n0 n3 := by
 kernel_rfl
theorem a9n {R : Type} (N : Nat) (l1 : LB) (n2 : Int) (K : Ex -> List D -> Mem -> Option R) : ∀ (t : Nat) (n0 n3 : Int),
 a0T (fun st K => codeK (a3j N) (G1 Tryz.f58 0) st K) 25 [4, 10, 11, 12] [4] t [(dI n0), (dY l1), (dI n2), (dI n3)] [[]] K = P4 N l1 n2 t n0 n3 (fun a0 => K (.exit 0) [(dI a0)] [[]])
 | 0, n0, n3 => rfl
 | t + 1, n0, n3 => (c1y N l1 n2 n0 n3 _ K).trans (congrArg (fun L => U2 N l1 n2 L (fun a0 => K (.exit 0) [(dI a0)] [[]]) n0 n3) (funext fun n0 => funext fun n3 => a9n N l1 n2 K t n0 n3))
theorem c6O (N : Nat) (a : _) : g8 (a3j N) Tryz.f58 [dY a] [] a8S = R1 N a := by
 kernel_rfl
abbrev c8J (s : LB -> Option (Int × Int)) : Prop := ∀ {a u r1}, s a = some (u, r1) -> PRT 58 [dY a] [dI u, dI r1]
theorem c5z (s : LB -> Option (Int × Int)) (hs : c8J s) : EO ⟨58, b1F s⟩ := by
 refine ⟨d6 Tryz.func58 (by kernel_rfl) (c := d5 Tryz.f58) (by kernel_rfl), fun R ds K r h => ?_, fun R ds K => ?_⟩
 . simp only [b1F] at h
   split at h
   . obtain ⟨u, r1, h1, h2⟩ := O2 h
     exact ⟨_, h2, hs h1⟩
   . cases h
 . simp only [b1F]
   split
   . rw [a6k]; rfl
   . rfl
theorem d1k (N : Nat) : CxOK Tryz.prog (a3j N) :=
 L2 (es := []) (me := []) (ms := []) a6l trivial trivial trivial rfl (fun _ _ _ _ => rfl) (fun _ _ _ _ _ _ => rfl) rfl
theorem c5U (N : Nat) : V4 (a3j N) 25 (G1 Tryz.f58 0) := by
 refine M0 (rid := 5) (by kernel_rfl) rfl rfl fun R ds m K r h => ?_
 have h : b1z N ds m K = some r := h
 unfold b1z at h
 split at h
 . exact ⟨N, Eq.trans (a9n ..) h⟩
 . cases h
theorem d1m (N : Nat) : v8 (a3j N) Tryz.f58.ntmps (d5 Tryz.f58) :=
 C1 (k := 1) (by kernel_rfl) ⟨trivial, c5U N⟩
theorem d0r (N : Nat) : c8J (R1 N) := fun {a u r1} h => q6 (cx := a3j N) (by kernel_rfl) (d1k N) Tryz.func58 (by kernel_rfl) (by kernel_rfl) (d1m N) (by rfl) (by rfl) (by rfl) (rf := a8S) ((c6O ..).trans h) (fun rs' m h => by
 unfold a8S at h
 split at h
 . cases h; exact ⟨rfl, rfl⟩
 . cases h)
noncomputable def a6t {R : Type} (s : Int -> Option (Bool)) (ds : List D) (K : List D -> Option R) : Option R :=
 match ds with
 | [.v (.int .i64 a) .no] => d3 (s a) fun u => K [dB u]
 | _ => none
noncomputable def J4 (N : Nat) (a : Int) : Option (Bool) := br (decide (0 <= a)) (some (decide (a <= 255))) (some false)
noncomputable def b5b (N : Nat) : Cx := cxO [] []
theorem b9D (N : Nat) (a : _) : g8 (b5b N) Tryz.f40 [dI a] [] C4 = J4 N a := by
 kernel_rfl
abbrev c1b (s : Int -> Option (Bool)) : Prop := ∀ {a u}, s a = some u -> PRT 40 [dI a] [dB u]
theorem c6U (s : Int -> Option (Bool)) (hs : c1b s) : EO ⟨40, a6t s⟩ := by
 refine ⟨d6 Tryz.func40 (by kernel_rfl) (c := d5 Tryz.f40) (by kernel_rfl), fun R ds K r h => ?_, fun R ds K => ?_⟩
 . simp only [a6t] at h
   split at h
   . obtain ⟨u, h1, h2⟩ := j4 h
     exact ⟨_, h2, hs h1⟩
   . cases h
 . simp only [a6t]
   split
   . rw [I8]; rfl
   . rfl
theorem d0z (N : Nat) : c1b (J4 N) := fun {a u} h => q6 (cx := b5b N) (by kernel_rfl) (g7 trivial trivial) Tryz.func40 (by kernel_rfl) (by kernel_rfl) (lz (by kernel_rfl)) (by rfl) (by rfl) (by rfl) (rf := C4) ((b9D ..).trans h) (fun rs' m h => by
 unfold C4 at h
 split at h
 . cases h; exact ⟨rfl, rfl⟩
 . cases h)
abbrev c6j := a0a (Option (Int))
abbrev g3a (a0 a1 a2 a3 : Int) (a4 : LB) (a5 : Int) (a6 : Bool) : D := .agg [dI a0, dI a1, dI a2, dI a3, dY a4, dI a5, dB a6]
noncomputable def a0U {R : Type} (s : c6j) (ds : List D) (K : List D -> Option R) : Option R :=
 match ds with
 | [.agg [.v (.int .i64 a) .no, .v (.int .i64 y) .no, .v (.int .i64 z) .no, .v (.int .i64 O) .no, .v (.bytes x4) .no, .v (.int .i64 x5) .no, .v (.bool x6) .no]] => d3 (s a y z O x4 x5 x6) fun u => K [dI u]
 | _ => none
noncomputable def J3 (N : Nat) (a y z O : Int) (x4 : LB) (x5 : Int) (x6 : Bool) : Option (Int) := br x6 (d3 (J4 N a) fun b0 => br (!b0) (some 2) (d3 (J4 N y) fun b1 => br (!b1) (some 2) (d3 (J4 N z) fun b2 => br (!b2) (some 2) (d3 (J4 N O) fun b3 => br (!b3) (some 2) (br (decide (a = 255)) (some 1) (br (decide (a2c GA y 4 = 6)) (some 1) (br (decide (a2c GA y 4 = 9)) (some 1) (br (decide (65535 < (x4.length : Int))) (some 3) (br (decide (x5 < 0)) (some 2) (br (decide (65536 < x5)) (some 2) (br x6 (br (decide ((x4.length : Int) = 0)) (br (decide (x5 = 0)) (some 4) (some 0)) (some 0)) (some 0)))))))))))) (d3 (J4 N a) fun b4 => br (!b4) (some 2) (d3 (J4 N y) fun b5 => br (!b5) (some 2) (d3 (J4 N z) fun b6 => br (!b6) (some 2) (d3 (J4 N O) fun b7 => br (!b7) (some 2) (br (decide (a = 255)) (some 1) (br (decide (a2c GA y 4 = 6)) (some 1) (br (decide (a2c GA y 4 = 9)) (some 1) (br (decide (255 < (x4.length : Int))) (some 3) (br (decide (x5 < 0)) (some 2) (br (decide (256 < x5)) (some 2) (br x6 (br (decide ((x4.length : Int) = 0)) (br (decide (x5 = 0)) (some 4) (some 0)) (some 0)) (some 0))))))))))))
noncomputable def b6e (N : Nat) : Cx := cxO [⟨40, a6t (J4 N)⟩] []
theorem b9j (N : Nat) (a y z O x4 x5 x6 : _) : g8 (b6e N) Tryz.f14 [g3a a y z O x4 x5 x6] [] E0 = J3 N a y z O x4 x5 x6 := by
 kernel_rfl
abbrev b8N (s : c6j) : Prop := ∀ {a y z O x4 x5 x6 u}, s a y z O x4 x5 x6 = some u -> PRT 14 [g3a a y z O x4 x5 x6] [dI u]
theorem a4O (s : c6j) (hs : b8N s) : EO ⟨14, a0U s⟩ := by
 refine ⟨d6 Tryz.func14 (by kernel_rfl) (c := d5 Tryz.f14) (by kernel_rfl), fun R ds K r h => ?_, fun R ds K => ?_⟩
 . simp only [a0U] at h
   split at h
   . obtain ⟨u, h1, h2⟩ := j4 h
     exact ⟨_, h2, hs h1⟩
   . cases h
 . simp only [a0U]
   split
   . rw [I8]; rfl
   . rfl
theorem a6H (N : Nat) : b8N (J3 N) := fun {a y z O x4 x5 x6 u} h => q6 (cx := b6e N) (by kernel_rfl) (g7 ⟨c6U _ (d0z N), trivial⟩ trivial) Tryz.func14 (by kernel_rfl) (by kernel_rfl) (lz (by kernel_rfl)) (by rfl) (by rfl) (by rfl) (rf := E0) ((b9j ..).trans h) (fun rs' m h => by
 unfold E0 at h
 split at h
 . cases h; exact ⟨rfl, rfl⟩
 . cases h)
noncomputable def b0M {R : Type} (s : c6j) (ds : List D) (K : List D -> Option R) : Option R :=
 match ds with
 | [.agg [.v (.int .i64 a) .no, .v (.int .i64 y) .no, .v (.int .i64 z) .no, .v (.int .i64 O) .no, .v (.bytes x4) .no, .v (.int .i64 x5) .no, .v (.bool x6) .no]] => d3 (s a y z O x4 x5 x6) fun u => K [dI u]
 | _ => none
noncomputable def a5r (N : Nat) (a y z O : Int) (x4 : LB) (x5 : Int) (x6 : Bool) : Option (Int) := d3 (J3 N a y z O x4 x5 x6) fun n0 => br (!decide (n0 = 0)) (some 0) (br (decide (0 < (x4.length : Int))) (br (decide (0 < x5)) (some 4) (some 3)) (br (decide (0 < x5)) (some 2) (some 1)))
noncomputable def b9i (N : Nat) : Cx := cxO [⟨14, a0U (J3 N)⟩] []
theorem c4t (N : Nat) (a y z O x4 x5 x6 : _) : g8 (b9i N) Tryz.f15 [g3a a y z O x4 x5 x6] [] E0 = a5r N a y z O x4 x5 x6 := by
 kernel_rfl
abbrev c4z (s : c6j) : Prop := ∀ {a y z O x4 x5 x6 u}, s a y z O x4 x5 x6 = some u -> PRT 15 [g3a a y z O x4 x5 x6] [dI u]
theorem c9R (s : c6j) (hs : c4z s) : EO ⟨15, b0M s⟩ := by
 refine ⟨d6 Tryz.func15 (by kernel_rfl) (c := d5 Tryz.f15) (by kernel_rfl), fun R ds K r h => ?_, fun R ds K => ?_⟩
 . simp only [b0M] at h
   split at h
   . obtain ⟨u, h1, h2⟩ := j4 h
     exact ⟨_, h2, hs h1⟩
   . cases h
 . simp only [b0M]
   split
   . rw [I8]; rfl
   . rfl
theorem d2Q (N : Nat) : c4z (a5r N) := fun {a y z O x4 x5 x6 u} h => q6 (cx := b9i N) (by kernel_rfl) (g7 ⟨a4O _ (a6H N), trivial⟩ trivial) Tryz.func15 (by kernel_rfl) (by kernel_rfl) (lz (by kernel_rfl)) (by rfl) (by rfl) (by rfl) (rf := E0) ((c4t ..).trans h) (fun rs' m h => by
 unfold E0 at h
 split at h
 . cases h; exact ⟨rfl, rfl⟩
 . cases h)
noncomputable def a4T {R : Type} (s : Int -> Int -> Option (LB)) (ds : List D) (K : List D -> Option R) : Option R :=
 match ds with
 | [.v (.int .i64 a) .no, .v (.int .i64 y) .no] => d3 (s a y) fun u => K [dY u]
 | _ => none
noncomputable def C3 (N : Nat) (a y : Int) : Option (LB) := br (decide (0 <= GA.wrap (8 * y))) (Q3 (a8p N (A7 JB GA a (GA.wrap (a4r GA 1 (GA.wrap (8 * y)) - 1))) y) fun l0 n1 => some l0) none
noncomputable def b2y (N : Nat) : Cx := cxO [⟨41, b8w (a8p N)⟩] []
theorem b7m (N : Nat) (a y : _) : g8 (b2y N) Tryz.f16 [dI a, dI y] [] Q5 = C3 N a y := by
 kernel_rfl
abbrev b4E (s : Int -> Int -> Option (LB)) : Prop := ∀ {a y u}, s a y = some u -> PRT 16 [dI a, dI y] [dY u]
theorem c3B (s : Int -> Int -> Option (LB)) (hs : b4E s) : EO ⟨16, a4T s⟩ := by
 refine ⟨d6 Tryz.func16 (by kernel_rfl) (c := d5 Tryz.f16) (by kernel_rfl), fun R ds K r h => ?_, fun R ds K => ?_⟩
 . simp only [a4T] at h
   split at h
   . obtain ⟨u, h1, h2⟩ := j4 h
     exact ⟨_, h2, hs h1⟩
   . cases h
 . simp only [a4T]
   split
   . rw [I8]; rfl
   . rfl
theorem c6p (N : Nat) : b4E (C3 N) := fun {a y u} h => q6 (cx := b2y N) (by kernel_rfl) (g7 ⟨d1A _ (d5e N), trivial⟩ trivial) Tryz.func16 (by kernel_rfl) (by kernel_rfl) (lz (by kernel_rfl)) (by rfl) (by rfl) (by rfl) (rf := Q5) ((b7m ..).trans h) (fun rs' m h => by
 unfold Q5 at h
 split at h
 . cases h; exact ⟨rfl, rfl⟩
 . cases h)
abbrev d4n := a0a (Option (LB × Int))
noncomputable def U9 {R : Type} (s : d4n) (ds : List D) (K : List D -> Option R) : Option R :=
 match ds with
 | [.agg [.v (.int .i64 a) .no, .v (.int .i64 y) .no, .v (.int .i64 z) .no, .v (.int .i64 O) .no, .v (.bytes x4) .no, .v (.int .i64 x5) .no, .v (.bool x6) .no]] => Q3 (s a y z O x4 x5 x6) fun u r1 => K [dY u, dI r1]
 | _ => none
noncomputable def a0D (rs : List D) (_ : Mem) : Option (LB × Int) :=
 match rs with
 | [.v (.bytes u) _, .v (.int .i64 r1) _] => some (u, r1)
 | _ => none
noncomputable def G6 (N : Nat) (a y z O : Int) (x4 : LB) (x5 : Int) (x6 : Bool) : Option (LB × Int) := d3 (J3 N a y z O x4 x5 x6) fun n0 => br (!decide (n0 = 0)) (some ([], n0)) (br x6 (d3 (a5r N a y z O x4 x5 x6) fun n1 => br (decide (n1 = 4)) (d3 (C3 N (x4.length : Int) 2) fun l2 => br (decide ((([Gz (GI.wrap a).toNat, Gz (GI.wrap y).toNat, Gz (GI.wrap z).toNat, Gz (GI.wrap O).toNat] ++ [Gz (GX 0)]).length + l2.length) * 1 <= 140737488355328)) (br (decide ((([Gz (GI.wrap a).toNat, Gz (GI.wrap y).toNat, Gz (GI.wrap z).toNat, Gz (GI.wrap O).toNat] ++ [Gz (GX 0)] ++ l2).length + x4.length) * 1 <= 140737488355328)) (br (decide (x5 = 0)) (some ([Gz (GI.wrap a).toNat, Gz (GI.wrap y).toNat, Gz (GI.wrap z).toNat, Gz (GI.wrap O).toNat] ++ [Gz (GX 0)] ++ l2 ++ x4, 0)) (d3 (C3 N x5 2) fun l3 => br (decide ((([Gz (GI.wrap a).toNat, Gz (GI.wrap y).toNat, Gz (GI.wrap z).toNat, Gz (GI.wrap O).toNat] ++ [Gz (GX 0)] ++ l2 ++ x4).length + l3.length) * 1 <= 140737488355328)) (some ([Gz (GI.wrap a).toNat, Gz (GI.wrap y).toNat, Gz (GI.wrap z).toNat, Gz (GI.wrap O).toNat] ++ [Gz (GX 0)] ++ l2 ++ x4 ++ l3, 0)) none)) none) none) (br (decide (n1 = 3)) (d3 (C3 N (x4.length : Int) 2) fun l4 => br (decide ((([Gz (GI.wrap a).toNat, Gz (GI.wrap y).toNat, Gz (GI.wrap z).toNat, Gz (GI.wrap O).toNat] ++ [Gz (GX 0)]).length + l4.length) * 1 <= 140737488355328)) (br (decide ((([Gz (GI.wrap a).toNat, Gz (GI.wrap y).toNat, Gz (GI.wrap z).toNat, Gz (GI.wrap O).toNat] ++ [Gz (GX 0)] ++ l4).length + x4.length) * 1 <= 140737488355328)) (br (decide (x5 = 0)) (some ([Gz (GI.wrap a).toNat, Gz (GI.wrap y).toNat, Gz (GI.wrap z).toNat, Gz (GI.wrap O).toNat] ++ [Gz (GX 0)] ++ l4 ++ x4, 0)) (d3 (C3 N x5 2) fun l5 => br (decide ((([Gz (GI.wrap a).toNat, Gz (GI.wrap y).toNat, Gz (GI.wrap z).toNat, Gz (GI.wrap O).toNat] ++ [Gz (GX 0)] ++ l4 ++ x4).length + l5.length) * 1 <= 140737488355328)) (some ([Gz (GI.wrap a).toNat, Gz (GI.wrap y).toNat, Gz (GI.wrap z).toNat, Gz (GI.wrap O).toNat] ++ [Gz (GX 0)] ++ l4 ++ x4 ++ l5, 0)) none)) none) none) (br (decide (n1 = 2)) (d3 (C3 N x5 2) fun l6 => br (decide ((([Gz (GI.wrap a).toNat, Gz (GI.wrap y).toNat, Gz (GI.wrap z).toNat, Gz (GI.wrap O).toNat] ++ [Gz (GX 0)]).length + l6.length) * 1 <= 140737488355328)) (some ([Gz (GI.wrap a).toNat, Gz (GI.wrap y).toNat, Gz (GI.wrap z).toNat, Gz (GI.wrap O).toNat] ++ [Gz (GX 0)] ++ l6, 0)) none) (some ([Gz (GI.wrap a).toNat, Gz (GI.wrap y).toNat, Gz (GI.wrap z).toNat, Gz (GI.wrap O).toNat] ++ [Gz (GX 0)], 0))))) (d3 (a5r N a y z O x4 x5 x6) fun n7 => br (decide (n7 = 4)) (d3 (C3 N (x4.length : Int) 1) fun l8 => br (decide (([Gz (GI.wrap a).toNat, Gz (GI.wrap y).toNat, Gz (GI.wrap z).toNat, Gz (GI.wrap O).toNat].length + l8.length) * 1 <= 140737488355328)) (br (decide ((([Gz (GI.wrap a).toNat, Gz (GI.wrap y).toNat, Gz (GI.wrap z).toNat, Gz (GI.wrap O).toNat] ++ l8).length + x4.length) * 1 <= 140737488355328)) (br (decide (x5 = 0)) (some ([Gz (GI.wrap a).toNat, Gz (GI.wrap y).toNat, Gz (GI.wrap z).toNat, Gz (GI.wrap O).toNat] ++ l8 ++ x4, 0)) (d3 (C3 N x5 1) fun l9 => br (decide ((([Gz (GI.wrap a).toNat, Gz (GI.wrap y).toNat, Gz (GI.wrap z).toNat, Gz (GI.wrap O).toNat] ++ l8 ++ x4).length + l9.length) * 1 <= 140737488355328)) (some ([Gz (GI.wrap a).toNat, Gz (GI.wrap y).toNat, Gz (GI.wrap z).toNat, Gz (GI.wrap O).toNat] ++ l8 ++ x4 ++ l9, 0)) none)) none) none) (br (decide (n7 = 3)) (d3 (C3 N (x4.length : Int) 1) fun la => br (decide (([Gz (GI.wrap a).toNat, Gz (GI.wrap y).toNat, Gz (GI.wrap z).toNat, Gz (GI.wrap O).toNat].length + la.length) * 1 <= 140737488355328)) (br (decide ((([Gz (GI.wrap a).toNat, Gz (GI.wrap y).toNat, Gz (GI.wrap z).toNat, Gz (GI.wrap O).toNat] ++ la).length + x4.length) * 1 <= 140737488355328)) (br (decide (x5 = 0)) (some ([Gz (GI.wrap a).toNat, Gz (GI.wrap y).toNat, Gz (GI.wrap z).toNat, Gz (GI.wrap O).toNat] ++ la ++ x4, 0)) (d3 (C3 N x5 1) fun lb => br (decide ((([Gz (GI.wrap a).toNat, Gz (GI.wrap y).toNat, Gz (GI.wrap z).toNat, Gz (GI.wrap O).toNat] ++ la ++ x4).length + lb.length) * 1 <= 140737488355328)) (some ([Gz (GI.wrap a).toNat, Gz (GI.wrap y).toNat, Gz (GI.wrap z).toNat, Gz (GI.wrap O).toNat] ++ la ++ x4 ++ lb, 0)) none)) none) none) (br (decide (n7 = 2)) (d3 (C3 N x5 1) fun Ag => br (decide (([Gz (GI.wrap a).toNat, Gz (GI.wrap y).toNat, Gz (GI.wrap z).toNat, Gz (GI.wrap O).toNat].length + Ag.length) * 1 <= 140737488355328)) (some ([Gz (GI.wrap a).toNat, Gz (GI.wrap y).toNat, Gz (GI.wrap z).toNat, Gz (GI.wrap O).toNat] ++ Ag, 0)) none) (some ([Gz (GI.wrap a).toNat, Gz (GI.wrap y).toNat, Gz (GI.wrap z).toNat, Gz (GI.wrap O).toNat], 0))))))
noncomputable def b3L (N : Nat) : Cx := cxO [⟨14, a0U (J3 N)⟩, ⟨15, b0M (a5r N)⟩, ⟨16, a4T (C3 N)⟩] []
theorem b6y (N : Nat) (a y z O x4 x5 x6 : _) : g8 (b3L N) Tryz.f4 [g3a a y z O x4 x5 x6] [] a0D = G6 N a y z O x4 x5 x6 := by
 kernel_rfl
abbrev b5J (s : d4n) : Prop := ∀ {a y z O x4 x5 x6 u r1}, s a y z O x4 x5 x6 = some (u, r1) -> PRT 4 [g3a a y z O x4 x5 x6] [dY u, dI r1]
theorem b1m (s : d4n) (hs : b5J s) : EO ⟨4, U9 s⟩ := by
 refine ⟨d6 Tryz.func4 (by kernel_rfl) (c := d5 Tryz.f4) (by kernel_rfl), fun R ds K r h => ?_, fun R ds K => ?_⟩
 . simp only [U9] at h
   split at h
   . obtain ⟨u, r1, h1, h2⟩ := O2 h
     exact ⟨_, h2, hs h1⟩
   . cases h
 . simp only [U9]
   split
   . rw [a6k]; rfl
   . rfl
theorem b6m (N : Nat) : b5J (G6 N) := fun {a y z O x4 x5 x6 u r1} h => q6 (cx := b3L N) (by kernel_rfl) (g7 ⟨a4O _ (a6H N), c9R _ (d2Q N), c3B _ (c6p N), trivial⟩ trivial) Tryz.func4 (by kernel_rfl) (by kernel_rfl) (lz (by kernel_rfl)) (by rfl) (by rfl) (by rfl) (rf := a0D) ((b6y ..).trans h) (fun rs' m h => by
 unfold a0D at h
 split at h
 . cases h; exact ⟨rfl, rfl⟩
 . cases h)
noncomputable def a1R {R : Type} (s : LB -> Option (Int)) (ds : List D) (K : List D -> Option R) : Option R :=
 match ds with
 | [.v (.bytes a) .no] => d3 (s a) fun u => K [dI u]
 | _ => none
noncomputable def t4 (N : Nat) (a : LB) : Option (Int) := Q3 (R1 N a) fun n0 n1 => br (decide (n0 = 0)) (br (decide (0 < (a.length : Int))) (br (decide (0 <= GA.wrap (8 * (a.length : Int)))) (some (a4r GA 1 (GA.wrap (8 * (a.length : Int))))) none) (some n0)) (some n0)
noncomputable def a7u (N : Nat) : Cx := cxO [⟨58, b1F (R1 N)⟩] []
theorem b3z (N : Nat) (a : _) : g8 (a7u N) Tryz.f57 [dY a] [] E0 = t4 N a := by
 kernel_rfl
abbrev a9F (s : LB -> Option (Int)) : Prop := ∀ {a u}, s a = some u -> PRT 57 [dY a] [dI u]
theorem b7E (s : LB -> Option (Int)) (hs : a9F s) : EO ⟨57, a1R s⟩ := by
 refine ⟨d6 Tryz.func57 (by kernel_rfl) (c := d5 Tryz.f57) (by kernel_rfl), fun R ds K r h => ?_, fun R ds K => ?_⟩
 . simp only [a1R] at h
   split at h
   . obtain ⟨u, h1, h2⟩ := j4 h
     exact ⟨_, h2, hs h1⟩
   . cases h
 . simp only [a1R]
   split
   . rw [I8]; rfl
   . rfl
theorem b9N (N : Nat) : a9F (t4 N) := fun {a u} h => q6 (cx := a7u N) (by kernel_rfl) (g7 ⟨c5z _ (d0r N), trivial⟩ trivial) Tryz.func57 (by kernel_rfl) (by kernel_rfl) (lz (by kernel_rfl)) (by rfl) (by rfl) (by rfl) (rf := E0) ((b3z ..).trans h) (fun rs' m h => by
 unfold E0 at h
 split at h
 . cases h; exact ⟨rfl, rfl⟩
 . cases h)
abbrev d1b := LB -> a0a (Option (Int × LB × Int × Bool))
abbrev g4a (a0 a1 a2 a3 : Int) (a4 : LB) (a5 : Int) (a6 : Bool) : Bx := ⟨24, [dI a0, dI a1, dI a2, dI a3, dY a4, dI a5, dB a6]⟩
noncomputable def b7x {R : Type} (s : d1b) (dst : Nat) (ds : List D) (m : Mem) (K : List D -> Mem -> Option R) : Option R :=
 match ds with
 | [.ptr (Ac + 1) Ab 0, .v (.bytes a) .no] => u9 [(Ac, Ab)] m fun Bs => (match Bs with
   | [⟨24, [.v (.int .i64 b) .no, .v (.int .i64 f) .no, .v (.int .i64 i) .no, .v (.int .i64 d) .no, .v (.bytes l) _, .v (.int .i64 n) .no, .v (.bool e) .no]⟩] => M8 (s a b f i d l n e) fun u z4 z5 z6 => j3 [(Ac, Ab)] [g4a b f i d z4 z5 z6] m fun m' => K [dI u] m'
   | _ => none)
 | _ => none
noncomputable def b8z {α : Type} (K : Int -> a0a (Option α)) (rs : List D) (m : Mem) : Option α :=
 match rs, m with
 | [.v (.int .i64 u) _], [_, [(0, ⟨24, [.v (.int .i64 z0) .no, .v (.int .i64 z1) .no, .v (.int .i64 z2) .no, .v (.int .i64 z3) .no, .v (.bytes z4) _, .v (.int .i64 z5) .no, .v (.bool z6) .no]⟩)]] => K u z0 z1 z2 z3 z4 z5 z6
 | _, _ => none
noncomputable def b0C {R : Type} (N : Nat) (a : LB) (b f i d : Int) (l : LB) (n : Int) (e : Bool) (K0 : Int -> LB -> Int -> Bool -> Option R) : Option R := br (decide ((a.length : Int) = 0)) (K0 0 l n e) (br (decide ((a.length : Int) = 1)) (d3 (t4 N a) fun n0 => K0 0 l n0 e) (br (decide (0 < (a.length : Int))) (at? a 0 fun u1 => br (decide ((u1.toNat : Int) = 0)) (br (decide (1 <= (a.length : Int))) (br (decide (((GU 1 a).length : Int) < 2)) (K0 5 l n true) (br (decide (((GU 1 a).length : Int) = 2)) (d3 (t4 N (GU 1 a)) fun n2 => K0 0 l n2 true) (br (decide (2 <= ((GU 1 a).length : Int))) (Q3 (R1 N (Ig 2 (GU 1 a))) fun n3 n4 => br (decide (2 <= ((GU 1 a).length : Int))) (br (decide (n3 = 0)) (K0 4 l n true) (br (decide (((GU 2 (GU 1 a)).length : Int) < n3)) (K0 5 l n true) (br (!decide (((GU 2 (GU 1 a)).length : Int) = n3)) (br (!decide (((GU 2 (GU 1 a)).length : Int) = GA.wrap (n3 + 2))) (K0 4 l n true) (br (decide (0 <= n3) && decide (n3 <= ((GU 2 (GU 1 a)).length : Int))) (d3 (j5 N (Ig n3.toNat (GU 2 (GU 1 a)))) fun l5 => br (decide (0 <= n3) && decide (n3 <= ((GU 2 (GU 1 a)).length : Int))) (d3 (t4 N (GU n3.toNat (GU 2 (GU 1 a)))) fun n6 => K0 0 l5 n6 true) none) none)) (br (decide (0 <= n3) && decide (n3 <= ((GU 2 (GU 1 a)).length : Int))) (d3 (j5 N (Ig n3.toNat (GU 2 (GU 1 a)))) fun l7 => br (decide (0 <= n3) && decide (n3 <= ((GU 2 (GU 1 a)).length : Int))) (d3 (t4 N (GU n3.toNat (GU 2 (GU 1 a)))) fun n8 => K0 0 l7 n8 true) none) none)))) none) none))) none) (br (decide ((a.length : Int) < 1)) (K0 5 l n e) (br e (br (decide ((a.length : Int) = 1)) (d3 (t4 N a) fun n9 => K0 0 l n9 e) (br (decide (1 <= (a.length : Int))) (Q3 (R1 N (Ig 1 a)) fun na nb => br (decide (1 <= (a.length : Int))) (br (decide (na = 0)) (K0 4 l n e) (br (decide (((GU 1 a).length : Int) < na)) (K0 5 l n e) (br (!decide (((GU 1 a).length : Int) = na)) (br (!decide (((GU 1 a).length : Int) = GA.wrap (na + 1))) (K0 4 l n e) (br (decide (0 <= na) && decide (na <= ((GU 1 a).length : Int))) (d3 (j5 N (Ig na.toNat (GU 1 a))) fun Ag => br (decide (0 <= na) && decide (na <= ((GU 1 a).length : Int))) (d3 (t4 N (GU na.toNat (GU 1 a))) fun nd => K0 0 Ag nd e) none) none)) (br (decide (0 <= na) && decide (na <= ((GU 1 a).length : Int))) (d3 (j5 N (Ig na.toNat (GU 1 a))) fun BG => br (decide (0 <= na) && decide (na <= ((GU 1 a).length : Int))) (d3 (t4 N (GU na.toNat (GU 1 a))) fun nf => K0 0 BG nf e) none) none)))) none) none)) (br (decide (1 <= (a.length : Int))) (Q3 (R1 N (Ig 1 a)) fun ng nh => br (decide (1 <= (a.length : Int))) (br (decide (ng = 0)) (K0 4 l n e) (br (decide (((GU 1 a).length : Int) < ng)) (K0 5 l n e) (br (!decide (((GU 1 a).length : Int) = ng)) (br (!decide (((GU 1 a).length : Int) = GA.wrap (ng + 1))) (K0 4 l n e) (br (decide (0 <= ng) && decide (ng <= ((GU 1 a).length : Int))) (d3 (j5 N (Ig ng.toNat (GU 1 a))) fun AY => br (decide (0 <= ng) && decide (ng <= ((GU 1 a).length : Int))) (d3 (t4 N (GU ng.toNat (GU 1 a))) fun nj => K0 0 AY nj e) none) none)) (br (decide (0 <= ng) && decide (ng <= ((GU 1 a).length : Int))) (d3 (j5 N (Ig ng.toNat (GU 1 a))) fun lk => br (decide (0 <= ng) && decide (ng <= ((GU 1 a).length : Int))) (d3 (t4 N (GU ng.toNat (GU 1 a))) fun nl => K0 0 lk nl e) none) none)))) none) none)))) none))
noncomputable def a6T (N : Nat) : d1b := fun a b f i d l n e => b0C N a b f i d l n e (fun u z4 z5 z6 => some (u, z4, z5, z6))
noncomputable def c2b (N : Nat) : Cx := cxO [⟨57, a1R (t4 N)⟩, ⟨58, b1F (R1 N)⟩, ⟨29, E4 (j5 N)⟩] []
theorem c2A {R : Type} (N : Nat) (a b f i d l n e K : _) : g8 (R := R) (c2b N) Tryz.f28 [.ptr 1 0 0, dY a] [C0 0 [g4a b f i d l n e]] (b8z K) = b0C N a b f i d l n e (fun u z4 z5 z6 => K u b f i d z4 z5 z6) := by
 kernel_rfl
abbrev c5m (s : d1b) : Prop := ∀ {a b f i d l n e u z4 z5 z6}, s a b f i d l n e = some (u, z4, z5, z6) -> ViewRet Tryz.prog T 28 [.ptr 1 0 0, dY a] [g4a b f i d l n e] [dI u] [g4a b f i d z4 z5 z6]
theorem c8u (s : d1b) (hs : c5m s) : MEO ⟨28, b7x s⟩ := by
 refine ⟨d6 Tryz.func28 (by kernel_rfl) (c := d5 Tryz.f28) (by kernel_rfl), fun R dst ds m K r h => ?_⟩
 simp only [b7x] at h
 split at h
 . obtain ⟨Bs, a1, a2, a3, h⟩ := g4 h
   split at h
   . obtain ⟨u, z4, z5, z6, h1, h2⟩ := a0F h
     rw [d9] at h2
     exact ⟨_, _, h2, ViewRet.weakIn (hs h1) (by exact ⟨⟨rfl, .inl rfl, .inl rfl, .inl rfl, .inl rfl, .inr ⟨_, _, rfl, rfl⟩, .inl rfl, .inl rfl, trivial⟩, trivial⟩) rfl _ _ m dst a1 a2 a3 ⟨g6 _ rfl, d7 _, trivial⟩⟩
   . cases h
 . cases h
open Classical in
theorem d2i (N : Nat) : c5m (a6T N) := fun {a b f i d l n e u z4 z5 z6} h => by
 refine o9 (cx := c2b N) (by kernel_rfl) (g7 ⟨b7E _ (b9N N), c5z _ (d0r N), I2 _ (M7 N), trivial⟩ trivial) Tryz.func28 (by kernel_rfl) (by kernel_rfl) (lz (by kernel_rfl)) (by rfl) (by rfl) (by rfl) (rf := b8z (fun Ae Z0 Z1 Z2 Z3 Z4 Z5 Z6 => if Z0 = b /\ Z1 = f /\ Z2 = i /\ Z3 = d then some (Ae, Z4, Z5, Z6) else none)) (r := (u, z4, z5, z6)) ?_ ?_
 . exact (c2A ..).trans ((congrArg (b0C N a b f i d l n e) (by funext; exact if_pos (by simp))).trans h)
 . intro rs' m' hx
   unfold b8z at hx
   split at hx
   . dsimp only at hx
     split at hx
     . rename_i hk
       obtain ⟨rfl, rfl, rfl, rfl⟩ := hk
       cases hx; exact ⟨rfl, rfl, _, [⟨24, [_, _, _, _, _, _, _]⟩], rfl, rfl, ⟨⟨rfl, .inl rfl, .inl rfl, .inl rfl, .inl rfl, .inr ⟨_, _, rfl, rfl⟩, .inl rfl, .inl rfl, trivial⟩, trivial⟩⟩
     . cases hx
   . cases hx
abbrev d4T := LB -> Option (Int × Int × Int × Int × LB × Int × Bool × Int)
noncomputable def a0G {R : Type} (s : d4T) (ds : List D) (K : List D -> Option R) : Option R :=
 match ds with
 | [.v (.bytes a) .no] => H9 (s a) fun u r1 r2 r3 r4 r5 r6 r7 => K [g3a u r1 r2 r3 r4 r5 r6, dI r7]
 | _ => none
noncomputable def a8l (rs : List D) (_ : Mem) : Option (Int × Int × Int × Int × LB × Int × Bool × Int) :=
 match rs with
 | [.agg [.v (.int .i64 u) _, .v (.int .i64 r1) _, .v (.int .i64 r2) _, .v (.int .i64 r3) _, .v (.bytes r4) _, .v (.int .i64 r5) _, .v (.bool r6) _], .v (.int .i64 r7) _] => some (u, r1, r2, r3, r4, r5, r6, r7)
 | _ => none
noncomputable def S3 (N : Nat) (a : LB) : Option (Int × Int × Int × Int × LB × Int × Bool × Int) := br (decide ((a.length : Int) < 4)) (some (0, 0, 0, 0, [], 0, false, 5)) (br (decide (0 < (a.length : Int))) (at? a 0 fun u0 => br (decide (1 < (a.length : Int))) (at? a 1 fun u1 => br (decide (2 < (a.length : Int))) (at? a 2 fun u2 => br (decide (3 < (a.length : Int))) (at? a 3 fun u3 => br (decide (4 <= (a.length : Int))) (M8 (a6T N (GU 4 a) (GA.wrap (u0.toNat : Int)) (GA.wrap (u1.toNat : Int)) (GA.wrap (u2.toNat : Int)) (GA.wrap (u3.toNat : Int)) [] 0 false) fun n4 l5 n6 b7 => br (decide (n4 = 0)) (d3 (J3 N (GA.wrap (u0.toNat : Int)) (GA.wrap (u1.toNat : Int)) (GA.wrap (u2.toNat : Int)) (GA.wrap (u3.toNat : Int)) l5 n6 b7) fun n8 => br (!decide (n8 = 0)) (some (0, 0, 0, 0, [], 0, false, n8)) (some (GA.wrap (u0.toNat : Int), GA.wrap (u1.toNat : Int), GA.wrap (u2.toNat : Int), GA.wrap (u3.toNat : Int), l5, n6, b7, 0))) (br (!decide (n4 = 0)) (some (0, 0, 0, 0, [], 0, false, n4)) (some (GA.wrap (u0.toNat : Int), GA.wrap (u1.toNat : Int), GA.wrap (u2.toNat : Int), GA.wrap (u3.toNat : Int), l5, n6, b7, 0)))) none) none) none) none) none)
noncomputable def b3F (N : Nat) : Cx := cxO [⟨14, a0U (J3 N)⟩] [⟨28, b7x (a6T N)⟩]
theorem b7o (N : Nat) (a : _) : g8 (b3F N) Tryz.f8 [dY a] [] a8l = S3 N a := by
 kernel_rfl
abbrev b5t (s : d4T) : Prop := ∀ {a u r1 r2 r3 r4 r5 r6 r7}, s a = some (u, r1, r2, r3, r4, r5, r6, r7) -> PRT 8 [dY a] [g3a u r1 r2 r3 r4 r5 r6, dI r7]
theorem c3S (s : d4T) (hs : b5t s) : EO ⟨8, a0G s⟩ := by
 refine ⟨d6 Tryz.func8 (by kernel_rfl) (c := d5 Tryz.f8) (by kernel_rfl), fun R ds K r h => ?_, fun R ds K => ?_⟩
 . simp only [a0G] at h
   split at h
   . obtain ⟨u, r1, r2, r3, r4, r5, r6, r7, h1, h2⟩ := O3 h
     exact ⟨_, h2, hs h1⟩
   . cases h
 . simp only [a0G]
   split
   . rw [c8V]; rfl
   . rfl
theorem c6M (N : Nat) : b5t (S3 N) := fun {a u r1 r2 r3 r4 r5 r6 r7} h => q6 (cx := b3F N) (by kernel_rfl) (g7 ⟨a4O _ (a6H N), trivial⟩ ⟨c8u _ (d2i N), trivial⟩) Tryz.func8 (by kernel_rfl) (by kernel_rfl) (lz (by kernel_rfl)) (by rfl) (by rfl) (by rfl) (rf := a8l) ((b7o ..).trans h) (fun rs' m h => by
 unfold a8l at h
 split at h
 . cases h; exact ⟨rfl, rfl⟩
 . cases h)
noncomputable def a2v {R : Type} (s : Int -> Option (Bool)) (ds : List D) (K : List D -> Option R) : Option R :=
 match ds with
 | [.v (.int .i64 a) .no] => d3 (s a) fun u => K [dB u]
 | _ => none
noncomputable def S2 (N : Nat) (a : Int) : Option (Bool) := br (decide (97 <= a2c GA a 8)) (br (decide (a2c GA a 8 <= 111)) (some true) (br (decide (144 <= a2c GA a 8)) (some (decide (a2c GA a 8 <= 159))) (some false))) (br (decide (144 <= a2c GA a 8)) (some (decide (a2c GA a 8 <= 159))) (some false))
noncomputable def b2Y (N : Nat) : Cx := cxO [] []
theorem b6W (N : Nat) (a : _) : g8 (b2Y N) Tryz.f17 [dI a] [] C4 = S2 N a := by
 kernel_rfl
abbrev b5r (s : Int -> Option (Bool)) : Prop := ∀ {a u}, s a = some u -> PRT 17 [dI a] [dB u]
theorem b1R (s : Int -> Option (Bool)) (hs : b5r s) : EO ⟨17, a2v s⟩ := by
 refine ⟨d6 Tryz.func17 (by kernel_rfl) (c := d5 Tryz.f17) (by kernel_rfl), fun R ds K r h => ?_, fun R ds K => ?_⟩
 . simp only [a2v] at h
   split at h
   . obtain ⟨u, h1, h2⟩ := j4 h
     exact ⟨_, h2, hs h1⟩
   . cases h
 . simp only [a2v]
   split
   . rw [I8]; rfl
   . rfl
theorem b6d (N : Nat) : b5r (S2 N) := fun {a u} h => q6 (cx := b2Y N) (by kernel_rfl) (g7 trivial trivial) Tryz.func17 (by kernel_rfl) (by kernel_rfl) (lz (by kernel_rfl)) (by rfl) (by rfl) (by rfl) (rf := C4) ((b6W ..).trans h) (fun rs' m h => by
 unfold C4 at h
 split at h
 . cases h; exact ⟨rfl, rfl⟩
 . cases h)
noncomputable def X9 {R : Type} (s : LB -> Int -> Option (LB × Int)) (ds : List D) (K : List D -> Option R) : Option R :=
 match ds with
 | [.agg [.v (.bytes a) .no, .v (.int .i64 y) .no]] => Q3 (s a y) fun u r1 => K [dY u, dI r1]
 | _ => none
noncomputable def J2 (N : Nat) (a : LB) (y : Int) : Option (LB × Int) := br (decide (65536 < (a.length : Int))) (some ([], 3)) (d3 (S2 N y) fun b0 => br (!b0) (some ([], 2)) (d3 (a4W N [V.bytes a, V.bytes [Gz (GI.wrap (a2c GA y 8)).toNat, Gz (GI.wrap y).toNat]]) fun l1 => some (l1, 0)))
noncomputable def c1d (N : Nat) : Cx := cxO [⟨17, a2v (S2 N)⟩, ⟨18, b0w (a4W N)⟩] []
theorem c2G (N : Nat) (a y : _) : g8 (c1d N) Tryz.f5 [.agg [dY a, dI y]] [] a0D = J2 N a y := by
 kernel_rfl
abbrev c5b (s : LB -> Int -> Option (LB × Int)) : Prop := ∀ {a y u r1}, s a y = some (u, r1) -> PRT 5 [.agg [dY a, dI y]] [dY u, dI r1]
theorem b1c (s : LB -> Int -> Option (LB × Int)) (hs : c5b s) : EO ⟨5, X9 s⟩ := by
 refine ⟨d6 Tryz.func5 (by kernel_rfl) (c := d5 Tryz.f5) (by kernel_rfl), fun R ds K r h => ?_, fun R ds K => ?_⟩
 . simp only [X9] at h
   split at h
   . obtain ⟨u, r1, h1, h2⟩ := O2 h
     exact ⟨_, h2, hs h1⟩
   . cases h
 . simp only [X9]
   split
   . rw [a6k]; rfl
   . rfl
theorem b7Y (N : Nat) : c5b (J2 N) := fun {a y u r1} h => q6 (cx := c1d N) (by kernel_rfl) (g7 ⟨b1R _ (b6d N), d0H _ (d2d N), trivial⟩ trivial) Tryz.func5 (by kernel_rfl) (by kernel_rfl) (lz (by kernel_rfl)) (by rfl) (by rfl) (by rfl) (rf := a0D) ((c2G ..).trans h) (fun rs' m h => by
 unfold a0D at h
 split at h
 . cases h; exact ⟨rfl, rfl⟩
 . cases h)
noncomputable def a5e {R : Type} (s : LB -> Option (LB × Int × Int)) (ds : List D) (K : List D -> Option R) : Option R :=
 match ds with
 | [.v (.bytes a) .no] => a3n (s a) fun u r1 r2 => K [.agg [dY u, dI r1], dI r2]
 | _ => none
noncomputable def b8a (rs : List D) (_ : Mem) : Option (LB × Int × Int) :=
 match rs with
 | [.agg [.v (.bytes u) _, .v (.int .i64 r1) _], .v (.int .i64 r2) _] => some (u, r1, r2)
 | _ => none
noncomputable def a1x (N : Nat) (a : LB) : Option (LB × Int × Int) := br (decide (GA.wrap ((a.length : Int) - 2) < 0)) (some ([], 0, 5)) (br (decide (65536 < GA.wrap ((a.length : Int) - 2))) (some ([], 0, 3)) (br (decide (0 <= GA.wrap ((a.length : Int) - 2)) && decide (GA.wrap ((a.length : Int) - 2) < (a.length : Int))) (at? a (GA.wrap ((a.length : Int) - 2)).toNat fun u0 => br (decide (0 <= GA.wrap (GA.wrap ((a.length : Int) - 2) + 1)) && decide (GA.wrap (GA.wrap ((a.length : Int) - 2) + 1) < (a.length : Int))) (at? a (GA.wrap (GA.wrap ((a.length : Int) - 2) + 1)).toNat fun u1 => d3 (S2 N (A7 IP GA (a4r GA (GA.wrap (u0.toNat : Int)) 8) (GA.wrap (u1.toNat : Int)))) fun b2 => br (!b2) (some ([], 0, 2)) (br (decide (0 <= GA.wrap ((a.length : Int) - 2)) && decide (GA.wrap ((a.length : Int) - 2) <= (a.length : Int))) (d3 (j5 N (Ig (GA.wrap ((a.length : Int) - 2)).toNat a)) fun l3 => some (l3, A7 IP GA (a4r GA (GA.wrap (u0.toNat : Int)) 8) (GA.wrap (u1.toNat : Int)), 0)) none)) none) none))
noncomputable def c2d (N : Nat) : Cx := cxO [⟨17, a2v (S2 N)⟩, ⟨29, E4 (j5 N)⟩] []
theorem c3q (N : Nat) (a : _) : g8 (c2d N) Tryz.f9 [dY a] [] b8a = a1x N a := by
 kernel_rfl
abbrev c4I (s : LB -> Option (LB × Int × Int)) : Prop := ∀ {a u r1 r2}, s a = some (u, r1, r2) -> PRT 9 [dY a] [.agg [dY u, dI r1], dI r2]
theorem c9G (s : LB -> Option (LB × Int × Int)) (hs : c4I s) : EO ⟨9, a5e s⟩ := by
 refine ⟨d6 Tryz.func9 (by kernel_rfl) (c := d5 Tryz.f9) (by kernel_rfl), fun R ds K r h => ?_, fun R ds K => ?_⟩
 . simp only [a5e] at h
   split at h
   . obtain ⟨u, r1, r2, h1, h2⟩ := a2i h
     exact ⟨_, h2, hs h1⟩
   . cases h
 . simp only [a5e]
   split
   . rw [c8B]; rfl
   . rfl
theorem d1a (N : Nat) : c4I (a1x N) := fun {a u r1 r2} h => q6 (cx := c2d N) (by kernel_rfl) (g7 ⟨b1R _ (b6d N), I2 _ (M7 N), trivial⟩ trivial) Tryz.func9 (by kernel_rfl) (by kernel_rfl) (lz (by kernel_rfl)) (by rfl) (by rfl) (by rfl) (rf := b8a) ((c3q ..).trans h) (fun rs' m h => by
 unfold b8a at h
 split at h
 . cases h; exact ⟨rfl, rfl⟩
 . cases h)
noncomputable def a6Q {R : Type} (s : Int -> Bool -> Bool -> Bool -> Option (Int × Int)) (ds : List D) (K : List D -> Option R) : Option R :=
 match ds with
 | [.agg [.v (.int .i64 a) .no, .v (.bool y) .no, .v (.bool z) .no, .v (.bool O) .no]] => Q3 (s a y z O) fun u r1 => K [dI u, dI r1]
 | _ => none
noncomputable def a1O (N : Nat) (a : Int) (y z O : Bool) : Option (Int × Int) := br (decide (a < 0)) (some (0, 2)) (br (decide (4 <= a)) (some (0, 2)) (br y (br z (br O (some (A7 IP GA (A7 IP GA (A7 IP GA a 4) 16) 128, 0)) (some (A7 IP GA (A7 IP GA a 4) 16, 0))) (br O (some (A7 IP GA (A7 IP GA a 4) 128, 0)) (some (A7 IP GA a 4, 0)))) (br z (br O (some (A7 IP GA (A7 IP GA a 16) 128, 0)) (some (A7 IP GA a 16, 0))) (br O (some (A7 IP GA a 128, 0)) (some (a, 0))))))
noncomputable def b8O (N : Nat) : Cx := cxO [] []
theorem c3s (N : Nat) (a y z O : _) : g8 (b8O N) Tryz.f85 [.agg [dI a, dB y, dB z, dB O]] [] a8S = a1O N a y z O := by
 kernel_rfl
abbrev c5k (s : Int -> Bool -> Bool -> Bool -> Option (Int × Int)) : Prop := ∀ {a y z O u r1}, s a y z O = some (u, r1) -> PRT 85 [.agg [dI a, dB y, dB z, dB O]] [dI u, dI r1]
theorem b9t (s : Int -> Bool -> Bool -> Bool -> Option (Int × Int)) (hs : c5k s) : EO ⟨85, a6Q s⟩ := by
 refine ⟨d6 Tryz.func85 (by kernel_rfl) (c := d5 Tryz.f85) (by kernel_rfl), fun R ds K r h => ?_, fun R ds K => ?_⟩
 . simp only [a6Q] at h
   split at h
   . obtain ⟨u, r1, h1, h2⟩ := O2 h
     exact ⟨_, h2, hs h1⟩
   . cases h
 . simp only [a6Q]
   split
   . rw [a6k]; rfl
   . rfl
theorem c5x (N : Nat) : c5k (a1O N) := fun {a y z O u r1} h => q6 (cx := b8O N) (by kernel_rfl) (g7 trivial trivial) Tryz.func85 (by kernel_rfl) (by kernel_rfl) (lz (by kernel_rfl)) (by rfl) (by rfl) (by rfl) (rf := a8S) ((c3s ..).trans h) (fun rs' m h => by
 unfold a8S at h
 split at h
 . cases h; exact ⟨rfl, rfl⟩
 . cases h)
noncomputable def a4c {R : Type} (s : Int -> Option (Int × Bool × Bool × Bool × Bool)) (ds : List D) (K : List D -> Option R) : Option R :=
 match ds with
 | [.v (.int .i64 a) .no] => T3 (s a) fun u r1 r2 r3 r4 => K [.agg [dI u, dB r1, dB r2, dB r3], dB r4]
 | _ => none
noncomputable def a2H (rs : List D) (_ : Mem) : Option (Int × Bool × Bool × Bool × Bool) :=
 match rs with
 | [.agg [.v (.int .i64 u) _, .v (.bool r1) _, .v (.bool r2) _, .v (.bool r3) _], .v (.bool r4) _] => some (u, r1, r2, r3, r4)
 | _ => none
noncomputable def L1 (N : Nat) (a : Int) : Option (Int × Bool × Bool × Bool × Bool) := br (decide (a < 0)) (some (0, false, false, false, false)) (br (decide (254 < a)) (some (0, false, false, false, false)) (Q3 (a1O N (A7 JB GA a 3) (!decide (A7 JB GA a 4 = 0)) (!decide (A7 JB GA a 16 = 0)) !decide (A7 JB GA a 128 = 0)) fun n0 n1 => br (!decide (n0 = a)) (some (0, false, false, false, false)) (some (A7 JB GA a 3, !decide (A7 JB GA a 4 = 0), !decide (A7 JB GA a 16 = 0), !decide (A7 JB GA a 128 = 0), true))))
noncomputable def b5e (N : Nat) : Cx := cxO [⟨85, a6Q (a1O N)⟩] []
theorem b9Z (N : Nat) (a : _) : g8 (b5e N) Tryz.f74 [dI a] [] a2H = L1 N a := by
 kernel_rfl
abbrev b9y (s : Int -> Option (Int × Bool × Bool × Bool × Bool)) : Prop := ∀ {a u r1 r2 r3 r4}, s a = some (u, r1, r2, r3, r4) -> PRT 74 [dI a] [.agg [dI u, dB r1, dB r2, dB r3], dB r4]
theorem b5i (s : Int -> Option (Int × Bool × Bool × Bool × Bool)) (hs : b9y s) : EO ⟨74, a4c s⟩ := by
 refine ⟨d6 Tryz.func74 (by kernel_rfl) (c := d5 Tryz.f74) (by kernel_rfl), fun R ds K r h => ?_, fun R ds K => ?_⟩
 . simp only [a4c] at h
   split at h
   . obtain ⟨u, r1, r2, r3, r4, h1, h2⟩ := O4 h
     exact ⟨_, h2, hs h1⟩
   . cases h
 . simp only [a4c]
   split
   . rw [c3X]; rfl
   . rfl
theorem c1t (N : Nat) : b9y (L1 N) := fun {a u r1 r2 r3 r4} h => q6 (cx := b5e N) (by kernel_rfl) (g7 ⟨b9t _ (c5x N), trivial⟩ trivial) Tryz.func74 (by kernel_rfl) (by kernel_rfl) (lz (by kernel_rfl)) (by rfl) (by rfl) (by rfl) (rf := a2H) ((b9Z ..).trans h) (fun rs' m h => by
 unfold a2H at h
 split at h
 . cases h; exact ⟨rfl, rfl⟩
 . cases h)
noncomputable def a0I {R : Type} (s : Int -> Option (Int × Bool × Bool × Bool × Bool)) (ds : List D) (K : List D -> Option R) : Option R :=
 match ds with
 | [.v (.int .i64 a) .no] => T3 (s a) fun u r1 r2 r3 r4 => K [.agg [dI u, dB r1, dB r2, dB r3], dB r4]
 | _ => none
noncomputable def M3 (N : Nat) (a : Int) : Option (Int × Bool × Bool × Bool × Bool) := br (decide (a < 0)) (some (0, false, false, false, false)) (br (decide (254 < a)) (some (0, false, false, false, false)) (br (decide ((GA.wrap (a.tdiv 64)).tmod 2 = 1)) (some (0, false, false, false, false)) (br (decide ((GA.wrap (a.tdiv 32)).tmod 2 = 1)) (some (0, false, false, false, false)) (br (decide ((GA.wrap (a.tdiv 8)).tmod 2 = 1)) (some (0, false, false, false, false)) (some (a.tmod 4, decide ((GA.wrap (a.tdiv 4)).tmod 2 = 1), decide ((GA.wrap (a.tdiv 16)).tmod 2 = 1), decide (GA.wrap (a.tdiv 128) = 1), true))))))
noncomputable def b0X (N : Nat) : Cx := cxO [] []
theorem b7v (N : Nat) (a : _) : g8 (b0X N) Tryz.f12 [dI a] [] a2H = M3 N a := by
 kernel_rfl
abbrev b5u (s : Int -> Option (Int × Bool × Bool × Bool × Bool)) : Prop := ∀ {a u r1 r2 r3 r4}, s a = some (u, r1, r2, r3, r4) -> PRT 12 [dI a] [.agg [dI u, dB r1, dB r2, dB r3], dB r4]
theorem c3E (s : Int -> Option (Int × Bool × Bool × Bool × Bool)) (hs : b5u s) : EO ⟨12, a0I s⟩ := by
 refine ⟨d6 Tryz.func12 (by kernel_rfl) (c := d5 Tryz.f12) (by kernel_rfl), fun R ds K r h => ?_, fun R ds K => ?_⟩
 . simp only [a0I] at h
   split at h
   . obtain ⟨u, r1, r2, r3, r4, h1, h2⟩ := O4 h
     exact ⟨_, h2, hs h1⟩
   . cases h
 . simp only [a0I]
   split
   . rw [c3X]; rfl
   . rfl
theorem c7E (N : Nat) : b5u (M3 N) := fun {a u r1 r2 r3 r4} h => q6 (cx := b0X N) (by kernel_rfl) (g7 trivial trivial) Tryz.func12 (by kernel_rfl) (by kernel_rfl) (lz (by kernel_rfl)) (by rfl) (by rfl) (by rfl) (rf := a2H) ((b7v ..).trans h) (fun rs' m h => by
 unfold a2H at h
 split at h
 . cases h; exact ⟨rfl, rfl⟩
 . cases h)
noncomputable def W3 {R : Type} (s : LB -> LB -> Option (Int)) (ds : List D) (K : List D -> Option R) : Option R :=
 match ds with
 | [.v (.bytes a) .no, .v (.bytes y) .no] => d3 (s a y) fun u => K [dI u]
 | _ => none
noncomputable def T6 {R : Type} (N : Nat) (l0 l1 : LB) (Lq : Int -> Option R) (K0 : Int -> Option R) (K1 : Option R) (n2 : Int) : Option R := br (decide (n2 < (l0.length : Int))) (br (decide (n2 < (l1.length : Int))) (br (decide (0 <= n2) && decide (n2 < (l0.length : Int))) (at? l0 n2.toNat fun u0 => br (decide (0 <= n2) && decide (n2 < (l1.length : Int))) (at? l1 n2.toNat fun u1 => br (decide ((u0.toNat : Int) < (u1.toNat : Int))) (K0 (-1)) (br (decide (0 <= n2) && decide (n2 < (l0.length : Int))) (at? l0 n2.toNat fun u2 => br (decide (0 <= n2) && decide (n2 < (l1.length : Int))) (at? l1 n2.toNat fun u3 => br (decide ((u3.toNat : Int) < (u2.toNat : Int))) (K0 1) (Lq (GA.wrap (n2 + 1)))) none) none)) none) none) K1) K1
noncomputable def K7 {R : Type} (N : Nat) (l0 l1 : LB) : Nat -> Int -> (Int -> Option R) -> (Option R) -> Option R | 0, _, _, _ => none | t + 1, n2, K0, K1 => T6 N l0 l1 (fun n2 => K7 N l0 l1 t n2 K0 K1) K0 K1 n2
noncomputable def a3g {R : Type} (N : Nat) (ds : List D) (m : Mem) (K : Ex -> List D -> Mem -> Option R) : Option R :=
 match ds, m with
 | [(.v (.bytes l0) .no), (.v (.bytes l1) .no), (.v (.int .i64 n2) .no)], [[]] => K7 N l0 l1 N n2 (fun a2 => K .ret [(.v (.bytes l0) .no), (.v (.bytes l1) .no), (.v (.int .i64 a2) .no)] [[]]) (K (.exit 0) [(.v (.bytes l0) .no), (.v (.bytes l1) .no), .any] [[]])
 | _, _ => none
noncomputable def G4 (N : Nat) (a y : LB) : Option (Int) := K7 N a y N 0 (fun n0 => some n0) (br (decide ((a.length : Int) < (y.length : Int))) (some (-1)) (br (decide ((y.length : Int) < (a.length : Int))) (some 1) (some 0)))
noncomputable def N4 (N : Nat) : Cx := { T := T, isPure := a5S [], pureK := fun g ds K => a2y [] g ds K, memK := fun g dst ds m K => Y9 [] g dst ds m K, meth := a3N [], keep := fun r => match r with | 2 => [0, 1, 5] | _ => [], keepX := fun r => match r with | 2 => [0, 1, 4] | _ => [], loopT := fun r ds m K => match r with | 2 => a3g N ds m K | _ => none, jumps := 9 }
theorem b0j {R : Type} (N : Nat) (l0 l1 : LB) (n2 : Int) (L : List D -> Mem -> Option R) (K : Ex -> List D -> Mem -> Option R) :
 a0k (fun st K => codeK (N4 N) (G1 Tryz.f19 0) st K) 46 [0, 1, 5] [0, 1, 4] L [(dY l0), (dY l1), (dI n2)] [[]] K = T6 N l0 l1 (fun n2 => L [(dY l0), (dY l1), (dI n2)] [[]]) (fun a2 => K .ret [(dY l0), (dY l1), (dI a2)] [[]]) (K (.exit 0) [(dY l0), (dY l1), .any] [[]]) n2 := by
 kernel_rfl
theorem a3K {R : Type} (N : Nat) (l0 l1 : LB) (K : Ex -> List D -> Mem -> Option R) : ∀ (t : Nat) (n2 : Int),
 a0T (fun st K => codeK (N4 N) (G1 Tryz.f19 0) st K) 46 [0, 1, 5] [0, 1, 4] t [(dY l0), (dY l1), (dI n2)] [[]] K = K7 N l0 l1 t n2 (fun a2 => K .ret [(dY l0), (dY l1), (dI a2)] [[]]) (K (.exit 0) [(dY l0), (dY l1), .any] [[]])
 | 0, n2 => rfl
 | t + 1, n2 => (b0j N l0 l1 n2 _ K).trans (congrArg (fun L => T6 N l0 l1 L (fun a2 => K .ret [(dY l0), (dY l1), (dI a2)] [[]]) (K (.exit 0) [(dY l0), (dY l1), .any] [[]]) n2) (funext fun n2 => a3K N l0 l1 K t n2))
theorem b4e (N : Nat) (a y : _) : g8 (N4 N) Tryz.f19 [dY a, dY y] [] E0 = G4 N a y := by
 kernel_rfl
abbrev b1B (s : LB -> LB -> Option (Int)) : Prop := ∀ {a y u}, s a y = some u -> PRT 19 [dY a, dY y] [dI u]
theorem a4n (s : LB -> LB -> Option (Int)) (hs : b1B s) : EO ⟨19, W3 s⟩ := by
 refine ⟨d6 Tryz.func19 (by kernel_rfl) (c := d5 Tryz.f19) (by kernel_rfl), fun R ds K r h => ?_, fun R ds K => ?_⟩
 . simp only [W3] at h
   split at h
   . obtain ⟨u, h1, h2⟩ := j4 h
     exact ⟨_, h2, hs h1⟩
   . cases h
 . simp only [W3]
   split
   . rw [I8]; rfl
   . rfl
theorem b9x (N : Nat) : CxOK Tryz.prog (N4 N) :=
 L2 (es := []) (me := []) (ms := []) a6l trivial trivial trivial rfl (fun _ _ _ _ => rfl) (fun _ _ _ _ _ _ => rfl) rfl
theorem b4a (N : Nat) : V4 (N4 N) 46 (G1 Tryz.f19 0) := by
 refine M0 (rid := 2) (by kernel_rfl) rfl rfl fun R ds m K r h => ?_
 have h : a3g N ds m K = some r := h
 unfold a3g at h
 split at h
 . exact ⟨N, Eq.trans (a3K ..) h⟩
 . cases h
theorem b9O (N : Nat) : v8 (N4 N) Tryz.f19.ntmps (d5 Tryz.f19) :=
 C1 (k := 1) (by kernel_rfl) ⟨trivial, b4a N⟩
theorem a6p (N : Nat) : b1B (G4 N) := fun {a y u} h => q6 (cx := N4 N) (by kernel_rfl) (b9x N) Tryz.func19 (by kernel_rfl) (by kernel_rfl) (b9O N) (by rfl) (by rfl) (by rfl) (rf := E0) ((b4e ..).trans h) (fun rs' m h => by
 unfold E0 at h
 split at h
 . cases h; exact ⟨rfl, rfl⟩
 . cases h)
end En
end Go.Proofs.YtfafflepalgcnaaGreat
