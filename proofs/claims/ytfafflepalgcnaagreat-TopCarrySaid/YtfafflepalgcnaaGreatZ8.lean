/- Texts. -/
import Derived.Test.YtfafflepalgcnaaGreatZ7
import Derived.Carry
import Derived.Laws.EntriesVeiled
import Derived.MapKept
set_option linter.unusedSimpArgs false
set_option linter.unusedVariables false
set_option linter.unusedSectionVars false
open And renaming intro → GN
open BitVec renaming ofInt → HH
open Bool renaming false_eq_true → GZ
open Go renaming World → GG, cell_of_row → HY, frozen_of_row → JQ, bodyPost_ret → Hj, heap_setCell_other → KQ, heap_setCell_same → Jr
open Go.BinOp renaming or → IP, and → JB
open Go.IntKind renaming i64 → GA, u8 → GI
open Go.MapKept renaming IsKey → JP, heap_alloc → IW, heap_set → Li
open Int renaming emod_nonneg → MV, eq_ofNat_of_zero_le → IQ, toNat_natCast → Im, toNat → GX
open List renaming take → Ig, length_pos_iff → HA, length_nil → KA, length_append → GW, length_cons → Hu, append_assoc → Ic, nil_append → IJ, append_nil → KB, singleton_append → JE, cons_append → IV, drop_succ_cons → Jv, drop_zero → JG, take_succ_cons → LR, take_zero → Nl
open Nat renaming beq → GR, eq_of_beq_eq_true → GE, shiftLeft_eq → Mz, mod_eq_of_lt → Ii, le_refl → GB, zero_le → Hl
open UInt8 renaming ofNat → Gz, toNat_ofNat' → Iy
namespace Go.Proofs.YtfafflepalgcnaaGreat
namespace En
open Go Go.Proofs
set_option maxRecDepth 100000
set_option maxHeartbeats 8000000
abbrev d1h := Int -> b0k (Option (LB × Bool × Int × Int × Int × Int × Int × Int × Bool × Bool × Bool × LB × Int))
noncomputable def a3u {R : Type} (s : d1h) (dst : Nat) (ds : List D) (m : Mem) (K : List D -> Mem -> Option R) : Option R :=
 match ds with
 | [.ptr (Ac + 1) Ab 0, .v (.int .u8 a) .no] => u9 [(Ac, Ab)] m fun Bs => (match Bs with
   | [⟨99, [.v (.bool b) .no, .v (.int .i64 f) .no, .v (.int .i64 i) .no, .v (.int .i64 d) .no, .v (.int .i64 l) .no, .v (.bytes n) .no, .v (.int .i64 e) .no, .v (.bool p) .no, .v (.bool j) .no, .fn o [79, 87, 93] 0 Au, .v (.int .i64 q) .no, .v (.int .i64 w) .no, .v (.int .i64 Aa) .no, .v (.int .i64 x) .no, .v (.int .i64 S) .no, .v (.bool U) .no, .v (.bool yg) .no, .v (.int .i64 Z) .no, .v (.int .u8 yi) .no, .v (.bytes yj) (.own (.slot 0) 5), .v (.bool yk) .no, .v (.bytes yl) .no, .v (.int .i64 ym) .no, .v (.bool yn) .no]⟩] => cond (GR Ab Au) (a9r (s a b f i d l n e p j o q w Aa x S U yg Z yi yj yk yl ym yn) fun u z8 z9 za zb zc zd ze zf zg zk zl zm => j3 [(Ac, Ab)] [g6a b f i d l n e p z8 z9 Ab za zb zc zd ze zf zg Z yi yj zk zl zm yn] m fun m' => K [dY u] m') none
   | _ => none)
 | _ => none
noncomputable def a2Z {R : Type} (N : Nat) (a : Int) (b : Bool) (f i d l : Int) (n : LB) (e : Int) (p j : Bool) (o q w Aa x S : Int) (U yg : Bool) (Z yi : Int) (yj : LB) (yk : Bool) (yl : LB) (ym : Int) (yn : Bool) (K0 : LB -> Bool -> Int -> Int -> Int -> Int -> Int -> Int -> Bool -> Bool -> Bool -> LB -> Int -> Option R) : Option R := br (decide (yi = 97)) (T3 (L1 N f) fun n0 b1 b2 b3 b4 => br b4 (Q3 (a1O N n0 false false false) fun n5 n6 => H9 (M1 N n5 192 0 0 (GA.wrap a) b f i d l n e p j o q w Aa x S U true Z yi yj yk yl ym yn) fun l7 n8 n9 na nb nc nd BH => K0 l7 j n8 n9 na nb nc nd BH true yk yl ym) (H9 (M1 N 0 192 0 0 (GA.wrap a) b f i d l n e p j o q w Aa x S U true Z yi yj yk yl ym yn) fun lf ng nh ni nj nk nl bm => K0 lf j ng nh ni nj nk nl bm true yk yl ym)) (T3 (L1 N f) fun nn bo bp bq Ah => br Ah (br bo (br (decide ((yj.length : Int) = (yj.length : Int))) (br (decide ((yj.length : Int) <= (yj.length : Int))) (K0 [] false o q w Aa x S U yg true (Ig (yj.length : Int).toNat yj) (A7 IP GA (a4r GA (GA.wrap yi) 8) (GA.wrap a))) none) none) (br (decide ((match false with | true => max (yj.length : Int) e | false => min (yj.length : Int) e) = match false with | true => max (yj.length : Int) e | false => min (yj.length : Int) e)) (br (decide (0 <= match false with | true => max (yj.length : Int) e | false => min (yj.length : Int) e) && decide ((match false with | true => max (yj.length : Int) e | false => min (yj.length : Int) e) <= (yj.length : Int))) (K0 [] false o q w Aa x S U yg true (Ig (match false with | true => max (yj.length : Int) e | false => min (yj.length : Int) e).toNat yj) (A7 IP GA (a4r GA (GA.wrap yi) 8) (GA.wrap a))) none) none)) (br (decide ((match false with | true => max (yj.length : Int) e | false => min (yj.length : Int) e) = match false with | true => max (yj.length : Int) e | false => min (yj.length : Int) e)) (br (decide (0 <= match false with | true => max (yj.length : Int) e | false => min (yj.length : Int) e) && decide ((match false with | true => max (yj.length : Int) e | false => min (yj.length : Int) e) <= (yj.length : Int))) (K0 [] false o q w Aa x S U yg true (Ig (match false with | true => max (yj.length : Int) e | false => min (yj.length : Int) e).toNat yj) (A7 IP GA (a4r GA (GA.wrap yi) 8) (GA.wrap a))) none) none))
noncomputable def W8 (N : Nat) : d1h := fun a b f i d l n e p j o q w Aa x S U yg Z yi yj yk yl ym yn => a2Z N a b f i d l n e p j o q w Aa x S U yg Z yi yj yk yl ym yn (fun u z8 z9 za zb zc zd ze zf zg zk zl zm => some (u, z8, z9, za, zb, zc, zd, ze, zf, zg, zk, zl, zm))
noncomputable def a9J (N : Nat) : Cx := cxO [⟨74, a4c (L1 N)⟩, ⟨85, a6Q (a1O N)⟩] [⟨60, a4R (M1 N)⟩]
theorem b4v {R : Type} (N : Nat) (a b f i d l n e p j o q w Aa x S U yg Z yi yj yk yl ym yn K : _) : g8 (R := R) (a9J N) Tryz.f87 [.ptr 1 0 0, .v (.int .u8 a) .no] [C0 0 [g6a b f i d l n e p j o 0 q w Aa x S U yg Z yi yj yk yl ym yn]] (A8 K) = a2Z N a b f i d l n e p j o q w Aa x S U yg Z yi yj yk yl ym yn (fun u z8 z9 za zb zc zd ze zf zg zk zl zm => K u b f i d l n e p z8 z9 za zb zc zd ze zf zg Z yi yj zk zl zm yn) := by
 kernel_rfl
abbrev b1S (s : d1h) : Prop := ∀ {a b f i d l n e p j o q w Aa x S U yg Z yi yj yk yl ym yn u z8 z9 za zb zc zd ze zf zg zk zl zm}, s a b f i d l n e p j o q w Aa x S U yg Z yi yj yk yl ym yn = some (u, z8, z9, za, zb, zc, zd, ze, zf, zg, zk, zl, zm) -> VR2 87 [.ptr 1 0 0, .v (.int .u8 a) .no] [g6a b f i d l n e p j o 0 q w Aa x S U yg Z yi yj yk yl ym yn] [dY u] [g6a b f i d l n e p z8 z9 0 za zb zc zd ze zf zg Z yi yj zk zl zm yn]
theorem c1i (s : d1h) (hs : b1S s) : MEO ⟨87, a3u s⟩ := by
 refine ⟨d6 Tryz.func87 (by kernel_rfl) (c := d5 Tryz.f87) (by kernel_rfl), fun R dst ds m K r h => ?_⟩
 simp only [a3u] at h
 split at h
 . obtain ⟨Bs, a1, a2, a3, h⟩ := g4 h
   split at h
   . rcases g5 h with ⟨hc, hk⟩ | ⟨_, hk⟩
     . have hc := GE hc
       subst hc
       obtain ⟨u, z8, z9, za, zb, zc, zd, ze, zf, zg, zk, zl, zm, h1, h2⟩ := b2d hk
       rw [d9] at h2
       exact ⟨_, _, h2, hs h1 _ _ m dst _ _ a1 a2 a3 rfl rfl ⟨g6 _ rfl, d7 _, trivial⟩ (j6 (m8 rfl (by repeat (first | exact trivial | refine ⟨by first | exact .inl ⟨rfl, rfl⟩ | exact .inr ⟨_, _, rfl, rfl⟩, ?_⟩)))) (j6 (m8 rfl (by repeat (first | exact trivial | refine ⟨by first | exact .inl ⟨rfl, rfl⟩ | exact .inr ⟨_, _, rfl, rfl⟩, ?_⟩))))⟩
     . cases hk
   . cases h
 . cases h
open Classical in
theorem c3e (N : Nat) : b1S (W8 N) := fun {a b f i d l n e p j o q w Aa x S U yg Z yi yj yk yl ym yn u z8 z9 za zb zc zd ze zf zg zk zl zm} h => by
 refine E6 (cx := a9J N) (by kernel_rfl) (g7 ⟨b5i _ (c1t N), b9t _ (c5x N), trivial⟩ ⟨b2w _ (b5Z N), trivial⟩) Tryz.func87 (by kernel_rfl) (by kernel_rfl) (lz (by kernel_rfl)) (by rfl) (rf := A8 (fun Ae Z0 Z1 Z2 Z3 Z4 Z5 Z6 Z7 Z8 Z9 Za Zb Zc Zd Ze Zf Zg Zh Zi Zj Zk Zl Zm Zn => if Z0 = b /\ Z1 = f /\ Z2 = i /\ Z3 = d /\ Z4 = l /\ Z5 = n /\ Z6 = e /\ Z7 = p /\ Zh = Z /\ Zi = yi /\ Zj = yj /\ Zn = yn then some (Ae, Z8, Z9, Za, Zb, Zc, Zd, Ze, Zf, Zg, Zk, Zl, Zm) else none)) (r := (u, z8, z9, za, zb, zc, zd, ze, zf, zg, zk, zl, zm)) ?_ ?_
 . exact (b4v ..).trans ((congrArg (a2Z N a b f i d l n e p j o q w Aa x S U yg Z yi yj yk yl ym yn) (by funext; exact if_pos (by simp))).trans h)
 . intro rs' m' hx
   unfold A8 at hx
   split at hx
   . dsimp only at hx
     split at hx
     . rename_i hk
       obtain ⟨rfl, rfl, rfl, rfl, rfl, rfl, rfl, rfl, rfl, rfl, rfl, rfl⟩ := hk
       cases hx; exact ⟨rfl, rfl, _, rfl⟩
     . cases hx
   . cases hx
abbrev d3d := Int -> b0k (Option (LB × Int × Int × LB))
noncomputable def a5p {R : Type} (s : d3d) (dst : Nat) (ds : List D) (m : Mem) (K : List D -> Mem -> Option R) : Option R :=
 match ds with
 | [.ptr (Ac + 1) Ab 0, .v (.int .u8 a) .no] => u9 [(Ac, Ab)] m fun Bs => (match Bs with
   | [⟨99, [.v (.bool b) .no, .v (.int .i64 f) .no, .v (.int .i64 i) .no, .v (.int .i64 d) .no, .v (.int .i64 l) .no, .v (.bytes n) .no, .v (.int .i64 e) .no, .v (.bool p) .no, .v (.bool j) .no, .fn o [79, 87, 93] 0 Au, .v (.int .i64 q) .no, .v (.int .i64 w) .no, .v (.int .i64 Aa) .no, .v (.int .i64 x) .no, .v (.int .i64 S) .no, .v (.bool U) .no, .v (.bool yg) .no, .v (.int .i64 Z) .no, .v (.int .u8 yi) .no, .v (.bytes yj) (.own (.slot 0) 5), .v (.bool yk) .no, .v (.bytes yl) .no, .v (.int .i64 ym) .no, .v (.bool yn) .no]⟩] => cond (GR Ab Au) (M8 (s a b f i d l n e p j o q w Aa x S U yg Z yi yj yk yl ym yn) fun u z9 zh zj => j3 [(Ac, Ab)] [g6a b f i d l n e p j z9 Ab q w Aa x S U yg zh yi zj yk yl ym yn] m fun m' => K [dY u] m') none
   | _ => none)
 | _ => none
noncomputable def a5j {R : Type} (N : Nat) (a : Int) (b : Bool) (f i d l : Int) (n : LB) (e : Int) (p j : Bool) (o q w Aa x S : Int) (U yg : Bool) (Z yi : Int) (yj : LB) (yk : Bool) (yl : LB) (ym : Int) (yn : Bool) (K0 : LB -> Int -> Int -> LB -> Option R) : Option R := br (decide ((yj.length + [Gz a.toNat].length) * 1 <= 140737488355328)) (br (decide (GA.wrap (Z - 1) = 0)) (K0 [] 1 (GA.wrap (Z - 1)) (yj ++ [Gz a.toNat])) (K0 [] o (GA.wrap (Z - 1)) (yj ++ [Gz a.toNat]))) none
noncomputable def a0E (N : Nat) : d3d := fun a b f i d l n e p j o q w Aa x S U yg Z yi yj yk yl ym yn => a5j N a b f i d l n e p j o q w Aa x S U yg Z yi yj yk yl ym yn (fun u z9 zh zj => some (u, z9, zh, zj))
noncomputable def b1G (N : Nat) : Cx := cxO [] []
theorem b7h {R : Type} (N : Nat) (a b f i d l n e p j o q w Aa x S U yg Z yi yj yk yl ym yn K : _) : g8 (R := R) (b1G N) Tryz.f93 [.ptr 1 0 0, .v (.int .u8 a) .no] [C0 0 [g6a b f i d l n e p j o 0 q w Aa x S U yg Z yi yj yk yl ym yn]] (A8 K) = a5j N a b f i d l n e p j o q w Aa x S U yg Z yi yj yk yl ym yn (fun u z9 zh zj => K u b f i d l n e p j z9 q w Aa x S U yg zh yi zj yk yl ym yn) := by
 kernel_rfl
abbrev b5C (s : d3d) : Prop := ∀ {a b f i d l n e p j o q w Aa x S U yg Z yi yj yk yl ym yn u z9 zh zj}, s a b f i d l n e p j o q w Aa x S U yg Z yi yj yk yl ym yn = some (u, z9, zh, zj) -> VR2 93 [.ptr 1 0 0, .v (.int .u8 a) .no] [g6a b f i d l n e p j o 0 q w Aa x S U yg Z yi yj yk yl ym yn] [dY u] [g6a b f i d l n e p j z9 0 q w Aa x S U yg zh yi zj yk yl ym yn]
theorem c4i (s : d3d) (hs : b5C s) : MEO ⟨93, a5p s⟩ := by
 refine ⟨d6 Tryz.func93 (by kernel_rfl) (c := d5 Tryz.f93) (by kernel_rfl), fun R dst ds m K r h => ?_⟩
 simp only [a5p] at h
 split at h
 . obtain ⟨Bs, a1, a2, a3, h⟩ := g4 h
   split at h
   . rcases g5 h with ⟨hc, hk⟩ | ⟨_, hk⟩
     . have hc := GE hc
       subst hc
       obtain ⟨u, z9, zh, zj, h1, h2⟩ := a0F hk
       rw [d9] at h2
       exact ⟨_, _, h2, hs h1 _ _ m dst _ _ a1 a2 a3 rfl rfl ⟨g6 _ rfl, d7 _, trivial⟩ (j6 (m8 rfl (by repeat (first | exact trivial | refine ⟨by first | exact .inl ⟨rfl, rfl⟩ | exact .inr ⟨_, _, rfl, rfl⟩, ?_⟩)))) (j6 (m8 rfl (by repeat (first | exact trivial | refine ⟨by first | exact .inl ⟨rfl, rfl⟩ | exact .inr ⟨_, _, rfl, rfl⟩, ?_⟩))))⟩
     . cases hk
   . cases h
 . cases h
open Classical in
theorem c7I (N : Nat) : b5C (a0E N) := fun {a b f i d l n e p j o q w Aa x S U yg Z yi yj yk yl ym yn u z9 zh zj} h => by
 refine E6 (cx := b1G N) (by kernel_rfl) (g7 trivial trivial) Tryz.func93 (by kernel_rfl) (by kernel_rfl) (lz (by kernel_rfl)) (by rfl) (rf := A8 (fun Ae Z0 Z1 Z2 Z3 Z4 Z5 Z6 Z7 Z8 Z9 Za Zb Zc Zd Ze Zf Zg Zh Zi Zj Zk Zl Zm Zn => if Z0 = b /\ Z1 = f /\ Z2 = i /\ Z3 = d /\ Z4 = l /\ Z5 = n /\ Z6 = e /\ Z7 = p /\ Z8 = j /\ Za = q /\ Zb = w /\ Zc = Aa /\ Zd = x /\ Ze = S /\ Zf = U /\ Zg = yg /\ Zi = yi /\ Zk = yk /\ Zl = yl /\ Zm = ym /\ Zn = yn then some (Ae, Z9, Zh, Zj) else none)) (r := (u, z9, zh, zj)) ?_ ?_
 . exact (b7h ..).trans ((congrArg (a5j N a b f i d l n e p j o q w Aa x S U yg Z yi yj yk yl ym yn) (by funext; exact if_pos (by simp))).trans h)
 . intro rs' m' hx
   unfold A8 at hx
   split at hx
   . dsimp only at hx
     split at hx
     . rename_i hk
       obtain ⟨rfl, rfl, rfl, rfl, rfl, rfl, rfl, rfl, rfl, rfl, rfl, rfl, rfl, rfl, rfl, rfl, rfl, rfl, rfl, rfl, rfl⟩ := hk
       cases hx; exact ⟨rfl, rfl, _, rfl⟩
     . cases hx
   . cases hx
abbrev d2Z := Int -> b0k (Option (LB × Bool × Int × Bool × Int × Int × Bool))
noncomputable def a6x {R : Type} (s : d2Z) (dst : Nat) (ds : List D) (m : Mem) (K : List D -> Mem -> Option R) : Option R :=
 match ds with
 | [.ptr (Ac + 1) Ab 0, .v (.int .u8 a) .no] => u9 [(Ac, Ab)] m fun Bs => (match Bs with
   | [⟨99, [.v (.bool b) .no, .v (.int .i64 f) .no, .v (.int .i64 i) .no, .v (.int .i64 d) .no, .v (.int .i64 l) .no, .v (.bytes n) .no, .v (.int .i64 e) .no, .v (.bool p) .no, .v (.bool j) .no, .fn o [79, 87, 93] 0 Au, .v (.int .i64 q) .no, .v (.int .i64 w) .no, .v (.int .i64 Aa) .no, .v (.int .i64 x) .no, .v (.int .i64 S) .no, .v (.bool U) .no, .v (.bool yg) .no, .v (.int .i64 Z) .no, .v (.int .u8 yi) .no, .v (.bytes yj) (.own (.slot 0) 5), .v (.bool yk) .no, .v (.bytes yl) .no, .v (.int .i64 ym) .no, .v (.bool yn) .no]⟩] => cond (GR Ab Au) (c7B (s a b f i d l n e p j o q w Aa x S U yg Z yi yj yk yl ym yn) fun u z8 z9 zf zh zi zn => j3 [(Ac, Ab)] [g6a b f i d l n e p z8 z9 Ab q w Aa x S zf yg zh zi yj yk yl ym zn] m fun m' => K [dY u] m') none
   | _ => none)
 | _ => none
noncomputable def a6v {R : Type} (N : Nat) (a : Int) (b : Bool) (f i d l : Int) (n : LB) (e : Int) (p j : Bool) (o q w Aa x S : Int) (U yg : Bool) (Z yi : Int) (yj : LB) (yk : Bool) (yl : LB) (ym : Int) (yn : Bool) (K0 : LB -> Bool -> Int -> Bool -> Int -> Int -> Bool -> Option R) : Option R := br (decide (97 <= a)) (br (decide (a <= 111)) (br (decide (a = 96)) (K0 [] j o U Z yi yn) (br (decide (GA.wrap a = w)) (br U (M8 (a0w N b f i d l n e p j o q w Aa x S U yg Z yi yj yk yl ym yn) fun l0 n1 b2 n3 => K0 l0 j n1 b2 n3 yi yn) (K0 [] j 2 U Z a yn)) (K0 [] j 2 U Z a yn))) (br (decide (144 <= a)) (br (decide (a = 96)) (K0 [] j o U Z yi yn) (br (decide (GA.wrap a = w)) (br U (M8 (a0w N b f i d l n e p j o q w Aa x S U yg Z yi yj yk yl ym yn) fun l4 n5 b6 n7 => K0 l4 j n5 b6 n7 yi yn) (br (decide (a <= 159)) (K0 [] j 2 U Z a yn) (K0 [] false o U Z yi true))) (br (decide (a <= 159)) (K0 [] j 2 U Z a yn) (K0 [] false o U Z yi true)))) (br (decide (a = 96)) (K0 [] j o U Z yi yn) (br (decide (GA.wrap a = w)) (br U (M8 (a0w N b f i d l n e p j o q w Aa x S U yg Z yi yj yk yl ym yn) fun l8 n9 BJ nb => K0 l8 j n9 BJ nb yi yn) (K0 [] false o U Z yi true)) (K0 [] false o U Z yi true))))) (br (decide (144 <= a)) (br (decide (a = 96)) (K0 [] j o U Z yi yn) (br (decide (GA.wrap a = w)) (br U (M8 (a0w N b f i d l n e p j o q w Aa x S U yg Z yi yj yk yl ym yn) fun Ag nd BH nf => K0 Ag j nd BH nf yi yn) (br (decide (a <= 159)) (K0 [] j 2 U Z a yn) (K0 [] false o U Z yi true))) (br (decide (a <= 159)) (K0 [] j 2 U Z a yn) (K0 [] false o U Z yi true)))) (br (decide (a = 96)) (K0 [] j o U Z yi yn) (br (decide (GA.wrap a = w)) (br U (M8 (a0w N b f i d l n e p j o q w Aa x S U yg Z yi yj yk yl ym yn) fun Ap nh AF nj => K0 Ap j nh AF nj yi yn) (K0 [] false o U Z yi true)) (K0 [] false o U Z yi true))))
noncomputable def a2o (N : Nat) : d2Z := fun a b f i d l n e p j o q w Aa x S U yg Z yi yj yk yl ym yn => a6v N a b f i d l n e p j o q w Aa x S U yg Z yi yj yk yl ym yn (fun u z8 z9 zf zh zi zn => some (u, z8, z9, zf, zh, zi, zn))
noncomputable def b5K (N : Nat) : Cx := cxO [] [⟨86, b7X (a0w N)⟩]
theorem b9G {R : Type} (N : Nat) (a b f i d l n e p j o q w Aa x S U yg Z yi yj yk yl ym yn K : _) : g8 (R := R) (b5K N) Tryz.f79 [.ptr 1 0 0, .v (.int .u8 a) .no] [C0 0 [g6a b f i d l n e p j o 0 q w Aa x S U yg Z yi yj yk yl ym yn]] (A8 K) = a6v N a b f i d l n e p j o q w Aa x S U yg Z yi yj yk yl ym yn (fun u z8 z9 zf zh zi zn => K u b f i d l n e p z8 z9 q w Aa x S zf yg zh zi yj yk yl ym zn) := by
 kernel_rfl
abbrev c1E (s : d2Z) : Prop := ∀ {a b f i d l n e p j o q w Aa x S U yg Z yi yj yk yl ym yn u z8 z9 zf zh zi zn}, s a b f i d l n e p j o q w Aa x S U yg Z yi yj yk yl ym yn = some (u, z8, z9, zf, zh, zi, zn) -> VR2 79 [.ptr 1 0 0, .v (.int .u8 a) .no] [g6a b f i d l n e p j o 0 q w Aa x S U yg Z yi yj yk yl ym yn] [dY u] [g6a b f i d l n e p z8 z9 0 q w Aa x S zf yg zh zi yj yk yl ym zn]
theorem c6L (s : d2Z) (hs : c1E s) : MEO ⟨79, a6x s⟩ := by
 refine ⟨d6 Tryz.func79 (by kernel_rfl) (c := d5 Tryz.f79) (by kernel_rfl), fun R dst ds m K r h => ?_⟩
 simp only [a6x] at h
 split at h
 . obtain ⟨Bs, a1, a2, a3, h⟩ := g4 h
   split at h
   . rcases g5 h with ⟨hc, hk⟩ | ⟨_, hk⟩
     . have hc := GE hc
       subst hc
       obtain ⟨u, z8, z9, zf, zh, zi, zn, h1, h2⟩ := b5q hk
       rw [d9] at h2
       exact ⟨_, _, h2, hs h1 _ _ m dst _ _ a1 a2 a3 rfl rfl ⟨g6 _ rfl, d7 _, trivial⟩ (j6 (m8 rfl (by repeat (first | exact trivial | refine ⟨by first | exact .inl ⟨rfl, rfl⟩ | exact .inr ⟨_, _, rfl, rfl⟩, ?_⟩)))) (j6 (m8 rfl (by repeat (first | exact trivial | refine ⟨by first | exact .inl ⟨rfl, rfl⟩ | exact .inr ⟨_, _, rfl, rfl⟩, ?_⟩))))⟩
     . cases hk
   . cases h
 . cases h
open Classical in
theorem d0w (N : Nat) : c1E (a2o N) := fun {a b f i d l n e p j o q w Aa x S U yg Z yi yj yk yl ym yn u z8 z9 zf zh zi zn} h => by
 refine E6 (cx := b5K N) (by kernel_rfl) (g7 trivial ⟨d0f _ (d2Y N), trivial⟩) Tryz.func79 (by kernel_rfl) (by kernel_rfl) (lz (by kernel_rfl)) (by rfl) (rf := A8 (fun Ae Z0 Z1 Z2 Z3 Z4 Z5 Z6 Z7 Z8 Z9 Za Zb Zc Zd Ze Zf Zg Zh Zi Zj Zk Zl Zm Zn => if Z0 = b /\ Z1 = f /\ Z2 = i /\ Z3 = d /\ Z4 = l /\ Z5 = n /\ Z6 = e /\ Z7 = p /\ Za = q /\ Zb = w /\ Zc = Aa /\ Zd = x /\ Ze = S /\ Zg = yg /\ Zj = yj /\ Zk = yk /\ Zl = yl /\ Zm = ym then some (Ae, Z8, Z9, Zf, Zh, Zi, Zn) else none)) (r := (u, z8, z9, zf, zh, zi, zn)) ?_ ?_
 . exact (b9G ..).trans ((congrArg (a6v N a b f i d l n e p j o q w Aa x S U yg Z yi yj yk yl ym yn) (by funext; exact if_pos (by simp))).trans h)
 . intro rs' m' hx
   unfold A8 at hx
   split at hx
   . dsimp only at hx
     split at hx
     . rename_i hk
       obtain ⟨rfl, rfl, rfl, rfl, rfl, rfl, rfl, rfl, rfl, rfl, rfl, rfl, rfl, rfl, rfl, rfl, rfl, rfl⟩ := hk
       cases hx; exact ⟨rfl, rfl, _, rfl⟩
     . cases hx
   . cases hx
abbrev d1B := a0a (b0k (Option (LB × Int × Bool × Int × Int × Int × Int × LB × Int × Bool × Bool × Int × Int × Int × Int × Int × Int × Bool × Bool × Int × Int × LB × Bool × LB × Int × Bool)))
noncomputable def a7l {R : Type} (s : d1B) (dst : Nat) (ds : List D) (m : Mem) (K : List D -> Mem -> Option R) : Option R :=
 match ds with
 | [.ptr (Ac + 1) Ab 0, .agg [.v (.int .i64 a) .no, .v (.int .i64 y) .no, .v (.int .i64 z) .no, .v (.int .i64 O) .no, .v (.bytes x4) .no, .v (.int .i64 x5) .no, .v (.bool x6) .no]] => u9 [(Ac, Ab)] m fun Bs => (match Bs with
   | [⟨99, [.v (.bool b) .no, .v (.int .i64 f) .no, .v (.int .i64 i) .no, .v (.int .i64 d) .no, .v (.int .i64 l) .no, .v (.bytes n) .no, .v (.int .i64 e) .no, .v (.bool p) .no, .v (.bool j) .no, .fn o [79, 87, 93] 0 Au, .v (.int .i64 q) .no, .v (.int .i64 w) .no, .v (.int .i64 Aa) .no, .v (.int .i64 x) .no, .v (.int .i64 S) .no, .v (.bool U) .no, .v (.bool yg) .no, .v (.int .i64 Z) .no, .v (.int .u8 yi) .no, .v (.bytes yj) (.own (.slot 0) 5), .v (.bool yk) .no, .v (.bytes yl) .no, .v (.int .i64 ym) .no, .v (.bool yn) .no]⟩] => cond (GR Ab Au) (c1k (s a y z O x4 x5 x6 b f i d l n e p j o q w Aa x S U yg Z yi yj yk yl ym yn) fun u r1 z0 z1 z2 z3 z4 z5 z6 z7 z8 z9 za zb zc zd ze zf zg zh zi zj zk zl zm zn => j3 [(Ac, Ab)] [g6a z0 z1 z2 z3 z4 z5 z6 z7 z8 z9 Ab za zb zc zd ze zf zg zh zi zj zk zl zm zn] m fun m' => K [dY u, dI r1] m') none
   | _ => none)
 | _ => none
noncomputable def b2Z {α : Type} (K : LB -> Int -> b0k (Option α)) (rs : List D) (m : Mem) : Option α :=
 match rs, m with
 | [.v (.bytes u) _, .v (.int .i64 r1) _], [_, [(0, ⟨99, [.v (.bool z0) .no, .v (.int .i64 z1) .no, .v (.int .i64 z2) .no, .v (.int .i64 z3) .no, .v (.int .i64 z4) .no, .v (.bytes z5) .no, .v (.int .i64 z6) .no, .v (.bool z7) .no, .v (.bool z8) .no, .fn z9 [79, 87, 93] 0 0, .v (.int .i64 za) .no, .v (.int .i64 zb) .no, .v (.int .i64 zc) .no, .v (.int .i64 zd) .no, .v (.int .i64 ze) .no, .v (.bool zf) .no, .v (.bool zg) .no, .v (.int .i64 zh) .no, .v (.int .u8 zi) .no, .v (.bytes zj) (.own (.slot 0) 5), .v (.bool zk) .no, .v (.bytes zl) .no, .v (.int .i64 zm) .no, .v (.bool zn) .no]⟩)]] => K u r1 z0 z1 z2 z3 z4 z5 z6 z7 z8 z9 za zb zc zd ze zf zg zh zi zj zk zl zm zn
 | _, _ => none
noncomputable def b2k {R : Type} (N : Nat) (a y z O : Int) (x4 : LB) (x5 : Int) (x6 b : Bool) (f i d l : Int) (n : LB) (e : Int) (p j : Bool) (o q w Aa x S : Int) (U yg : Bool) (Z yi : Int) (yj : LB) (yk : Bool) (yl : LB) (ym : Int) (yn : Bool) (K0 : LB -> Int -> b0k (Option R)) : Option R := br (!b) (K0 [] 31 b f i d l n e p j o q w Aa x S U yg Z yi yj yk yl ym yn) (d3 (J3 N a y z O x4 x5 x6) fun n0 => br (!decide (n0 = 0)) (K0 [] n0 b f i d l n e p j o q w Aa x S U yg Z yi yj yk yl ym yn) (br x6 (K0 [] 4 b f i d l n e p j o q w Aa x S U yg Z yi yj yk yl ym yn) (br j (K0 [] 14 b f i d l n e p j o q w Aa x S U yg Z yi yj yk yl ym yn) (d3 (j5 N x4) fun l1 => br (decide (0 < (l1.length : Int))) (H9 (M1 N a y z O (A7 JB GA (l1.length : Int) 255) true a y z O l1 x5 x6 true 0 0 0 0 0 0 false false 0 0 [] false [] 0 false) fun l2 n3 n4 n5 n6 n7 n8 b9 => K0 l2 0 true a y z O l1 x5 x6 true n3 n4 n5 n6 n7 n8 b9 false 0 0 [] false [] 0 false) (H9 (M1 N a y z O (A7 JB GA x5 255) true a y z O l1 x5 x6 true 0 0 0 0 0 0 false false 0 0 [] false [] 0 false) fun la nb nc nd Ad nf ng bh => K0 la 0 true a y z O l1 x5 x6 true nb nc nd Ad nf ng bh false 0 0 [] false [] 0 false)))))
noncomputable def a1n (N : Nat) : d1B := fun a y z O x4 x5 x6 b f i d l n e p j o q w Aa x S U yg Z yi yj yk yl ym yn => b2k N a y z O x4 x5 x6 b f i d l n e p j o q w Aa x S U yg Z yi yj yk yl ym yn (fun u r1 z0 z1 z2 z3 z4 z5 z6 z7 z8 z9 za zb zc zd ze zf zg zh zi zj zk zl zm zn => some (u, r1, z0, z1, z2, z3, z4, z5, z6, z7, z8, z9, za, zb, zc, zd, ze, zf, zg, zh, zi, zj, zk, zl, zm, zn))
noncomputable def b5H (N : Nat) : Cx := cxO [⟨14, a0U (J3 N)⟩, ⟨29, E4 (j5 N)⟩] [⟨60, a4R (M1 N)⟩]
theorem b9H {R : Type} (N : Nat) (a y z O x4 x5 x6 b f i d l n e p j o q w Aa x S U yg Z yi yj yk yl ym yn K : _) : g8 (R := R) (b5H N) Tryz.f33 [.ptr 1 0 0, g3a a y z O x4 x5 x6] [C0 0 [g6a b f i d l n e p j o 0 q w Aa x S U yg Z yi yj yk yl ym yn]] (b2Z K) = b2k N a y z O x4 x5 x6 b f i d l n e p j o q w Aa x S U yg Z yi yj yk yl ym yn (fun u r1 z0 z1 z2 z3 z4 z5 z6 z7 z8 z9 za zb zc zd ze zf zg zh zi zj zk zl zm zn => K u r1 z0 z1 z2 z3 z4 z5 z6 z7 z8 z9 za zb zc zd ze zf zg zh zi zj zk zl zm zn) := by
 kernel_rfl
abbrev c0v (s : d1B) : Prop := ∀ {a y z O x4 x5 x6 b f i d l n e p j o q w Aa x S U yg Z yi yj yk yl ym yn u r1 z0 z1 z2 z3 z4 z5 z6 z7 z8 z9 za zb zc zd ze zf zg zh zi zj zk zl zm zn}, s a y z O x4 x5 x6 b f i d l n e p j o q w Aa x S U yg Z yi yj yk yl ym yn = some (u, r1, z0, z1, z2, z3, z4, z5, z6, z7, z8, z9, za, zb, zc, zd, ze, zf, zg, zh, zi, zj, zk, zl, zm, zn) -> VR2 33 [.ptr 1 0 0, g3a a y z O x4 x5 x6] [g6a b f i d l n e p j o 0 q w Aa x S U yg Z yi yj yk yl ym yn] [dY u, dI r1] [g6a z0 z1 z2 z3 z4 z5 z6 z7 z8 z9 0 za zb zc zd ze zf zg zh zi zj zk zl zm zn]
theorem c6q (s : d1B) (hs : c0v s) : MEO ⟨33, a7l s⟩ := by
 refine ⟨d6 Tryz.func33 (by kernel_rfl) (c := d5 Tryz.f33) (by kernel_rfl), fun R dst ds m K r h => ?_⟩
 simp only [a7l] at h
 split at h
 . obtain ⟨Bs, a1, a2, a3, h⟩ := g4 h
   split at h
   . rcases g5 h with ⟨hc, hk⟩ | ⟨_, hk⟩
     . have hc := GE hc
       subst hc
       obtain ⟨u, r1, z0, z1, z2, z3, z4, z5, z6, z7, z8, z9, za, zb, zc, zd, ze, zf, zg, zh, zi, zj, zk, zl, zm, zn, h1, h2⟩ := c4q hk
       rw [d9] at h2
       exact ⟨_, _, h2, hs h1 _ _ m dst _ _ a1 a2 a3 rfl rfl ⟨g6 _ rfl, L3 ⟨d7 _, d7 _, d7 _, d7 _, d7 _, d7 _, d7 _, trivial⟩, trivial⟩ (j6 (m8 rfl (by repeat (first | exact trivial | refine ⟨by first | exact .inl ⟨rfl, rfl⟩ | exact .inr ⟨_, _, rfl, rfl⟩, ?_⟩)))) (j6 (m8 rfl (by repeat (first | exact trivial | refine ⟨by first | exact .inl ⟨rfl, rfl⟩ | exact .inr ⟨_, _, rfl, rfl⟩, ?_⟩))))⟩
     . cases hk
   . cases h
 . cases h
open Classical in
theorem d0c (N : Nat) : c0v (a1n N) := fun {a y z O x4 x5 x6 b f i d l n e p j o q w Aa x S U yg Z yi yj yk yl ym yn u r1 z0 z1 z2 z3 z4 z5 z6 z7 z8 z9 za zb zc zd ze zf zg zh zi zj zk zl zm zn} h => by
 refine E6 (cx := b5H N) (by kernel_rfl) (g7 ⟨a4O _ (a6H N), I2 _ (M7 N), trivial⟩ ⟨b2w _ (b5Z N), trivial⟩) Tryz.func33 (by kernel_rfl) (by kernel_rfl) (lz (by kernel_rfl)) (by rfl) (rf := b2Z (fun Ae BA Z0 Z1 Z2 Z3 Z4 Z5 Z6 Z7 Z8 Z9 Za Zb Zc Zd Ze Zf Zg Zh Zi Zj Zk Zl Zm Zn => some (Ae, BA, Z0, Z1, Z2, Z3, Z4, Z5, Z6, Z7, Z8, Z9, Za, Zb, Zc, Zd, Ze, Zf, Zg, Zh, Zi, Zj, Zk, Zl, Zm, Zn))) (r := (u, r1, z0, z1, z2, z3, z4, z5, z6, z7, z8, z9, za, zb, zc, zd, ze, zf, zg, zh, zi, zj, zk, zl, zm, zn)) ?_ ?_
 . exact (b9H ..).trans h
 . intro rs' m' hx
   unfold b2Z at hx
   split at hx
   . cases hx; exact ⟨rfl, rfl, _, rfl⟩
   . cases hx
abbrev d3j := LB -> b0k (Option (LB × Bool × Int × Int × Int × Int × Int × Int × Bool × Bool × Int × Int × LB × Bool × LB × Int × Bool))
noncomputable def a1K {R : Type} (s : d3j) (dst : Nat) (ds : List D) (m : Mem) (K : List D -> Mem -> Option R) : Option R :=
 match ds with
 | [.ptr (Ac + 1) Ab 0, .v (.bytes a) .no] => u9 [(Ac, Ab)] m fun Bs => (match Bs with
   | [⟨99, [.v (.bool b) .no, .v (.int .i64 f) .no, .v (.int .i64 i) .no, .v (.int .i64 d) .no, .v (.int .i64 l) .no, .v (.bytes n) .no, .v (.int .i64 e) .no, .v (.bool p) .no, .v (.bool j) .no, .fn o [79, 87, 93] 0 Au, .v (.int .i64 q) .no, .v (.int .i64 w) .no, .v (.int .i64 Aa) .no, .v (.int .i64 x) .no, .v (.int .i64 S) .no, .v (.bool U) .no, .v (.bool yg) .no, .v (.int .i64 Z) .no, .v (.int .u8 yi) .no, .v (.bytes yj) (.own (.slot 0) 5), .v (.bool yk) .no, .v (.bytes yl) .no, .v (.int .i64 ym) .no, .v (.bool yn) .no]⟩] => cond (GR Ab Au) (b9C (s a b f i d l n e p j o q w Aa x S U yg Z yi yj yk yl ym yn) fun u z8 z9 za zb zc zd ze zf zg zh zi zj zk zl zm zn => j3 [(Ac, Ab)] [g6a b f i d l n e p z8 z9 Ab za zb zc zd ze zf zg zh zi zj zk zl zm zn] m fun m' => K [dY u] m') none
   | _ => none)
 | _ => none
noncomputable def L7 {R : Type} (N : Nat) (l1 : LB) (n2 : Int) (b4 : Bool) (n5 n6 n7 n8 : Int) (l9 : LB) (na : Int) (Ai : Bool) (Lq : LB -> Int -> Bool -> Int -> Int -> Int -> Int -> Int -> Int -> Bool -> Bool -> Int -> Int -> LB -> Bool -> LB -> Int -> Bool -> Option R) (K0 : LB -> Bool -> Int -> Int -> Int -> Int -> Int -> Int -> Bool -> Bool -> Int -> Int -> LB -> Bool -> LB -> Int -> Bool -> Option R) (l0 : LB) (n3 : Int) (bc : Bool) (nd Ad nf ng nh ni : Int) (bj bk : Bool) (nl Af : Int) (ln : LB) (bo : Bool) (lp : LB) (nq : Int) (Ah : Bool) : Option R := br (decide (n3 < n2)) (br (decide (0 <= n3) && decide (n3 < (l1.length : Int))) (at? l1 n3.toNat fun u0 => br (!bc) (K0 l0 bc nd Ad nf ng nh ni bj bk nl Af ln bo lp nq Ah) (br (decide (nd = 1)) (c7B (a2o N (u0.toNat : Int) b4 n5 n6 n7 n8 l9 na Ai bc nd Ad nf ng nh ni bj bk nl Af ln bo lp nq Ah) fun l1 b2 n3_1 b4 n5 n6 b7 => br (decide ((l0.length + l1.length) * 1 <= 140737488355328)) (Lq (l0 ++ l1) (GA.wrap (n3 + 1)) b2 n3_1 Ad nf ng nh ni b4 bk n5 n6 ln bo lp nq b7) none) (br (decide (nd = 2)) (a9r (W8 N (u0.toNat : Int) b4 n5 n6 n7 n8 l9 na Ai bc nd Ad nf ng nh ni bj bk nl Af ln bo lp nq Ah) fun l8 b9 na nb nc nd Ad nf bg bh AF lj nk => br (decide ((l0.length + l8.length) * 1 <= 140737488355328)) (Lq (l0 ++ l8) (GA.wrap (n3 + 1)) b9 na nb nc nd Ad nf bg bh nl Af ln AF lj nk Ah) none) (br (decide (nd = 3)) (M8 (a0E N (u0.toNat : Int) b4 n5 n6 n7 n8 l9 na Ai bc nd Ad nf ng nh ni bj bk nl Af ln bo lp nq Ah) fun ll n22_1 nn Al => br (decide ((l0.length + ll.length) * 1 <= 140737488355328)) (Lq (l0 ++ ll) (GA.wrap (n3 + 1)) bc n22_1 Ad nf ng nh ni bj bk nn Af Al bo lp nq Ah) none) none)))) none) (K0 l0 bc nd Ad nf ng nh ni bj bk nl Af ln bo lp nq Ah)
noncomputable def F9 {R : Type} (N : Nat) (l1 : LB) (n2 : Int) (b4 : Bool) (n5 n6 n7 n8 : Int) (l9 : LB) (na : Int) (Ai : Bool) : Nat -> LB -> Int -> Bool -> Int -> Int -> Int -> Int -> Int -> Int -> Bool -> Bool -> Int -> Int -> LB -> Bool -> LB -> Int -> Bool -> (LB -> Bool -> Int -> Int -> Int -> Int -> Int -> Int -> Bool -> Bool -> Int -> Int -> LB -> Bool -> LB -> Int -> Bool -> Option R) -> Option R | 0, _, _, _, _, _, _, _, _, _, _, _, _, _, _, _, _, _, _, _ => none | t + 1, l0, n3, bc, nd, Ad, nf, ng, nh, ni, bj, bk, nl, Af, ln, bo, lp, nq, Ah, K0 => L7 N l1 n2 b4 n5 n6 n7 n8 l9 na Ai (fun l0 n3 bc nd Ad nf ng nh ni bj bk nl Af ln bo lp nq Ah => F9 N l1 n2 b4 n5 n6 n7 n8 l9 na Ai t l0 n3 bc nd Ad nf ng nh ni bj bk nl Af ln bo lp nq Ah K0) K0 l0 n3 bc nd Ad nf ng nh ni bj bk nl Af ln bo lp nq Ah
noncomputable def a2h {R : Type} (N : Nat) (ds : List D) (m : Mem) (K : Ex -> List D -> Mem -> Option R) : Option R :=
 match ds, m with
 | [(.ptr 1 0 0), (.v (.bytes l0) (.own (.slot 5) 5)), (.v (.bytes l1) .no), (.v (.int .i64 n2) .no), (.v (.int .i64 n3) .no)], [[], [(0, ⟨99, [(.v (.bool b4) .no), (.v (.int .i64 n5) .no), (.v (.int .i64 n6) .no), (.v (.int .i64 n7) .no), (.v (.int .i64 n8) .no), (.v (.bytes l9) .no), (.v (.int .i64 na) .no), (.v (.bool Ai) .no), (.v (.bool bc) .no), (.fn nd [79, 87, 93] 0 0), (.v (.int .i64 Ad) .no), (.v (.int .i64 nf) .no), (.v (.int .i64 ng) .no), (.v (.int .i64 nh) .no), (.v (.int .i64 ni) .no), (.v (.bool bj) .no), (.v (.bool bk) .no), (.v (.int .i64 nl) .no), (.v (.int .u8 Af) .no), (.v (.bytes ln) (.own (.slot 0) 5)), (.v (.bool bo) .no), (.v (.bytes lp) .no), (.v (.int .i64 nq) .no), (.v (.bool Ah) .no)]⟩)]] => F9 N l1 n2 b4 n5 n6 n7 n8 l9 na Ai N l0 n3 bc nd Ad nf ng nh ni bj bk nl Af ln bo lp nq Ah (fun a0 a9 Az AJ Br AK AR Bu Bv AS An Be Bf Bg Bh Bi Bj => K (.exit 0) [(.v (.bytes a0) (.own (.slot 5) 5))] [[], [(0, ⟨99, [(.v (.bool b4) .no), (.v (.int .i64 n5) .no), (.v (.int .i64 n6) .no), (.v (.int .i64 n7) .no), (.v (.int .i64 n8) .no), (.v (.bytes l9) .no), (.v (.int .i64 na) .no), (.v (.bool Ai) .no), (.v (.bool a9) .no), (.fn Az [79, 87, 93] 0 0), (.v (.int .i64 AJ) .no), (.v (.int .i64 Br) .no), (.v (.int .i64 AK) .no), (.v (.int .i64 AR) .no), (.v (.int .i64 Bu) .no), (.v (.bool Bv) .no), (.v (.bool AS) .no), (.v (.int .i64 An) .no), (.v (.int .u8 Be) .no), (.v (.bytes Bf) (.own (.slot 0) 5)), (.v (.bool Bg) .no), (.v (.bytes Bh) .no), (.v (.int .i64 Bi) .no), (.v (.bool Bj) .no)]⟩)]])
 | _, _ => none
noncomputable def a4q {R : Type} (N : Nat) (a : LB) (b : Bool) (f i d l : Int) (n : LB) (e : Int) (p j : Bool) (o q w Aa x S : Int) (U yg : Bool) (Z yi : Int) (yj : LB) (yk : Bool) (yl : LB) (ym : Int) (yn : Bool) (K0 : LB -> Bool -> Int -> Int -> Int -> Int -> Int -> Int -> Bool -> Bool -> Int -> Int -> LB -> Bool -> LB -> Int -> Bool -> Option R) : Option R := F9 N a (a.length : Int) b f i d l n e p N [] 0 j o q w Aa x S U yg Z yi yj yk yl ym yn fun l0 b1 n2 n3 n4 n5 n6 n7 b8 b9 na nb Ag bd BG nf bg => K0 l0 b1 n2 n3 n4 n5 n6 n7 b8 b9 na nb Ag bd BG nf bg
noncomputable def S4 (N : Nat) : d3j := fun a b f i d l n e p j o q w Aa x S U yg Z yi yj yk yl ym yn => a4q N a b f i d l n e p j o q w Aa x S U yg Z yi yj yk yl ym yn (fun u z8 z9 za zb zc zd ze zf zg zh zi zj zk zl zm zn => some (u, z8, z9, za, zb, zc, zd, ze, zf, zg, zh, zi, zj, zk, zl, zm, zn))
noncomputable def K8 (N : Nat) : Cx := { T := T, isPure := a5S [], pureK := fun g ds K => a2y [] g ds K, memK := fun g dst ds m K => Y9 [⟨79, a6x (a2o N)⟩, ⟨87, a3u (W8 N)⟩, ⟨93, a5p (a0E N)⟩] g dst ds m K, meth := a3N [], keep := fun r => match r with | 5 => [0, 5, 10, 11, 12] | _ => [], keepX := fun r => match r with | 5 => [5] | _ => [], loopT := fun r ds m K => match r with | 5 => a2h N ds m K | _ => none, jumps := 9 }
theorem a9h {R : Type} (N : Nat) (l1 : LB) (n2 : Int) (b4 : Bool) (n5 n6 n7 n8 : Int) (l9 : LB) (na : Int) (Ai : Bool) (l0 : LB) (n3 : Int) (bc : Bool) (nd Ad nf ng nh ni : Int) (bj bk : Bool) (nl Af : Int) (ln : LB) (bo : Bool) (lp : LB) (nq : Int) (Ah : Bool) (L : List D -> Mem -> Option R) (K : Ex -> List D -> Mem -> Option R) :
 a0k (fun st K => codeK (K8 N) (G1 Tryz.f38 0) st K) 31 [0, 5, 10, 11, 12] [5] L [(.ptr 1 0 0), (.v (.bytes l0) (.own (.slot 5) 5)), (dY l1), (dI n2), (dI n3)] [[], [(0, ⟨99, [(dB b4), (dI n5), (dI n6), (dI n7), (dI n8), (dY l9), (dI na), (dB Ai), (dB bc), (.fn nd [79, 87, 93] 0 0), (dI Ad), (dI nf), (dI ng), (dI nh), (dI ni), (dB bj), (dB bk), (dI nl), (.v (.int .u8 Af) .no), (.v (.bytes ln) (.own (.slot 0) 5)), (dB bo), (dY lp), (dI nq), (dB Ah)]⟩)]] K = L7 N l1 n2 b4 n5 n6 n7 n8 l9 na Ai (fun l0 n3 bc nd Ad nf ng nh ni bj bk nl Af ln bo lp nq Ah => L [(.ptr 1 0 0), (.v (.bytes l0) (.own (.slot 5) 5)), (dY l1), (dI n2), (dI n3)] [[], [(0, ⟨99, [(dB b4), (dI n5), (dI n6), (dI n7), (dI n8), (dY l9), (dI na), (dB Ai), (dB bc), (.fn nd [79, 87, 93] 0 0), (dI Ad), (dI nf), (dI ng), (dI nh), (dI ni), (dB bj), (dB bk), (dI nl), (.v (.int .u8 Af) .no), (.v (.bytes ln) (.own (.slot 0) 5)), (dB bo), (dY lp), (dI nq), (dB Ah)]⟩)]]) (fun a0 a9 Az AJ Br AK AR Bu Bv AS An Be Bf Bg Bh Bi Bj => K (.exit 0) [(.v (.bytes a0) (.own (.slot 5) 5))] [[], [(0, ⟨99, [(dB b4), (dI n5), (dI n6), (dI n7), (dI n8), (dY l9), (dI na), (dB Ai), (dB a9), (.fn Az [79, 87, 93] 0 0), (dI AJ), (dI Br), (dI AK), (dI AR), (dI Bu), (dB Bv), (dB AS), (dI An), (.v (.int .u8 Be) .no), (.v (.bytes Bf) (.own (.slot 0) 5)), (dB Bg), (dY Bh), (dI Bi), (dB Bj)]⟩)]]) l0 n3 bc nd Ad nf ng nh ni bj bk nl Af ln bo lp nq Ah := by
 kernel_rfl
theorem a2q {R : Type} (N : Nat) (l1 : LB) (n2 : Int) (b4 : Bool) (n5 n6 n7 n8 : Int) (l9 : LB) (na : Int) (Ai : Bool) (K : Ex -> List D -> Mem -> Option R) : ∀ (t : Nat) (l0 : LB) (n3 : Int) (bc : Bool) (nd Ad nf ng nh ni : Int) (bj bk : Bool) (nl Af : Int) (ln : LB) (bo : Bool) (lp : LB) (nq : Int) (Ah : Bool),
 a0T (fun st K => codeK (K8 N) (G1 Tryz.f38 0) st K) 31 [0, 5, 10, 11, 12] [5] t [(.ptr 1 0 0), (.v (.bytes l0) (.own (.slot 5) 5)), (dY l1), (dI n2), (dI n3)] [[], [(0, ⟨99, [(dB b4), (dI n5), (dI n6), (dI n7), (dI n8), (dY l9), (dI na), (dB Ai), (dB bc), (.fn nd [79, 87, 93] 0 0), (dI Ad), (dI nf), (dI ng), (dI nh), (dI ni), (dB bj), (dB bk), (dI nl), (.v (.int .u8 Af) .no), (.v (.bytes ln) (.own (.slot 0) 5)), (dB bo), (dY lp), (dI nq), (dB Ah)]⟩)]] K = F9 N l1 n2 b4 n5 n6 n7 n8 l9 na Ai t l0 n3 bc nd Ad nf ng nh ni bj bk nl Af ln bo lp nq Ah (fun a0 a9 Az AJ Br AK AR Bu Bv AS An Be Bf Bg Bh Bi Bj => K (.exit 0) [(.v (.bytes a0) (.own (.slot 5) 5))] [[], [(0, ⟨99, [(dB b4), (dI n5), (dI n6), (dI n7), (dI n8), (dY l9), (dI na), (dB Ai), (dB a9), (.fn Az [79, 87, 93] 0 0), (dI AJ), (dI Br), (dI AK), (dI AR), (dI Bu), (dB Bv), (dB AS), (dI An), (.v (.int .u8 Be) .no), (.v (.bytes Bf) (.own (.slot 0) 5)), (dB Bg), (dY Bh), (dI Bi), (dB Bj)]⟩)]])
 | 0, l0, n3, bc, nd, Ad, nf, ng, nh, ni, bj, bk, nl, Af, ln, bo, lp, nq, Ah => rfl
 | t + 1, l0, n3, bc, nd, Ad, nf, ng, nh, ni, bj, bk, nl, Af, ln, bo, lp, nq, Ah => (a9h N l1 n2 b4 n5 n6 n7 n8 l9 na Ai l0 n3 bc nd Ad nf ng nh ni bj bk nl Af ln bo lp nq Ah _ K).trans (congrArg (fun L => L7 N l1 n2 b4 n5 n6 n7 n8 l9 na Ai L (fun a0 a9 Az AJ Br AK AR Bu Bv AS An Be Bf Bg Bh Bi Bj => K (.exit 0) [(.v (.bytes a0) (.own (.slot 5) 5))] [[], [(0, ⟨99, [(dB b4), (dI n5), (dI n6), (dI n7), (dI n8), (dY l9), (dI na), (dB Ai), (dB a9), (.fn Az [79, 87, 93] 0 0), (dI AJ), (dI Br), (dI AK), (dI AR), (dI Bu), (dB Bv), (dB AS), (dI An), (.v (.int .u8 Be) .no), (.v (.bytes Bf) (.own (.slot 0) 5)), (dB Bg), (dY Bh), (dI Bi), (dB Bj)]⟩)]]) l0 n3 bc nd Ad nf ng nh ni bj bk nl Af ln bo lp nq Ah) (funext fun l0 => funext fun n3 => funext fun bc => funext fun nd => funext fun Ad => funext fun nf => funext fun ng => funext fun nh => funext fun ni => funext fun bj => funext fun bk => funext fun nl => funext fun Af => funext fun ln => funext fun bo => funext fun lp => funext fun nq => funext fun Ah => a2q N l1 n2 b4 n5 n6 n7 n8 l9 na Ai K t l0 n3 bc nd Ad nf ng nh ni bj bk nl Af ln bo lp nq Ah))
theorem b2T {R : Type} (N : Nat) (a b f i d l n e p j o q w Aa x S U yg Z yi yj yk yl ym yn K : _) : g8 (R := R) (K8 N) Tryz.f38 [.ptr 1 0 0, dY a] [C0 0 [g6a b f i d l n e p j o 0 q w Aa x S U yg Z yi yj yk yl ym yn]] (A8 K) = a4q N a b f i d l n e p j o q w Aa x S U yg Z yi yj yk yl ym yn (fun u z8 z9 za zb zc zd ze zf zg zh zi zj zk zl zm zn => K u b f i d l n e p z8 z9 za zb zc zd ze zf zg zh zi zj zk zl zm zn) := by
 kernel_rfl
abbrev a9T (s : d3j) : Prop := ∀ {a b f i d l n e p j o q w Aa x S U yg Z yi yj yk yl ym yn u z8 z9 za zb zc zd ze zf zg zh zi zj zk zl zm zn}, s a b f i d l n e p j o q w Aa x S U yg Z yi yj yk yl ym yn = some (u, z8, z9, za, zb, zc, zd, ze, zf, zg, zh, zi, zj, zk, zl, zm, zn) -> VR2 38 [.ptr 1 0 0, dY a] [g6a b f i d l n e p j o 0 q w Aa x S U yg Z yi yj yk yl ym yn] [dY u] [g6a b f i d l n e p z8 z9 0 za zb zc zd ze zf zg zh zi zj zk zl zm zn]
theorem b7R (s : d3j) (hs : a9T s) : MEO ⟨38, a1K s⟩ := by
 refine ⟨d6 Tryz.func38 (by kernel_rfl) (c := d5 Tryz.f38) (by kernel_rfl), fun R dst ds m K r h => ?_⟩
 simp only [a1K] at h
 split at h
 . obtain ⟨Bs, a1, a2, a3, h⟩ := g4 h
   split at h
   . rcases g5 h with ⟨hc, hk⟩ | ⟨_, hk⟩
     . have hc := GE hc
       subst hc
       obtain ⟨u, z8, z9, za, zb, zc, zd, ze, zf, zg, zh, zi, zj, zk, zl, zm, zn, h1, h2⟩ := c3J hk
       rw [d9] at h2
       exact ⟨_, _, h2, hs h1 _ _ m dst _ _ a1 a2 a3 rfl rfl ⟨g6 _ rfl, d7 _, trivial⟩ (j6 (m8 rfl (by repeat (first | exact trivial | refine ⟨by first | exact .inl ⟨rfl, rfl⟩ | exact .inr ⟨_, _, rfl, rfl⟩, ?_⟩)))) (j6 (m8 rfl (by repeat (first | exact trivial | refine ⟨by first | exact .inl ⟨rfl, rfl⟩ | exact .inr ⟨_, _, rfl, rfl⟩, ?_⟩))))⟩
     . cases hk
   . cases h
 . cases h
theorem b6K (N : Nat) : CxOK Tryz.prog (K8 N) :=
 L2 (es := []) (me := [⟨79, a6x (a2o N)⟩, ⟨87, a3u (W8 N)⟩, ⟨93, a5p (a0E N)⟩]) (ms := []) a6l trivial ⟨c6L _ (d0w N), c1i _ (c3e N), c4i _ (c7I N), trivial⟩ trivial rfl (fun _ _ _ _ => rfl) (fun _ _ _ _ _ _ => rfl) rfl
theorem b2X (N : Nat) : V4 (K8 N) 31 (G1 Tryz.f38 0) := by
 refine M0 (rid := 5) (by kernel_rfl) rfl rfl fun R ds m K r h => ?_
 have h : a2h N ds m K = some r := h
 unfold a2h at h
 split at h
 . exact ⟨N, Eq.trans (a2q ..) h⟩
 . cases h
theorem b6G (N : Nat) : v8 (K8 N) Tryz.f38.ntmps (d5 Tryz.f38) :=
 C1 (k := 1) (by kernel_rfl) ⟨trivial, b2X N⟩
open Classical in
theorem b9l (N : Nat) : a9T (S4 N) := fun {a b f i d l n e p j o q w Aa x S U yg Z yi yj yk yl ym yn u z8 z9 za zb zc zd ze zf zg zh zi zj zk zl zm zn} h => by
 refine E6 (cx := K8 N) (by kernel_rfl) (b6K N) Tryz.func38 (by kernel_rfl) (by kernel_rfl) (b6G N) (by rfl) (rf := A8 (fun Ae Z0 Z1 Z2 Z3 Z4 Z5 Z6 Z7 Z8 Z9 Za Zb Zc Zd Ze Zf Zg Zh Zi Zj Zk Zl Zm Zn => if Z0 = b /\ Z1 = f /\ Z2 = i /\ Z3 = d /\ Z4 = l /\ Z5 = n /\ Z6 = e /\ Z7 = p then some (Ae, Z8, Z9, Za, Zb, Zc, Zd, Ze, Zf, Zg, Zh, Zi, Zj, Zk, Zl, Zm, Zn) else none)) (r := (u, z8, z9, za, zb, zc, zd, ze, zf, zg, zh, zi, zj, zk, zl, zm, zn)) ?_ ?_
 . exact (b2T ..).trans ((congrArg (a4q N a b f i d l n e p j o q w Aa x S U yg Z yi yj yk yl ym yn) (by funext; exact if_pos (by simp))).trans h)
 . intro rs' m' hx
   unfold A8 at hx
   split at hx
   . dsimp only at hx
     split at hx
     . rename_i hk
       obtain ⟨rfl, rfl, rfl, rfl, rfl, rfl, rfl, rfl⟩ := hk
       cases hx; exact ⟨rfl, rfl, _, rfl⟩
     . cases hx
   . cases hx
abbrev d2w := b0k (Option (LB × Int × Bool))
noncomputable def a0r {R : Type} (s : d2w) (dst : Nat) (ds : List D) (m : Mem) (K : List D -> Mem -> Option R) : Option R :=
 match ds with
 | [.ptr (Ac + 1) Ab 0] => u9 [(Ac, Ab)] m fun Bs => (match Bs with
   | [⟨99, [.v (.bool b) .no, .v (.int .i64 f) .no, .v (.int .i64 i) .no, .v (.int .i64 d) .no, .v (.int .i64 l) .no, .v (.bytes n) .no, .v (.int .i64 e) .no, .v (.bool p) .no, .v (.bool j) .no, .fn o [79, 87, 93] 0 Au, .v (.int .i64 q) .no, .v (.int .i64 w) .no, .v (.int .i64 Aa) .no, .v (.int .i64 x) .no, .v (.int .i64 S) .no, .v (.bool U) .no, .v (.bool yg) .no, .v (.int .i64 Z) .no, .v (.int .u8 yi) .no, .v (.bytes yj) (.own (.slot 0) 5), .v (.bool yk) .no, .v (.bytes yl) .no, .v (.int .i64 ym) .no, .v (.bool yn) .no]⟩] => cond (GR Ab Au) (a3n (s b f i d l n e p j o q w Aa x S U yg Z yi yj yk yl ym yn) fun u r1 r2 => j3 [(Ac, Ab)] [g6a b f i d l n e p j o Ab q w Aa x S U yg Z yi yj yk yl ym yn] m fun m' => K [.agg [dY u, dI r1], dB r2] m') none
   | _ => none)
 | _ => none
noncomputable def a3v {α : Type} (K : LB -> Int -> Bool -> b0k (Option α)) (rs : List D) (m : Mem) : Option α :=
 match rs, m with
 | [.agg [.v (.bytes u) _, .v (.int .i64 r1) _], .v (.bool r2) _], [_, [(0, ⟨99, [.v (.bool z0) .no, .v (.int .i64 z1) .no, .v (.int .i64 z2) .no, .v (.int .i64 z3) .no, .v (.int .i64 z4) .no, .v (.bytes z5) .no, .v (.int .i64 z6) .no, .v (.bool z7) .no, .v (.bool z8) .no, .fn z9 [79, 87, 93] 0 0, .v (.int .i64 za) .no, .v (.int .i64 zb) .no, .v (.int .i64 zc) .no, .v (.int .i64 zd) .no, .v (.int .i64 ze) .no, .v (.bool zf) .no, .v (.bool zg) .no, .v (.int .i64 zh) .no, .v (.int .u8 zi) .no, .v (.bytes zj) (.own (.slot 0) 5), .v (.bool zk) .no, .v (.bytes zl) .no, .v (.int .i64 zm) .no, .v (.bool zn) .no]⟩)]] => K u r1 r2 z0 z1 z2 z3 z4 z5 z6 z7 z8 z9 za zb zc zd ze zf zg zh zi zj zk zl zm zn
 | _, _ => none
noncomputable def a0x {R : Type} (N : Nat) (b : Bool) (f i d l : Int) (n : LB) (e : Int) (p j : Bool) (o q w Aa x S : Int) (U yg : Bool) (Z yi : Int) (yj : LB) (yk : Bool) (yl : LB) (ym : Int) (yn : Bool) (K0 : LB -> Int -> Bool -> Option R) : Option R := br (!yk) (K0 [] 0 false) (d3 (j5 N yl) fun l0 => K0 l0 ym true)
noncomputable def I3 (N : Nat) : d2w := fun b f i d l n e p j o q w Aa x S U yg Z yi yj yk yl ym yn => a0x N b f i d l n e p j o q w Aa x S U yg Z yi yj yk yl ym yn (fun u r1 r2 => some (u, r1, r2))
noncomputable def a5E (N : Nat) : Cx := cxO [⟨29, E4 (j5 N)⟩] []
theorem b0m {R : Type} (N : Nat) (b f i d l n e p j o q w Aa x S U yg Z yi yj yk yl ym yn K : _) : g8 (R := R) (a5E N) Tryz.f39 [.ptr 1 0 0] [C0 0 [g6a b f i d l n e p j o 0 q w Aa x S U yg Z yi yj yk yl ym yn]] (a3v K) = a0x N b f i d l n e p j o q w Aa x S U yg Z yi yj yk yl ym yn (fun u r1 r2 => K u r1 r2 b f i d l n e p j o q w Aa x S U yg Z yi yj yk yl ym yn) := by
 kernel_rfl
abbrev a7c (s : d2w) : Prop := ∀ {b f i d l n e p j o q w Aa x S U yg Z yi yj yk yl ym yn u r1 r2}, s b f i d l n e p j o q w Aa x S U yg Z yi yj yk yl ym yn = some (u, r1, r2) -> VR2 39 [.ptr 1 0 0] [g6a b f i d l n e p j o 0 q w Aa x S U yg Z yi yj yk yl ym yn] [.agg [dY u, dI r1], dB r2] [g6a b f i d l n e p j o 0 q w Aa x S U yg Z yi yj yk yl ym yn]
theorem b4i (s : d2w) (hs : a7c s) : MEO ⟨39, a0r s⟩ := by
 refine ⟨d6 Tryz.func39 (by kernel_rfl) (c := d5 Tryz.f39) (by kernel_rfl), fun R dst ds m K r h => ?_⟩
 simp only [a0r] at h
 split at h
 . obtain ⟨Bs, a1, a2, a3, h⟩ := g4 h
   split at h
   . rcases g5 h with ⟨hc, hk⟩ | ⟨_, hk⟩
     . have hc := GE hc
       subst hc
       obtain ⟨u, r1, r2, h1, h2⟩ := a2i hk
       rw [d9] at h2
       exact ⟨_, _, h2, hs h1 _ _ m dst _ _ a1 a2 a3 rfl rfl ⟨g6 _ rfl, trivial⟩ (j6 (m8 rfl (by repeat (first | exact trivial | refine ⟨by first | exact .inl ⟨rfl, rfl⟩ | exact .inr ⟨_, _, rfl, rfl⟩, ?_⟩)))) (j6 (m8 rfl (by repeat (first | exact trivial | refine ⟨by first | exact .inl ⟨rfl, rfl⟩ | exact .inr ⟨_, _, rfl, rfl⟩, ?_⟩))))⟩
     . cases hk
   . cases h
 . cases h
open Classical in
theorem b7q (N : Nat) : a7c (I3 N) := fun {b f i d l n e p j o q w Aa x S U yg Z yi yj yk yl ym yn u r1 r2} h => by
 refine E6 (cx := a5E N) (by kernel_rfl) (g7 ⟨I2 _ (M7 N), trivial⟩ trivial) Tryz.func39 (by kernel_rfl) (by kernel_rfl) (lz (by kernel_rfl)) (by rfl) (rf := a3v (fun Ae BA BL Z0 Z1 Z2 Z3 Z4 Z5 Z6 Z7 Z8 Z9 Za Zb Zc Zd Ze Zf Zg Zh Zi Zj Zk Zl Zm Zn => if Z0 = b /\ Z1 = f /\ Z2 = i /\ Z3 = d /\ Z4 = l /\ Z5 = n /\ Z6 = e /\ Z7 = p /\ Z8 = j /\ Z9 = o /\ Za = q /\ Zb = w /\ Zc = Aa /\ Zd = x /\ Ze = S /\ Zf = U /\ Zg = yg /\ Zh = Z /\ Zi = yi /\ Zj = yj /\ Zk = yk /\ Zl = yl /\ Zm = ym /\ Zn = yn then some (Ae, BA, BL) else none)) (r := (u, r1, r2)) ?_ ?_
 . exact (b0m ..).trans ((congrArg (a0x N b f i d l n e p j o q w Aa x S U yg Z yi yj yk yl ym yn) (by funext; exact if_pos (by simp))).trans h)
 . intro rs' m' hx
   unfold a3v at hx
   split at hx
   . dsimp only at hx
     split at hx
     . rename_i hk
       obtain ⟨rfl, rfl, rfl, rfl, rfl, rfl, rfl, rfl, rfl, rfl, rfl, rfl, rfl, rfl, rfl, rfl, rfl, rfl, rfl, rfl, rfl, rfl, rfl, rfl⟩ := hk
       cases hx; exact ⟨rfl, rfl, _, rfl⟩
     . cases hx
   . cases hx
end En

namespace En
open Go
section
variable {R α β γ δ : Type}
theorem F5 (x y : Option R) : br true x y = x := id rfl
theorem P9 (x y : Option R) : br false x y = y := id rfl
theorem c7 (p : Prop) [Decidable p] (x y : Option R) : br (decide p) x y = if p then x else y := by
 by_cases h : p <;> simp [br, h]
theorem j8 (c : Bool) (x y : Option R) : br (!c) x y = br c y x := by cases c <;> rfl
theorem t5 (a b : Bool) (x y : Option R) : br (a && b) x y = br a (br b x y) y := by cases a <;> rfl
theorem d4 (a : α) (K : α -> Option R) : d3 (some a) K = K a := id rfl
theorem D9 (a : α) (b : β) (K : α -> β -> Option R) : Q3 (some (a, b)) K = K a b := id rfl
theorem X8 (a : α) (b : β) (c : γ) (K : α -> β -> γ -> Option R) : a3n (some (a, b, c)) K = K a b c := id rfl
theorem X4 (a : α) (b : β) (c : γ) (d : δ) (K : α -> β -> γ -> δ -> Option R) : M8 (some (a, b, c, d)) K = K a b c d := id rfl
theorem a4i {a1 a2 a3 a4 a5 a6 a7 a8 a9 a10 : Type} (a : a1) (b : a2) (c : a3) (d : a4) (e : a5) (f : a6) (g : a7) (h : a8) (i : a9) (j : a10) (K : a1 -> a2 -> a3 -> a4 -> a5 -> a6 -> a7 -> a8 -> a9 -> a10 -> Option R) : a5D (some (a, b, c, d, e, f, g, h, i, j)) K = K a b c d e f g h i j := id rfl
theorem Q8 {ε : Type} (a : α) (b : β) (c : γ) (d : δ) (e : ε) (K : α -> β -> γ -> δ -> ε -> Option R) : T3 (some (a, b, c, d, e)) K = K a b c d e := id rfl
theorem d5E {xs : List α} {i : Nat} {x : α} (h : xs[i]? = some x) (K : α -> Option R) : at? xs i K = K x := by simp [at?, h]
theorem a1W (x : α) (r : List α) (K : α -> Option R) : at? (x :: r) 0 K = K x := id rfl
theorem a4P (x : α) (r : List α) (i : Nat) (K : α -> Option R) : at? (x :: r) (i + 1) K = at? r i K := by simp [at?]
theorem d4W (pre : List α) (x : α) (suf : List α) (K : α -> Option R) : at? (pre ++ x :: suf) pre.length K = K x := d5E (by simp) K
theorem b9k (k : IntKind) (n : Int) (K : Int -> Option R) : V.unInt k (.int k n) K = K n := by simp [V.unInt]
theorem V9 (s : List UInt8) (K : List UInt8 -> Option R) : V.unBytes (.bytes s) K = K s := id rfl
end
theorem w64 {n : Int} (h1 : -9223372036854775808 <= n) (h2 : n <= 9223372036854775807) : GA.wrap n = n := by
 rw [IntKind.wrap_i64]; omega
theorem b3o (u : UInt8) : GA.wrap (u.toNat : Int) = u.toNat := by
 have := u.toNat_lt; exact w64 (by omega) (by omega)
theorem d3E (u : UInt8) : (u.toNat : Int) < 256 := by have := u.toNat_lt; omega
theorem wu8 (n : Int) : GI.wrap n = n % 256 := IntKind.wrap_u8 n
theorem X6 (a : Int) : (HH 64 a).toNat = (a % 18446744073709551616).toNat := by
 rw [BitVec.toNat_ofInt]; rfl
theorem c0l (a b : Int) (h : 0 < b) : a.fdiv b = a / b := by rw [Int.fdiv_eq_ediv_of_nonneg _ (by omega)]
theorem d4C (a : Int) : a2c .i64 a 8 = a / 256 := by
 show a.fdiv (2 ^ (min (8 : Int).toNat 64)) = _
 exact c0l a 256 (by omega)
theorem b9I (a : Int) (k : Nat) (hk : k <= 62) : A7 .and .i64 a ((2 ^ k - 1 : Nat) : Int) = a % (2 ^ k : Nat) := by
 have hp : (2 ^ k : Nat) <= 2 ^ 62 := Nat.pow_le_pow_right (by omega) hk
 have h0 : 0 < 2 ^ k := Nat.pos_of_ne_zero (by simp)
 have e1 : (HH 64 ((2 ^ k - 1 : Nat) : Int)).toNat = 2 ^ k - 1 := by
  rw [X6]; omega
 have e2 : (HH 64 a &&& HH 64 ((2 ^ k - 1 : Nat) : Int)).toNat = (a % 18446744073709551616).toNat % 2 ^ k := by
  rw [BitVec.toNat_and, e1, X6, Nat.and_two_pow_sub_one_eq_mod]
 have hd : (2 ^ k : Nat) ∣ 18446744073709551616 := by
  have : (18446744073709551616 : Nat) = 2 ^ 64 := by decide
  rw [this]; exact Nat.pow_dvd_pow 2 (by omega)
 have e3 : ((((a % 18446744073709551616).toNat % 2 ^ k : Nat)) : Int) = a % (2 ^ k : Nat) := by
  rw [Int.natCast_emod]
  rw [Int.toNat_of_nonneg (MV _ (by omega))]
  have hd' : ((2 ^ k : Nat) : Int) ∣ ((18446744073709551616 : Nat) : Int) := Int.natCast_dvd_natCast.2 hd
  exact Int.emod_emod_of_dvd a hd'
 show GA.wrap ((HH 64 a &&& HH 64 _).toNat : Int) = _
 rw [e2, e3]
 have := MV a (b := ((2 ^ k : Nat) : Int)) (by omega)
 have := Int.emod_lt_of_pos a (b := ((2 ^ k : Nat) : Int)) (by omega)
 exact w64 (by omega) (by omega)
theorem c9u (a : Int) : A7 .and .i64 a 255 = a % 256 := b9I a 8 (by omega)
theorem b0p (a b : Int) (h1 : 0 <= a) (h2 : a < 36028797018963968) (h3 : 0 <= b) (h4 : b < 256) : A7 .or .i64 (a4r .i64 a 8) b = 256 * a + b := by
 have e0 : a4r .i64 a 8 = 256 * a := by
  show GA.wrap (a * 2 ^ (min (8 : Int).toNat 64)) = _
  rw [show (2 : Int) ^ (min (8 : Int).toNat 64) = 256 from rfl, w64 (by omega) (by omega)]; omega
 obtain ⟨x, rfl⟩ := IQ h1
 obtain ⟨y, rfl⟩ := IQ h3
 have e1 : (HH 64 (256 * (x : Int))).toNat = x <<< 8 := by
  rw [X6, Mz]; omega
 have e2 : (HH 64 (y : Int)).toNat = y := by rw [X6]; omega
 rw [e0]
 show GA.wrap ((HH 64 (256 * (x : Int)) ||| HH 64 (y : Int)).toNat : Int) = _
 rw [BitVec.toNat_or, e1, e2, ← Nat.shiftLeft_add_eq_or_of_lt (by omega), Mz]
 rw [w64 (by omega) (by omega)]; omega
theorem ofNat_toNat (u : UInt8) : Gz u.toNat = u := UInt8.ofNat_toNat
end En
namespace En
open Go
set_option maxRecDepth 20000
instance deqCl : DecidableEq (Option (Int × Bool × Bool × Bool × Bool)) := fun a b => by
 rcases a with _ | ⟨a1, a2, a3, a4, a5⟩ <;> rcases b with _ | ⟨b1, b2, b3, b4, b5⟩
 . exact isTrue rfl
 . exact isFalse (by simp)
 . exact isFalse (by simp)
 . exact decidable_of_iff (a1 = b1 /\ a2 = b2 /\ a3 = b3 /\ a4 = b4 /\ a5 = b5) (by simp)
noncomputable def clT (c : Int) : Int × Bool × Bool × Bool × Bool := (L1 0 c).getD (0, false, false, false, false)
noncomputable def c4u (c : Int) : Bool := (clT c).2.2.2.2
noncomputable def a2u (c : Int) : Bool := c4u c && (clT c).2.1
noncomputable def a8M (c : Int) : Int := if c4u c then (clT c).1 else 0
theorem a8B : ∀ c : Nat, c < 255 -> L1 0 (c : Int) = some (clT c) /\ M3 0 (c : Int) = some (clT c) /\ 0 <= (clT c).1 /\ (clT c).1 < 4 := by decide +kernel
theorem c7K : ∀ c : Nat, c < 4 -> clT c = ((c : Int), false, false, false, true) := by decide +kernel
theorem a8G (N : Nat) {c : Int} (h0 : 0 <= c) (h1 : c <= 254) : L1 N c = some (clT c) := by
 obtain ⟨n, rfl⟩ := IQ h0
 exact (show L1 N n = L1 0 n from rfl).trans (a8B n (by omega)).1
theorem c5H (N : Nat) {c : Int} (h0 : 0 <= c) (h1 : c <= 254) : M3 N c = some (clT c) := by
 obtain ⟨n, rfl⟩ := IQ h0
 exact (show M3 N n = M3 0 n from rfl).trans (a8B n (by omega)).2.1
theorem b5s {c : Int} (h0 : 0 <= c) (h1 : c <= 254) : 0 <= (clT c).1 /\ (clT c).1 < 4 := by
 obtain ⟨n, rfl⟩ := IQ h0
 exact (a8B n (by omega)).2.2
theorem b0Z {c : Int} (h0 : 0 <= c) (h1 : c <= 254) : 0 <= a8M c /\ a8M c < 4 := by
 have := b5s h0 h1
 unfold a8M; split <;> omega
theorem c4W {c : Int} (h0 : 0 <= c) (h1 : c < 4) : clT c = (c, false, false, false, true) := by
 obtain ⟨n, rfl⟩ := IQ h0
 exact c7K n (by omega)
theorem c9K (N : Nat) {c : Int} (h0 : 0 <= c) (h1 : c < 4) : a1O N c false false false = some (c, 0) := by
 unfold a1O
 simp only [c7, F5, P9]
 rw [if_neg (by omega), if_neg (by omega)]
structure ZT where
 c1 : Int
 c2 : Int
 c3 : Int
 c4 : Int
 cd : List UInt8
 cl : Int
 cg : Bool
 busy : Bool
 ph : Int
 h0 : Int
 h1 : Int
 h2 : Int
 h3 : Int
 h4 : Int
 ack : Bool
 rest : Bool
 left : Int
 sw1 : Int
 buf : List UInt8
 done : Bool
 rd : List UInt8
 rs : Int
 fl : Bool
def cnt (n : Int) : Int := if n = 0 then 256 else n
def by8 (n : Int) : UInt8 := Gz (n % 256).toNat
def a5X (z : ZT) : List UInt8 × ZT :=
 if z.rest = false /\ z.cd ≠ [] then (z.cd, { z with ack := false }) else ([], { z with ack := false, ph := 3, left := cnt z.h4 })
def H5 (x : Int) : Prop := (97 <= x /\ x <= 111) ∨ (144 <= x /\ x <= 159)
instance (x : Int) : Decidable (H5 x) := by unfold H5; infer_instance
def L5 (z : ZT) (x : Int) : List UInt8 × ZT :=
 if x = 96 then ([], z) else if x = z.h1 /\ z.ack = true then a5X z else if H5 x then ([], { z with sw1 := x, ph := 2 }) else ([], { z with busy := false, fl := true })
def b6r (z : ZT) (a b c d e : Int) : List UInt8 × ZT := ([by8 a, by8 b, by8 c, by8 d, by8 e], { z with ph := 1, h0 := a, h1 := b, h2 := c, h3 := d, h4 := e, ack := true })
noncomputable def o8 (z : ZT) (x : Int) : List UInt8 × ZT :=
 if z.sw1 = 97 then b6r { z with rest := true } (a8M z.c1) 192 0 0 x
 else ([], { z with busy := false, done := true, rd := z.buf.take (if a2u z.c1 then z.buf.length else min z.buf.length z.cl.toNat), rs := 256 * z.sw1 + x })
def a4t (z : ZT) (u : UInt8) : List UInt8 × ZT := ([], { z with buf := z.buf ++ [u], left := z.left - 1, ph := if z.left - 1 = 0 then 1 else z.ph })
noncomputable def D1 (z : ZT) (u : UInt8) : List UInt8 × ZT := if z.ph = 1 then L5 z u.toNat else if z.ph = 2 then o8 z u.toNat else a4t z u
structure ZOK (z : ZT) : Prop where
 c1 : 0 <= z.c1 /\ z.c1 <= 254
 cl : 0 <= z.cl
 ph : z.ph = 1 ∨ z.ph = 2 ∨ z.ph = 3
 left : 0 <= z.left /\ z.left <= 256
 l3 : z.ph = 3 -> 1 <= z.left
 sw1 : 0 <= z.sw1 /\ z.sw1 <= 255
 h4 : 0 <= z.h4 /\ z.h4 <= 255
 cd : z.cd.length <= 255
theorem a4s (n : Int) : Gz (GI.wrap n).toNat = by8 n := by rw [wu8]; rfl
theorem a9c (N : Nat) (n : Int) : D3 N n = some (cnt n) := by
 unfold D3 cnt
 simp only [c7]
 split <;> rfl
theorem X1 (N : Nat) (l : List UInt8) (h : l.length <= 1000000) : j5 N l = some l := by
 unfold j5
 rw [c7, if_pos h]
section
variable (N : Nat) (z : ZT)
theorem d0I (y0 : Bool) (h : ZOK z) : a0w N y0 z.c1 z.c2 z.c3 z.c4 z.cd z.cl z.cg z.busy z.ph z.h0 z.h1 z.h2 z.h3 z.h4 z.ack z.rest z.left z.sw1 z.buf z.done z.rd z.rs z.fl = some ((a5X z).1, (a5X z).2.ph, (a5X z).2.ack, (a5X z).2.left) := by
 have hc := X1 N z.cd (by have := h.cd; omega)
 unfold a0w b0R a5X
 simp only [hc, a9c, j8, c7, d4]
 cases hr : z.rest
 . simp only [P9, true_and]
   by_cases hd : z.cd = []
   . rw [if_neg (by rw [hd]; simp), if_neg (not_not_intro hd)]
   . have : (0 : Int) < (z.cd.length : Int) := by
      have := HA.2 hd; omega
     rw [if_pos this, if_pos hd]
 . simp only [F5]
   rfl
theorem c5J (y0 : Bool) (x : Int) (hx : 0 <= x /\ x <= 255) (h : ZOK z) : a2o N x y0 z.c1 z.c2 z.c3 z.c4 z.cd z.cl z.cg z.busy z.ph z.h0 z.h1 z.h2 z.h3 z.h4 z.ack z.rest z.left z.sw1 z.buf z.done z.rd z.rs z.fl =
 some ((L5 z x).1, (L5 z x).2.busy, (L5 z x).2.ph, (L5 z x).2.ack, (L5 z x).2.left, (L5 z x).2.sw1, (L5 z x).2.fl) := by
 have ha := d0I N z y0 h
 have e1 : (a5X z).2.busy = z.busy /\ (a5X z).2.sw1 = z.sw1 /\ (a5X z).2.fl = z.fl := by unfold a5X; split <;> exact ⟨rfl, rfl, rfl⟩
 have hw : GA.wrap x = x := w64 (by omega) (by omega)
 unfold a2o a6v L5 H5
 simp only [ha, hw, c7, X4]
 by_cases h96 : x = 96
 . subst h96
   simp
 simp only [if_neg h96]
 by_cases hi : x = z.h1
 . cases hk : z.ack
   . simp only [P9, hi, true_and, GZ, and_false, if_false, if_true]
     rw [← hi]
     by_cases a1 : 97 <= x <;> by_cases a2 : x <= 111 <;> by_cases a3 : 144 <= x <;> by_cases a4 : x <= 159 <;> simp [a1, a2, a3, a4] <;> omega
   . simp only [F5, hi, true_and, if_true, e1.1, e1.2.1, e1.2.2]
     rw [← hi]
     by_cases a1 : 97 <= x <;> by_cases a2 : x <= 111 <;> by_cases a3 : 144 <= x <;> simp [a1, a2, a3]
 . simp only [hi, false_and, if_false]
   by_cases a1 : 97 <= x <;> by_cases a2 : x <= 111 <;> by_cases a3 : 144 <= x <;> by_cases a4 : x <= 159 <;> simp [a1, a2, a3, a4] <;> omega
theorem c3H (a b c d e : Int) (y0 : Bool) (y1 y2 y3 y4 : Int) (y5 : List UInt8) (y6 : Int) (y7 y8 : Bool) (y9 y10 y11 y12 y13 y14 : Int) (y15 y16 : Bool) (y17 y18 : Int) (y19 : List UInt8) (y20 : Bool) (y21 : List UInt8) (y22 : Int) (y23 : Bool) :
 M1 N a b c d e y0 y1 y2 y3 y4 y5 y6 y7 y8 y9 y10 y11 y12 y13 y14 y15 y16 y17 y18 y19 y20 y21 y22 y23 = some ([by8 a, by8 b, by8 c, by8 d, by8 e], 1, a, b, c, d, e, true) := by
 unfold M1 a2t
 simp only [a4s]
theorem c0r (y0 : Bool) (x : Int) (hx : 0 <= x /\ x <= 255) (h : ZOK z) (hb : z.buf.length <= 1000000) : W8 N x y0 z.c1 z.c2 z.c3 z.c4 z.cd z.cl z.cg z.busy z.ph z.h0 z.h1 z.h2 z.h3 z.h4 z.ack z.rest z.left z.sw1 z.buf z.done z.rd z.rs z.fl =
 some ((o8 z x).1, (o8 z x).2.busy, (o8 z x).2.ph, (o8 z x).2.h0, (o8 z x).2.h1, (o8 z x).2.h2, (o8 z x).2.h3, (o8 z x).2.h4, (o8 z x).2.ack, (o8 z x).2.rest, (o8 z x).2.done, (o8 z x).2.rd, (o8 z x).2.rs) := by
 have hc := a8G N h.c1.1 h.c1.2
 have hr := b5s h.c1.1 h.c1.2
 have hw : GA.wrap x = x := w64 (by omega) (by omega)
 have hws : GA.wrap z.sw1 = z.sw1 := w64 (by have := h.sw1; omega) (by have := h.sw1; omega)
 have hor : A7 IP GA (a4r GA z.sw1 8) x = 256 * z.sw1 + x := b0p _ _ h.sw1.1 (by have := h.sw1; omega) hx.1 (by omega)
 have hcl := h.cl
 unfold W8 a2Z o8 b6r a8M a2u c4u
 generalize hq : clT z.c1 = q at *
 obtain ⟨ch, s, k, p, ok⟩ := q
 simp only [hc, hw, hws, hor, c7, Q8, c3H, N7]
 by_cases h97 : z.sw1 = 97
 . simp only [if_pos h97]
   cases ok
   . simp only [P9]; rfl
   . simp only [F5]
     rw [c9K N hr.1 hr.2]
     rfl
 . simp only [if_neg h97]
   have e1 : ((z.buf.length : Int)).toNat = z.buf.length := by omega
   have e2 : (min (z.buf.length : Int) z.cl).toNat = min z.buf.length z.cl.toNat := by omega
   have e3 : (0 : Int) <= min (z.buf.length : Int) z.cl := by omega
   have e4 : min (z.buf.length : Int) z.cl <= (z.buf.length : Int) := by omega
   cases ok
   . simp [br, e2, e3, e4]
   . cases s
     . simp [br, e2, e3, e4]
     . simp [br, e1]
theorem c3k (y0 : Bool) (u : UInt8) (h : ZOK z) (hb : z.buf.length <= 1000000) : a0E N (u.toNat : Int) y0 z.c1 z.c2 z.c3 z.c4 z.cd z.cl z.cg z.busy z.ph z.h0 z.h1 z.h2 z.h3 z.h4 z.ack z.rest z.left z.sw1 z.buf z.done z.rd z.rs z.fl =
 some ([], (a4t z u).2.ph, (a4t z u).2.left, (a4t z u).2.buf) := by
 have hw : GA.wrap (z.left - 1) = z.left - 1 := w64 (by have := h.left; omega) (by have := h.left; omega)
 have hu : Gz (u.toNat : Int).toNat = u := by rw [Im]; exact ofNat_toNat u
 unfold a0E a5j a4t
 simp only [hw, hu, c7]
 rw [if_pos (by simp; omega)]
 split <;> rfl
end
end En
namespace En
open Go
set_option maxRecDepth 20000
theorem a0B {n : Int} (h0 : 0 <= n) (h1 : n <= 255) : ((by8 n).toNat : Int) = n := by
 unfold by8
 rw [Iy, Ii (by omega)]; omega
theorem a2d {R : Type} {l pre suf : List UInt8} {u : UInt8} (h : l = pre ++ u :: suf) (K : UInt8 -> Option R) : at? l (pre.length : Int).toNat K = K u := by
 rw [Im, h]; exact d4W pre u suf K
theorem a8o {l pre suf : List UInt8} {u : UInt8} (h : l = pre ++ u :: suf) : (pre.length : Int) < (l.length : Int) := by
 rw [h]; simp; omega
theorem b2n {l pre suf : List UInt8} {u : UInt8} (h : l = pre ++ u :: suf) (hl : l.length <= 1000000) : GA.wrap ((pre.length : Int) + 1) = (pre.length : Int) + 1 := by
 have := a8o h
 exact w64 (by omega) (by omega)
noncomputable def zS {R : Type} (N : Nat) (l1 : List UInt8) (z : ZT) (t : Nat) (l0 : List UInt8) (i : Int) (K0 : List UInt8 -> ZT -> Option R) : Option R :=
 F9 N l1 (l1.length : Int) true z.c1 z.c2 z.c3 z.c4 z.cd z.cl z.cg t l0 i z.busy z.ph z.h0 z.h1 z.h2 z.h3 z.h4 z.ack z.rest z.left z.sw1 z.buf z.done z.rd z.rs z.fl
  fun l b ph h0 h1 h2 h3 h4 ack rest left sw1 buf done rd rs fl => K0 l { z with busy := b, ph := ph, h0 := h0, h1 := h1, h2 := h2, h3 := h3, h4 := h4, ack := ack, rest := rest, left := left, sw1 := sw1, buf := buf, done := done, rd := rd, rs := rs, fl := fl }
section
variable {R : Type} {N : Nat} {l1 pre suf : List UInt8} {u : UInt8}
theorem d1O {z : ZT} (hz : ZOK z) (hb : z.busy = true) (d3q : z.buf.length <= 1000000) (h : l1 = pre ++ u :: suf) (hl : l1.length <= 1000000) (t : Nat) {l0 : List UInt8} (hl0 : l0.length <= 1000000) (K0 : List UInt8 -> ZT -> Option R) :
 zS N l1 z (t + 1) l0 pre.length K0 = zS N l1 (D1 z u).2 t (l0 ++ (D1 z u).1) ((pre.length : Int) + 1) K0 := by
 have hu := d3E u
 have h1 := a8o h
 have ho : (D1 z u).1.length <= 300 := by
  have := hz.cd
  unfold D1 L5 a5X o8 b6r a4t
  repeat' split
  all_goals simp
  all_goals omega
 have hp := c5J N z true (u.toNat : Int) ⟨by omega, by omega⟩ hz
 have hs := c0r N z true (u.toNat : Int) ⟨by omega, by omega⟩ hz d3q
 have hr := c3k N z true u hz d3q
 unfold zS
 rw [F9, L7, c7, if_pos h1, t5, c7, if_pos (by omega), c7, if_pos h1, a2d h, j8, hb, F5]
 rw [hb] at hp hs hr
 rcases hz.ph with e | e | e
 . rw [c7, if_pos e, hp, c5v, c7]
   have e2 : D1 z u = L5 z u.toNat := by unfold D1; rw [if_pos e]
   rw [e2] at ho ⊢
   rw [if_pos (by omega), b2n h hl]
   have e3 : (L5 z u.toNat).2 = { z with busy := (L5 z u.toNat).2.busy, ph := (L5 z u.toNat).2.ph, ack := (L5 z u.toNat).2.ack, left := (L5 z u.toNat).2.left, sw1 := (L5 z u.toNat).2.sw1, fl := (L5 z u.toNat).2.fl } := by
    unfold L5 a5X
    repeat' split
    all_goals rfl
   generalize (L5 z u.toNat).2 = z' at e3 ⊢
   rw [e3]
 . rw [c7, if_neg (by omega), c7, if_pos e, hs, b1n, c7]
   have e2 : D1 z u = o8 z u.toNat := by unfold D1; rw [if_neg (by omega), if_pos e]
   rw [e2] at ho ⊢
   rw [if_pos (by omega), b2n h hl]
   have e3 : (o8 z u.toNat).2 = { z with busy := (o8 z u.toNat).2.busy, ph := (o8 z u.toNat).2.ph, h0 := (o8 z u.toNat).2.h0, h1 := (o8 z u.toNat).2.h1, h2 := (o8 z u.toNat).2.h2, h3 := (o8 z u.toNat).2.h3, h4 := (o8 z u.toNat).2.h4, ack := (o8 z u.toNat).2.ack, rest := (o8 z u.toNat).2.rest, done := (o8 z u.toNat).2.done, rd := (o8 z u.toNat).2.rd, rs := (o8 z u.toNat).2.rs } := by
    unfold o8 b6r
    repeat' split
    all_goals rfl
   generalize (o8 z u.toNat).2 = z' at e3 ⊢
   rw [e3]
 . rw [c7, if_neg (by omega), c7, if_neg (by omega), c7, if_pos e, hr, X4, c7]
   have e2 : D1 z u = a4t z u := by unfold D1; rw [if_neg (by omega), if_neg (by omega)]
   rw [e2] at ho ⊢
   rw [if_pos (by simp; omega), b2n h hl]
   unfold a4t
   simp only [hb]
theorem d4q {z : ZT} (t : Nat) {l0 : List UInt8} (K0 : List UInt8 -> ZT -> Option R) : zS N l1 z (t + 1) l0 (l1.length : Int) K0 = K0 l0 z := by
 unfold zS
 rw [F9, L7, c7, if_neg (by omega)]
theorem d2R {z : ZT} (hb : z.busy = false) (h : l1 = pre ++ u :: suf) (t : Nat) {l0 : List UInt8} (K0 : List UInt8 -> ZT -> Option R) : zS N l1 z (t + 1) l0 (pre.length : Int) K0 = K0 l0 z := by
 have h1 := a8o h
 unfold zS
 rw [F9, L7, c7, if_pos h1, t5, c7, if_pos (by omega), c7, if_pos h1, a2d h, j8, hb, P9]
 cases z; simp only at hb; subst hb; rfl
end
noncomputable def F4 (z : ZT) : List UInt8 -> List UInt8 × ZT
 | [] => ([], z)
 | u :: r => if z.busy = true then ((D1 z u).1 ++ (F4 (D1 z u).2 r).1, (F4 (D1 z u).2 r).2) else ([], z)
theorem c1U {z : ZT} (hz : ZOK z) (u : UInt8) : ZOK (D1 z u).2 /\ (D1 z u).1.length <= 300 /\ (D1 z u).2.buf.length <= z.buf.length + 1 := by
 have hu := d3E u
 have hr := b0Z hz.c1.1 hz.c1.2
 obtain ⟨a1, a2, a3, a4, a5, a6, a7, a8⟩ := hz
 have hc : 1 <= cnt z.h4 /\ cnt z.h4 <= 256 := by unfold cnt; split <;> omega
 unfold D1 L5 a5X o8 b6r a4t
 repeat' split
 all_goals refine ⟨⟨?_, ?_, ?_, ?_, ?_, ?_, ?_, ?_⟩, ?_, ?_⟩
 all_goals simp only [KA, GW, Hu]
 all_goals first | assumption | omega | (intro _; omega) | (split <;> omega) | (intro hq; (try split at hq) <;> omega) | simp
theorem c8R {R : Type} {N : Nat} {l1 : List UInt8} (hl : l1.length <= 3000) (K0 : List UInt8 -> ZT -> Option R) : ∀ (suf pre : List UInt8) (z : ZT) (t : Nat) (l0 : List UInt8), l1 = pre ++ suf -> ZOK z -> z.buf.length + suf.length <= 900000 -> suf.length < t -> l0.length + 300 * suf.length <= 900300 ->
 zS N l1 z t l0 pre.length K0 = K0 (l0 ++ (F4 z suf).1) (F4 z suf).2
 | [], pre, z, t, l0, h, hz, hb, ht, h0 => by
   obtain ⟨t, rfl⟩ : ∃ s, t = s + 1 := ⟨t - 1, by simp at ht; omega⟩
   have : pre = l1 := by simp [h]
   rw [this, d4q]
   simp [F4]
 | u :: suf, pre, z, t, l0, h, hz, hb, ht, h0 => by
   obtain ⟨t, rfl⟩ : ∃ s, t = s + 1 := ⟨t - 1, by simp at ht; omega⟩
   simp only [Hu] at hb ht h0
   unfold F4
   by_cases hy : z.busy = true
   . obtain ⟨o1, o2, o3⟩ := c1U hz u
     rw [if_pos hy, d1O hz hy (by omega) h (by omega) t (by omega)]
     have := c8R (N := N) hl K0 suf (pre ++ [u]) (D1 z u).2 t (l0 ++ (D1 z u).1) (by simp [h]) o1 (by omega) (by omega) (by simp; omega)
     rw [show ((pre ++ [u]).length : Int) = (pre.length : Int) + 1 by simp] at this
     rw [this, Ic]
   . rw [if_neg hy, d2R (by simpa using hy) h]
     simp
theorem a7V (N : Nat) {z : ZT} (hz : ZOK z) {l : List UInt8} (hl : l.length <= 3000) (hN : l.length < N) (hb : z.buf.length <= 800000) :
 S4 N l true z.c1 z.c2 z.c3 z.c4 z.cd z.cl z.cg z.busy z.ph z.h0 z.h1 z.h2 z.h3 z.h4 z.ack z.rest z.left z.sw1 z.buf z.done z.rd z.rs z.fl =
  some ((F4 z l).1, (F4 z l).2.busy, (F4 z l).2.ph, (F4 z l).2.h0, (F4 z l).2.h1, (F4 z l).2.h2, (F4 z l).2.h3, (F4 z l).2.h4, (F4 z l).2.ack, (F4 z l).2.rest, (F4 z l).2.left, (F4 z l).2.sw1, (F4 z l).2.buf, (F4 z l).2.done, (F4 z l).2.rd, (F4 z l).2.rs, (F4 z l).2.fl) := by
 have := c8R (N := N) hl (fun r z' => some (r, z'.busy, z'.ph, z'.h0, z'.h1, z'.h2, z'.h3, z'.h4, z'.ack, z'.rest, z'.left, z'.sw1, z'.buf, z'.done, z'.rd, z'.rs, z'.fl)) l [] z N [] rfl hz (by omega) hN (by simp; omega)
 rw [IJ] at this
 exact this
end En
namespace En
open Go
set_option maxRecDepth 20000
structure ZC where
 ks : List Int
 ph : Int
 got : List UInt8
 h0 : Int
 h1 : Int
 h2 : Int
 h3 : Int
 h4 : Int
 c1 : Int
 c2 : Int
 c3 : Int
 c4 : Int
 cd : List UInt8
 cl : Int
 cg : Bool
 inc : Bool
 dat : List UInt8
 sw : Int
noncomputable def cS {R : Type} (N : Nat) (l1 : List UInt8) (z : ZC) (t : Nat) (l0 : List UInt8) (i : Int) (K0 : List UInt8 -> ZC -> Option R) : Option R :=
 G0 N l1 (l1.length : Int) z.ks t l0 i z.ph z.got z.h0 z.h1 z.h2 z.h3 z.h4 z.c1 z.c2 z.c3 z.c4 z.cd z.cl z.cg z.inc z.dat z.sw
  fun l ph got h0 h1 h2 h3 h4 c1 c2 c3 c4 cd cl cg inc dat sw => K0 l { z with ph := ph, got := got, h0 := h0, h1 := h1, h2 := h2, h3 := h3, h4 := h4, c1 := c1, c2 := c2, c3 := c3, c4 := c4, cd := cd, cl := cl, cg := cg, inc := inc, dat := dat, sw := sw }
def stat (sw : Int) : List UInt8 := [by8 (sw / 256), by8 sw]
def Y2 (first : Int) (d : List UInt8) : List UInt8 := [by8 first, by8 (if 256 <= d.length then 0 else (d.length : Int))]
def c5q (b : Int) : Prop := ¬ b / 16 = 6 /\ ¬ b / 16 = 9
theorem d4x (b : Int) : a2c .i64 b 4 = b / 16 := by
 show b.fdiv (2 ^ (min (4 : Int).toNat 64)) = _
 exact c0l b 16 (by omega)
theorem b1C (N : Nat) (sw : Int) : A0 N sw = some (stat sw) := by
 unfold A0 stat
 simp only [a4s, d4C]
theorem b1k (N : Nat) (f : Int) (y0 : List Int) (y1 : Int) (y2 : List UInt8) (y3 y4 y5 y6 y7 y8 y9 y10 y11 : Int) (y12 : List UInt8) (y13 : Int) (y14 y15 : Bool) (y16 : List UInt8) (y17 : Int) :
 L6 N f y0 y1 y2 y3 y4 y5 y6 y7 y8 y9 y10 y11 y12 y13 y14 y15 y16 y17 = some (Y2 f y16) := by
 unfold L6 a4Y Y2
 simp only [a4s, c7]
 by_cases h : 256 <= y16.length
 . rw [if_pos (by omega), if_pos h]
 . rw [if_neg (by omega), if_neg h]
theorem b3B (N : Nat) (x0 : List UInt8) (x1 : Int) (y0 : List Int) (y1 : Int) (y2 : List UInt8) (y3 y4 y5 y6 y7 y8 y9 y10 y11 : Int) (y12 : List UInt8) (y13 : Int) (y14 y15 : Bool) (y16 : List UInt8) (y17 : Int) :
 q9 N x0 x1 y0 y1 y2 y3 y4 y5 y6 y7 y8 y9 y10 y11 y12 y13 y14 y15 y16 y17 = some (0, y3, y4, y5, y6, x0, x1, false) := rfl
theorem a5B {n : Int} (h0 : 0 <= n) (h1 : n <= 255) : GA.wrap ((by8 n).toNat : Int) = n := by
 rw [b3o, a0B h0 h1]
def by_ (n : Int) : Prop := 0 <= n /\ n <= 255
theorem b4V (N : Nat) {a b c d e : Int} (ha : by_ a) (hb : by_ b) (hc : by_ c) (hd : by_ d) (he : by_ e) : a2z N [by8 a, by8 b, by8 c, by8 d, by8 e] = some (a, b, c, d, e) := by
 unfold a2z
 simp only [c7, Hu, KA]
 simp [at?, a5B ha.1 ha.2, a5B hb.1 hb.2, a5B hc.1 hc.2, a5B hd.1 hd.2, a5B he.1 he.2]
section
variable {R : Type} {N : Nat} {l1 pre suf : List UInt8} {u : UInt8}
theorem c5o {z z' : ZC} {out : List UInt8} (hp : z.ph = 1) (h : l1 = pre ++ u :: suf) (hl : l1.length <= 1000000) (t : Nat) {l0 : List UInt8} (hl0 : l0.length + out.length <= 2000000) (hk : z'.ks = z.ks)
 (hh : F3 N (u.toNat : Int) z.ks z.ph z.got z.h0 z.h1 z.h2 z.h3 z.h4 z.c1 z.c2 z.c3 z.c4 z.cd z.cl z.cg z.inc z.dat z.sw = some (out, z'.ph, z'.got, z'.h0, z'.h1, z'.h2, z'.h3, z'.h4, z'.c1, z'.c2, z'.c3, z'.c4, z'.cd, z'.cl, z'.cg, z'.inc, z'.dat, z'.sw)) (K0 : List UInt8 -> ZC -> Option R) :
 cS N l1 z (t + 1) l0 pre.length K0 = cS N l1 z' t (l0 ++ out) ((pre.length : Int) + 1) K0 := by
 have h1 := a8o h
 unfold cS
 rw [G0, M2, c7, if_pos h1, t5, c7, if_pos (by omega), c7, if_pos h1, a2d h, c7, if_neg (by omega), c7, if_pos hp, hh, b2R, c7, if_pos (by omega), b2n h hl, hk]
theorem d1V {z : ZC} (hp : z.ph = 2) (h : l1 = pre ++ u :: suf) (hl : l1.length <= 1000000) (t : Nat) {l0 : List UInt8} (hl0 : l0.length <= 1000000) (hg : z.got.length <= 1000000) (K0 : List UInt8 -> ZC -> Option R) :
 cS N l1 z (t + 1) l0 pre.length K0 = cS N l1 (if ((z.got ++ [u]).length : Int) = z.h4 then { z with ph := 0, got := [], c1 := z.h0, c2 := z.h1, c3 := z.h2, c4 := z.h3, cd := z.got ++ [u], cl := 256, cg := false } else { z with got := z.got ++ [u] }) t l0 ((pre.length : Int) + 1) K0 := by
 have h1 := a8o h
 have hu : Gz (u.toNat : Int).toNat = u := by rw [Im]; exact ofNat_toNat u
 unfold cS
 rw [G0, M2, c7, if_pos h1, t5, c7, if_pos (by omega), c7, if_pos h1, a2d h, c7, if_neg (by omega), c7, if_neg (by omega), c7, if_pos hp]
 unfold a0h a1H
 rw [hu, c7, if_pos (by simp; omega), c7]
 split
 . rw [b3B, N7, a4i, c7, if_pos (by simp; omega), b2n h hl, KB]
 . rw [a4i, c7, if_pos (by simp; omega), b2n h hl, KB]
theorem d0k {z : ZC} (t : Nat) {l0 : List UInt8} (K0 : List UInt8 -> ZC -> Option R) : cS N l1 z (t + 1) l0 (l1.length : Int) K0 = K0 l0 z := by
 unfold cS
 rw [G0, M2, c7, if_neg (by omega)]
end
theorem c2P (N : Nat) (z : ZC) (u : UInt8) (h : z.got.length + 1 < 5) :
 F3 N (u.toNat : Int) z.ks z.ph z.got z.h0 z.h1 z.h2 z.h3 z.h4 z.c1 z.c2 z.c3 z.c4 z.cd z.cl z.cg z.inc z.dat z.sw = some ([], z.ph, z.got ++ [u], z.h0, z.h1, z.h2, z.h3, z.h4, z.c1, z.c2, z.c3, z.c4, z.cd, z.cl, z.cg, z.inc, z.dat, z.sw) := by
 have hu : Gz (u.toNat : Int).toNat = u := by rw [Im]; exact ofNat_toNat u
 unfold F3 V6
 rw [hu, c7, if_pos (by simp; omega), c7, if_pos (by simp; omega)]
theorem b8I (N : Nat) (z : ZC) {a b c d e : Int} (ha : 0 <= a /\ a <= 254) (hb : by_ b) (hc : by_ c) (hd : by_ d) (he : by_ e) (hi : c5q b) (hg : b ≠ 192) (hs : a2u a = false) (b8E : z.got = [by8 a, by8 b, by8 c, by8 d]) :
 F3 N ((by8 e).toNat : Int) z.ks z.ph z.got z.h0 z.h1 z.h2 z.h3 z.h4 z.c1 z.c2 z.c3 z.c4 z.cd z.cl z.cg z.inc z.dat z.sw =
  if a5v b z.ks = true then (if 0 < e then some ([by8 b], 2, [], a, b, c, d, e, z.c1, z.c2, z.c3, z.c4, z.cd, z.cl, z.cg, true, [], 0) else some ([], 0, [], a, b, c, d, e, a, b, c, d, [], 256, false, true, [], 0))
  else some ([], 0, [], a, b, c, d, e, a, b, c, d, [], cnt e, false, false, [], 0) := by
 have hu : Gz ((by8 e).toNat : Int).toNat = by8 e := by rw [Im]; exact ofNat_toNat _
 have hcl := a8G N ha.1 ha.2
 have hpz := b4V N (a := a) ⟨ha.1, by omega⟩ hb hc hd he
 unfold a2u c4u at hs
 generalize hq : clT a = q at *
 obtain ⟨ch, s, k, p, ok⟩ := q
 simp only at hs
 have hgl : z.got.length = 4 := by rw [b8E]; rfl
 have e1 : z.got ++ [by8 e] = [by8 a, by8 b, by8 c, by8 d, by8 e] := by rw [b8E]; rfl
 unfold F3 V6
 simp only [hu, e1]
 rw [c7, if_pos (by simp; omega), c7, if_neg (by simp), hpz, Q8, c7, if_neg (by omega), d4x, c7, if_neg hi.1, c7, if_neg hi.2, hcl, Q8]
 simp only [b3B, a9c, N7, d4, c7, if_neg hg, j8, a4s]
 cases ok <;> cases p <;> cases s <;> first | (exact absurd hs (by decide)) | skip
 all_goals
  simp only [F5, P9]
  cases a5v b z.ks <;> simp only [F5, P9, if_true, GZ, if_false]
theorem c7q (N : Nat) (z : ZC) {a e : Int} (ha : 0 <= a /\ a < 4) (he : by_ e) (b8E : z.got = [by8 a, by8 192, by8 0, by8 0]) (hsw : z.sw ≠ 0) (hn : cnt e <= (z.dat.length : Int)) (hl : z.dat.length <= 100000) :
 F3 N ((by8 e).toNat : Int) z.ks z.ph z.got z.h0 z.h1 z.h2 z.h3 z.h4 z.c1 z.c2 z.c3 z.c4 z.cd z.cl z.cg z.inc z.dat z.sw =
  some ((192 : UInt8) :: z.dat.take (cnt e).toNat ++ (if z.dat.drop (cnt e).toNat = [] then stat z.sw else Y2 97 (z.dat.drop (cnt e).toNat)), z.ph, [], z.h0, z.h1, z.h2, z.h3, z.h4, z.c1, z.c2, z.c3, z.c4, z.cd, z.cl, z.cg, z.inc, z.dat.drop (cnt e).toNat, if z.dat.drop (cnt e).toNat = [] then 0 else z.sw) := by
 have hu : Gz ((by8 e).toNat : Int).toNat = by8 e := by rw [Im]; exact ofNat_toNat _
 have hcl := a8G N (c := a) ha.1 (by omega)
 rw [c4W ha.1 ha.2] at hcl
 have hz : by_ 0 := ⟨by decide, by decide⟩
 have hpz := b4V N (a := a) (b := 192) (c := 0) (d := 0) ⟨ha.1, by omega⟩ ⟨by decide, by decide⟩ hz hz he
 have hgl : z.got.length = 4 := by rw [b8E]; rfl
 have e1 : z.got ++ [by8 e] = [by8 a, by8 192, by8 0, by8 0, by8 e] := by rw [b8E]; rfl
 have hc0 : 1 <= cnt e := by unfold cnt; have := he.1; split <;> omega
 unfold F3 V6
 simp only [hu, e1]
 rw [c7, if_pos (by simp; omega), c7, if_neg (by simp), hpz, Q8, c7, if_neg (by omega), d4x, c7, if_neg (by decide), c7, if_neg (by decide), hcl, Q8, F5, j8, P9, c7, if_pos rfl]
 unfold a7j a7M
 have b4D : Gz (GX 192) = 192 := rfl
 have hdl : ((z.dat.drop (cnt e).toNat).length : Int) = (z.dat.length : Int) - cnt e := by rw [List.length_drop]; omega
 simp only [a9c, d4, b1k, b1C, j8, c7]
 rw [if_pos trivial, if_pos trivial, if_neg hsw, if_neg (by omega), t5, c7, if_pos (by omega), c7, if_pos hn, if_pos (by simp; omega)]
 rw [t5, c7, if_pos (by omega), c7, if_pos hn]
 by_cases hd : z.dat.drop (cnt e).toNat = []
 . have h0 : ¬ (0 : Int) < ((z.dat.drop (cnt e).toNat).length : Int) := by rw [hd]; simp
   rw [if_neg h0, if_pos (by simp [stat]; omega), if_pos hd, if_pos hd, X8]
   rfl
 . have h0 : (0 : Int) < ((z.dat.drop (cnt e).toNat).length : Int) := by have := HA.2 hd; omega
   rw [if_pos h0, if_pos (by simp [Y2]; omega), if_neg hd, if_neg hd, X8]
   rfl
end En
namespace En
open Go
set_option maxRecDepth 20000
theorem R7 {z : ZT} (hb : z.busy = true) (u : UInt8) (r : List UInt8) : F4 z (u :: r) = ((D1 z u).1 ++ (F4 (D1 z u).2 r).1, (F4 (D1 z u).2 r).2) := by
 rw [F4, if_pos hb]
theorem b6Z : ∀ (l : List UInt8) (z : ZT), ZOK z -> ZOK (F4 z l).2 /\ (F4 z l).2.buf.length <= z.buf.length + l.length
 | [], z, h => ⟨h, GB _⟩
 | u :: r, z, h => by
   unfold F4
   split
   . obtain ⟨a1, a2, a3⟩ := c1U h u
     obtain ⟨b1, b2⟩ := b6Z r (D1 z u).2 a1
     exact ⟨b1, by simp only [Hu]; omega⟩
   . exact ⟨h, by simp⟩
section
variable {z : ZT} (hb : z.busy = true) (hp : z.ph = 1)
include hb hp
theorem d5J {b : Int} (h0 : by_ b) (h1 : z.h1 = b) (ha : z.ack = true) (h96 : b ≠ 96) (hr : z.rest = false) (hd : z.cd ≠ []) : F4 z [by8 b] = (z.cd, { z with ack := false }) := by
 rw [R7 hb]
 have e : D1 z (by8 b) = (z.cd, { z with ack := false }) := by
  unfold D1 L5 a5X
  rw [if_pos hp, a0B h0.1 h0.2, if_neg h96, if_pos ⟨h1.symm, ha⟩, if_pos ⟨hr, hd⟩]
 rw [e]
 simp [F4]
theorem d3Z {b : Int} (h0 : by_ b) (h1 : z.h1 = b) (ha : z.ack = true) (h96 : b ≠ 96) (hr : z.rest = true ∨ z.cd = []) (r : List UInt8) : F4 z (by8 b :: r) = F4 { z with ack := false, ph := 3, left := cnt z.h4 } r := by
 rw [R7 hb]
 have e : D1 z (by8 b) = ([], { z with ack := false, ph := 3, left := cnt z.h4 }) := by
  unfold D1 L5 a5X
  rw [if_pos hp, a0B h0.1 h0.2, if_neg h96, if_pos ⟨h1.symm, ha⟩, if_neg]
  rintro ⟨h2, h3⟩
  rcases hr with hr | hr
  . rw [hr] at h2; cases h2
  . exact h3 hr
 rw [e]
 simp
theorem b8d {sw : Int} (hf : H5 (sw / 256)) (hm : sw / 256 ≠ 97) (hn : ¬ (sw / 256 = z.h1 /\ z.ack = true)) :
 F4 z (stat sw) = ([], { z with sw1 := sw / 256, ph := 2, busy := false, done := true, rd := z.buf.take (if a2u z.c1 then z.buf.length else min z.buf.length z.cl.toNat), rs := sw }) := by
 have hf' : 97 <= sw / 256 /\ sw / 256 <= 159 /\ sw / 256 ≠ 96 := by unfold H5 at hf; omega
 unfold stat
 rw [R7 hb]
 have e : D1 z (by8 (sw / 256)) = ([], { z with sw1 := sw / 256, ph := 2 }) := by
  unfold D1 L5
  rw [if_pos hp, a0B (by omega) (by omega), if_neg hf'.2.2, if_neg hn, if_pos hf]
 rw [e, R7 (by exact hb)]
 have e2 : ((by8 sw).toNat : Int) = sw % 256 := by
  unfold by8
  rw [Iy, Ii (by omega)]; omega
 have e3 : D1 { z with sw1 := sw / 256, ph := 2 } (by8 sw) = ([], { z with sw1 := sw / 256, ph := 2, busy := false, done := true, rd := z.buf.take (if a2u z.c1 then z.buf.length else min z.buf.length z.cl.toNat), rs := sw }) := by
  unfold D1 o8
  rw [if_neg (by show ¬ (2 : Int) = 1; decide), if_pos rfl, if_neg hm, e2]
  simp only [Prod.mk.injEq, true_and]
  have : 256 * (sw / 256) + sw % 256 = sw := by omega
  rw [this]
 rw [e3]
 simp [F4]
theorem c8P {n : Int} (h0 : by_ n) (hn : z.h1 ≠ 97) (hcl : 0 <= z.c1 /\ z.c1 <= 254) :
 F4 z [by8 97, by8 n] = ([by8 (a8M z.c1), by8 192, by8 0, by8 0, by8 n], { z with sw1 := 97, ph := 1, h0 := a8M z.c1, h1 := 192, h2 := 0, h3 := 0, h4 := n, ack := true, rest := true }) := by
 rw [R7 hb]
 have e : D1 z (by8 97) = ([], { z with sw1 := 97, ph := 2 }) := by
  unfold D1 L5
  rw [if_pos hp, a0B (by decide) (by decide), if_neg (by decide), if_neg (fun h => hn h.1.symm), if_pos (by decide)]
 rw [e, R7 (by exact hb)]
 have e3 : D1 { z with sw1 := 97, ph := 2 } (by8 n) = ([by8 (a8M z.c1), by8 192, by8 0, by8 0, by8 n], { z with sw1 := 97, ph := 1, h0 := a8M z.c1, h1 := 192, h2 := 0, h3 := 0, h4 := n, ack := true, rest := true }) := by
  unfold D1 o8 b6r
  rw [if_neg (by show ¬ (2 : Int) = 1; decide), if_pos rfl, if_pos rfl, a0B h0.1 h0.2]
 rw [e3]
 simp [F4]
end
theorem c2E (r : List UInt8) : ∀ (d : List UInt8) (z : ZT), z.busy = true -> z.ph = 3 -> d ≠ [] -> z.left = (d.length : Int) -> F4 z (d ++ r) = F4 { z with ph := 1, buf := z.buf ++ d, left := 0 } r
 | [], z, _, _, h, _ => absurd rfl h
 | [u], z, hb, hp, _, hl => by
   rw [JE, R7 hb]
   have e : D1 z u = ([], { z with ph := 1, buf := z.buf ++ [u], left := 0 }) := by
    unfold D1 a4t
    have hl : z.left = 1 := by simpa using hl
    rw [if_neg (by omega), if_neg (by omega), hl]
    rfl
   rw [e]
   simp
 | u :: v :: d, z, hb, hp, _, hl => by
   rw [IV, R7 hb]
   have hl' : z.left - 1 = ((v :: d).length : Int) := by rw [hl]; simp
   have e : D1 z u = ([], { z with buf := z.buf ++ [u], left := z.left - 1 }) := by
    unfold D1 a4t
    rw [if_neg (by omega), if_neg (by omega), if_neg (by rw [hl']; simp; omega)]
   rw [e]
   have := c2E r (v :: d) { z with buf := z.buf ++ [u], left := z.left - 1 } hb hp (by simp) hl'
   simp only [IJ]
   rw [this, Ic]
   rfl
def b8J (N : Nat) (l : List UInt8) (z : ZC) (out : List UInt8) (z' : ZC) : Prop :=
 z'.ks = z.ks /\ a0f N l z.ks z.ph z.got z.h0 z.h1 z.h2 z.h3 z.h4 z.c1 z.c2 z.c3 z.c4 z.cd z.cl z.cg z.inc z.dat z.sw = some (out, z'.ph, z'.got, z'.h0, z'.h1, z'.h2, z'.h3, z'.h4, z'.c1, z'.c2, z'.c3, z'.c4, z'.cd, z'.cl, z'.cg, z'.inc, z'.dat, z'.sw)
theorem c5t {N : Nat} {l : List UInt8} {z z' : ZC} {out : List UInt8} (hk : z'.ks = z.ks) (h : ∀ (R : Type) (K0 : List UInt8 -> ZC -> Option R), cS N l z N [] 0 K0 = K0 out z') : b8J N l z out z' := by
 refine ⟨hk, ?_⟩
 have := h _ (fun out z' => some (out, z'.ph, z'.got, z'.h0, z'.h1, z'.h2, z'.h3, z'.h4, z'.c1, z'.c2, z'.c3, z'.c4, z'.cd, z'.cl, z'.cg, z'.inc, z'.dat, z'.sw))
 exact this
section
variable {N : Nat} (hN : 10 < N) {z : ZC} (hp : z.ph = 1) (hg : z.got = [])
include hN hp hg
theorem b1W {a b c d e : UInt8} {z' : ZC} {out : List UInt8} (hk : z'.ks = z.ks) (ho : out.length <= 1000000)
 (hh : F3 N (e.toNat : Int) z.ks z.ph [a, b, c, d] z.h0 z.h1 z.h2 z.h3 z.h4 z.c1 z.c2 z.c3 z.c4 z.cd z.cl z.cg z.inc z.dat z.sw = some (out, z'.ph, z'.got, z'.h0, z'.h1, z'.h2, z'.h3, z'.h4, z'.c1, z'.c2, z'.c3, z'.c4, z'.cd, z'.cl, z'.cg, z'.inc, z'.dat, z'.sw)) :
 b8J N [a, b, c, d, e] z out z' := by
 refine c5t hk fun R K0 => ?_
 obtain ⟨M, rfl⟩ : ∃ M, N = M + 6 := ⟨N - 6, by omega⟩
 have step : ∀ (g : List UInt8) (u : UInt8) (pre suf : List UInt8) (t : Nat), g.length + 1 < 5 -> [a, b, c, d, e] = pre ++ u :: suf ->
  cS (M + 6) [a, b, c, d, e] { z with got := g } (t + 1) [] pre.length K0 = cS (M + 6) [a, b, c, d, e] { z with got := g ++ [u] } t [] ((pre.length : Int) + 1) K0 := by
  intro g u pre suf t hgl hl
  have := c5o (N := M + 6) (z := { z with got := g }) (z' := { z with got := g ++ [u] }) (out := []) hp hl (by simp) t (l0 := []) (by simp) rfl (c2P (M + 6) { z with got := g } u hgl) K0
  rwa [KB] at this
 have ez : z = { z with got := [] } := by rw [← hg]
 rw [ez]
 have s1 := step [] a [] [b, c, d, e] (M + 5) (by simp) rfl
 have s2 := step [a] b [a] [c, d, e] (M + 4) (by simp) rfl
 have s3 := step [a, b] c [a, b] [d, e] (M + 3) (by simp) rfl
 have s4 := step [a, b, c] d [a, b, c] [e] (M + 2) (by simp) rfl
 have s5 := c5o (N := M + 6) (l1 := [a, b, c, d, e]) (pre := [a, b, c, d]) (suf := []) (u := e) (z := { z with got := [a, b, c, d] }) (z' := z') (out := out) hp rfl (by simp) (M + 1) (l0 := []) (by simp; omega) hk hh K0
 have s6 := d0k (N := M + 6) (l1 := [a, b, c, d, e]) (z := z') M (l0 := out) K0
 simp only [KA, Hu, IJ, JE, IV] at s1 s2 s3 s4 s5 s6
 rw [show (((0 : Nat) : Int)) = 0 from rfl] at s1
 rw [s1]
 exact (s2.trans (s3.trans (s4.trans (s5.trans s6))))
theorem d5O {a b c d e : Int} (ha : 0 <= a /\ a <= 254) (hb : by_ b) (hc : by_ c) (hd : by_ d) (he : by_ e) (hi : c5q b) (hn : b ≠ 192) (hs : a2u a = false) (hk : a5v b z.ks = true) (h0 : 0 < e) :
 b8J N [by8 a, by8 b, by8 c, by8 d, by8 e] z [by8 b] { z with ph := 2, got := [], h0 := a, h1 := b, h2 := c, h3 := d, h4 := e, inc := true, dat := [], sw := 0 } := by
 have := b8I N { z with got := [by8 a, by8 b, by8 c, by8 d] } ha hb hc hd he hi hn hs rfl
 rw [if_pos (show a5v b z.ks = true from hk), if_pos h0] at this
 exact b1W hN hp hg rfl (by simp) this
theorem d4j {a b c d e : Int} (ha : 0 <= a /\ a <= 254) (hb : by_ b) (hc : by_ c) (hd : by_ d) (he : by_ e) (hi : c5q b) (hn : b ≠ 192) (hs : a2u a = false) (hk : a5v b z.ks = false) :
 b8J N [by8 a, by8 b, by8 c, by8 d, by8 e] z [] { z with ph := 0, got := [], h0 := a, h1 := b, h2 := c, h3 := d, h4 := e, c1 := a, c2 := b, c3 := c, c4 := d, cd := [], cl := cnt e, cg := false, inc := false, dat := [], sw := 0 } := by
 have := b8I N { z with got := [by8 a, by8 b, by8 c, by8 d] } ha hb hc hd he hi hn hs rfl
 rw [if_neg (show ¬ a5v b z.ks = true by rw [hk]; decide)] at this
 exact b1W hN hp hg rfl (by simp) this
theorem d4S {a e : Int} (ha : 0 <= a /\ a < 4) (he : by_ e) (hsw : z.sw ≠ 0) (hn : cnt e <= (z.dat.length : Int)) (hl : z.dat.length <= 100000) :
 b8J N [by8 a, by8 192, by8 0, by8 0, by8 e] z ((192 : UInt8) :: z.dat.take (cnt e).toNat ++ (if z.dat.drop (cnt e).toNat = [] then stat z.sw else Y2 97 (z.dat.drop (cnt e).toNat)))
  { z with got := [], dat := z.dat.drop (cnt e).toNat, sw := if z.dat.drop (cnt e).toNat = [] then 0 else z.sw } := by
 have := c7q N { z with got := [by8 a, by8 192, by8 0, by8 0] } ha he rfl hsw hn hl
 refine b1W hN hp hg rfl ?_ this
 simp only [GW, Hu, List.length_take]
 split <;> simp [stat, Y2] <;> omega
end
theorem c7N {N : Nat} {z : ZC} (hp : z.ph = 2) (hg : z.got = []) {l : List UInt8} (hl : l ≠ []) (h4 : z.h4 = (l.length : Int)) (hN : 300 < N) (hle : l.length <= 255) :
 b8J N l z [] { z with ph := 0, got := [], c1 := z.h0, c2 := z.h1, c3 := z.h2, c4 := z.h3, cd := l, cl := 256, cg := false } := by
 refine c5t rfl fun R K0 => ?_
 have key : ∀ (suf pre : List UInt8) (t : Nat), l = pre ++ suf -> suf ≠ [] -> suf.length + 1 < t -> cS N l { z with got := pre } t [] pre.length K0 = K0 [] { z with ph := 0, got := [], c1 := z.h0, c2 := z.h1, c3 := z.h2, c4 := z.h3, cd := l, cl := 256, cg := false } := by
  intro suf
  induction suf with
  | nil => intro pre t h h0; exact absurd rfl h0
  | cons u suf ih =>
    intro pre t h _ ht
    obtain ⟨t, rfl⟩ : ∃ s, t = s + 2 := ⟨t - 2, by simp at ht; omega⟩
    have hpl : pre.length + suf.length + 1 = l.length := by rw [h]; simp; omega
    rw [d1V (z := { z with got := pre }) hp h (by omega) (t + 1) (by simp) (by simp only; omega)]
    by_cases hs : suf = []
    . subst hs
      have e1 : pre ++ [u] = l := h.symm
      rw [if_pos (show (((pre ++ [u]).length : Nat) : Int) = z.h4 by rw [e1, h4])]
      have e2 : ((pre.length : Int) + 1) = (l.length : Int) := by simp at hpl; omega
      simp only [e1]
      rw [e2, d0k]
    . rw [if_neg (show ¬ (((pre ++ [u]).length : Nat) : Int) = z.h4 by
       have := HA.2 hs
       rw [h4]; simp; omega)]
      have := ih (pre ++ [u]) (t + 1) (by rw [h]; simp) hs (by simp at ht; omega)
      rw [show (((pre ++ [u]).length : Nat) : Int) = (pre.length : Int) + 1 by simp] at this
      exact this
 have ez : z = { z with got := [] } := by rw [← hg]
 rw [ez]
 exact key l [] N rfl hl (by omega)
end En
namespace En
open Go
set_option maxRecDepth 20000
section
variable {N : Nat} (hN : 200000 < N)
theorem d5n {R : Type} (b1 b2 : List UInt8) (h1 : b1.length <= 1000000) (h2 : b2.length <= 1000000) (hN : 200000 < N) : a1I N [V.bytes b1, V.bytes b2] = some (b1 ++ b2) := by
 obtain ⟨t, rfl⟩ : ∃ t, N = t + 4 := ⟨N - 4, by omega⟩
 have l2 : (([V.bytes b1, V.bytes b2].length : Nat) : Int) = 2 := rfl
 unfold a1I
 rw [W0, a0O]
 have e0 : ∀ (K : V -> Option (List UInt8)), at? [V.bytes b1, V.bytes b2] (GX 0) K = K (V.bytes b1) := fun K => rfl
 rw [c7, if_pos (by first | decide | (rw [l2]; decide)), t5, c7, if_pos (by first | decide | (rw [l2]; decide)), c7, if_pos (by first | decide | (rw [l2]; decide)), e0, V9, c7, if_pos (by simp; omega), W0, a0O]
 have e1 : ∀ (K : V -> Option (List UInt8)), at? [V.bytes b1, V.bytes b2] (GA.wrap (0 + 1)).toNat K = K (V.bytes b2) := fun K => rfl
 rw [c7, if_pos (by first | decide | (rw [l2]; decide)), t5, c7, if_pos (by first | decide | (rw [l2]; decide)), c7, if_pos (by first | decide | (rw [l2]; decide)), e1, V9, c7, if_pos (by simp; omega), W0, a0O]
 rw [c7, if_neg (by rw [l2]; decide)]
 simp
theorem d4D {R : Type} (b1 b2 : List UInt8) (h1 : b1.length <= 1000000) (h2 : b2.length <= 1000000) (hN : 200000 < N) : a4W N [V.bytes b1, V.bytes b2] = some (b1 ++ b2) := by
 obtain ⟨t, rfl⟩ : ∃ t, N = t + 4 := ⟨N - 4, by omega⟩
 have l2 : (([V.bytes b1, V.bytes b2].length : Nat) : Int) = 2 := rfl
 unfold a4W
 rw [V0, a0L]
 have e0 : ∀ (K : V -> Option (List UInt8)), at? [V.bytes b1, V.bytes b2] (GX 0) K = K (V.bytes b1) := fun K => rfl
 rw [c7, if_pos (by first | decide | (rw [l2]; decide)), t5, c7, if_pos (by first | decide | (rw [l2]; decide)), c7, if_pos (by first | decide | (rw [l2]; decide)), e0, V9, c7, if_pos (by simp; omega), V0, a0L]
 have e1 : ∀ (K : V -> Option (List UInt8)), at? [V.bytes b1, V.bytes b2] (GA.wrap (0 + 1)).toNat K = K (V.bytes b2) := fun K => rfl
 rw [c7, if_pos (by first | decide | (rw [l2]; decide)), t5, c7, if_pos (by first | decide | (rw [l2]; decide)), c7, if_pos (by first | decide | (rw [l2]; decide)), e1, V9, c7, if_pos (by simp; omega), V0, a0L]
 rw [c7, if_neg (by rw [l2]; decide)]
 simp
theorem b6b {R : Type} (l : List UInt8) (hl : l.length <= 1000000) (K0 : Int -> Option R) (K1 : Option R) : ∀ (suf pre : List UInt8) (t : Nat), l = pre ++ suf -> suf.length < t -> K7 N l l t (pre.length : Int) K0 K1 = K1
 | [], pre, t, h, ht => by
   obtain ⟨t, rfl⟩ : ∃ s, t = s + 1 := ⟨t - 1, by simp at ht; omega⟩
   rw [K7, T6, c7, if_neg (by rw [h]; simp)]
 | u :: suf, pre, t, h, ht => by
   obtain ⟨t, rfl⟩ : ∃ s, t = s + 1 := ⟨t - 1, by simp at ht; omega⟩
   have h1 := a8o h
   rw [K7, T6, c7, if_pos h1, c7, if_pos h1, t5, c7, if_pos (by omega), c7, if_pos h1, a2d h, t5, c7, if_pos (by omega), c7, if_pos h1, a2d h, c7, if_neg (by omega), t5, c7, if_pos (by omega), c7, if_pos h1, a2d h, t5, c7, if_pos (by omega), c7, if_pos h1, a2d h, c7, if_neg (by omega), b2n h hl]
   have := b6b l hl K0 K1 suf (pre ++ [u]) t (by simp [h]) (by simp at ht; omega)
   rw [show (((pre ++ [u]).length : Nat) : Int) = (pre.length : Int) + 1 by simp] at this
   exact this
theorem a4J (l : List UInt8) (hl : l.length <= 100000) (hN : 200000 < N) : G4 N l l = some 0 := by
 unfold G4
 have := b6b (N := N) l (by omega) (fun n0 => some n0) (br (decide ((l.length : Int) < (l.length : Int))) (some (-1)) (br (decide ((l.length : Int) < (l.length : Int))) (some 1) (some 0))) l [] N rfl (by omega)
 rw [show (((([] : List UInt8).length : Nat)) : Int) = 0 from rfl] at this
 rw [this, c7, if_neg (by omega), c7, if_neg (by omega)]
theorem c4C (x0 x1 x2 x3 : Int) (x4 : List UInt8) (x5 : Int) (x6 : Bool) (hl : x4.length <= 100000) (hN : 200000 < N) : w8 N x0 x1 x2 x3 x4 x5 x6 x0 x1 x2 x3 x4 x5 x6 = some true := by
 unfold w8 a4x
 simp only [a4J x4 hl hN, d4, decide_true, F5, beq_self_eq_true]
theorem a3c (d : List UInt8) (sw : Int) (hl : d.length <= 100000) (hN : 200000 < N) : D2 N d sw d sw = some true := by
 unfold D2
 simp only [a4J d hl hN, d4, decide_true, F5]
theorem a5N (sw : Int) : S2 N sw = some (decide (H5 (sw / 256))) := by
 unfold S2
 simp only [d4C, c7]
 have hd : ∀ (p : Prop) [Decidable p], H5 (sw / 256) = p -> decide (H5 (sw / 256)) = decide p := fun p _ h => by simp only [h]
 unfold H5
 by_cases h1 : 97 <= sw / 256 <;> by_cases h2 : sw / 256 <= 111 <;> by_cases h3 : 144 <= sw / 256 <;> simp [h1, h2, h3]
def rOK (d : List UInt8) (sw : Int) : Prop := d.length <= 65536 /\ H5 (sw / 256)
instance (d : List UInt8) (sw : Int) : Decidable (rOK d sw) := by unfold rOK; infer_instance
theorem a6B {d : List UInt8} {sw : Int} (h : rOK d sw) (hN : 200000 < N) : J2 N d sw = some (d ++ stat sw, 0) := by
 have hl := h.1
 unfold J2
 rw [c7, if_neg (by omega), a5N, d4, j8, c7, if_pos h.2]
 simp only [a4s, d4C]
 rw [d4D (R := Unit) d _ (by omega) (by simp) hN, d4]
 rfl
theorem b5E {d : List UInt8} {sw : Int} (h : ¬ rOK d sw) : ∃ e, J2 N d sw = some ([], e) /\ e ≠ 0 := by
 unfold J2
 rw [c7]
 by_cases hl : 65536 < (d.length : Int)
 . rw [if_pos hl]; exact ⟨3, rfl, by decide⟩
 . rw [if_neg hl, a5N, d4, j8, c7, if_neg (fun hs => h ⟨by omega, hs⟩)]
   exact ⟨2, rfl, by decide⟩
theorem a1Q {sw : Int} (h : H5 (sw / 256)) : 24832 <= sw /\ sw <= 40959 := by
 unfold H5 at h; omega
theorem c1F {d : List UInt8} {sw : Int} (h : H5 (sw / 256)) (hd : d.length <= 65536) : a1x N (d ++ stat sw) = some (d, sw, 0) := by
 have hr := a1Q h
 have hf := h
 unfold H5 at hf
 have hlen : ((d ++ stat sw).length : Int) = (d.length : Int) + 2 := by simp [stat]
 have w1 : GA.wrap (((d.length : Int) + 2) - 2) = (d.length : Int) := by rw [w64 (by omega) (by omega)]; omega
 have w2 : GA.wrap ((d.length : Int) + 1) = (d.length : Int) + 1 := w64 (by omega) (by omega)
 have a0 : ∀ (K : UInt8 -> Option (List UInt8 × Int × Int)), at? (d ++ stat sw) (d.length : Int).toNat K = K (by8 (sw / 256)) := fun K => a2d (suf := [by8 sw]) rfl K
 have a1 : ∀ (K : UInt8 -> Option (List UInt8 × Int × Int)), at? (d ++ stat sw) ((d.length : Int) + 1).toNat K = K (by8 sw) := fun K => by
  have := a2d (l := d ++ stat sw) (pre := d ++ [by8 (sw / 256)]) (suf := []) (u := by8 sw) (by simp [stat]) K
  rw [show (((d ++ [by8 (sw / 256)]).length : Nat) : Int) = (d.length : Int) + 1 by simp] at this
  exact this
 have e2 : ((by8 sw).toNat : Int) = sw % 256 := by
  unfold by8
  rw [Iy, Ii (by omega)]; omega
 have e3 : A7 IP GA (a4r GA (GA.wrap ((by8 (sw / 256)).toNat : Int)) 8) (GA.wrap ((by8 sw).toNat : Int)) = sw := by
  rw [a5B (by omega) (by omega), e2, w64 (by omega) (by omega), b0p _ _ (by omega) (by omega) (by omega) (by omega)]
  omega
 have e4 : (d ++ stat sw).take (d.length : Int).toNat = d := by rw [Im]; simp
 unfold a1x
 simp only [hlen, w1, w2]
 rw [c7, if_neg (by omega), c7, if_neg (by omega), t5, c7, if_pos (by omega), c7, if_pos (by omega), a0, t5, c7, if_pos (by omega), c7, if_pos (by omega), a1, e3, a5N, d4, j8, c7, if_pos h, t5, c7, if_pos (by omega), c7, if_pos (by omega), e4, X1 N d (by omega), d4]
def cOK (x0 x1 x2 x3 : Int) (x4 : List UInt8) (x5 : Int) (x6 : Bool) : Prop :=
 by_ x0 /\ by_ x1 /\ by_ x2 /\ by_ x3 /\ x0 ≠ 255 /\ c5q x1 /\ x4.length <= (if x6 then 65535 else 255) /\ 0 <= x5 /\ x5 <= (if x6 then 65536 else 256) /\ ¬ (x6 = true /\ x4 = [] /\ x5 = 0)
instance (x : Int) : Decidable (by_ x) := by unfold by_; infer_instance
theorem c5K (x : Int) : J4 N x = some (decide (by_ x)) := by
 unfold J4 by_
 rw [c7]
 by_cases h : 0 <= x <;> simp [h]
theorem d4m (l : List UInt8) : ((l.length : Int) = 0) ↔ l = [] := by
 rw [← List.length_eq_zero_iff]; omega
theorem a7E (x0 x1 x2 x3 : Int) (x4 : List UInt8) (x5 : Int) (x6 : Bool) : ∃ e, J3 N x0 x1 x2 x3 x4 x5 x6 = some e /\ (e = 0 ↔ cOK x0 x1 x2 x3 x4 x5 x6) := by
 unfold J3
 simp only [c5K, d4, j8, c7, d4x]
 by_cases h0 : by_ x0
 case neg => cases x6 <;> simp only [F5, P9, if_neg h0] <;> exact ⟨2, rfl, ⟨fun h => absurd h (by decide), fun h => absurd h.1 h0⟩⟩
 by_cases h1 : by_ x1
 case neg => cases x6 <;> simp only [F5, P9, if_pos h0, if_neg h1] <;> exact ⟨2, rfl, ⟨fun h => absurd h (by decide), fun h => absurd h.2.1 h1⟩⟩
 by_cases h2 : by_ x2
 case neg => cases x6 <;> simp only [F5, P9, if_pos h0, if_pos h1, if_neg h2] <;> exact ⟨2, rfl, ⟨fun h => absurd h (by decide), fun h => absurd h.2.2.1 h2⟩⟩
 by_cases h3 : by_ x3
 case neg => cases x6 <;> simp only [F5, P9, if_pos h0, if_pos h1, if_pos h2, if_neg h3] <;> exact ⟨2, rfl, ⟨fun h => absurd h (by decide), fun h => absurd h.2.2.2.1 h3⟩⟩
 simp only [if_pos h0, if_pos h1, if_pos h2, if_pos h3]
 by_cases h4 : x0 = 255
 . cases x6 <;> simp only [F5, P9, if_pos h4] <;> exact ⟨1, rfl, ⟨fun h => absurd h (by decide), fun h => absurd h4 h.2.2.2.2.1⟩⟩
 by_cases h5 : x1 / 16 = 6
 . cases x6 <;> simp only [F5, P9, if_neg h4, if_pos h5] <;> exact ⟨1, rfl, ⟨fun h => absurd h (by decide), fun h => absurd h5 h.2.2.2.2.2.1.1⟩⟩
 by_cases h6 : x1 / 16 = 9
 . cases x6 <;> simp only [F5, P9, if_neg h4, if_neg h5, if_pos h6] <;> exact ⟨1, rfl, ⟨fun h => absurd h (by decide), fun h => absurd h6 h.2.2.2.2.2.1.2⟩⟩
 simp only [if_neg h4, if_neg h5, if_neg h6]
 have fin : ∀ (b : Bool) (m k : Nat) (e : Int), x6 = b -> (if b then 65535 else 255) = m -> (if b then (65536 : Int) else 256) = k -> (e = 0 ↔ (x4.length <= m /\ 0 <= x5 /\ x5 <= k /\ ¬ (b = true /\ x4 = [] /\ x5 = 0))) -> (e = 0 ↔ cOK x0 x1 x2 x3 x4 x5 x6) := by
  intro b m k e hb hm hk he
  subst hb
  unfold cOK
  rw [he, hm, hk]
  exact ⟨fun ⟨a, b, c, d⟩ => ⟨h0, h1, h2, h3, h4, ⟨h5, h6⟩, a, b, c, d⟩, fun h => h.2.2.2.2.2.2⟩
 cases x6
 . simp only [P9]
   refine ⟨if 255 < (x4.length : Int) then 3 else if x5 < 0 then 2 else if 256 < x5 then 2 else 0, ?_, fin false 255 256 _ rfl rfl rfl ?_⟩
   . split <;> (try rfl)
     split <;> (try rfl)
     split <;> rfl
   . by_cases a : 255 < (x4.length : Int)
     . rw [if_pos a]; exact ⟨fun h => absurd h (by decide), fun h => by omega⟩
     rw [if_neg a]
     by_cases b : x5 < 0
     . rw [if_pos b]; exact ⟨fun h => absurd h (by decide), fun h => by omega⟩
     rw [if_neg b]
     by_cases c : 256 < x5
     . rw [if_pos c]; exact ⟨fun h => absurd h (by decide), fun h => by omega⟩
     rw [if_neg c]
     exact ⟨fun _ => ⟨by omega, by omega, by omega, by simp⟩, fun _ => rfl⟩
 . simp only [F5]
   refine ⟨if 65535 < (x4.length : Int) then 3 else if x5 < 0 then 2 else if 65536 < x5 then 2 else if (x4.length : Int) = 0 then (if x5 = 0 then 4 else 0) else 0, ?_, fin true 65535 65536 _ rfl rfl rfl ?_⟩
   . split <;> (try rfl)
     split <;> (try rfl)
     split <;> (try rfl)
     split <;> (try rfl)
     split <;> rfl
   . by_cases a : 65535 < (x4.length : Int)
     . rw [if_pos a]; exact ⟨fun h => absurd h (by decide), fun h => by omega⟩
     rw [if_neg a]
     by_cases b : x5 < 0
     . rw [if_pos b]; exact ⟨fun h => absurd h (by decide), fun h => by omega⟩
     rw [if_neg b]
     by_cases c : 65536 < x5
     . rw [if_pos c]; exact ⟨fun h => absurd h (by decide), fun h => by omega⟩
     rw [if_neg c]
     by_cases d : (x4.length : Int) = 0
     . rw [if_pos d]
       by_cases e : x5 = 0
       . rw [if_pos e]; exact ⟨fun h => absurd h (by decide), fun h => absurd ⟨rfl, (d4m _).1 d, e⟩ h.2.2.2⟩
       . rw [if_neg e]; exact ⟨fun _ => ⟨by omega, by omega, by omega, fun h => e h.2.2⟩, fun _ => rfl⟩
     . rw [if_neg d]; exact ⟨fun _ => ⟨by omega, by omega, by omega, fun h => d ((d4m _).2 h.2.1)⟩, fun _ => rfl⟩
theorem a8W {x0 x1 x2 x3 : Int} {x4 : List UInt8} {x5 : Int} {x6 : Bool} (h : cOK x0 x1 x2 x3 x4 x5 x6) : J3 N x0 x1 x2 x3 x4 x5 x6 = some 0 := by
 obtain ⟨e, h1, h2⟩ := a7E (N := N) x0 x1 x2 x3 x4 x5 x6
 rw [h1, h2.2 h]
end
end En
namespace En
open Go
set_option maxRecDepth 20000
section
variable {N : Nat}
def num (lg : Bool) (n : Int) : List UInt8 := if lg then [by8 (n / 256), by8 n] else [by8 n]
def cmB (d : List UInt8) (le : Int) (lg : Bool) : List UInt8 :=
 (if lg then [(0 : UInt8)] else []) ++ (if d = [] then [] else num lg d.length ++ d) ++ (if le = 0 then [] else num lg le)
def b4h (x0 x1 x2 x3 : Int) (d : List UInt8) (le : Int) (lg : Bool) : List UInt8 := [by8 x0, by8 x1, by8 x2, by8 x3] ++ cmB d le lg
theorem c9s (n : Int) : C3 N n 1 = some [by8 n] := by
 have e : GA.wrap (a4r GA 1 (GA.wrap (8 * 1)) - 1) = 255 := by decide
 unfold C3 a8p
 rw [c7, if_pos (by decide), e, c9u, if_pos rfl, if_neg (by omega), D9]
 rfl
theorem c8p (n : Int) : C3 N n 2 = some [by8 (n / 256), by8 n] := by
 have e : GA.wrap (a4r GA 1 (GA.wrap (8 * 2)) - 1) = ((2 ^ 16 - 1 : Nat) : Int) := by decide
 unfold C3 a8p c5l
 rw [c7, if_pos (by decide), e, b9I n 16 (by omega), if_neg (by decide), if_pos rfl, if_neg (by have : ((2 ^ 16 : Nat) : Int) = 65536 := rfl; omega), D9]
 have e1 : n % ((2 ^ 16 : Nat) : Int) / 256 = n / 256 % 256 := by have : ((2 ^ 16 : Nat) : Int) = 65536 := rfl; omega
 have e2 : n % ((2 ^ 16 : Nat) : Int) % 256 = n % 256 := by have : ((2 ^ 16 : Nat) : Int) = 65536 := rfl; omega
 rw [e1, e2]
 rfl
theorem b3c {x0 x1 x2 x3 : Int} {d : List UInt8} {le : Int} {lg : Bool} (h : cOK x0 x1 x2 x3 d le lg) : G6 N x0 x1 x2 x3 d le lg = some (b4h x0 x1 x2 x3 d le lg, 0) := by
 have hd : d.length <= 65535 := by have := h.2.2.2.2.2.2.1; split at this <;> omega
 have hle : 0 <= le := h.2.2.2.2.2.2.2.1
 have hc := a8W (N := N) h
 unfold G6 a5r b4h cmB num
 rw [hc, d4, d4, j8, c7, if_pos rfl, j8, c7, if_pos rfl]
 simp only [a4s]
 by_cases h0 : d = []
 . subst h0
   by_cases h1 : le = 0
   . subst h1
     cases lg <;> simp [c7, F5, P9, d4]
   . cases lg <;> simp [c7, F5, P9, d4, c9s, c8p, h1, show 0 < le by omega]
 . have hp : 0 < d.length := HA.2 h0
   by_cases h1 : le = 0
   . subst h1
     cases lg <;> simp [c7, F5, P9, d4, c9s, c8p, h0, hp, show (0 : Int) < d.length by omega, show d.length <= 140737488355328 - 5 by omega] <;> omega
   . cases lg <;> simp [c7, F5, P9, d4, c9s, c8p, h0, h1, show 0 < le by omega, hp, show (0 : Int) < d.length by omega] <;> omega
theorem b8T {x0 x1 x2 x3 : Int} {d : List UInt8} {le : Int} {lg : Bool} (h : ¬ cOK x0 x1 x2 x3 d le lg) : ∃ e, G6 N x0 x1 x2 x3 d le lg = some ([], e) /\ e ≠ 0 := by
 obtain ⟨e, h1, h2⟩ := a7E (N := N) x0 x1 x2 x3 d le lg
 have he : e ≠ 0 := fun hh => h (h2.1 hh)
 refine ⟨e, ?_, he⟩
 unfold G6
 rw [h1, d4, j8, c7, if_neg he]
theorem d5w (hN : 10 < N) : R1 N [] = some (0, 0) := by
 obtain ⟨t, rfl⟩ : ∃ t, N = t + 4 := ⟨N - 4, by omega⟩
 unfold R1
 rw [c7, if_neg (by decide), P4, U2, c7, if_neg (by decide), c7, if_neg (by decide)]
theorem orZ (u : UInt8) : A7 IP GA (a4r GA 0 8) (GA.wrap (u.toNat : Int)) = u.toNat := by
 have := u.toNat_lt
 rw [b3o, b0p 0 _ (by omega) (by omega) (by omega) (by omega)]; omega
theorem d3w (u : UInt8) (hN : 10 < N) : R1 N [u] = some ((u.toNat : Int), 0) := by
 obtain ⟨t, rfl⟩ : ∃ t, N = t + 4 := ⟨N - 4, by omega⟩
 have e0 : ∀ (K : UInt8 -> Option (Int × Int)), at? [u] (GX 0) K = K u := fun K => rfl
 unfold R1
 rw [c7, if_neg (by simp), P4, U2, c7, if_pos (by simp), t5, c7, if_pos (by decide), c7, if_pos (by simp), e0, orZ, P4, U2, c7, if_neg (by simp; decide), c7, if_neg (by omega)]
theorem d3P (u v : UInt8) (hN : 10 < N) : R1 N [u, v] = some (256 * (u.toNat : Int) + v.toNat, 0) := by
 obtain ⟨t, rfl⟩ : ∃ t, N = t + 4 := ⟨N - 4, by omega⟩
 have hu := u.toNat_lt
 have hv := v.toNat_lt
 have e0 : ∀ (K : UInt8 -> Option (Int × Int)), at? [u, v] (GX 0) K = K u := fun K => rfl
 have e1 : ∀ (K : UInt8 -> Option (Int × Int)), at? [u, v] (GA.wrap (0 + 1)).toNat K = K v := fun K => rfl
 have l2 : (([u, v].length : Nat) : Int) = 2 := rfl
 unfold R1
 simp only [l2]
 rw [c7, if_neg (by decide), P4, U2, c7, if_pos (by decide), t5, c7, if_pos (by decide), c7, if_pos (by rw [l2]; decide), e0, orZ, P4, U2, c7, if_pos (by decide), t5, c7, if_pos (by decide), c7, if_pos (by rw [l2]; decide), e1, b3o, b0p _ _ (by omega) (by omega) (by omega) (by omega), P4, U2, c7, if_neg (by decide), c7, if_neg (by omega)]
theorem R2 (n : Int) : ((by8 n).toNat : Int) = n % 256 := by
 unfold by8
 rw [Iy, Ii (by omega)]; omega
theorem d6y (hN : 10 < N) : t4 N [] = some 0 := by
 unfold t4
 rw [d5w hN, D9, c7, if_pos rfl, c7, if_neg (by decide)]
theorem c8o (lg : Bool) {le : Int} (h0 : 1 <= le) (h1 : le <= (if lg then 65536 else 256)) (hN : 10 < N) : t4 N (num lg le) = some le := by
 unfold t4 num
 cases lg
 . simp only [GZ, if_false] at h1 ⊢
   rw [d3w _ hN, D9, R2, c7]
   by_cases h : le = 256
   . subst h
     rw [if_pos (by decide), c7, if_pos (by decide), c7, if_pos (by decide)]
     rfl
   . rw [if_neg (by omega)]
     congr 1; omega
 . simp only [if_true] at h1 ⊢
   rw [d3P _ _ hN, D9, R2, R2, c7]
   by_cases h : le = 65536
   . subst h
     rw [if_pos (by decide), c7, if_pos (by decide), c7, if_pos (by decide)]
     rfl
   . rw [if_neg (by omega)]
     congr 1; omega
theorem d3f (lg : Bool) (n : Int) : (num lg n).length = if lg then 2 else 1 := by unfold num; cases lg <;> rfl
theorem c9r (lg : Bool) {n : Int} (h0 : 0 <= n) (h1 : n <= (if lg then 65535 else 255)) (hN : 10 < N) : R1 N (num lg n) = some (n, 0) := by
 unfold num
 cases lg
 . simp only [GZ, if_false] at h1 ⊢
   rw [d3w _ hN, R2]
   congr 2; omega
 . simp only [if_true] at h1 ⊢
   rw [d3P _ _ hN, R2, R2]
   congr 2; omega
def cmE (le : Int) (lg : Bool) : List UInt8 := if le = 0 then [] else num lg le
theorem c9M {le : Int} {lg : Bool} (h0 : 0 <= le) (h1 : le <= (if lg then 65536 else 256)) (hN : 10 < N) : t4 N (cmE le lg) = some le := by
 unfold cmE
 by_cases h : le = 0
 . rw [if_pos h, d6y hN, h]
 . rw [if_neg h, c8o lg (by omega) h1 hN]
theorem c0G {le : Int} {lg : Bool} : (cmE le lg).length = 0 ∨ (cmE le lg).length = (if lg then 2 else 1) := by
 unfold cmE
 split
 . exact .inl rfl
 . exact .inr (d3f _ _)
theorem c8l (y0 y1 y2 y3 : Int) {d : List UInt8} {le : Int} {lg : Bool} (h0 : 0 <= le) (h1 : le <= (if lg then 65536 else 256)) (hd : d.length <= (if lg then 65535 else 255)) (hn : ¬ (lg = true /\ d = [] /\ le = 0)) (hN : 10 < N) :
 a6T N (cmB d le lg) y0 y1 y2 y3 [] 0 false = some (0, d, le, lg) := by
 have hE := c9M (N := N) h0 h1 hN
 unfold a6T b0C
 have hB : cmB d le lg = (if lg then [(0 : UInt8)] else []) ++ ((if d = [] then [] else num lg d.length ++ d) ++ cmE le lg) := by
  unfold cmB cmE; rw [Ic]
 rw [hB]
 by_cases e : d = []
 . subst e
   rw [if_pos rfl, IJ]
   cases lg
   . simp only [GZ, if_false, IJ]
     by_cases hl : le = 0
     . subst hl
       rfl
     . have hx : cmE le false = [by8 le] := by unfold cmE num; rw [if_neg hl]; rfl
       rw [hx] at hE ⊢
       rw [c7, if_neg (by simp), c7, if_pos (by simp), hE, d4]
   . have hl : le ≠ 0 := fun h => hn ⟨rfl, rfl, h⟩
     have hx : cmE le true = [by8 (le / 256), by8 le] := by unfold cmE num; rw [if_neg hl]; rfl
     have e0 : ∀ (K : UInt8 -> Option (Int × List UInt8 × Int × Bool)), at? [0, by8 (le / 256), by8 le] 0 K = K 0 := fun K => rfl
     rw [hx] at hE ⊢
     simp only [if_true, JE, Jv, JG]
     rw [c7, if_neg (by simp), c7, if_neg (by simp), c7, if_pos (by simp), e0, c7, if_pos (by decide), c7, if_pos (by simp), c7, if_neg (by simp), c7, if_pos (by simp), hE, d4]
 . rw [if_neg e]
   have hp : 0 < d.length := HA.2 e
   have hg := c9r (N := N) lg (n := (d.length : Int)) (by omega) (by cases lg <;> simp at hd ⊢ <;> omega) hN
   have hcl : j5 N d = some d := X1 N d (by cases lg <;> simp at hd <;> omega)
   have t1 : (d ++ cmE le lg).take (d.length : Int).toNat = d := by rw [Im]; simp
   have t2 : (d ++ cmE le lg).drop (d.length : Int).toNat = cmE le lg := by rw [Im]; simp
   cases lg
   . have hu : ((by8 d.length).toNat : Int) ≠ 0 := by rw [R2]; simp at hd; omega
     have hlen : (d ++ cmE le false).length = d.length ∨ (d ++ cmE le false).length = d.length + 1 := by
      rcases c0G (le := le) (lg := false) with h | h <;> rw [GW, h] <;> simp
     have d0X : num false (d.length : Int) = [by8 d.length] := rfl
     have e0 : ∀ (K : UInt8 -> Option (Int × List UInt8 × Int × Bool)), at? (by8 d.length :: (d ++ cmE le false)) 0 K = K (by8 d.length) := fun K => rfl
     rw [d0X] at hg
     simp only [GZ, if_false, IJ, d0X, IV, Jv, JG, LR, Nl]
     rw [c7, if_neg (by simp; omega), c7, if_neg (by simp; omega), c7, if_pos (by simp; omega), e0, c7, if_neg hu, c7, if_neg (by simp; omega), P9, c7, if_pos (by simp; omega), hg, D9, c7, if_pos (by simp; omega), c7, if_neg (by omega), c7, if_neg (by omega), j8, c7]
     have w : GA.wrap ((d.length : Int) + 1) = (d.length : Int) + 1 := w64 (by simp at hd; omega) (by simp at hd; omega)
     rw [t1, t2, hcl, hE, w]
     rcases hlen with h | h
     . rw [if_pos (by rw [h]), t5, c7, if_pos (by omega), c7, if_pos (by omega), d4, t5, c7, if_pos (by omega), c7, if_pos (by omega), d4]
     . rw [if_neg (by rw [h]; omega), j8, c7, if_pos (by rw [h]; rfl), t5, c7, if_pos (by omega), c7, if_pos (by omega), d4, t5, c7, if_pos (by omega), c7, if_pos (by omega), d4]
   . have hlen : (d ++ cmE le true).length = d.length ∨ (d ++ cmE le true).length = d.length + 2 := by
      rcases c0G (le := le) (lg := true) with h | h <;> rw [GW, h] <;> simp
     have d0X : num true (d.length : Int) = [by8 ((d.length : Int) / 256), by8 d.length] := rfl
     have e0 : ∀ (K : UInt8 -> Option (Int × List UInt8 × Int × Bool)), at? ((0 : UInt8) :: by8 ((d.length : Int) / 256) :: by8 d.length :: (d ++ cmE le true)) 0 K = K 0 := fun K => rfl
     rw [d0X] at hg
     simp only [if_true, IJ, d0X, IV, JE, Jv, JG, LR, Nl]
     rw [c7, if_neg (by simp; omega), c7, if_neg (by simp; omega), c7, if_pos (by simp; omega), e0, c7, if_pos (by decide), c7, if_pos (by simp; omega), c7, if_neg (by simp; omega), c7, if_neg (by simp; omega), c7, if_pos (by simp; omega), hg, D9, c7, if_pos (by simp; omega), c7, if_neg (by omega), c7, if_neg (by omega), j8, c7]
     have w : GA.wrap ((d.length : Int) + 2) = (d.length : Int) + 2 := w64 (by simp at hd; omega) (by simp at hd; omega)
     rw [t1, t2, hcl, hE, w]
     rcases hlen with h | h
     . rw [if_pos (by rw [h]), t5, c7, if_pos (by omega), c7, if_pos (by omega), d4, t5, c7, if_pos (by omega), c7, if_pos (by omega), d4]
     . rw [if_neg (by rw [h]; omega), j8, c7, if_pos (by rw [h]; rfl), t5, c7, if_pos (by omega), c7, if_pos (by omega), d4, t5, c7, if_pos (by omega), c7, if_pos (by omega), d4]
theorem b3g {x0 x1 x2 x3 : Int} {d : List UInt8} {le : Int} {lg : Bool} (h : cOK x0 x1 x2 x3 d le lg) (hN : 10 < N) : S3 N (b4h x0 x1 x2 x3 d le lg) = some (x0, x1, x2, x3, d, le, lg, 0) := by
 have hc := a8W (N := N) h
 obtain ⟨b0, b1, b2, b3, _, _, hd, hl0, hl1, hn⟩ := h
 have hb := c8l (N := N) x0 x1 x2 x3 hl0 hl1 hd hn hN
 unfold S3 b4h
 generalize cmB d le lg = X at *
 simp only [IV, IJ, Jv, JG]
 rw [c7, if_neg (by simp; omega), c7, if_pos (by simp; omega), a1W, c7, if_pos (by simp; omega), a4P, a1W, c7, if_pos (by simp; omega), a4P, a4P, a1W, c7, if_pos (by simp; omega), a4P, a4P, a4P, a1W, c7, if_pos (by simp; omega), a5B b0.1 b0.2, a5B b1.1 b1.2, a5B b2.1 b2.2, a5B b3.1 b3.2, hb, X4, c7, if_pos rfl, hc, d4, j8, c7, if_pos rfl]
end
end En
namespace En
open Go
set_option maxRecDepth 20000
section
variable {N : Nat}
theorem b4w {z : ZC} (hp : z.ph ≠ 0) : K3 N z.ks z.ph z.got z.h0 z.h1 z.h2 z.h3 z.h4 z.c1 z.c2 z.c3 z.c4 z.cd z.cl z.cg z.inc z.dat z.sw = some (0, 0, 0, 0, [], 0, false, false) := by
 unfold K3 Y3 L0 a2n
 simp only [d4, j8, F5, c7, if_neg hp]
theorem b6M {z : ZC} (hp : z.ph = 0) (hd : z.cd.length <= 1000000) : K3 N z.ks z.ph z.got z.h0 z.h1 z.h2 z.h3 z.h4 z.c1 z.c2 z.c3 z.c4 z.cd z.cl z.cg z.inc z.dat z.sw = some (z.c1, z.c2, z.c3, z.c4, z.cd, z.cl, z.cg, true) := by
 unfold K3 Y3 L0 a2n
 simp only [d4, j8, F5, c7, if_pos hp, X1 N z.cd hd]
theorem d1l (a b c : List UInt8) (h : (a ++ (b ++ c)).length <= 1000000) : Y8 N [V.bytes a, V.bytes b, V.bytes c] = some (a ++ (b ++ c)) := by
 have : a9p [V.bytes a, V.bytes b, V.bytes c] = some (a ++ (b ++ c)) := by simp [a9p]
 unfold Y8
 rw [this, Option.bind_some, c7, if_pos h]
def W6 (z : ZC) (D : List UInt8) (SW : Int) : List UInt8 :=
 if D = [] then stat SW else if z.inc = false /\ (D.length : Int) = z.cl then by8 z.c2 :: (D ++ stat SW) else Y2 97 D
def Q9 (z : ZC) (D : List UInt8) : Prop := D ≠ [] /\ ¬ (z.inc = false /\ (D.length : Int) = z.cl)
instance (z : ZC) (D : List UInt8) : Decidable (Q9 z D) := by unfold Q9; infer_instance
theorem c2O {z : ZC} (hp : z.ph = 0) {D : List UInt8} {SW : Int} (hr : rOK D SW) (hN : 200000 < N) :
 a0M N D SW z.ks z.ph z.got z.h0 z.h1 z.h2 z.h3 z.h4 z.c1 z.c2 z.c3 z.c4 z.cd z.cl z.cg z.inc z.dat z.sw =
  some (W6 z D SW, 1, if Q9 z D then D else z.dat, if Q9 z D then SW else z.sw) := by
 have hl := hr.1
 have hcl := X1 N D (by omega)
 unfold a0M a5g L0 a2n W6
 simp only [d4, j8, F5, c7, if_pos hp, a6B hr hN, D9, if_true, b1C, hcl, b1k, a4s]
 by_cases hD : D = []
 . subst hD
   have hk : ¬ Q9 z [] := fun h => h.1 rfl
   rw [if_neg hk, if_neg hk]
   simp
 . rw [if_neg (fun h => hD ((d4m D).1 h))]
   by_cases hi : z.inc = true
   . have hn : ¬ (z.inc = false /\ (D.length : Int) = z.cl) := by rw [hi]; simp
     have hk : Q9 z D := ⟨hD, hn⟩
     rw [if_neg hD, if_neg hn, if_pos hk, if_pos hk, hi, F5]
   . have hi : z.inc = false := by simpa using hi
     by_cases hc : (D.length : Int) = z.cl
     . have hk : ¬ Q9 z D := fun h => h.2 ⟨hi, hc⟩
       have hn : z.inc = false /\ (D.length : Int) = z.cl := ⟨hi, hc⟩
       rw [if_neg hD, if_pos hn, if_neg hk, if_neg hk, hi, P9, if_pos hc, d1l _ _ _ (by simp [stat]; omega), d4]
       rfl
     . have hn : ¬ (z.inc = false /\ (D.length : Int) = z.cl) := fun h => hc h.2
       have hk : Q9 z D := ⟨hD, hn⟩
       rw [if_neg hD, if_neg hn, if_pos hk, if_pos hk, hi, P9, if_neg hc]
theorem c7D {x0 x1 x2 x3 : Int} {d : List UInt8} {le : Int} (h : cOK x0 x1 x2 x3 d le false) :
 a1n N x0 x1 x2 x3 d le false true 0 0 0 0 [] 0 false false 0 0 0 0 0 0 false false 0 0 [] false [] 0 false =
  some ([by8 x0, by8 x1, by8 x2, by8 x3, by8 ((if d = [] then le else d.length) % 256)], 0, true, x0, x1, x2, x3, d, le, false, true, 1, x0, x1, x2, x3, (if d = [] then le else d.length) % 256, true, false, 0, 0, [], false, [], 0, false) := by
 have hd : d.length <= 255 := by have := h.2.2.2.2.2.2.1; simpa using this
 unfold a1n b2k M1 a2t
 simp only [a8W h, d4, j8, F5, P9, c7, if_true, X1 N d (by omega), N7, c9u, a4s]
 by_cases h0 : d = []
 . subst h0
   rfl
 . rw [if_pos (by have := HA.2 h0; omega), if_neg h0]
theorem b4y {z : ZT} (hd : z.done = true) (hl : z.rd.length <= 1000000) :
 I3 N true z.c1 z.c2 z.c3 z.c4 z.cd z.cl z.cg z.busy z.ph z.h0 z.h1 z.h2 z.h3 z.h4 z.ack z.rest z.left z.sw1 z.buf z.done z.rd z.rs z.fl = some (z.rd, z.rs, true) := by
 unfold I3 a0x
 rw [hd, j8, F5, X1 N _ hl, d4]
end
end En
section
open Go Go.RowKit
def c0e (n : Int) : Nat -> Array MapEntry
 | 0 => #[]
 | k + 1 => (c0e n k).push ⟨.int .i64 n, .bool true, k⟩
def a5Q (mb : Nat) (ph : Value) : Array Value :=
 #[.map (some mb), ph, .slice none 0 0, .int .i64 0, .int .i64 0, .int .i64 0, .int .i64 0, .int .i64 0, .int .i64 0, .int .i64 0, .int .i64 0, .int .i64 0, .slice none 0 0, .int .i64 0, .bool false, .bool false, .slice none 0 0, .int .i64 0]
theorem d2a {P : Program} {w : GG} {b : Nat} (n : Int) (hm : P.underlying 100 = some (.map 3 4)) (hk : P.underlying 3 = some (.int .i64)) (hb : w.heap[b]? = some (.map #[] 0)) :
 (Instr.mapUpdate 100 (.map (some b)) (.int .i64 n) (.bool true)).run P w = .ok () { w with heap := w.heap.setIfInBounds b (.map (c0e n 1) 1) } := by
 have h1 : Instr.findNow (.int .i64) (.int .i64 n) (#[] : Array MapEntry).toList 0 = some none := rfl
 have d7o : JP (.int .i64) (.int .i64 n) := by simp [JP]
 simp [Instr.mapUpdate, run_underlying hm, MapKept.run_getObj_map hb, MapKept.run_checkKey hk d7o, MapKept.run_findKey hk h1, MapKept.run_setObj_map _ hb, Result.andThen, c0e]
set_option maxHeartbeats 1000000 in
theorem c9F (A : Option Addr) (c : Nat) (w : GG) :
 Calls Tryz.prog 32 #[.slice A 0 c] w fun e w' => e = .returned (.pointer (some ⟨w.heap.size + 1, 0, none⟩)) /\
  w'.heap[w.heap.size]? = some (.map #[] 0) /\ w'.heap[w.heap.size + 1]? = some (.cells (a5Q w.heap.size (.func (.func 59) #[.pointer (some ⟨w.heap.size + 1, 0, none⟩)] #[])) 102 (0, 0)) /\ Below w.heap.size w w' := by
 have hmm := @run_makeMap Tryz.prog
 go_enter Tryz.func32, Tryz.ntmps32
 go_wp2
 go_loopg [5, 11] 0 (fun g x i wr => g = 0 /\ i = .int .i64 0 /\ wr.heap[w.heap.size]? = some (.map #[] 0) /\ wr.heap[w.heap.size + 1]? = some (.cells (a5Q w.heap.size .nilFunc) 102 (0, 0)) /\ Below w.heap.size w wr)
 case atStart =>
  have h0 : (w.alloc (.map #[] 0)).heap.size = w.heap.size + 1 := by show (w.heap.push _).size = _; simp
  refine ⟨rfl, rfl, ?_, ?_, ((Below.refl _ _).alloc (GB _) _).alloc (by rw [h0]; omega) _⟩
  . exact ((IW _ _).2 _ (by rw [h0]; omega)).trans (IW _ _).1
  . have := (IW (w.alloc (.map #[] 0)) (.cells (a5Q w.heap.size .nilFunc) 102 (0, 0))).1
    rw [h0] at this
    exact this
 case round =>
  obtain ⟨rfl, rfl, h1, h2, hb⟩ := hrel
  have hc1 : wr.cell? ⟨w.heap.size + 1, 1, none⟩ = some .nilFunc := (HY wr _ 1 _ _ _ h2)
  have hf1 : wr.frozen? ⟨w.heap.size + 1, 1, none⟩ = false := JQ wr _ 1 _ _ h2
  have H := Lib.hid (GN h1 (GN h2 hb))
  clear h1 h2 hb
  go_wp2
  refine Hj (v := .pointer (some ⟨w.heap.size + 1, 0, none⟩)) (by simp [results, Tryz.results32, go_sem]) rfl ⟨rfl, ?_, ?_, ?_⟩
  . rw [KQ _ _ _ _ (by simp)]; exact H.out.1
  . exact Jr wr _ _ _ _ _ H.out.2.1
  . exact H.out.2.2.setCell (show w.heap.size <= w.heap.size + 1 by omega) _
theorem c8S (b off c : Nat) (n : Int) (w : GG) (hn : w.cell? ⟨b, off, none⟩ = some (.int .i64 n)) (hb0 : b < w.heap.size) (hn1 : -9223372036854775808 <= n) (hn2 : n <= 9223372036854775807) :
 Calls Tryz.prog 32 #[.slice (some ⟨b, off, none⟩) 1 c] w fun e w' => e = .returned (.pointer (some ⟨w.heap.size + 1, 0, none⟩)) /\
  w'.heap[w.heap.size]? = some (.map (c0e n 1) 1) /\ w'.heap[w.heap.size + 1]? = some (.cells (a5Q w.heap.size (.func (.func 59) #[.pointer (some ⟨w.heap.size + 1, 0, none⟩)] #[])) 102 (0, 0)) /\ Below w.heap.size w w' := by
 have hmm := @run_makeMap Tryz.prog
 go_enter Tryz.func32, Tryz.ntmps32
 go_wp2
 go_loopg [5, 11] 1 (fun g x i wr => ∃ k : Nat, k <= 1 /\ g = 1 - k /\ i = .int .i64 (k : Int) /\ wr.heap[w.heap.size]? = some (.map (c0e n k) k) /\ wr.heap[w.heap.size + 1]? = some (.cells (a5Q w.heap.size .nilFunc) 102 (0, 0)) /\ Below w.heap.size w wr)
 case atStart =>
  have h0 : (w.alloc (.map #[] 0)).heap.size = w.heap.size + 1 := by show (w.heap.push _).size = _; simp
  refine ⟨0, by omega, rfl, rfl, ?_, ?_, ((Below.refl _ _).alloc (GB _) _).alloc (by rw [h0]; omega) _⟩
  . exact ((IW _ _).2 _ (by rw [h0]; omega)).trans (IW _ _).1
  . have := (IW (w.alloc (.map #[] 0)) (.cells (a5Q w.heap.size .nilFunc) 102 (0, 0))).1
    rw [h0] at this
    exact this
 case round =>
  obtain ⟨k, hk, hg, rfl, h1, h2, hb⟩ := hrel
  rcases (by omega : k = 0 ∨ k = 1) with rfl | rfl
  . have hc0 : wr.cell? ⟨w.heap.size + 1, 0, none⟩ = some (.map (some w.heap.size)) := (HY wr _ 0 _ _ _ h2)
    have hcn : wr.cell? ⟨b, off, none⟩ = some (.int .i64 n) := by rw [hb.cell (p := ⟨b, off, none⟩) hb0]; exact hn
    have hup := d2a (P := Tryz.prog) n Tryz.underlying100 Tryz.underlying3 h1
    have H := Lib.hid (GN h1 (GN h2 hb))
    clear h1 h2 hb
    go_wp2
    go_roundg (1 - (0 + 1))
    case measure => omega
    case rel =>
     obtain ⟨h1, h2, hb⟩ := H.out
     refine ⟨1, by omega, rfl, by go_num, ?_, ?_, ?_⟩
     . exact (Li h1).1
     . rw [(Li h1).2 _ (by omega)]; exact h2
     . exact ⟨hb.os, hb.tape, hb.output, by show _ <= (wr.heap.setIfInBounds _ _).size; rw [Array.size_setIfInBounds]; exact hb.size, fun j hj => by rw [(Li h1).2 j (by omega)]; exact hb.block j hj⟩
  . have hc1 : wr.cell? ⟨w.heap.size + 1, 1, none⟩ = some .nilFunc := (HY wr _ 1 _ _ _ h2)
    have hf1 : wr.frozen? ⟨w.heap.size + 1, 1, none⟩ = false := JQ wr _ 1 _ _ h2
    have H := Lib.hid (GN h1 (GN h2 hb))
    clear h1 h2 hb
    go_wp2
    refine Hj (v := .pointer (some ⟨w.heap.size + 1, 0, none⟩)) (by simp [results, Tryz.results32, go_sem]) rfl ⟨rfl, ?_, ?_, ?_⟩
    . rw [KQ _ _ _ _ (by simp)]; exact H.out.1
    . exact Jr wr _ _ _ _ _ H.out.2.1
    . exact H.out.2.2.setCell (show w.heap.size <= w.heap.size + 1 by omega) _
end
namespace En
open Go Go.RowKit
section
variable {P : Program} {T : TypeId -> Option Ty}
theorem b0d {f : FuncId} {ds : List D} {m : Mem} {dst : Nat} {B : Bx} (hn : m.box? 0 dst = none)
 (h : ∀ (E : Env) (g : G) (w : GG) (us : List Value), Here T E g w m -> RepDs (inner E m) g w [] ds us -> Calls P f us.toArray w fun e w' => ∃ b cs, e = .returned (.pointer (some ⟨b, 0, none⟩)) /\ w.heap.size <= b /\ Below w.heap.size w w' /\ w'.heap[b]? = some (.cells cs B.ty (0, 0)) /\ cs.size = B.cells.length /\
  ∀ (E' : Env) (g' : G), E'.d = E.d -> E'.dom 0 dst -> g'.J E'.d dst = b -> g'.sz = g.sz -> (∀ k, w.heap.size <= k -> k ≠ b -> g'.Γ k = .imm) -> ∀ (i : Nat) c, B.cells[i]? = some c -> c.one = true /\ c.flat = true /\ c ≠ .bld /\ RepD E' g' w' [] (w4 0 dst i c) (cs.getD i undef)) :
 MemRet P T f dst ds m [.ptr 0 dst 0] (m.setBox 0 dst B) := by
 intro E g w us hh hus
 refine (h E g w us hh hus).mono ?_
 rintro e w' ⟨b, cs, rfl, hb1, hb, hc1, hc2, d3p⟩
 have hml : 0 < m.length := by rw [hh.len]; omega
 let g' : G := { Γ := fun k => if k < w.heap.size then g.Γ k else if k = b then .box E.d dst else .imm, J := fun d s => if d = E.d /\ s = dst then b else g.J d s, sz := g.sz }
 let E' : Env := ⟨E.d, t9 (m.setBox 0 dst B)⟩
 have hΓ : ∀ k, k < w.heap.size -> g'.Γ k = g.Γ k := fun k hk => if_pos hk
 have hlat : Later g w g' w' := by
  refine ⟨rfl, fun k o v a1 a2 => ?_, fun k x a1 a2 => ?_⟩
  . have hk : k < w.heap.size := World.block_lt_of_cell? w _ a2
    refine ⟨?_, by rw [hb.cell (p := ⟨k, o, none⟩) hk]; exact a2⟩
    unfold j9 at a1 ⊢
    rw [hΓ k hk]; exact a1
  . have hk : k < w.heap.size := (Array.getElem?_eq_some_iff.1 a2).1
    exact ⟨(hΓ k hk).trans a1, (hb.block k hk).trans a2⟩
 have hJ : ∀ k s', k <= E.d -> E.dom k s' -> g'.J (E.d - k) s' = g.J (E.d - k) s' := fun k s' hk hd => by
  show (if E.d - k = E.d /\ s' = dst then b else g.J (E.d - k) s') = _
  rw [if_neg]
  rintro ⟨e1, rfl⟩
  have : k = 0 := by omega
  subst this
  rw [hh.dom] at hd
  obtain ⟨b, hb⟩ := hd
  rw [hn] at hb
  cases hb
 have hown : ∀ p e v, p8 g w p e v -> p8 g' w' p e v := fun p e v ho => by
  rcases ho with h0 | ⟨b, n, cap, cur, a1, a2, a3, a4⟩
  . exact .inl h0
  . have hk := J0 a3
    exact .inr ⟨b, n, cap, cur, a1, by rw [hΓ b hk]; exact a2, by rw [hb.block _ hk]; exact a3, a4⟩
 have hJx : g'.J (E.d - 0) dst = b := if_pos ⟨by omega, rfl⟩
 have d4f : E'.dom 0 dst := by
  show ∃ b, (m.setBox 0 dst B).box? 0 dst = some b
  rw [C5, if_pos ⟨rfl, rfl, hml⟩]; exact ⟨B, rfl⟩
 have a0l : ∀ k s', E.dom k s' -> E'.dom k s' := fun k s' hd => by
  show ∃ b, (m.setBox 0 dst B).box? k s' = some b
  rw [C5]
  split
  . exact ⟨B, rfl⟩
  . rw [hh.dom] at hd; exact hd
 refine ⟨[.pointer (some ⟨b, 0, none⟩)], g', E', rfl, ⟨hlat, rfl, a0l, hJ, fun s' e v ho => hown _ _ _ ho⟩, ⟨fun k s' c hbx => ?_, rfl, hh.sk.later hlat, by rw [D0]; exact hh.len⟩, ?_, ?_⟩
 . rw [C5] at hbx
   split at hbx
   . rename_i hx
     obtain ⟨rfl, rfl, _⟩ := hx
     injection hbx with hbx
     subst hbx
     refine ⟨Hl _, ?_, cs, by rw [hJx]; exact hc1, hc2, fun i c hc => ?_⟩
     . rw [hJx]
       show (if b < w.heap.size then g.Γ b else if b = b then .box E.d s' else .imm) = _
       rw [if_neg (by omega), if_pos rfl]; rfl
     . obtain ⟨r1, r2, r3, r4⟩ := d3p E' g' rfl d4f (by rw [← hJx]; rfl) rfl (fun k hk hne => by
        show (if k < w.heap.size then g.Γ k else if k = b then .box E.d s' else .imm) = _
        rw [if_neg (by omega), if_neg hne]) i c hc
       exact ⟨r1, r2, fun e => absurd e r3, r4⟩
   . have hr := hh.mem k s' c hbx
     obtain ⟨us2, a1, a2, a3⟩ := hr.heap
     have hlt := J0 a1
     have hd : E.dom k s' := by rw [hh.dom]; exact ⟨c, hbx⟩
     have hJ' := hJ k s' hr.le hd
     refine ⟨hr.le, ?_, us2, ?_, a2, fun i c hc => ?_⟩
     . show g'.Γ (g'.J (E.d - k) s') = _
       rw [hJ', hΓ _ hlt]; exact hr.perm
     . show w'.heap[g'.J (E.d - k) s']? = _
       rw [hJ', hb.block _ hlt]; exact a1
     . obtain ⟨b1, b2, b3, b4⟩ := a3 i c hc
       refine ⟨b1, b2, fun e => by
        show b5X (g'.J (E.d - k) s') _
        rw [hJ']; exact b3 e, ?_⟩
       exact a2E (E' := E') b2 b4 (by simp) (fun _ _ => true) hlat rfl (fun k s' hd _ => a0l k s' hd) (fun k s' hk hd _ => hJ k s' hk hd) (fun e v ho => hown _ _ _ ho) (fun _ => true) (fun _ _ _ _ => rfl) (fun _ _ _ _ _ => rfl) (fun _ _ _ _ _ _ => rfl) (fun _ _ _ _ _ => rfl) (fun _ _ _ _ _ => rfl) rfl (fun _ _ => rfl)
 . refine ⟨rfl, fun k y hk => ?_⟩
   rcases k with _ | k
   . simp at hk
     subst hk
     have := RepD.ptr (E := E') (g := g') (w := w') (dead := []) 0 dst 0 (Hl _) d4f
     have e : g'.J (E'.d - 0) dst = b := hJx
     rw [e] at this
     exact this
   . simp at hk
 . exact ⟨hb.os, hb.tape, hb.output, hb.size, hlat, fun k hk _ => ⟨hΓ k hk, hb.block k hk⟩, fun d' s' hd => if_neg (by rintro ⟨e, _⟩; omega)⟩
end
def a6V (ks : List Int) (dst : Nat) : Bx := ⟨102, [.v (.mset ks) .no, .fn 1 [59, 76] 0 dst, .v (.bytes []) (.own (.slot 0) 5), .v (.int .i64 0) .no, .v (.int .i64 0) .no, .v (.int .i64 0) .no, .v (.int .i64 0) .no, .v (.int .i64 0) .no, .v (.int .i64 0) .no, .v (.int .i64 0) .no, .v (.int .i64 0) .no, .v (.int .i64 0) .no, .v (.bytes []) .no, .v (.int .i64 0) .no, .v (.bool false) .no, .v (.bool false) .no, .v (.bytes []) .no, .v (.int .i64 0) .no]⟩
noncomputable def a1N (N : Nat) (x0 : List V) : Option (List Int) := match x0 with | [] => some [] | [.int .i64 n] => some [n] | _ => none
noncomputable def b0I {R : Type} (s : List V -> Option (List Int)) (dst : Nat) (ds : List D) (m : Mem) (K : List D -> Mem -> Option R) : Option R :=
 match ds with
 | [.v (.sl 3 x0) .no] => d3 (s x0) fun ks => (match m.box? 0 dst with | none => M6 m 0 dst (a6V ks dst) fun m' => K [.ptr 0 dst 0] m' | some _ => none)
 | _ => none
theorem d5u {E : Env} {g : G} {w : GG} {k s i : Nat} (z : Int) (hz : z = 0) : RepD E g w [] (w4 k s i (.v (.int .i64 z) .no)) (.int .i64 0) := by
 subst hz; exact .v _ _ _ (.int .i64 0 (by decide)) trivial
theorem d3a {g : G} {w : GG} : RepV g w (.bytes []) (.slice none 0 0) := .bytes [] none 0 0 rfl (GB _) (Hl _) (fun k x hx => by simp at hx)
theorem b5l (ks : List Int) (dst mb b : Nat) (E' : Env) (g' : G) (w' : GG) (hm : RepV g' w' (.mset ks) (.map (some mb))) (hd : E'.dom 0 dst) (hJ : g'.J E'.d dst = b) (i : Nat) (c : D) (hc : (a6V ks dst).cells[i]? = some c) :
 c.one = true /\ c.flat = true /\ c ≠ .bld /\ RepD E' g' w' [] (w4 0 dst i c) ((a5Q mb (.func (.func 59) #[.pointer (some ⟨b, 0, none⟩)] #[])).getD i undef) := by
 unfold a6V at hc
 rcases i with _ | _ | _ | _ | _ | _ | _ | _ | _ | _ | _ | _ | _ | _ | _ | _ | _ | _ | i <;> simp at hc <;> subst hc <;> refine ⟨rfl, rfl, by simp, ?_⟩
 . exact .v _ _ _ hm trivial
 . exact .fn _ _ _ _ _ (.inr ⟨0, 59, rfl, rfl, ⟨Hl _, hd⟩, by rw [Nat.sub_zero, hJ]; rfl⟩)
 . exact .v _ _ _ d3a (.inr ⟨Hl _, .inl rfl⟩)
 all_goals first | exact d5u 0 rfl | exact .v _ _ _ (.bool false) trivial | exact .v _ _ _ d3a trivial
theorem d1X (N : Nat) (x0 : List V) (ks : List Int) (h : a1N N x0 = some ks) (m : Mem) (dst : Nat) (hn : m.box? 0 dst = none) :
 MemRet Tryz.prog T 32 dst [.v (.sl 3 x0) .no] m [.ptr 0 dst 0] (m.setBox 0 dst (a6V ks dst)) := by
 refine b0d hn fun E g w us hh hus => ?_
 obtain ⟨hl, hr⟩ := hus
 match us, hl with
 | [u], hl0 =>
 have hu := hr 0 _ rfl
 simp only [List.getD_cons_zero] at hu
 cases hu with
 | v _ _ _ hu ha0 =>
 unfold a1N at h
 split at h
 . injection h with h; subst h
   cases hu with
   | sl e xs A n c us hn' hc hm hs hh' hr' =>
   have : n = 0 := hn'.symm
   subst this
   refine (c9F A c w).mono ?_
   rintro e w' ⟨rfl, h1, h2, hb⟩
   refine ⟨w.heap.size + 1, _, rfl, by omega, hb, h2, rfl, fun E' g' e1 e2 e3 e4 e5 i c hc => ?_⟩
   exact b5l [] dst w.heap.size _ E' g' w' (.mset [] _ #[] 0 (e5 _ (GB _) (by omega)) h1 rfl) e2 e3 i c hc
 . rename_i n
   injection h with h; subst h
   cases hu with
   | sl e xs A l c us hn' hc hm hs hh' hr' =>
   have : l = 1 := hn'.symm
   subst this
   obtain ⟨b, off, rfl, hst, m0⟩ := hh' 0 (.int .i64 n) rfl
   have hv := hr' 0 (.int .i64 n) rfl
   generalize us 0 = u0 at m0 hv
   cases hv with
   | int k n hk =>
   have hk : (-9223372036854775808 : Int) <= n /\ n <= 9223372036854775807 := hk
   refine (c8S b off c n w m0 (World.block_lt_of_cell? w _ m0) hk.1 hk.2).mono ?_
   rintro e w' ⟨rfl, h1, h2, hb⟩
   refine ⟨w.heap.size + 1, _, rfl, by omega, hb, h2, rfl, fun E' g' e1 e2 e3 e4 e5 i c hc => ?_⟩
   exact b5l [n] dst w.heap.size _ E' g' w' (.mset [n] _ _ 1 (e5 _ (GB _) (by omega)) h1 rfl) e2 e3 i c hc
 . cases h
abbrev d2U (s : List V -> Option (List Int)) : Prop := ∀ x0 ks, s x0 = some ks -> ∀ (m : Mem) (dst : Nat), m.box? 0 dst = none -> MemRet Tryz.prog T 32 dst [.v (.sl 3 x0) .no] m [.ptr 0 dst 0] (m.setBox 0 dst (a6V ks dst))
theorem c8C (s : List V -> Option (List Int)) (hs : d2U s) : MEntOK Tryz.prog T ⟨32, b0I s⟩ := by
 refine ⟨d6 Tryz.func32 (by kernel_rfl) (c := d5 Tryz.f32) (by kernel_rfl), fun R dst ds m K r h => ?_⟩
 simp only [b0I] at h
 split at h
 . obtain ⟨ks, h1, h2⟩ := j4 h
   split at h2
   . rename_i hn
     rw [B9] at h2
     exact ⟨_, _, h2, hs _ _ h1 m dst hn⟩
   . cases h2
 . cases h
def b0s (dst : Nat) : Bx := ⟨99, [.v (.bool true) .no, .v (.int .i64 0) .no, .v (.int .i64 0) .no, .v (.int .i64 0) .no, .v (.int .i64 0) .no, .v (.bytes []) .no, .v (.int .i64 0) .no, .v (.bool false) .no, .v (.bool false) .no, .fn 0 [79, 87, 93] 0 dst, .v (.int .i64 0) .no, .v (.int .i64 0) .no, .v (.int .i64 0) .no, .v (.int .i64 0) .no, .v (.int .i64 0) .no, .v (.bool false) .no, .v (.bool false) .no, .v (.int .i64 0) .no, .v (.int .u8 0) .no, .v (.bytes []) (.own (.slot 0) 5), .v (.bool false) .no, .v (.bytes []) .no, .v (.int .i64 0) .no, .v (.bool false) .no]⟩
def c8t : Array Value := #[.bool true, .int .i64 0, .int .i64 0, .int .i64 0, .int .i64 0, .slice none 0 0, .int .i64 0, .bool false, .bool false, .nilFunc, .int .i64 0, .int .i64 0, .int .i64 0, .int .i64 0, .int .i64 0, .bool false, .bool false, .int .i64 0, .int .u8 0, .slice none 0 0, .bool false, .slice none 0 0, .int .i64 0, .bool false]
set_option maxHeartbeats 1000000 in
theorem d2v (w : GG) : Calls Tryz.prog 31 #[] w fun e w' => e = .returned (.pointer (some ⟨w.heap.size, 0, none⟩)) /\ w' = w.alloc (.cells c8t 99 (0, 0)) := by
 go_enter Tryz.func31, Tryz.ntmps31
 go_wp2
 refine Hj (v := .pointer (some ⟨w.heap.size, 0, none⟩)) (by simp [results, Tryz.results31, go_sem]) rfl ⟨rfl, rfl⟩
noncomputable def a2Q (N : Nat) : Option Unit := some ()
noncomputable def b0H {R : Type} (s : Option Unit) (dst : Nat) (ds : List D) (m : Mem) (K : List D -> Mem -> Option R) : Option R :=
 match ds with
 | [] => d3 s fun _ => (match m.box? 0 dst with | none => M6 m 0 dst (b0s dst) fun m' => K [.ptr 0 dst 0] m' | some _ => none)
 | _ => none
theorem d2t (N : Nat) (h : a2Q N = some ()) (m : Mem) (dst : Nat) (hn : m.box? 0 dst = none) :
 MemRet Tryz.prog T 31 dst [] m [.ptr 0 dst 0] (m.setBox 0 dst (b0s dst)) := by
 refine b0d hn fun E g w us hh hus => ?_
 obtain ⟨hl, hr⟩ := hus
 match us, hl with
 | [], _ =>
 refine (d2v w).mono ?_
 rintro e w' ⟨rfl, rfl⟩
 refine ⟨w.heap.size, c8t, rfl, GB _, (Below.refl _ _).alloc (GB _) _, (IW _ _).1, rfl, fun E' g' e1 e2 e3 e4 e5 i c hc => ?_⟩
 unfold b0s at hc
 rcases i with _ | _ | _ | _ | _ | _ | _ | _ | _ | _ | _ | _ | _ | _ | _ | _ | _ | _ | _ | _ | _ | _ | _ | _ | i <;> simp at hc <;> subst hc <;> refine ⟨rfl, rfl, by simp, ?_⟩
 all_goals first | exact d5u 0 rfl | exact .v _ _ _ (.bool _) trivial | exact .v _ _ _ d3a trivial | exact RepD.v _ (.own _ _) _ d3a (.inr ⟨Hl _, .inl rfl⟩) | exact .fn _ _ _ _ _ (.inl ⟨rfl, rfl⟩) | exact .v _ _ _ (.int .u8 0 (by decide)) trivial
theorem c8Z (s : Option Unit) (hs : s = some () -> ∀ (m : Mem) (dst : Nat), m.box? 0 dst = none -> MemRet Tryz.prog T 31 dst [] m [.ptr 0 dst 0] (m.setBox 0 dst (b0s dst))) : MEntOK Tryz.prog T ⟨31, b0H s⟩ := by
 refine ⟨d6 Tryz.func31 (by kernel_rfl) (c := d5 Tryz.f31) (by kernel_rfl), fun R dst ds m K r h => ?_⟩
 simp only [b0H] at h
 split at h
 . obtain ⟨ks, h1, h2⟩ := j4 h
   split at h2
   . rename_i hn
     rw [B9] at h2
     exact ⟨_, _, h2, hs h1 m dst hn⟩
   . cases h2
 . cases h
end En
namespace En
open Go
def c6e (rs : List D) (m : Mem) : Option (Nat × Option Bx) :=
 match rs, m with
 | [.ptr 0 s 0], [fr] => some (s, D7 s fr)
 | _, _ => none
def c7b (rs : List D) (_ : Mem) : Option Unit :=
 match rs with
 | [.nilp] => some ()
 | _ => none
theorem b6c {rs : List D} {m : Mem} {s : Nat} {B : Bx} (h : c6e rs m = some (s, some B)) : ∃ fr, rs = [.ptr 0 s 0] /\ m = [fr] /\ D7 s fr = some B := by
 unfold c6e at h
 split at h
 . rename_i s' fr
   injection h with h
   injection h with h1 h2
   subst h1
   exact ⟨fr, rfl, rfl, h2⟩
 . cases h
theorem b5w {rs : List D} {m : Mem} (h : c7b rs m = some ()) : rs = [.nilp] := by
 unfold c7b at h
 split at h
 . rfl
 . cases h
section
variable {P : Program} {T : TypeId -> Option Ty}
theorem MemRet.weak {f : FuncId} {dst : Nat} {ds rs : List D} {m m' m'' : Mem} (h : MemRet P T f dst ds m rs m') (hl : m''.length = m'.length) (hb : ∀ k s B'', m''.box? k s = some B'' -> ∃ B', m'.box? k s = some B' /\ WB B'' B') (hd : ∀ k s, t9 m' k s -> t9 m'' k s) : MemRet P T f dst ds m rs m'' := by
 intro E g w us hh hus
 refine (h E g w us hh hus).mono ?_
 rintro e w' ⟨us', g', E', a1, a2, a3, a4, a5⟩
 exact ⟨us', g', E', a1, a2, b5O a3 hl hb hd, a4, a5⟩
theorem WCs.refl : ∀ l : List D, WCs l l
 | [] => trivial
 | c :: l => ⟨.inl rfl, WCs.refl l⟩
theorem MemRet.weakB {f : FuncId} {dst : Nat} {ds rs : List D} {m : Mem} {s : Nat} {B B' : Bx} (h : MemRet P T f dst ds m rs (m.setBox 0 s B')) (hw : WB B B') : MemRet P T f dst ds m rs (m.setBox 0 s B) := by
 refine h.weak (by rw [D0, D0]) (fun k s' B'' hB => ?_) (fun k s' hB => ?_)
 . rw [C5] at hB ⊢
   split at hB
   . rename_i hc
     rw [if_pos hc]
     injection hB with hB
     subst hB
     exact ⟨B', rfl, hw⟩
   . rename_i hc
     rw [if_neg hc]
     exact ⟨B'', hB, rfl, WCs.refl _⟩
 . obtain ⟨b, hb⟩ := hB
   rw [C5] at hb
   by_cases hc : k = 0 /\ s' = s /\ 0 < m.length
   . exact ⟨B, by rw [C5, if_pos hc]⟩
   . rw [if_neg hc] at hb
     exact ⟨b, by rw [C5, if_neg hc]; exact hb⟩
end
noncomputable def a3m (N : Nat) : Cx := cxO [⟨42, b0P (O6 N)⟩] []
theorem b6S (N : Nat) : CxOK Tryz.prog (a3m N) := g7 ⟨c9V _ (d1K N), trivial⟩ trivial
def b0J (x0 x1 : Int) : Bx := ⟨82, [.v (.int .i64 x1) .no, .v (.int .i64 x0) .no, .v (.int .i64 32) .no, .v (.int .i64 0) .no, .v (.int .i64 0) .no, .v (.bytes []) (.own (.slot 0) 5), .v (.int .i64 0) .no, .v (.sl 22 []) (.own (.slot 0) 22), .v (.bytes []) (.own (.slot 0) 5), .v (.int .i64 0) .no, .v (.bytes []) (.own (.slot 0) 5)]⟩
def b6Q (x0 x1 : Int) : Bx := ⟨82, [.v (.int .i64 x1) .no, .v (.int .i64 x0) .no, .v (.int .i64 32) .no, .v (.int .i64 0) .no, .v (.int .i64 0) .no, .v (.bytes []) .no, .v (.int .i64 0) .no, .v (.sl 22 []) .no, .v (.bytes []) (.own (.slot 0) 5), .v (.int .i64 0) .no, .v (.bytes []) .no]⟩
theorem d1f (x0 x1 : Int) : WB (b6Q x0 x1) (b0J x0 x1) := ⟨rfl, .inl rfl, .inl rfl, .inl rfl, .inl rfl, .inl rfl, .inr ⟨_, _, rfl, rfl⟩, .inl rfl, .inr ⟨_, _, rfl, rfl⟩, .inl rfl, .inl rfl, .inr ⟨_, _, rfl, rfl⟩, trivial⟩
noncomputable def a8h (N : Nat) (x0 x1 : Int) : Option Bool := O6 N x0 x1
noncomputable def b7f {R : Type} (s : Int -> Int -> Option Bool) (dst : Nat) (ds : List D) (m : Mem) (K : List D -> Mem -> Option R) : Option R :=
 match ds with
 | [.v (.int .i64 x0) .no, .v (.int .i64 x1) .no] => d3 (s x0 x1) fun b => br b (match m.box? 0 dst with | none => M6 m 0 dst (b6Q x0 x1) fun m' => K [.ptr 0 dst 0] m' | some _ => none) (K [.nilp] m)
 | _ => none
theorem d4H (N : Nat) (x0 x1 : Int) : g8 (a3m N) Tryz.f21 [.v (.int .i64 x0) .no, .v (.int .i64 x1) .no] [] c6e = d3 (O6 N x0 x1) fun b => br (!b) none (some (13, some (b0J x0 x1))) := by
 kernel_rfl
theorem d5d (N : Nat) (x0 x1 : Int) : g8 (a3m N) Tryz.f21 [.v (.int .i64 x0) .no, .v (.int .i64 x1) .no] [] c7b = d3 (O6 N x0 x1) fun b => br (!b) (some ()) none := by
 kernel_rfl
def c0N (x0 x1 : Int) (b : Bool) : Prop :=
 (b = true -> ∀ (m : Mem) (dst : Nat), m.box? 0 dst = none -> MemRet Tryz.prog T 21 dst [.v (.int .i64 x0) .no, .v (.int .i64 x1) .no] m [.ptr 0 dst 0] (m.setBox 0 dst (b6Q x0 x1))) /\
 (b = false -> F6 Tryz.prog T 21 [.v (.int .i64 x0) .no, .v (.int .i64 x1) .no] [.nilp])
theorem d5g (N : Nat) (x0 x1 : Int) (b : Bool) (h : a8h N x0 x1 = some b) : c0N x0 x1 b := by
 have h : O6 N x0 x1 = some b := h
 refine ⟨?_, ?_⟩
 . rintro rfl m dst hn
   refine MemRet.weakB (B' := b0J x0 x1) ?_ (d1f x0 x1)
   exact b5P (cx := a3m N) (by kernel_rfl) (b6S N) Tryz.func21 (by kernel_rfl) (by kernel_rfl) (C1 (k := 0) (by kernel_rfl) trivial) rfl rfl rfl (rf := c6e) (r := (13, some (b0J x0 x1))) ((d4H N x0 x1).trans (by rw [h]; rfl)) (by rfl)
    (fun rs' m' hr => by
     obtain ⟨fr, e1, e2, e3⟩ := b6c hr
     exact ⟨_, fr, e1, e2, e3⟩) hn
 . rintro rfl
   exact q6 (cx := a3m N) (by kernel_rfl) (b6S N) Tryz.func21 (by kernel_rfl) (by kernel_rfl) (C1 (k := 0) (by kernel_rfl) trivial) rfl rfl rfl (rf := c7b) (r := ()) ((d5d N x0 x1).trans (by rw [h]; rfl)) (fun rs' m' hr => by
    rw [b5w hr]; exact ⟨rfl, rfl⟩)
abbrev d4O (s : Int -> Int -> Option Bool) : Prop := ∀ x0 x1 b, s x0 x1 = some b -> c0N x0 x1 b
theorem d1D (s : Int -> Int -> Option Bool) (hs : d4O s) : MEntOK Tryz.prog T ⟨21, b7f s⟩ := by
 refine ⟨d6 Tryz.func21 (by kernel_rfl) (c := d5 Tryz.f21) (by kernel_rfl), fun R dst ds m K r h => ?_⟩
 simp only [b7f] at h
 split at h
 . obtain ⟨b, h1, h2⟩ := j4 h
   have h3 := hs _ _ _ h1
   cases b with
   | true =>
     have h2 : (match m.box? 0 dst with | none => M6 m 0 dst (b6Q _ _) fun m' => K [.ptr 0 dst 0] m' | some _ => none) = some r := h2
     split at h2
     . rename_i hn
       rw [B9] at h2
       exact ⟨_, _, h2, h3.1 rfl m dst hn⟩
     . cases h2
   | false =>
     have h2 : K [.nilp] m = some r := h2
     exact ⟨_, _, h2, b0b (h3.2 rfl) rfl rfl m dst⟩
 . cases h
def b0Q (x0 x1 : Int) : Bx := ⟨80, [.v (.int .i64 x1) .no, .v (.int .i64 32) .no, .v (.int .i64 x0) .no, .v (.int .i64 0) .no, .v (.int .i64 0) .no, .v (.bytes []) (.own (.slot 0) 5), .v (.int .i64 0) .no, .v (.sl 22 []) (.own (.slot 0) 22), .v (.bytes []) (.own (.slot 0) 5), .v (.int .i64 0) .no, .v (.int .i64 0) .no, .v (.bytes []) (.own (.slot 0) 5), .v (.bool false) .no, .v (.int .i64 0) .no]⟩
def b7Z (x0 x1 : Int) : Bx := ⟨80, [.v (.int .i64 x1) .no, .v (.int .i64 32) .no, .v (.int .i64 x0) .no, .v (.int .i64 0) .no, .v (.int .i64 0) .no, .v (.bytes []) .no, .v (.int .i64 0) .no, .v (.sl 22 []) .no, .v (.bytes []) (.own (.slot 0) 5), .v (.int .i64 0) .no, .v (.int .i64 0) .no, .v (.bytes []) .no, .v (.bool false) .no, .v (.int .i64 0) .no]⟩
theorem d2J (x0 x1 : Int) : WB (b7Z x0 x1) (b0Q x0 x1) := ⟨rfl, .inl rfl, .inl rfl, .inl rfl, .inl rfl, .inl rfl, .inr ⟨_, _, rfl, rfl⟩, .inl rfl, .inr ⟨_, _, rfl, rfl⟩, .inl rfl, .inl rfl, .inl rfl, .inr ⟨_, _, rfl, rfl⟩, .inl rfl, .inl rfl, trivial⟩
noncomputable def b2s (N : Nat) (x0 x1 : Int) : Option Bool := O6 N x0 x1
noncomputable def b7A {R : Type} (s : Int -> Int -> Option Bool) (dst : Nat) (ds : List D) (m : Mem) (K : List D -> Mem -> Option R) : Option R :=
 match ds with
 | [.v (.int .i64 x0) .no, .v (.int .i64 x1) .no] => d3 (s x0 x1) fun b => br b (match m.box? 0 dst with | none => M6 m 0 dst (b7Z x0 x1) fun m' => K [.ptr 0 dst 0] m' | some _ => none) (K [.nilp] m)
 | _ => none
theorem d5b (N : Nat) (x0 x1 : Int) : g8 (a3m N) Tryz.f20 [.v (.int .i64 x0) .no, .v (.int .i64 x1) .no] [] c6e = d3 (O6 N x0 x1) fun b => br (!b) none (some (13, some (b0Q x0 x1))) := by
 kernel_rfl
theorem d5a (N : Nat) (x0 x1 : Int) : g8 (a3m N) Tryz.f20 [.v (.int .i64 x0) .no, .v (.int .i64 x1) .no] [] c7b = d3 (O6 N x0 x1) fun b => br (!b) (some ()) none := by
 kernel_rfl
def c1V (x0 x1 : Int) (b : Bool) : Prop :=
 (b = true -> ∀ (m : Mem) (dst : Nat), m.box? 0 dst = none -> MemRet Tryz.prog T 20 dst [.v (.int .i64 x0) .no, .v (.int .i64 x1) .no] m [.ptr 0 dst 0] (m.setBox 0 dst (b7Z x0 x1))) /\
 (b = false -> F6 Tryz.prog T 20 [.v (.int .i64 x0) .no, .v (.int .i64 x1) .no] [.nilp])
theorem d5f (N : Nat) (x0 x1 : Int) (b : Bool) (h : b2s N x0 x1 = some b) : c1V x0 x1 b := by
 have h : O6 N x0 x1 = some b := h
 refine ⟨?_, ?_⟩
 . rintro rfl m dst hn
   refine MemRet.weakB (B' := b0Q x0 x1) ?_ (d2J x0 x1)
   exact b5P (cx := a3m N) (by kernel_rfl) (b6S N) Tryz.func20 (by kernel_rfl) (by kernel_rfl) (C1 (k := 0) (by kernel_rfl) trivial) rfl rfl rfl (rf := c6e) (r := (13, some (b0Q x0 x1))) ((d5b N x0 x1).trans (by rw [h]; rfl)) (by rfl)
    (fun rs' m' hr => by
     obtain ⟨fr, e1, e2, e3⟩ := b6c hr
     exact ⟨_, fr, e1, e2, e3⟩) hn
 . rintro rfl
   exact q6 (cx := a3m N) (by kernel_rfl) (b6S N) Tryz.func20 (by kernel_rfl) (by kernel_rfl) (C1 (k := 0) (by kernel_rfl) trivial) rfl rfl rfl (rf := c7b) (r := ()) ((d5a N x0 x1).trans (by rw [h]; rfl)) (fun rs' m' hr => by
    rw [b5w hr]; exact ⟨rfl, rfl⟩)
abbrev d4r (s : Int -> Int -> Option Bool) : Prop := ∀ x0 x1 b, s x0 x1 = some b -> c1V x0 x1 b
theorem d1q (s : Int -> Int -> Option Bool) (hs : d4r s) : MEntOK Tryz.prog T ⟨20, b7A s⟩ := by
 refine ⟨d6 Tryz.func20 (by kernel_rfl) (c := d5 Tryz.f20) (by kernel_rfl), fun R dst ds m K r h => ?_⟩
 simp only [b7A] at h
 split at h
 . obtain ⟨b, h1, h2⟩ := j4 h
   have h3 := hs _ _ _ h1
   cases b with
   | true =>
     have h2 : (match m.box? 0 dst with | none => M6 m 0 dst (b7Z _ _) fun m' => K [.ptr 0 dst 0] m' | some _ => none) = some r := h2
     split at h2
     . rename_i hn
       rw [B9] at h2
       exact ⟨_, _, h2, h3.1 rfl m dst hn⟩
     . cases h2
   | false =>
     have h2 : K [.nilp] m = some r := h2
     exact ⟨_, _, h2, b0b (h3.2 rfl) rfl rfl m dst⟩
 . cases h
end En
end Go.Proofs.YtfafflepalgcnaaGreat
