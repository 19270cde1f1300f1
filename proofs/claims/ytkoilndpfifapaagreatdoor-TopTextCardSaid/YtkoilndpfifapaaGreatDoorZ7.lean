/- Several texts in one. -/
import Derived.Test.YtkoilndpfifapaaGreatDoorZ4
import Derived.Test.YtkoilndpfifapaaGreatDoorZ5
import Derived.Test.YtkoilndpfifapaaGreatDoorZ3
import Derived.Deep.LoopGhost
import Derived.Laws.Rows
import Derived.Laws.MakeOwn
import Derived.Laws.BitsAllLaws
import Derived.Lib.AppendStr

set_option linter.unusedSimpArgs false
set_option linter.unusedVariables false
set_option linter.unusedSectionVars false
open And renaming intro → Ge
open Go renaming Value → FW, World → Gb, info_parts → Ka, cell_of_row → Gz, Calls → IE, heap_alloc_new → He, frozen_of_row → IA, heap_setCell_same → Gs, bodyPost_ret → Jz, run_underlying → Gn
open Go.BinOp renaming or → Iy, xor → FZ
open Go.Builtin renaming zeroCells → If, append_ → GL, lenOf → IS
open Go.IntKind renaming u32 → FL, u8 → FX, i64 → FK
open Go.Lib renaming hid → Gw, strCells → Jb
open Go.Value renaming int → Ia, cells → Iu, slice → Hq
open List renaming drop → Gi, take → Gy, getD_cons_zero → GM, getD_cons_succ → Ii, getElem?_map → Gm, replicate → GW, flatten_append → Ll, length_append → FT, length_map → Gh
open Nat renaming le_refl → FV
open UInt8 renaming ofNat → FR, toNat_lt → Js
namespace Go.Proofs.YtkoilndpfifapaaGreatDoor
noncomputable section
namespace En
open Go Go.Proofs
set_option maxRecDepth 100000
set_option maxHeartbeats 8000000
def B9 (N : Nat) (f : LB) : Option (Int) := br (decide (0 < (f.length : Int))) (at? f 0 fun u0 => br (decide (1 < (f.length : Int))) (at? f 1 fun u1 => br (decide (2 < (f.length : Int))) (at? f 2 fun u2 => br (decide (3 < (f.length : Int))) (at? f 3 fun u3 => some (j9 Iy FL (j9 Iy FL (j9 Iy FL (a0q FL (FL.wrap (u0.toNat : Int)) 24) (a0q FL (FL.wrap (u1.toNat : Int)) 16)) (a0q FL (FL.wrap (u2.toNat : Int)) 8)) (FL.wrap (u3.toNat : Int)))) none) none) none) none
def e0E (N : Nat) : Cx := cz [] []
def b2D (N : Nat) : Ent := pE 190 (.v .y .z) (.v fW .z) (B9 N)
theorem c7T (N : Nat) : EO (b2D N) := pk0 (cx := e0E N) (A9 trivial trivial) Tryz.func190 (by kernel_rfl) fun h => by kernel_rfl
def S1 (N : Nat) (f x1 : Int) : Option (Int) := some (FL.wrap (j9 FZ FL (FL.wrap (FL.wrap (f + x1) * 2654435761)) (G8 FL (FL.wrap (FL.wrap (f + x1) * 2654435761)) 15) * 2246822519))
def e6x (N : Nat) : Cx := cz [] []
def e5I (N : Nat) : Ent := pE 203 (.v fW (.v fW .z)) (.v fW .z) (S1 N)
theorem e6m (N : Nat) : EO (e5I N) := pk0 (cx := e6x N) (A9 trivial trivial) Tryz.func203 (by kernel_rfl) fun h => by kernel_rfl
def b9K {R : Type} (N : Nat) (K0 : Int -> Int -> Int -> Int -> Int -> Int -> Int -> Int -> Int -> Int -> Int -> Int -> Int -> Int -> Int -> Int -> Int -> Int -> Int -> Int -> Int -> Int -> Int -> Int -> Int -> Int -> Int -> Int -> Int -> Int -> Int -> Int -> Option R) (w : LB) (ni nj nk Aw AB nn AD AE AK nr ns nt nu nv nw BO : Int) : Option R :=
 K0 0 0 0 0 0 0 0 0 0 0 0 0 0 0 0 0 ni nj nk Aw AB nn AD AE AK nr ns nt nu nv nw BO
def b8A {R : Type} (N : Nat) (K0 : Int -> Int -> Int -> Int -> Int -> Int -> Int -> Int -> Int -> Int -> Int -> Int -> Int -> Int -> Int -> Int -> Int -> Int -> Int -> Int -> Int -> Int -> Int -> Int -> Int -> Int -> Int -> Int -> Int -> Int -> Int -> Int -> Option R) (w : LB) (ni nj nk Aw AB nn AD AE AK nr ns nt nu nv nw : Int) : Option R :=
 br (decide (16 <= (w.length : Int))) (j3 (B9 N (Gi 12 (Gy 16 w))) fun j => b9K N K0 w ni nj nk Aw AB nn AD AE AK nr ns nt nu nv nw (FL.wrap (j + 1161830871))) none
def b8O {R : Type} (N : Nat) (K0 : Int -> Int -> Int -> Int -> Int -> Int -> Int -> Int -> Int -> Int -> Int -> Int -> Int -> Int -> Int -> Int -> Int -> Int -> Int -> Int -> Int -> Int -> Int -> Int -> Int -> Int -> Int -> Int -> Int -> Int -> Int -> Int -> Option R) (w : LB) (ni nj nk Aw AB nn AD AE AK nr ns nt nu nv : Int) : Option R :=
 br (decide (12 <= (w.length : Int))) (j3 (B9 N (Gi 8 (Gy 12 w))) fun j => b8A N K0 w ni nj nk Aw AB nn AD AE AK nr ns nt nu nv (FL.wrap (j + 2802362398))) none
def c0l {R : Type} (N : Nat) (K0 : Int -> Int -> Int -> Int -> Int -> Int -> Int -> Int -> Int -> Int -> Int -> Int -> Int -> Int -> Int -> Int -> Int -> Int -> Int -> Int -> Int -> Int -> Int -> Int -> Int -> Int -> Int -> Int -> Int -> Int -> Int -> Int -> Option R) (w : LB) (ni nj nk Aw AB nn AD AE AK nr ns nt nu : Int) : Option R :=
 br (decide (8 <= (w.length : Int))) (j3 (B9 N (Gi 4 (Gy 8 w))) fun j => b8O N K0 w ni nj nk Aw AB nn AD AE AK nr ns nt nu (FL.wrap (j + 147926629))) none
def b8Z {R : Type} (N : Nat) (K0 : Int -> Int -> Int -> Int -> Int -> Int -> Int -> Int -> Int -> Int -> Int -> Int -> Int -> Int -> Int -> Int -> Int -> Int -> Int -> Int -> Int -> Int -> Int -> Int -> Int -> Int -> Int -> Int -> Int -> Int -> Int -> Int -> Option R) (w : LB) (ni nj nk Aw AB nn AD AE AK nr ns nt : Int) : Option R :=
 br (decide (4 <= (w.length : Int))) (j3 (B9 N (Gi 0 (Gy 4 w))) fun j => c0l N K0 w ni nj nk Aw AB nn AD AE AK nr ns nt (FL.wrap (j + 1788458156))) none
def b9j {R : Type} (N : Nat) (K0 : Int -> Int -> Int -> Int -> Int -> Int -> Int -> Int -> Int -> Int -> Int -> Int -> Int -> Int -> Int -> Int -> Int -> Int -> Int -> Int -> Int -> Int -> Int -> Int -> Int -> Int -> Int -> Int -> Int -> Int -> Int -> Int -> Option R) (w : LB) (ni nj nk Aw AB nn AD AE AK nr ns : Int) : Option R :=
 br (decide (16 <= (w.length : Int))) (j3 (B9 N (Gi 12 (Gy 16 w))) fun j => b8Z N K0 w ni nj nk Aw AB nn AD AE AK nr ns (FL.wrap (j + 3428989683))) none
def c0p {R : Type} (N : Nat) (K0 : Int -> Int -> Int -> Int -> Int -> Int -> Int -> Int -> Int -> Int -> Int -> Int -> Int -> Int -> Int -> Int -> Int -> Int -> Int -> Int -> Int -> Int -> Int -> Int -> Int -> Int -> Int -> Int -> Int -> Int -> Int -> Int -> Option R) (w : LB) (ni nj nk Aw AB nn AD AE AK nr : Int) : Option R :=
 br (decide (12 <= (w.length : Int))) (j3 (B9 N (Gi 8 (Gy 12 w))) fun j => b9j N K0 w ni nj nk Aw AB nn AD AE AK nr (FL.wrap (j + 774553914))) none
def c3K {R : Type} (N : Nat) (K0 : Int -> Int -> Int -> Int -> Int -> Int -> Int -> Int -> Int -> Int -> Int -> Int -> Int -> Int -> Int -> Int -> Int -> Int -> Int -> Int -> Int -> Int -> Int -> Int -> Int -> Int -> Int -> Int -> Int -> Int -> Int -> Int -> Option R) (w : LB) (ni nj nk Aw AB nn AD AE AK : Int) : Option R :=
 br (decide (8 <= (w.length : Int))) (j3 (B9 N (Gi 4 (Gy 8 w))) fun j => c0p N K0 w ni nj nk Aw AB nn AD AE AK (FL.wrap (j + 2415085441))) none
def c0G {R : Type} (N : Nat) (K0 : Int -> Int -> Int -> Int -> Int -> Int -> Int -> Int -> Int -> Int -> Int -> Int -> Int -> Int -> Int -> Int -> Int -> Int -> Int -> Int -> Int -> Int -> Int -> Int -> Int -> Int -> Int -> Int -> Int -> Int -> Int -> Int -> Option R) (w : LB) (ni nj nk Aw AB nn AD AE : Int) : Option R :=
 br (decide (4 <= (w.length : Int))) (j3 (B9 N (Gi 0 (Gy 4 w))) fun j => c3K N K0 w ni nj nk Aw AB nn AD AE (FL.wrap (j + 4055616968))) none
def c1I {R : Type} (N : Nat) (K0 : Int -> Int -> Int -> Int -> Int -> Int -> Int -> Int -> Int -> Int -> Int -> Int -> Int -> Int -> Int -> Int -> Int -> Int -> Int -> Int -> Int -> Int -> Int -> Int -> Int -> Int -> Int -> Int -> Int -> Int -> Int -> Int -> Option R) (w : LB) (ni nj nk Aw AB nn AD : Int) : Option R :=
 br (decide (16 <= (w.length : Int))) (j3 (B9 N (Gi 12 (Gy 16 w))) fun j => c0G N K0 w ni nj nk Aw AB nn AD (FL.wrap (j + 1401181199))) none
def c1P {R : Type} (N : Nat) (K0 : Int -> Int -> Int -> Int -> Int -> Int -> Int -> Int -> Int -> Int -> Int -> Int -> Int -> Int -> Int -> Int -> Int -> Int -> Int -> Int -> Int -> Int -> Int -> Int -> Int -> Int -> Int -> Int -> Int -> Int -> Int -> Int -> Option R) (w : LB) (ni nj nk Aw AB nn : Int) : Option R :=
 br (decide (12 <= (w.length : Int))) (j3 (B9 N (Gi 8 (Gy 12 w))) fun j => c1I N K0 w ni nj nk Aw AB nn (FL.wrap (j + 3041712726))) none
def c1w {R : Type} (N : Nat) (K0 : Int -> Int -> Int -> Int -> Int -> Int -> Int -> Int -> Int -> Int -> Int -> Int -> Int -> Int -> Int -> Int -> Int -> Int -> Int -> Int -> Int -> Int -> Int -> Int -> Int -> Int -> Int -> Int -> Int -> Int -> Int -> Int -> Option R) (w : LB) (ni nj nk Aw AB : Int) : Option R :=
 br (decide (8 <= (w.length : Int))) (j3 (B9 N (Gi 4 (Gy 8 w))) fun j => c1P N K0 w ni nj nk Aw AB (FL.wrap (j + 387276957))) none
def c1S {R : Type} (N : Nat) (K0 : Int -> Int -> Int -> Int -> Int -> Int -> Int -> Int -> Int -> Int -> Int -> Int -> Int -> Int -> Int -> Int -> Int -> Int -> Int -> Int -> Int -> Int -> Int -> Int -> Int -> Int -> Int -> Int -> Int -> Int -> Int -> Int -> Option R) (w : LB) (ni nj nk Aw : Int) : Option R :=
 br (decide (4 <= (w.length : Int))) (j3 (B9 N (Gi 0 (Gy 4 w))) fun j => c1w N K0 w ni nj nk Aw (FL.wrap (j + 2027808484))) none
def c1T {R : Type} (N : Nat) (K0 : Int -> Int -> Int -> Int -> Int -> Int -> Int -> Int -> Int -> Int -> Int -> Int -> Int -> Int -> Int -> Int -> Int -> Int -> Int -> Int -> Int -> Int -> Int -> Int -> Int -> Int -> Int -> Int -> Int -> Int -> Int -> Int -> Option R) (w : LB) (ni nj nk : Int) : Option R :=
 br (decide (16 <= (w.length : Int))) (j3 (B9 N (Gi 12 (Gy 16 w))) fun j => c1S N K0 w ni nj nk (FL.wrap (j + 3668340011))) none
def c2c {R : Type} (N : Nat) (K0 : Int -> Int -> Int -> Int -> Int -> Int -> Int -> Int -> Int -> Int -> Int -> Int -> Int -> Int -> Int -> Int -> Int -> Int -> Int -> Int -> Int -> Int -> Int -> Int -> Int -> Int -> Int -> Int -> Int -> Int -> Int -> Int -> Option R) (w : LB) (ni nj : Int) : Option R :=
 br (decide (12 <= (w.length : Int))) (j3 (B9 N (Gi 8 (Gy 12 w))) fun j => c1T N K0 w ni nj (FL.wrap (j + 1013904242))) none
def c3P {R : Type} (N : Nat) (K0 : Int -> Int -> Int -> Int -> Int -> Int -> Int -> Int -> Int -> Int -> Int -> Int -> Int -> Int -> Int -> Int -> Int -> Int -> Int -> Int -> Int -> Int -> Int -> Int -> Int -> Int -> Int -> Int -> Int -> Int -> Int -> Int -> Option R) (w : LB) (ni : Int) : Option R :=
 br (decide (8 <= (w.length : Int))) (j3 (B9 N (Gi 4 (Gy 8 w))) fun j => c2c N K0 w ni (FL.wrap (j + 2654435769))) none
def b1g {R : Type} (N : Nat) (K0 : Int -> Int -> Int -> Int -> Int -> Int -> Int -> Int -> Int -> Int -> Int -> Int -> Int -> Int -> Int -> Int -> Int -> Int -> Int -> Int -> Int -> Int -> Int -> Int -> Int -> Int -> Int -> Int -> Int -> Int -> Int -> Int -> Option R) (w : LB) : Option R :=
 br (decide (4 <= (w.length : Int))) (j3 (B9 N (Gi 0 (Gy 4 w))) fun j => c3P N K0 w (FL.wrap (j + 0))) none
def b0H {R : Type} (N : Nat) (ds : List D) (m : Mem) (K : Ex -> List D -> Mem -> Option R) : Option R :=
 match ds, m with
 | [(.v (.bytes w) .no), (.ptr 0 2 0), (.ptr 0 3 0), (.v (.int .i64 u) .no)], [[(2, ⟨258, [(.v (.int .u32 d) .no), (.v (.int .u32 i) .no), (.v (.int .u32 x) .no), (.v (.int .u32 O) .no), (.v (.int .u32 n6) .no), (.v (.int .u32 n7) .no), (.v (.int .u32 n8) .no), (.v (.int .u32 n9) .no), (.v (.int .u32 na) .no), (.v (.int .u32 nb) .no), (.v (.int .u32 nc) .no), (.v (.int .u32 nd) .no), (.v (.int .u32 Af) .no), (.v (.int .u32 nf) .no), (.v (.int .u32 ng) .no), (.v (.int .u32 nh) .no)]⟩), (3, ⟨258, [(.v (.int .u32 ni) .no), (.v (.int .u32 nj) .no), (.v (.int .u32 nk) .no), (.v (.int .u32 Aw) .no), (.v (.int .u32 AB) .no), (.v (.int .u32 nn) .no), (.v (.int .u32 AD) .no), (.v (.int .u32 AE) .no), (.v (.int .u32 AK) .no), (.v (.int .u32 nr) .no), (.v (.int .u32 ns) .no), (.v (.int .u32 nt) .no), (.v (.int .u32 nu) .no), (.v (.int .u32 nv) .no), (.v (.int .u32 nw) .no), (.v (.int .u32 BO) .no)]⟩)]] => cond ((decide (u = 0) && (decide (d = 0) && (decide (i = 0) && (decide (x = 0) && (decide (O = 0) && (decide (n6 = 0) && (decide (n7 = 0) && (decide (n8 = 0) && (decide (n9 = 0) && (decide (na = 0) && (decide (nb = 0) && (decide (nc = 0) && (decide (nd = 0) && (decide (Af = 0) && (decide (nf = 0) && (decide (ng = 0) && (decide (nh = 0) && (decide (ni = 0) && (decide (nj = 0) && (decide (nk = 0) && (decide (Aw = 0) && (decide (AB = 0) && (decide (nn = 0) && (decide (AD = 0) && (decide (AE = 0) && (decide (AK = 0) && (decide (nr = 0) && (decide (ns = 0) && (decide (nt = 0) && (decide (nu = 0) && (decide (nv = 0) && (decide (nw = 0) && (decide (BO = 0) && true)))))))))))))))))))))))))))))))))) (b1g N (fun a0 a1 a2 a3 a4 a5 a6 a7 a8 a9 AN AW Be Bp Br Bt Bu Bv Bw By Cc Cd Ce Cf Cg Ch Ci Cj Ck Cm Cn Co => K (.exit 0) [(.ptr 0 2 0), (.ptr 0 3 0)] [[(2, ⟨258, [(.v (.int .u32 a0) .no), (.v (.int .u32 a1) .no), (.v (.int .u32 a2) .no), (.v (.int .u32 a3) .no), (.v (.int .u32 a4) .no), (.v (.int .u32 a5) .no), (.v (.int .u32 a6) .no), (.v (.int .u32 a7) .no), (.v (.int .u32 a8) .no), (.v (.int .u32 a9) .no), (.v (.int .u32 AN) .no), (.v (.int .u32 AW) .no), (.v (.int .u32 Be) .no), (.v (.int .u32 Bp) .no), (.v (.int .u32 Br) .no), (.v (.int .u32 Bt) .no)]⟩), (3, ⟨258, [(.v (.int .u32 Bu) .no), (.v (.int .u32 Bv) .no), (.v (.int .u32 Bw) .no), (.v (.int .u32 By) .no), (.v (.int .u32 Cc) .no), (.v (.int .u32 Cd) .no), (.v (.int .u32 Ce) .no), (.v (.int .u32 Cf) .no), (.v (.int .u32 Cg) .no), (.v (.int .u32 Ch) .no), (.v (.int .u32 Ci) .no), (.v (.int .u32 Cj) .no), (.v (.int .u32 Ck) .no), (.v (.int .u32 Cm) .no), (.v (.int .u32 Cn) .no), (.v (.int .u32 Co) .no)]⟩)]]) w) none
 | _, _ => none
def a8h (N : Nat) (f : LB) : Option (Int × Int × Int × Int × Int × Int × Int × Int × Int × Int × Int × Int × Int × Int × Int × Int) := br (decide (4 <= (f.length : Int))) (j3 (B9 N (Gi 0 (Gy 4 f))) fun j => br (decide (8 <= (f.length : Int))) (j3 (B9 N (Gi 4 (Gy 8 f))) fun u => br (decide (12 <= (f.length : Int))) (j3 (B9 N (Gi 8 (Gy 12 f))) fun d => br (decide (16 <= (f.length : Int))) (j3 (B9 N (Gi 12 (Gy 16 f))) fun i => br (decide (4 <= (f.length : Int))) (j3 (B9 N (Gi 0 (Gy 4 f))) fun x => br (decide (8 <= (f.length : Int))) (j3 (B9 N (Gi 4 (Gy 8 f))) fun O => br (decide (12 <= (f.length : Int))) (j3 (B9 N (Gi 8 (Gy 12 f))) fun n6 => br (decide (16 <= (f.length : Int))) (j3 (B9 N (Gi 12 (Gy 16 f))) fun n7 => br (decide (4 <= (f.length : Int))) (j3 (B9 N (Gi 0 (Gy 4 f))) fun n8 => br (decide (8 <= (f.length : Int))) (j3 (B9 N (Gi 4 (Gy 8 f))) fun n9 => br (decide (12 <= (f.length : Int))) (j3 (B9 N (Gi 8 (Gy 12 f))) fun na => br (decide (16 <= (f.length : Int))) (j3 (B9 N (Gi 12 (Gy 16 f))) fun nb => br (decide (4 <= (f.length : Int))) (j3 (B9 N (Gi 0 (Gy 4 f))) fun nc => br (decide (8 <= (f.length : Int))) (j3 (B9 N (Gi 4 (Gy 8 f))) fun nd => br (decide (12 <= (f.length : Int))) (j3 (B9 N (Gi 8 (Gy 12 f))) fun Af => br (decide (16 <= (f.length : Int))) (j3 (B9 N (Gi 12 (Gy 16 f))) fun nf => some (FL.wrap (j + 0), FL.wrap (u + 2654435769), FL.wrap (d + 1013904242), FL.wrap (i + 3668340011), FL.wrap (x + 2027808484), FL.wrap (O + 387276957), FL.wrap (n6 + 3041712726), FL.wrap (n7 + 1401181199), FL.wrap (n8 + 4055616968), FL.wrap (n9 + 2415085441), FL.wrap (na + 774553914), FL.wrap (nb + 3428989683), FL.wrap (nc + 1788458156), FL.wrap (nd + 147926629), FL.wrap (Af + 2802362398), FL.wrap (nf + 1161830871))) none) none) none) none) none) none) none) none) none) none) none) none) none) none) none) none
def b5C (N : Nat) : Cx := cl [b2D N] [] [⟨3, [0, 2, 3, 6], [2, 3], b0H N⟩]
theorem b9i {R : Type} (N : Nat) (w : LB) (K : Ex -> List D -> Mem -> Option R) : P1 (fun st K => codeK (b5C N) (s4 Tryz.f188 0) st K) 26 [0, 2, 3, 6] [2, 3] 17 [(.v (.bytes w) .no), (.ptr 0 2 0), (.ptr 0 3 0), (.v (.int .i64 0) .no)] [[(2, ⟨258, [(.v (.int .u32 0) .no), (.v (.int .u32 0) .no), (.v (.int .u32 0) .no), (.v (.int .u32 0) .no), (.v (.int .u32 0) .no), (.v (.int .u32 0) .no), (.v (.int .u32 0) .no), (.v (.int .u32 0) .no), (.v (.int .u32 0) .no), (.v (.int .u32 0) .no), (.v (.int .u32 0) .no), (.v (.int .u32 0) .no), (.v (.int .u32 0) .no), (.v (.int .u32 0) .no), (.v (.int .u32 0) .no), (.v (.int .u32 0) .no)]⟩), (3, ⟨258, [(.v (.int .u32 0) .no), (.v (.int .u32 0) .no), (.v (.int .u32 0) .no), (.v (.int .u32 0) .no), (.v (.int .u32 0) .no), (.v (.int .u32 0) .no), (.v (.int .u32 0) .no), (.v (.int .u32 0) .no), (.v (.int .u32 0) .no), (.v (.int .u32 0) .no), (.v (.int .u32 0) .no), (.v (.int .u32 0) .no), (.v (.int .u32 0) .no), (.v (.int .u32 0) .no), (.v (.int .u32 0) .no), (.v (.int .u32 0) .no)]⟩)]] K = b1g N (fun a0 a1 a2 a3 a4 a5 a6 a7 a8 a9 AN AW Be Bp Br Bt Bu Bv Bw By Cc Cd Ce Cf Cg Ch Ci Cj Ck Cm Cn Co => K (.exit 0) [(.ptr 0 2 0), (.ptr 0 3 0)] [[(2, ⟨258, [(.v (.int .u32 a0) .no), (.v (.int .u32 a1) .no), (.v (.int .u32 a2) .no), (.v (.int .u32 a3) .no), (.v (.int .u32 a4) .no), (.v (.int .u32 a5) .no), (.v (.int .u32 a6) .no), (.v (.int .u32 a7) .no), (.v (.int .u32 a8) .no), (.v (.int .u32 a9) .no), (.v (.int .u32 AN) .no), (.v (.int .u32 AW) .no), (.v (.int .u32 Be) .no), (.v (.int .u32 Bp) .no), (.v (.int .u32 Br) .no), (.v (.int .u32 Bt) .no)]⟩), (3, ⟨258, [(.v (.int .u32 Bu) .no), (.v (.int .u32 Bv) .no), (.v (.int .u32 Bw) .no), (.v (.int .u32 By) .no), (.v (.int .u32 Cc) .no), (.v (.int .u32 Cd) .no), (.v (.int .u32 Ce) .no), (.v (.int .u32 Cf) .no), (.v (.int .u32 Cg) .no), (.v (.int .u32 Ch) .no), (.v (.int .u32 Ci) .no), (.v (.int .u32 Cj) .no), (.v (.int .u32 Ck) .no), (.v (.int .u32 Cm) .no), (.v (.int .u32 Cn) .no), (.v (.int .u32 Co) .no)]⟩)]]) w := by
 kernel_rfl
theorem c5C (N : Nat) : p9 (b5C N) 26 (s4 Tryz.f188 0) := by
 refine j7 (rid := 3) (by kernel_rfl) rfl rfl fun R ds m K r h => ?_
 have h : b0H N ds m K = some r := h
 unfold b0H at h
 split at h
 . rcases j8 h with ⟨hc, hq⟩ | ⟨_, hq⟩
   . simp only [Bool.and_eq_true, decide_eq_true_eq] at hc
     obtain ⟨rfl, rfl, rfl, rfl, rfl, rfl, rfl, rfl, rfl, rfl, rfl, rfl, rfl, rfl, rfl, rfl, rfl, rfl, rfl, rfl, rfl, rfl, rfl, rfl, rfl, rfl, rfl, rfl, rfl, rfl, rfl, rfl, rfl, _⟩ := hc
     refine ⟨17, ?_⟩
     show P1 _ _ [0, 2, 3, 6] [2, 3] _ _ _ _ = _
     rw [b9i]
     exact hq
   . cases hq
 . cases h
def b1y (N : Nat) : Ent := pE 188 (.v .y .z) sh6 (a8h N)
theorem d4V (N : Nat) : EO (b1y N) := pk (cx := b5C N) (D4 ⟨c7T N, trivial⟩ trivial) Tryz.func188 (j6 (k := 1) (by kernel_rfl) ⟨trivial, c5C N⟩) (by kernel_rfl) fun h => by kernel_rfl
def c1a {R : Type} (N : Nat) (K0 : Int -> Int -> Int -> Int -> Int -> Int -> Int -> Int -> Int -> Int -> Int -> Int -> Int -> Int -> Int -> Int -> Int -> Int -> Int -> Int -> Option R) (u d i x O n6 n7 n8 n9 na nb nc nd Af nf ng nh ni : Int) : Option R :=
 K0 u d i x O n6 n7 n8 n9 na nb nc nd Af nf ng nh ni 0 0
def c1p {R : Type} (N : Nat) (K0 : Int -> Int -> Int -> Int -> Int -> Int -> Int -> Int -> Int -> Int -> Int -> Int -> Int -> Int -> Int -> Int -> Int -> Int -> Int -> Int -> Option R) (u d i x O n6 n7 n8 n9 na nb nc nd Af nf ng nh ni : Int) : Option R :=
 j3 (S1 N d ni) fun j => c1a N K0 d (j9 FZ FL u j) i x O n6 n7 n8 n9 na nb nc nd Af nf ng nh ni
def c3m {R : Type} (N : Nat) (K0 : Int -> Int -> Int -> Int -> Int -> Int -> Int -> Int -> Int -> Int -> Int -> Int -> Int -> Int -> Int -> Int -> Int -> Int -> Int -> Int -> Option R) (u d i x O n6 n7 n8 n9 na nb nc nd Af nf ng nh ni : Int) : Option R :=
 j3 (S1 N d nh) fun j => c1p N K0 d (j9 FZ FL u j) i x O n6 n7 n8 n9 na nb nc nd Af nf ng nh ni
def c2s {R : Type} (N : Nat) (K0 : Int -> Int -> Int -> Int -> Int -> Int -> Int -> Int -> Int -> Int -> Int -> Int -> Int -> Int -> Int -> Int -> Int -> Int -> Int -> Int -> Option R) (u d i x O n6 n7 n8 n9 na nb nc nd Af nf ng nh ni : Int) : Option R :=
 j3 (S1 N d ng) fun j => c3m N K0 d (j9 FZ FL u j) i x O n6 n7 n8 n9 na nb nc nd Af nf ng nh ni
def c3w {R : Type} (N : Nat) (K0 : Int -> Int -> Int -> Int -> Int -> Int -> Int -> Int -> Int -> Int -> Int -> Int -> Int -> Int -> Int -> Int -> Int -> Int -> Int -> Int -> Option R) (u d i x O n6 n7 n8 n9 na nb nc nd Af nf ng nh ni : Int) : Option R :=
 j3 (S1 N d nf) fun j => c2s N K0 d (j9 FZ FL u j) i x O n6 n7 n8 n9 na nb nc nd Af nf ng nh ni
def c2A {R : Type} (N : Nat) (K0 : Int -> Int -> Int -> Int -> Int -> Int -> Int -> Int -> Int -> Int -> Int -> Int -> Int -> Int -> Int -> Int -> Int -> Int -> Int -> Int -> Option R) (u d i x O n6 n7 n8 n9 na nb nc nd Af nf ng nh ni : Int) : Option R :=
 j3 (S1 N d Af) fun j => c3w N K0 d (j9 FZ FL u j) i x O n6 n7 n8 n9 na nb nc nd Af nf ng nh ni
def c1i {R : Type} (N : Nat) (K0 : Int -> Int -> Int -> Int -> Int -> Int -> Int -> Int -> Int -> Int -> Int -> Int -> Int -> Int -> Int -> Int -> Int -> Int -> Int -> Int -> Option R) (u d i x O n6 n7 n8 n9 na nb nc nd Af nf ng nh ni : Int) : Option R :=
 j3 (S1 N d nd) fun j => c2A N K0 d (j9 FZ FL u j) i x O n6 n7 n8 n9 na nb nc nd Af nf ng nh ni
def c4Y {R : Type} (N : Nat) (K0 : Int -> Int -> Int -> Int -> Int -> Int -> Int -> Int -> Int -> Int -> Int -> Int -> Int -> Int -> Int -> Int -> Int -> Int -> Int -> Int -> Option R) (u d i x O n6 n7 n8 n9 na nb nc nd Af nf ng nh ni : Int) : Option R :=
 j3 (S1 N d nc) fun j => c1i N K0 d (j9 FZ FL u j) i x O n6 n7 n8 n9 na nb nc nd Af nf ng nh ni
def c5P {R : Type} (N : Nat) (K0 : Int -> Int -> Int -> Int -> Int -> Int -> Int -> Int -> Int -> Int -> Int -> Int -> Int -> Int -> Int -> Int -> Int -> Int -> Int -> Int -> Option R) (u d i x O n6 n7 n8 n9 na nb nc nd Af nf ng nh ni : Int) : Option R :=
 j3 (S1 N d nb) fun j => c4Y N K0 d (j9 FZ FL u j) i x O n6 n7 n8 n9 na nb nc nd Af nf ng nh ni
def c6m {R : Type} (N : Nat) (K0 : Int -> Int -> Int -> Int -> Int -> Int -> Int -> Int -> Int -> Int -> Int -> Int -> Int -> Int -> Int -> Int -> Int -> Int -> Int -> Int -> Option R) (u d i x O n6 n7 n8 n9 na nb nc nd Af nf ng nh ni : Int) : Option R :=
 j3 (S1 N d na) fun j => c5P N K0 d (j9 FZ FL u j) i x O n6 n7 n8 n9 na nb nc nd Af nf ng nh ni
def c5U {R : Type} (N : Nat) (K0 : Int -> Int -> Int -> Int -> Int -> Int -> Int -> Int -> Int -> Int -> Int -> Int -> Int -> Int -> Int -> Int -> Int -> Int -> Int -> Int -> Option R) (u d i x O n6 n7 n8 n9 na nb nc nd Af nf ng nh ni : Int) : Option R :=
 j3 (S1 N d n9) fun j => c6m N K0 d (j9 FZ FL u j) i x O n6 n7 n8 n9 na nb nc nd Af nf ng nh ni
def c4A {R : Type} (N : Nat) (K0 : Int -> Int -> Int -> Int -> Int -> Int -> Int -> Int -> Int -> Int -> Int -> Int -> Int -> Int -> Int -> Int -> Int -> Int -> Int -> Int -> Option R) (u d i x O n6 n7 n8 n9 na nb nc nd Af nf ng nh ni : Int) : Option R :=
 j3 (S1 N d n8) fun j => c5U N K0 d (j9 FZ FL u j) i x O n6 n7 n8 n9 na nb nc nd Af nf ng nh ni
def c5j {R : Type} (N : Nat) (K0 : Int -> Int -> Int -> Int -> Int -> Int -> Int -> Int -> Int -> Int -> Int -> Int -> Int -> Int -> Int -> Int -> Int -> Int -> Int -> Int -> Option R) (u d i x O n6 n7 n8 n9 na nb nc nd Af nf ng nh ni : Int) : Option R :=
 j3 (S1 N d n7) fun j => c4A N K0 d (j9 FZ FL u j) i x O n6 n7 n8 n9 na nb nc nd Af nf ng nh ni
def c7c {R : Type} (N : Nat) (K0 : Int -> Int -> Int -> Int -> Int -> Int -> Int -> Int -> Int -> Int -> Int -> Int -> Int -> Int -> Int -> Int -> Int -> Int -> Int -> Int -> Option R) (u d i x O n6 n7 n8 n9 na nb nc nd Af nf ng nh ni : Int) : Option R :=
 j3 (S1 N d n6) fun j => c5j N K0 d (j9 FZ FL u j) i x O n6 n7 n8 n9 na nb nc nd Af nf ng nh ni
def c6M {R : Type} (N : Nat) (K0 : Int -> Int -> Int -> Int -> Int -> Int -> Int -> Int -> Int -> Int -> Int -> Int -> Int -> Int -> Int -> Int -> Int -> Int -> Int -> Int -> Option R) (u d i x O n6 n7 n8 n9 na nb nc nd Af nf ng nh ni : Int) : Option R :=
 j3 (S1 N d O) fun j => c7c N K0 d (j9 FZ FL u j) i x O n6 n7 n8 n9 na nb nc nd Af nf ng nh ni
def c4G {R : Type} (N : Nat) (K0 : Int -> Int -> Int -> Int -> Int -> Int -> Int -> Int -> Int -> Int -> Int -> Int -> Int -> Int -> Int -> Int -> Int -> Int -> Int -> Int -> Option R) (u d i x O n6 n7 n8 n9 na nb nc nd Af nf ng nh ni : Int) : Option R :=
 j3 (S1 N d x) fun j => c6M N K0 d (j9 FZ FL u j) i x O n6 n7 n8 n9 na nb nc nd Af nf ng nh ni
def b2k {R : Type} (N : Nat) (K0 : Int -> Int -> Int -> Int -> Int -> Int -> Int -> Int -> Int -> Int -> Int -> Int -> Int -> Int -> Int -> Int -> Int -> Int -> Int -> Int -> Option R) (u d i x O n6 n7 n8 n9 na nb nc nd Af nf ng nh ni : Int) : Option R :=
 j3 (S1 N d i) fun j => c4G N K0 d (j9 FZ FL u j) i x O n6 n7 n8 n9 na nb nc nd Af nf ng nh ni
def b2w {R : Type} (N : Nat) (ds : List D) (m : Mem) (K : Ex -> List D -> Mem -> Option R) : Option R :=
 match ds, m with
 | [(.ptr 0 2 0), (.ptr 0 3 0), (.ptr 0 4 0), (.v (.int .i64 j) .no)], [[(2, ⟨261, [(.v (.int .u32 u) .no), (.v (.int .u32 d) .no)]⟩), (3, ⟨258, [(.v (.int .u32 i) .no), (.v (.int .u32 x) .no), (.v (.int .u32 O) .no), (.v (.int .u32 n6) .no), (.v (.int .u32 n7) .no), (.v (.int .u32 n8) .no), (.v (.int .u32 n9) .no), (.v (.int .u32 na) .no), (.v (.int .u32 nb) .no), (.v (.int .u32 nc) .no), (.v (.int .u32 nd) .no), (.v (.int .u32 Af) .no), (.v (.int .u32 nf) .no), (.v (.int .u32 ng) .no), (.v (.int .u32 nh) .no), (.v (.int .u32 ni) .no)]⟩), (4, ⟨261, [(.v (.int .u32 nj) .no), (.v (.int .u32 nk) .no)]⟩)]] => cond ((decide (j = 0) && (decide (nj = 0) && (decide (nk = 0) && true)))) (b2k N (fun a0 a1 a2 a3 a4 a5 a6 a7 a8 a9 AN AW Be Bp Br Bt Bu Bv Bw By => K (.exit 0) [(.ptr 0 2 0), (.ptr 0 3 0), (.ptr 0 4 0)] [[(2, ⟨261, [(.v (.int .u32 a0) .no), (.v (.int .u32 a1) .no)]⟩), (3, ⟨258, [(.v (.int .u32 a2) .no), (.v (.int .u32 a3) .no), (.v (.int .u32 a4) .no), (.v (.int .u32 a5) .no), (.v (.int .u32 a6) .no), (.v (.int .u32 a7) .no), (.v (.int .u32 a8) .no), (.v (.int .u32 a9) .no), (.v (.int .u32 AN) .no), (.v (.int .u32 AW) .no), (.v (.int .u32 Be) .no), (.v (.int .u32 Bp) .no), (.v (.int .u32 Br) .no), (.v (.int .u32 Bt) .no), (.v (.int .u32 Bu) .no), (.v (.int .u32 Bv) .no)]⟩), (4, ⟨261, [(.v (.int .u32 Bw) .no), (.v (.int .u32 By) .no)]⟩)]]) u d i x O n6 n7 n8 n9 na nb nc nd Af nf ng nh ni) none
 | _, _ => none
def b9z (N : Nat) (f x1 x2 x3 x4 x5 x6 x7 x8 x9 xa xb xc xd xe xf xg xh : Int) : Option (Int × Int) := j3 (S1 N x1 x2) fun j => j3 (S1 N (j9 FZ FL f j) x3) fun u => j3 (S1 N (j9 FZ FL x1 u) x4) fun d => j3 (S1 N (j9 FZ FL (j9 FZ FL f j) d) x5) fun i => j3 (S1 N (j9 FZ FL (j9 FZ FL x1 u) i) x6) fun x => j3 (S1 N (j9 FZ FL (j9 FZ FL (j9 FZ FL f j) d) x) x7) fun O => j3 (S1 N (j9 FZ FL (j9 FZ FL (j9 FZ FL x1 u) i) O) x8) fun n6 => j3 (S1 N (j9 FZ FL (j9 FZ FL (j9 FZ FL (j9 FZ FL f j) d) x) n6) x9) fun n7 => j3 (S1 N (j9 FZ FL (j9 FZ FL (j9 FZ FL (j9 FZ FL x1 u) i) O) n7) xa) fun n8 => j3 (S1 N (j9 FZ FL (j9 FZ FL (j9 FZ FL (j9 FZ FL (j9 FZ FL f j) d) x) n6) n8) xb) fun n9 => j3 (S1 N (j9 FZ FL (j9 FZ FL (j9 FZ FL (j9 FZ FL (j9 FZ FL x1 u) i) O) n7) n9) xc) fun na => j3 (S1 N (j9 FZ FL (j9 FZ FL (j9 FZ FL (j9 FZ FL (j9 FZ FL (j9 FZ FL f j) d) x) n6) n8) na) xd) fun nb => j3 (S1 N (j9 FZ FL (j9 FZ FL (j9 FZ FL (j9 FZ FL (j9 FZ FL (j9 FZ FL x1 u) i) O) n7) n9) nb) xe) fun nc => j3 (S1 N (j9 FZ FL (j9 FZ FL (j9 FZ FL (j9 FZ FL (j9 FZ FL (j9 FZ FL (j9 FZ FL f j) d) x) n6) n8) na) nc) xf) fun nd => j3 (S1 N (j9 FZ FL (j9 FZ FL (j9 FZ FL (j9 FZ FL (j9 FZ FL (j9 FZ FL (j9 FZ FL x1 u) i) O) n7) n9) nb) nd) xg) fun Af => j3 (S1 N (j9 FZ FL (j9 FZ FL (j9 FZ FL (j9 FZ FL (j9 FZ FL (j9 FZ FL (j9 FZ FL (j9 FZ FL f j) d) x) n6) n8) na) nc) Af) xh) fun nf => some (j9 FZ FL (j9 FZ FL (j9 FZ FL (j9 FZ FL (j9 FZ FL (j9 FZ FL (j9 FZ FL (j9 FZ FL x1 u) i) O) n7) n9) nb) nd) nf, j9 FZ FL (j9 FZ FL (j9 FZ FL (j9 FZ FL (j9 FZ FL (j9 FZ FL (j9 FZ FL (j9 FZ FL f j) d) x) n6) n8) na) nc) Af)
def b9n (N : Nat) : Cx := cl [e5I N] [] [⟨2, [2, 3, 4, 6], [2, 3, 4], b2w N⟩]
theorem c3d {R : Type} (N : Nat) (u d i x O n6 n7 n8 n9 na nb nc nd Af nf ng nh ni : Int) (K : Ex -> List D -> Mem -> Option R) : P1 (fun st K => codeK (b9n N) (s4 Tryz.f189 0) st K) 27 [2, 3, 4, 6] [2, 3, 4] 17 [(.ptr 0 2 0), (.ptr 0 3 0), (.ptr 0 4 0), (.v (.int .i64 0) .no)] [[(2, ⟨261, [(.v (.int .u32 u) .no), (.v (.int .u32 d) .no)]⟩), (3, ⟨258, [(.v (.int .u32 i) .no), (.v (.int .u32 x) .no), (.v (.int .u32 O) .no), (.v (.int .u32 n6) .no), (.v (.int .u32 n7) .no), (.v (.int .u32 n8) .no), (.v (.int .u32 n9) .no), (.v (.int .u32 na) .no), (.v (.int .u32 nb) .no), (.v (.int .u32 nc) .no), (.v (.int .u32 nd) .no), (.v (.int .u32 Af) .no), (.v (.int .u32 nf) .no), (.v (.int .u32 ng) .no), (.v (.int .u32 nh) .no), (.v (.int .u32 ni) .no)]⟩), (4, ⟨261, [(.v (.int .u32 0) .no), (.v (.int .u32 0) .no)]⟩)]] K = b2k N (fun a0 a1 a2 a3 a4 a5 a6 a7 a8 a9 AN AW Be Bp Br Bt Bu Bv Bw By => K (.exit 0) [(.ptr 0 2 0), (.ptr 0 3 0), (.ptr 0 4 0)] [[(2, ⟨261, [(.v (.int .u32 a0) .no), (.v (.int .u32 a1) .no)]⟩), (3, ⟨258, [(.v (.int .u32 a2) .no), (.v (.int .u32 a3) .no), (.v (.int .u32 a4) .no), (.v (.int .u32 a5) .no), (.v (.int .u32 a6) .no), (.v (.int .u32 a7) .no), (.v (.int .u32 a8) .no), (.v (.int .u32 a9) .no), (.v (.int .u32 AN) .no), (.v (.int .u32 AW) .no), (.v (.int .u32 Be) .no), (.v (.int .u32 Bp) .no), (.v (.int .u32 Br) .no), (.v (.int .u32 Bt) .no), (.v (.int .u32 Bu) .no), (.v (.int .u32 Bv) .no)]⟩), (4, ⟨261, [(.v (.int .u32 Bw) .no), (.v (.int .u32 By) .no)]⟩)]]) u d i x O n6 n7 n8 n9 na nb nc nd Af nf ng nh ni := by
 kernel_rfl
theorem d1e (N : Nat) : p9 (b9n N) 27 (s4 Tryz.f189 0) := by
 refine j7 (rid := 2) (by kernel_rfl) rfl rfl fun R ds m K r h => ?_
 have h : b2w N ds m K = some r := h
 unfold b2w at h
 split at h
 . rcases j8 h with ⟨hc, hq⟩ | ⟨_, hq⟩
   . simp only [Bool.and_eq_true, decide_eq_true_eq] at hc
     obtain ⟨rfl, rfl, rfl, _⟩ := hc
     refine ⟨17, ?_⟩
     show P1 _ _ [2, 3, 4, 6] [2, 3, 4] _ _ _ _ = _
     rw [c3d]
     exact hq
   . cases hq
 . cases h
def b8X (N : Nat) : Ent := pE 189 sh7 (.a (.v fW (.v fW .z)) .z) (b9z N)
theorem d8C (N : Nat) : EO (b8X N) := pk (cx := b9n N) (D4 ⟨e6m N, trivial⟩ trivial) Tryz.func189 (j6 (k := 1) (by kernel_rfl) ⟨trivial, d1e N⟩) (by kernel_rfl) fun h => by kernel_rfl
def b2c {R : Type} (s : LB -> LB -> Option (LB × Int)) (ds : List D) (K : List D -> Option R) : Option R :=
 match ds with
 | [dY f, dY x1, dB false] => s7 (s f x1) fun r0 r1 => K [dY r0, dI r1]
 | _ => none
def b8U (rs : List D) (_ : Mem) : Option (LB × Int) :=
 match rs with
 | [.v (.bytes r0) _, .v (.int .i64 r1) _] => some (r0, r1)
 | _ => none
def a7c {R : Type} (N : Nat) (u d x O n6 n7 n8 n9 na nb nc nd Af nf ng nh ni nj : Int) (Lq : LB -> Int -> Option R) (K0 : LB -> Option R) (w : LB) (i : Int) : Option R := br (decide (i < 2)) (br (decide (i = 0)) (br (decide ((w.length + [FR (FX.wrap (G8 FL u 24)).toNat, FR (FX.wrap (G8 FL u 16)).toNat, FR (FX.wrap (G8 FL u 8)).toNat, FR (FX.wrap u).toNat].length) * 1 <= 140737488355328)) (Lq (w ++ [FR (FX.wrap (G8 FL u 24)).toNat, FR (FX.wrap (G8 FL u 16)).toNat, FR (FX.wrap (G8 FL u 8)).toNat, FR (FX.wrap u).toNat]) (FK.wrap (i + 1))) none) (br (decide (i = 1)) (br (decide ((w.length + [FR (FX.wrap (G8 FL d 24)).toNat, FR (FX.wrap (G8 FL d 16)).toNat, FR (FX.wrap (G8 FL d 8)).toNat, FR (FX.wrap d).toNat].length) * 1 <= 140737488355328)) (Lq (w ++ [FR (FX.wrap (G8 FL d 24)).toNat, FR (FX.wrap (G8 FL d 16)).toNat, FR (FX.wrap (G8 FL d 8)).toNat, FR (FX.wrap d).toNat]) (FK.wrap (i + 1))) none) none)) (K0 w)
def O3 {R : Type} (N : Nat) (u d x O n6 n7 n8 n9 na nb nc nd Af nf ng nh ni nj : Int) : Nat -> LB -> Int -> (LB -> Option R) -> Option R | 0, _, _, _ => none | t + 1, w, i, K0 => a7c N u d x O n6 n7 n8 n9 na nb nc nd Af nf ng nh ni nj (fun w i => O3 N u d x O n6 n7 n8 n9 na nb nc nd Af nf ng nh ni nj t w i K0) K0 w i
def a7f {R : Type} (N : Nat) (ds : List D) (m : Mem) (K : Ex -> List D -> Mem -> Option R) : Option R :=
 match ds, m with
 | [(.ptr 0 8 0), (.v (.bytes w) (.own (.slot 10) 5)), (.agg [(.v (.int .u32 u) .no), (.v (.int .u32 d) .no)]), (.v (.int .i64 i) .no)], [[(8, ⟨258, [(.v (.int .u32 x) .no), (.v (.int .u32 O) .no), (.v (.int .u32 n6) .no), (.v (.int .u32 n7) .no), (.v (.int .u32 n8) .no), (.v (.int .u32 n9) .no), (.v (.int .u32 na) .no), (.v (.int .u32 nb) .no), (.v (.int .u32 nc) .no), (.v (.int .u32 nd) .no), (.v (.int .u32 Af) .no), (.v (.int .u32 nf) .no), (.v (.int .u32 ng) .no), (.v (.int .u32 nh) .no), (.v (.int .u32 ni) .no), (.v (.int .u32 nj) .no)]⟩)]] => O3 N u d x O n6 n7 n8 n9 na nb nc nd Af nf ng nh ni nj N w i (fun a0 => K (.exit 2) [(.ptr 0 8 0), (.v (.bytes a0) (.own (.slot 10) 5))] [[(8, ⟨258, [(.v (.int .u32 x) .no), (.v (.int .u32 O) .no), (.v (.int .u32 n6) .no), (.v (.int .u32 n7) .no), (.v (.int .u32 n8) .no), (.v (.int .u32 n9) .no), (.v (.int .u32 na) .no), (.v (.int .u32 nb) .no), (.v (.int .u32 nc) .no), (.v (.int .u32 nd) .no), (.v (.int .u32 Af) .no), (.v (.int .u32 nf) .no), (.v (.int .u32 ng) .no), (.v (.int .u32 nh) .no), (.v (.int .u32 ni) .no), (.v (.int .u32 nj) .no)]⟩)]])
 | _, _ => none
def b1F (N : Nat) (f x1 : LB) : Option (LB × Int) := br (!decide ((f.length : Int) = 16)) (some ([], 19)) (br (!decide ((x1.length : Int) = 8)) (some ([], 1)) (c9n (a8h N f) fun j u d i x O n6 n7 n8 n9 na nb nc nd Af nf => br (decide (4 <= (x1.length : Int))) (j3 (B9 N (Gy 4 x1)) fun ng => br (decide (4 <= (x1.length : Int))) (j3 (B9 N (Gi 4 x1)) fun nh => s7 (b9z N ng nh j u d i x O n6 n7 n8 n9 na nb nc nd Af nf) fun ni nj => O3 N ni nj j u d i x O n6 n7 n8 n9 na nb nc nd Af nf N [] 0 fun lk => some (lk, 0)) none) none))
def a0x (N : Nat) : Cx := { T := T, isPure := a4U [b1y N, b2D N, b8X N], pureK := fun g ds K => a1L [b1y N, b2D N, b8X N] g ds K, memK := fun g dst ds m K => V6 [] g dst ds m K, meth := a3k [], keep := fun r => match r with | 8 => [1, 8, 22] | 14 => [8, 10, 46, 47] | _ => [], keepX := fun r => match r with | 8 => [1, 8] | 14 => [8, 10] | _ => [], loopT := fun r ds m K => match r with | 14 => a7f N ds m K | _ => none, jumps := 9 }
theorem b5J {R : Type} (N : Nat) (u d x O n6 n7 n8 n9 na nb nc nd Af nf ng nh ni nj : Int) (w : LB) (i : Int) (L : List D -> Mem -> Option R) (K : Ex -> List D -> Mem -> Option R) :
 W3 (fun st K => codeK (a0x N) (s4 Tryz.f149 1) st K) 66 [8, 10, 46, 47] [8, 10] L [(.ptr 0 8 0), (.v (.bytes w) (.own (.slot 10) 5)), (.agg [(.v (.int .u32 u) .no), (.v (.int .u32 d) .no)]), (dI i)] [[(8, ⟨258, [(.v (.int .u32 x) .no), (.v (.int .u32 O) .no), (.v (.int .u32 n6) .no), (.v (.int .u32 n7) .no), (.v (.int .u32 n8) .no), (.v (.int .u32 n9) .no), (.v (.int .u32 na) .no), (.v (.int .u32 nb) .no), (.v (.int .u32 nc) .no), (.v (.int .u32 nd) .no), (.v (.int .u32 Af) .no), (.v (.int .u32 nf) .no), (.v (.int .u32 ng) .no), (.v (.int .u32 nh) .no), (.v (.int .u32 ni) .no), (.v (.int .u32 nj) .no)]⟩)]] K = a7c N u d x O n6 n7 n8 n9 na nb nc nd Af nf ng nh ni nj (fun w i => L [(.ptr 0 8 0), (.v (.bytes w) (.own (.slot 10) 5)), (.agg [(.v (.int .u32 u) .no), (.v (.int .u32 d) .no)]), (dI i)] [[(8, ⟨258, [(.v (.int .u32 x) .no), (.v (.int .u32 O) .no), (.v (.int .u32 n6) .no), (.v (.int .u32 n7) .no), (.v (.int .u32 n8) .no), (.v (.int .u32 n9) .no), (.v (.int .u32 na) .no), (.v (.int .u32 nb) .no), (.v (.int .u32 nc) .no), (.v (.int .u32 nd) .no), (.v (.int .u32 Af) .no), (.v (.int .u32 nf) .no), (.v (.int .u32 ng) .no), (.v (.int .u32 nh) .no), (.v (.int .u32 ni) .no), (.v (.int .u32 nj) .no)]⟩)]]) (fun a0 => K (.exit 2) [(.ptr 0 8 0), (.v (.bytes a0) (.own (.slot 10) 5))] [[(8, ⟨258, [(.v (.int .u32 x) .no), (.v (.int .u32 O) .no), (.v (.int .u32 n6) .no), (.v (.int .u32 n7) .no), (.v (.int .u32 n8) .no), (.v (.int .u32 n9) .no), (.v (.int .u32 na) .no), (.v (.int .u32 nb) .no), (.v (.int .u32 nc) .no), (.v (.int .u32 nd) .no), (.v (.int .u32 Af) .no), (.v (.int .u32 nf) .no), (.v (.int .u32 ng) .no), (.v (.int .u32 nh) .no), (.v (.int .u32 ni) .no), (.v (.int .u32 nj) .no)]⟩)]]) w i := by
 kernel_rfl
theorem a7a {R : Type} (N : Nat) (u d x O n6 n7 n8 n9 na nb nc nd Af nf ng nh ni nj : Int) (K : Ex -> List D -> Mem -> Option R) : ∀ (t : Nat) (w : LB) (i : Int),
 P1 (fun st K => codeK (a0x N) (s4 Tryz.f149 1) st K) 66 [8, 10, 46, 47] [8, 10] t [(.ptr 0 8 0), (.v (.bytes w) (.own (.slot 10) 5)), (.agg [(.v (.int .u32 u) .no), (.v (.int .u32 d) .no)]), (dI i)] [[(8, ⟨258, [(.v (.int .u32 x) .no), (.v (.int .u32 O) .no), (.v (.int .u32 n6) .no), (.v (.int .u32 n7) .no), (.v (.int .u32 n8) .no), (.v (.int .u32 n9) .no), (.v (.int .u32 na) .no), (.v (.int .u32 nb) .no), (.v (.int .u32 nc) .no), (.v (.int .u32 nd) .no), (.v (.int .u32 Af) .no), (.v (.int .u32 nf) .no), (.v (.int .u32 ng) .no), (.v (.int .u32 nh) .no), (.v (.int .u32 ni) .no), (.v (.int .u32 nj) .no)]⟩)]] K = O3 N u d x O n6 n7 n8 n9 na nb nc nd Af nf ng nh ni nj t w i (fun a0 => K (.exit 2) [(.ptr 0 8 0), (.v (.bytes a0) (.own (.slot 10) 5))] [[(8, ⟨258, [(.v (.int .u32 x) .no), (.v (.int .u32 O) .no), (.v (.int .u32 n6) .no), (.v (.int .u32 n7) .no), (.v (.int .u32 n8) .no), (.v (.int .u32 n9) .no), (.v (.int .u32 na) .no), (.v (.int .u32 nb) .no), (.v (.int .u32 nc) .no), (.v (.int .u32 nd) .no), (.v (.int .u32 Af) .no), (.v (.int .u32 nf) .no), (.v (.int .u32 ng) .no), (.v (.int .u32 nh) .no), (.v (.int .u32 ni) .no), (.v (.int .u32 nj) .no)]⟩)]])
 | 0, w, i => rfl
 | t + 1, w, i => (b5J N u d x O n6 n7 n8 n9 na nb nc nd Af nf ng nh ni nj w i _ K).trans (congrArg (fun L => a7c N u d x O n6 n7 n8 n9 na nb nc nd Af nf ng nh ni nj L (fun a0 => K (.exit 2) [(.ptr 0 8 0), (.v (.bytes a0) (.own (.slot 10) 5))] [[(8, ⟨258, [(.v (.int .u32 x) .no), (.v (.int .u32 O) .no), (.v (.int .u32 n6) .no), (.v (.int .u32 n7) .no), (.v (.int .u32 n8) .no), (.v (.int .u32 n9) .no), (.v (.int .u32 na) .no), (.v (.int .u32 nb) .no), (.v (.int .u32 nc) .no), (.v (.int .u32 nd) .no), (.v (.int .u32 Af) .no), (.v (.int .u32 nf) .no), (.v (.int .u32 ng) .no), (.v (.int .u32 nh) .no), (.v (.int .u32 ni) .no), (.v (.int .u32 nj) .no)]⟩)]]) w i) (funext fun w => funext fun i => a7a N u d x O n6 n7 n8 n9 na nb nc nd Af nf ng nh ni nj K t w i))
theorem c7d (N : Nat) (f x1 : _) : M2 (a0x N) Tryz.f149 [dY f, dY x1, dB false] [] b8U = b1F N f x1 := by
 kernel_rfl
abbrev c7i (s : LB -> LB -> Option (LB × Int)) : Prop := ∀ {f x1 r0 r1}, s f x1 = some (r0, r1) -> PRT 149 [dY f, dY x1, dB false] [dY r0, dI r1]
theorem d5C (s : LB -> LB -> Option (LB × Int)) (hs : c7i s) : EO ⟨149, b2c s⟩ := by
 refine ⟨K6 Tryz.func149 (by kernel_rfl) (c := s6 Tryz.f149) (by kernel_rfl), fun R ds K r h => ?_, fun R ds K => ?_⟩
 . simp only [b2c] at h
   split at h
   . obtain ⟨r0, r1, h1, h2⟩ := a6w h
     exact ⟨_, h2, hs h1⟩
   . cases h
 . simp only [b2c]
   split
   . rw [e4v]; rfl
   . rfl
theorem d4T (N : Nat) : CxOK Tryz.prog (a0x N) :=
 M3 (es := [b1y N, b2D N, b8X N]) (me := []) (ms := []) a7F ⟨d4V N, c7T N, d8C N, trivial⟩ trivial trivial rfl (fun _ _ _ _ => rfl) (fun _ _ _ _ _ _ => rfl) rfl
theorem c5V (N : Nat) : p9 (a0x N) 66 (s4 Tryz.f149 0) :=
 j7 (rid := 8) (by kernel_rfl) rfl rfl fun R ds m K r h => nomatch (show (none : Option R) = some r from h)
theorem c3L (N : Nat) : p9 (a0x N) 66 (s4 Tryz.f149 1) := by
 refine j7 (rid := 14) (by kernel_rfl) rfl rfl fun R ds m K r h => ?_
 have h : a7f N ds m K = some r := h
 unfold a7f at h
 split at h
 . exact ⟨N, Eq.trans (a7a ..) h⟩
 . cases h
theorem d6S (N : Nat) : B8 (a0x N) Tryz.f149.ntmps (s6 Tryz.f149) :=
 j6 (k := 2) (by kernel_rfl) ⟨⟨trivial, c5V N⟩, c3L N⟩
theorem d9W (N : Nat) : c7i (b1F N) := fun {f x1 r0 r1} h => c8z (cx := a0x N) (by kernel_rfl) (d4T N) Tryz.func149 (by kernel_rfl) (by kernel_rfl) (d6S N) (by rfl) (by rfl) (by rfl) (rf := b8U) ((c7d ..).trans h) (fun rs' m h => by
 unfold b8U at h
 split at h
 . cases h; exact ⟨rfl, rfl⟩
 . cases h)
def d4N (N : Nat) (f x1 : LB) : Option (LB × Int) := s7 (b1F N f x1) fun w u => some (w, u)
def e2g (N : Nat) : Cx := cz [⟨149, b2c (b1F N)⟩] []
def d2C (N : Nat) : Ent := pE 99 (.v .y (.v .y .z)) (.v .y (.v fI .z)) (d4N N)
theorem e1d (N : Nat) : EO (d2C N) := pk0 (cx := e2g N) (A9 ⟨d5C _ (d9W N), trivial⟩ trivial) Tryz.func99 (by kernel_rfl) fun h => by kernel_rfl
def a7O (N : Nat) (f x1 : LB) : Option (LB) := s7 (d4N N f x1) fun w u => some w
def e0Y (N : Nat) : Cx := cz [d2C N] []
def b8a (N : Nat) : Ent := pE 55 (.v .y (.v .y .z)) (.v .y .z) (a7O N)
theorem e1z (N : Nat) : EO (b8a N) := pk0 (cx := e0Y N) (A9 ⟨e1d N, trivial⟩ trivial) Tryz.func55 (by kernel_rfl) fun h => by kernel_rfl
def K3 (N : Nat) (f : LB) : Option (Int) := br (decide (0 < (f.length : Int))) (at? f 0 fun u0 => br (decide (1 < (f.length : Int))) (at? f 1 fun u1 => br (decide (2 < (f.length : Int))) (at? f 2 fun u2 => br (decide (3 < (f.length : Int))) (at? f 3 fun u3 => some (FL.wrap (FL.wrap (FL.wrap (a0q FL (FL.wrap (u0.toNat : Int)) 24 + a0q FL (FL.wrap (u1.toNat : Int)) 16) + a0q FL (FL.wrap (u2.toNat : Int)) 8) + FL.wrap (u3.toNat : Int)))) none) none) none) none
def d9Q (N : Nat) : Cx := cz [] []
def c6v (N : Nat) : Ent := pE 150 (.v .y .z) (.v fW .z) (K3 N)
theorem c8V (N : Nat) : EO (c6v N) := pk0 (cx := d9Q N) (A9 trivial trivial) Tryz.func150 (by kernel_rfl) fun h => by kernel_rfl
def b9b (N : Nat) (f x1 : Int) : Option (Int) := some (FL.wrap (j9 FZ FL (FL.wrap (FL.wrap (f + x1) * 2654435761)) (G8 FL (FL.wrap (FL.wrap (f + x1) * 2654435761)) 15) * 2246822519))
def e1f (N : Nat) : Cx := cz [] []
def d7j (N : Nat) : Ent := pE 151 (.v fW (.v fW .z)) (.v fW .z) (b9b N)
theorem d8H (N : Nat) : EO (d7j N) := pk0 (cx := e1f N) (A9 trivial trivial) Tryz.func151 (by kernel_rfl) fun h => by kernel_rfl
def C1 (N : Nat) (f : LB) (x1 : Int) : Option (Int) := br (decide (0 <= FK.wrap (FK.wrap (4 * x1.tmod 4) + 4)) && decide (FK.wrap (FK.wrap (4 * x1.tmod 4) + 4) <= (f.length : Int))) (br (decide (0 <= FK.wrap (4 * x1.tmod 4)) && decide (FK.wrap (4 * x1.tmod 4) <= ((FK.wrap (FK.wrap (4 * x1.tmod 4) + 4)).toNat : Int))) (j3 (K3 N (Gi (FK.wrap (4 * x1.tmod 4)).toNat (Gy (FK.wrap (FK.wrap (4 * x1.tmod 4) + 4)).toNat f))) fun j => some (FL.wrap (j + FL.wrap (FL.wrap x1 * 2654435769)))) none) none
def d0W (N : Nat) : Cx := cz [c6v N] []
def c0Z (N : Nat) : Ent := pE 152 (.v .y (.v fI .z)) (.v fW .z) (C1 N)
theorem c9P (N : Nat) : EO (c0Z N) := pk0 (cx := d0W N) (A9 ⟨c8V N, trivial⟩ trivial) Tryz.func152 (by kernel_rfl) fun h => by kernel_rfl
def a8d {R : Type} (N : Nat) (w : LB) (b1 : Bool) (Lq : Int -> Int -> Int -> Option R) (K0 : Int -> Int -> Option R) (d i x : Int) : Option R := br (decide (x < 16)) (br b1 (j3 (C1 N w (FK.wrap (15 - x))) fun j => j3 (b9b N i j) fun u => Lq i (j9 FZ FL d u) (FK.wrap (x + 1))) (j3 (C1 N w x) fun n2_1 => j3 (b9b N i n2_1) fun n3_1 => Lq i (j9 FZ FL d n3_1) (FK.wrap (x + 1)))) (K0 d i)
def P6 {R : Type} (N : Nat) (w : LB) (b1 : Bool) : Nat -> Int -> Int -> Int -> (Int -> Int -> Option R) -> Option R | 0, _, _, _, _ => none | t + 1, d, i, x, K0 => a8d N w b1 (fun d i x => P6 N w b1 t d i x K0) K0 d i x
def b3C {R : Type} (N : Nat) (ds : List D) (m : Mem) (K : Ex -> List D -> Mem -> Option R) : Option R :=
 match ds, m with
 | [(.v (.bytes w) .no), (.v (.bool b1) .no), (.v (.int .u32 d) .no), (.v (.int .u32 i) .no), (.v (.int .i64 x) .no)], [[]] => P6 N w b1 N d i x (fun a0 a1 => K (.exit 0) [(.v (.int .u32 a0) .no), (.v (.int .u32 a1) .no)] [[]])
 | _, _ => none
def d4i (N : Nat) (f x1 : LB) (x2 : Bool) : Option (LB × Int) := br (!decide ((f.length : Int) = 16)) (some ([], 19)) (br (!decide ((x1.length : Int) = 8)) (some ([], 1)) (br (decide (4 <= (x1.length : Int))) (j3 (K3 N (Gy 4 x1)) fun j => br (decide (4 <= (x1.length : Int))) (j3 (K3 N (Gi 4 x1)) fun u => P6 N f x2 N j u 0 fun d i => some ([FR (FX.wrap (G8 FL i 24)).toNat, FR (FX.wrap (G8 FL i 16)).toNat, FR (FX.wrap (G8 FL i 8)).toNat, FR (FX.wrap i).toNat, FR (FX.wrap (G8 FL d 24)).toNat, FR (FX.wrap (G8 FL d 16)).toNat, FR (FX.wrap (G8 FL d 8)).toNat, FR (FX.wrap d).toNat], 0)) none) none))
def c8q (N : Nat) : Cx := cl [c6v N, c0Z N, d7j N] [] [⟨7, [0, 2, 8, 9, 10], [8, 9], b3C N⟩]
theorem d0m (N : Nat) : p9 (c8q N) 63 (s4 Tryz.f100 0) := by
 refine j7 (rid := 7) (by kernel_rfl) rfl rfl fun R ds m K r h => ?_
 change b3C N ds m K = _ at h
 unfold b3C at h
 split at h
 . rename_i w b1 d i x
   exact ⟨N, Eq.trans (lpI (fun (e : (Int -> Int -> Option R)) L (s : Int × Int × Int) => a8d N w b1 (fun d i x => L (d, i, x)) e s.1 s.2.1 s.2.2) (fun e t s => P6 N w b1 t s.1 s.2.1 s.2.2 e) (fun s => [(.v (.bytes w) .no), (.v (.bool b1) .no), (.v (.int .u32 s.1) .no), (.v (.int .u32 s.2.1) .no), (.v (.int .i64 s.2.2) .no)]) (fun s => [[]]) (fun _ _ => rfl) (fun _ _ _ => rfl) (e := _) (fun L s => by kernel_rfl) N (d, i, x)) h⟩
 . cases h
def d2J (N : Nat) : Ent := pE 100 (.v .y (.v .y (.v .b .z))) (.v .y (.v fI .z)) (d4i N)
theorem d9v (N : Nat) : EO (d2J N) := pk (cx := c8q N) (D4 ⟨c8V N, c9P N, d8H N, trivial⟩ trivial) Tryz.func100 (j6 (k := 1) (by kernel_rfl) ⟨trivial, d0m N⟩) (by kernel_rfl) fun h => by kernel_rfl
def b0r (N : Nat) (f x1 : LB) : Option (LB × Int) := s7 (d4i N f x1 false) fun w u => some (w, u)
def e0e (N : Nat) : Cx := cz [d2J N] []
def d3E (N : Nat) : Ent := pE 58 (.v .y (.v .y .z)) (.v .y (.v fI .z)) (b0r N)
theorem e0D (N : Nat) : EO (d3E N) := pk0 (cx := e0e N) (A9 ⟨d9v N, trivial⟩ trivial) Tryz.func58 (by kernel_rfl) fun h => by kernel_rfl
end En

namespace En
open Go Go.RowKit
def z8 : Array FW := #[.int .u8 0, .int .u8 0, .int .u8 0, .int .u8 0, .int .u8 0, .int .u8 0, .int .u8 0, .int .u8 0]
theorem e6d (w : Gb) : (Instr.makeSlice 22 (.int .i64 8) (.int .i64 8)).run Tryz.prog w = .ok (.slice (some ⟨w.heap.size, 0, none⟩) 8 8) (w.alloc (.cells z8 5)) := by
 obtain ⟨i0, hi0, hz0, hz1, hz2⟩ := Ka b6r
 have := run_makeSlice (P := Tryz.prog) (w := w) 22 5 i0 (.int .u8 0) Tryz.underlying22 hi0 hz0 .i64 .i64 8 8 (by decide) (by decide) (by rw [hz1]; decide) (by rw [hz2]; decide) (by decide)
 rw [hz1] at this
 rw [this]
 have e : madeCells (Ia FX 0).cells (Int.toNat 8 * 1) = z8 := by
  apply Array.ext
  . rw [size_madeCells]; rfl
  . intro i h1 h2
    simp [z8] at h2
    rcases (by omega : i = 0 ∨ i = 1 ∨ i = 2 ∨ i = 3 ∨ i = 4 ∨ i = 5 ∨ i = 6 ∨ i = 7) with rfl | rfl | rfl | rfl | rfl | rfl | rfl | rfl <;> simp [z8, madeCells, Iu]
 rw [e]; rfl
theorem byI (z : Int) (h0 : 0 <= z) (h1 : z < 256) : (Ia FX z) = u8 (FR z.toNat) := by
 unfold u8
 rw [UInt8.toNat_ofNat', Nat.mod_eq_of_lt (by omega), Int.toNat_of_nonneg h0]
def be8 (n : Int) : List UInt8 := [FR (n / 72057594037927936 % 256).toNat, FR (n / 281474976710656 % 256).toNat, FR (n / 1099511627776 % 256).toNat, FR (n / 4294967296 % 256).toNat, FR (n / 16777216 % 256).toNat, FR (n / 65536 % 256).toNat, FR (n / 256 % 256).toNat, FR (n % 256).toNat]
theorem a5o {g : G} {w w' : Gb} {xs : List UInt8} (hb : Below w.heap.size w w') (m : Int) (hm : FK.min <= m /\ m <= FK.max) (hl : xs.length <= 1000) (hh : w'.heap[w.heap.size]? = some (.cells (xs.map u8).toArray 5 (0, 0))) :
 ∃ us' g', Ending.returned (.tuple #[.slice (some ⟨w.heap.size, 0, none⟩) xs.length xs.length, .int .i64 m]) = .returned (S0 us') /\ (∀ E' : Env, RepDs E' g' w' [] [.v (.bytes xs) .no, .v (.int .i64 m) .no] us') /\ PureTr g w g' w' := by
 refine ⟨[.slice (some ⟨w.heap.size, 0, none⟩) xs.length xs.length, .int .i64 m], { g with Γ := fun b => if b < w.heap.size then g.Γ b else .imm }, rfl, fun E' => ⟨rfl, fun k y hk => ?_⟩, ⟨⟨hb.os, hb.tape, hb.output, hb.size, hb.block⟩, fun b hlt => if_pos hlt, fun b hge => by
  show Perm.still (if b < w.heap.size then g.Γ b else .imm) = true
  rw [if_neg (by omega)]; rfl, rfl, rfl⟩⟩
 rcases k with _ | _ | k
 . simp at hk; subst hk
   refine .v _ _ _ (.bytes _ _ _ _ rfl (FV _) (by unfold maxLen; omega) (fun k x hx => ⟨_, _, rfl, ?_, ?_⟩)) trivial
   . unfold s5
     show (match (if w.heap.size < w.heap.size then g.Γ w.heap.size else .imm) with | .imm => True | .low n => 0 + k < n | .own _ n => 0 + k < n | .box _ _ => False)
     rw [if_neg (by omega)]; trivial
   . rw [Gz w' w.heap.size (0 + k) _ _ _ hh, Nat.zero_add]
     simp [hx]; rfl
 . simp at hk; subst hk
   exact .v _ _ _ (.int .i64 m hm) trivial
 . simp at hk
attribute [local go_sem] e6d
def c5X (n : Int) : Nat -> Array FW
 | 0 => #[.int .u8 0, .int .u8 0, .int .u8 0, .int .u8 0, .int .u8 0, .int .u8 0, .int .u8 0, .int .u8 0]
 | 1 => #[.int .u8 0, .int .u8 0, .int .u8 0, .int .u8 0, .int .u8 0, .int .u8 0, .int .u8 0, .int .u8 (n % 256)]
 | 2 => #[.int .u8 0, .int .u8 0, .int .u8 0, .int .u8 0, .int .u8 0, .int .u8 0, .int .u8 (n / 256 % 256), .int .u8 (n % 256)]
 | 3 => #[.int .u8 0, .int .u8 0, .int .u8 0, .int .u8 0, .int .u8 0, .int .u8 (n / 65536 % 256), .int .u8 (n / 256 % 256), .int .u8 (n % 256)]
 | 4 => #[.int .u8 0, .int .u8 0, .int .u8 0, .int .u8 0, .int .u8 (n / 16777216 % 256), .int .u8 (n / 65536 % 256), .int .u8 (n / 256 % 256), .int .u8 (n % 256)]
 | 5 => #[.int .u8 0, .int .u8 0, .int .u8 0, .int .u8 (n / 4294967296 % 256), .int .u8 (n / 16777216 % 256), .int .u8 (n / 65536 % 256), .int .u8 (n / 256 % 256), .int .u8 (n % 256)]
 | 6 => #[.int .u8 0, .int .u8 0, .int .u8 (n / 1099511627776 % 256), .int .u8 (n / 4294967296 % 256), .int .u8 (n / 16777216 % 256), .int .u8 (n / 65536 % 256), .int .u8 (n / 256 % 256), .int .u8 (n % 256)]
 | 7 => #[.int .u8 0, .int .u8 (n / 281474976710656 % 256), .int .u8 (n / 1099511627776 % 256), .int .u8 (n / 4294967296 % 256), .int .u8 (n / 16777216 % 256), .int .u8 (n / 65536 % 256), .int .u8 (n / 256 % 256), .int .u8 (n % 256)]
 | _ => #[.int .u8 (n / 72057594037927936 % 256), .int .u8 (n / 281474976710656 % 256), .int .u8 (n / 1099511627776 % 256), .int .u8 (n / 4294967296 % 256), .int .u8 (n / 16777216 % 256), .int .u8 (n / 65536 % 256), .int .u8 (n / 256 % 256), .int .u8 (n % 256)]
theorem c1r (n : Int) : c5X n 8 = ((be8 n).map u8).toArray := by
 show #[(.int .u8 (n / 72057594037927936 % 256) : FW), (.int .u8 (n / 281474976710656 % 256) : FW), (.int .u8 (n / 1099511627776 % 256) : FW), (.int .u8 (n / 4294967296 % 256) : FW), (.int .u8 (n / 16777216 % 256) : FW), (.int .u8 (n / 65536 % 256) : FW), (.int .u8 (n / 256 % 256) : FW), (.int .u8 (n % 256) : FW)] = #[u8 (FR (n / 72057594037927936 % 256).toNat), u8 (FR (n / 281474976710656 % 256).toNat), u8 (FR (n / 1099511627776 % 256).toNat), u8 (FR (n / 4294967296 % 256).toNat), u8 (FR (n / 16777216 % 256).toNat), u8 (FR (n / 65536 % 256).toNat), u8 (FR (n / 256 % 256).toNat), u8 (FR (n % 256).toNat)]
 rw [byI (n / 72057594037927936 % 256) (by omega) (by omega), byI (n / 281474976710656 % 256) (by omega) (by omega), byI (n / 1099511627776 % 256) (by omega) (by omega), byI (n / 4294967296 % 256) (by omega) (by omega), byI (n / 16777216 % 256) (by omega) (by omega), byI (n / 65536 % 256) (by omega) (by omega), byI (n / 256 % 256) (by omega) (by omega), byI (n % 256) (by omega) (by omega)]
set_option maxHeartbeats 4000000 in
theorem d5O (n : Int) (w : Gb) (h1 : 0 <= n) (h2 : n <= 9223372036854775807) :
 IE Tryz.prog 49 #[.int .i64 n, .int .i64 8] w fun e w' => e = .returned (.tuple #[.slice (some ⟨w.heap.size, 0, none⟩) 8 8, .int .i64 0]) /\ w'.heap[w.heap.size]? = some (.cells (c5X n 8) 5 (0, 0)) /\ Below w.heap.size w w' := by
 have h3 : ¬ n < 0 := by omega
 go_enter Tryz.func49, Tryz.ntmps49
 go_wp2
 go_loopg [7, 31] 8 (fun g x i wr => ∃ k : Nat, k <= 8 /\ g = 8 - k /\ i = .int .i64 (k : Int) /\ wr.heap[w.heap.size]? = some (.cells (c5X n k) 5 (0, 0)) /\ Below w.heap.size w wr)
 case atStart => exact ⟨0, by omega, rfl, rfl, He w _, (Below.refl _ _).alloc (FV _) _⟩
 case round =>
  obtain ⟨k, hk, hg, rfl, hh, hb⟩ := hrel
  have hc : ∀ j, wr.cell? ⟨w.heap.size, j, none⟩ = (c5X n k)[j]? := fun j => Gz wr _ j _ _ _ hh
  have hf : ∀ j, wr.frozen? ⟨w.heap.size, j, none⟩ = false := fun j => IA wr _ j _ _ hh
  rcases (by omega : k = 0 ∨ k = 1 ∨ k = 2 ∨ k = 3 ∨ k = 4 ∨ k = 5 ∨ k = 6 ∨ k = 7 ∨ k = 8) with rfl | rfl | rfl | rfl | rfl | rfl | rfl | rfl | rfl
  . have hc1 : wr.cell? ⟨w.heap.size, 7, none⟩ = some (.int .u8 0) := hc 7
    have hf1 := hf 7
    have H := Gw (Ge hh hb)
    clear hc hf hh hb
    go_wp2
    go_roundg (8 - (0 + 1))
    case measure => omega
    case rel =>
     refine ⟨1, by omega, rfl, by go_num, ?_, H.out.2.setCell (FV _) _⟩
     exact Gs wr _ _ _ _ _ H.out.1
  . have hc1 : wr.cell? ⟨w.heap.size, 6, none⟩ = some (.int .u8 0) := hc 6
    have hf1 := hf 6
    have H := Gw (Ge hh hb)
    clear hc hf hh hb
    go_wp2
    go_roundg (8 - (1 + 1))
    case measure => omega
    case rel =>
     refine ⟨2, by omega, rfl, by go_num, ?_, H.out.2.setCell (FV _) _⟩
     exact Gs wr _ _ _ _ _ H.out.1
  . have hc1 : wr.cell? ⟨w.heap.size, 5, none⟩ = some (.int .u8 0) := hc 5
    have hf1 := hf 5
    have H := Gw (Ge hh hb)
    clear hc hf hh hb
    go_wp2
    go_roundg (8 - (2 + 1))
    case measure => omega
    case rel =>
     refine ⟨3, by omega, rfl, by go_num, ?_, H.out.2.setCell (FV _) _⟩
     exact Gs wr _ _ _ _ _ H.out.1
  . have hc1 : wr.cell? ⟨w.heap.size, 4, none⟩ = some (.int .u8 0) := hc 4
    have hf1 := hf 4
    have H := Gw (Ge hh hb)
    clear hc hf hh hb
    go_wp2
    go_roundg (8 - (3 + 1))
    case measure => omega
    case rel =>
     refine ⟨4, by omega, rfl, by go_num, ?_, H.out.2.setCell (FV _) _⟩
     exact Gs wr _ _ _ _ _ H.out.1
  . have hc1 : wr.cell? ⟨w.heap.size, 3, none⟩ = some (.int .u8 0) := hc 3
    have hf1 := hf 3
    have H := Gw (Ge hh hb)
    clear hc hf hh hb
    go_wp2
    go_roundg (8 - (4 + 1))
    case measure => omega
    case rel =>
     refine ⟨5, by omega, rfl, by go_num, ?_, H.out.2.setCell (FV _) _⟩
     exact Gs wr _ _ _ _ _ H.out.1
  . have hc1 : wr.cell? ⟨w.heap.size, 2, none⟩ = some (.int .u8 0) := hc 2
    have hf1 := hf 2
    have H := Gw (Ge hh hb)
    clear hc hf hh hb
    go_wp2
    go_roundg (8 - (5 + 1))
    case measure => omega
    case rel =>
     refine ⟨6, by omega, rfl, by go_num, ?_, H.out.2.setCell (FV _) _⟩
     exact Gs wr _ _ _ _ _ H.out.1
  . have hc1 : wr.cell? ⟨w.heap.size, 1, none⟩ = some (.int .u8 0) := hc 1
    have hf1 := hf 1
    have H := Gw (Ge hh hb)
    clear hc hf hh hb
    go_wp2
    go_roundg (8 - (6 + 1))
    case measure => omega
    case rel =>
     refine ⟨7, by omega, rfl, by go_num, ?_, H.out.2.setCell (FV _) _⟩
     exact Gs wr _ _ _ _ _ H.out.1
  . have hc1 : wr.cell? ⟨w.heap.size, 0, none⟩ = some (.int .u8 0) := hc 0
    have hf1 := hf 0
    have H := Gw (Ge hh hb)
    clear hc hf hh hb
    go_wp2
    go_roundg (8 - (7 + 1))
    case measure => omega
    case rel =>
     refine ⟨8, by omega, rfl, by go_num, ?_, H.out.2.setCell (FV _) _⟩
     rw [← (by omega : n / 72057594037927936 % 256 = n / 72057594037927936)]; exact Gs wr _ _ _ _ _ H.out.1
  . have H := Gw (Ge hh hb)
    clear hc hf hh hb
    go_wp2
    refine Jz (v := .tuple #[.slice (some ⟨w.heap.size, 0, none⟩) 8 8, .int .i64 0]) (by simp [results, Tryz.results49, go_sem]) rfl ⟨rfl, H.out.1, H.out.2⟩
def a6H (N : Nat) (x0 x1 : Int) : Option (List UInt8 × Int) := if x1 = 8 /\ 0 <= x0 then some (be8 x0, 0) else none
theorem d9F (N : Nat) (x0 x1 : Int) (r0 : List UInt8) (r1 : Int) (h : a6H N x0 x1 = some (r0, r1)) : H8 Tryz.prog T 49 [dI x0, dI x1] [dY r0, dI r1] := by
 unfold a6H at h
 split at h
 . rename_i h2
   obtain ⟨rfl, h2⟩ := h2
   injection h with h; injection h with e1 e2; subst e1; subst e2
   intro E g w us hsz hus
   obtain ⟨hl, hr⟩ := hus
   match us, hl with
   | [u, v], _ =>
   have hu := hr 0 _ rfl
   have hv := hr 1 _ rfl
   simp only [GM, Ii] at hu hv
   cases hu with
   | v x a u hu ha =>
   cases hv with
   | v x a v hv ha' =>
   cases hu with
   | int k n hk =>
   cases hv with
   | int k n hk' =>
   refine (d5O x0 w h2 hk.2).mono ?_
   rintro e w' ⟨rfl, hh, hb⟩
   rw [c1r] at hh
   exact a5o (xs := be8 x0) hb 0 (by decide) (by simp [be8]) hh
 . cases h
set_option maxHeartbeats 4000000 in
theorem c9E (n : Int) (w : Gb) (h1 : 0 <= n) (h2 : n <= 9223372036854775807) :
 IE Tryz.prog 57 #[.int .i64 n, .int .i64 8] w fun e w' => e = .returned (.tuple #[.slice (some ⟨w.heap.size, 0, none⟩) 8 8, .int .i64 0]) /\ w'.heap[w.heap.size]? = some (.cells (c5X n 8) 5 (0, 0)) /\ Below w.heap.size w w' := by
 have h3 : ¬ n < 0 := by omega
 go_enter Tryz.func57, Tryz.ntmps57
 go_wp2
 go_loopg [0, 7] 8 (fun g m i wr => ∃ k : Nat, k <= 8 /\ g = 8 - k /\ m = .int .i64 (n / (256 ^ k : Nat)) /\ i = .int .i64 (7 - (k : Int)) /\ wr.heap[w.heap.size]? = some (.cells (c5X n k) 5 (0, 0)) /\ Below w.heap.size w wr)
 case atStart => exact ⟨0, by omega, rfl, by simp, rfl, He w _, (Below.refl _ _).alloc (FV _) _⟩
 case round =>
  obtain ⟨k, hk, hg, rfl, rfl, hh, hb⟩ := hrel
  have hc : ∀ j, wr.cell? ⟨w.heap.size, j, none⟩ = (c5X n k)[j]? := fun j => Gz wr _ j _ _ _ hh
  have hf : ∀ j, wr.frozen? ⟨w.heap.size, j, none⟩ = false := fun j => IA wr _ j _ _ hh
  rcases (by omega : k = 0 ∨ k = 1 ∨ k = 2 ∨ k = 3 ∨ k = 4 ∨ k = 5 ∨ k = 6 ∨ k = 7 ∨ k = 8) with rfl | rfl | rfl | rfl | rfl | rfl | rfl | rfl | rfl
  . have hc1 : wr.cell? ⟨w.heap.size, 7, none⟩ = some (.int .u8 0) := hc 7
    have hf1 := hf 7
    have H := Gw (Ge hh hb)
    clear hc hf hh hb
    go_wp2
    go_roundg (8 - (0 + 1))
    case measure => omega
    case rel =>
     refine ⟨1, by omega, rfl, ?_, by go_num, ?_, H.out.2.setCell (FV _) _⟩
     . have e : ((256 ^ (0+1) : Nat) : Int) = 256 := by decide
       rw [show (0+1 : Nat) = 1 from rfl] at e
       first | (rw [e]; done) | (rw [e]; rfl) | (rw [e]; congr 1; omega)
     . exact Gs wr _ _ _ _ _ H.out.1
  . have hc1 : wr.cell? ⟨w.heap.size, 6, none⟩ = some (.int .u8 0) := hc 6
    have hf1 := hf 6
    have H := Gw (Ge hh hb)
    clear hc hf hh hb
    go_wp2
    go_roundg (8 - (1 + 1))
    case measure => omega
    case rel =>
     refine ⟨2, by omega, rfl, ?_, by go_num, ?_, H.out.2.setCell (FV _) _⟩
     . have e : ((256 ^ (1+1) : Nat) : Int) = 65536 := by decide
       rw [show (1+1 : Nat) = 2 from rfl] at e
       first | (rw [e]; done) | (rw [e]; rfl) | (rw [e]; congr 1; omega)
     . exact Gs wr _ _ _ _ _ H.out.1
  . have hc1 : wr.cell? ⟨w.heap.size, 5, none⟩ = some (.int .u8 0) := hc 5
    have hf1 := hf 5
    have H := Gw (Ge hh hb)
    clear hc hf hh hb
    go_wp2
    go_roundg (8 - (2 + 1))
    case measure => omega
    case rel =>
     refine ⟨3, by omega, rfl, ?_, by go_num, ?_, H.out.2.setCell (FV _) _⟩
     . have e : ((256 ^ (2+1) : Nat) : Int) = 16777216 := by decide
       rw [show (2+1 : Nat) = 3 from rfl] at e
       first | (rw [e]; done) | (rw [e]; rfl) | (rw [e]; congr 1; omega)
     . exact Gs wr _ _ _ _ _ H.out.1
  . have hc1 : wr.cell? ⟨w.heap.size, 4, none⟩ = some (.int .u8 0) := hc 4
    have hf1 := hf 4
    have H := Gw (Ge hh hb)
    clear hc hf hh hb
    go_wp2
    go_roundg (8 - (3 + 1))
    case measure => omega
    case rel =>
     refine ⟨4, by omega, rfl, ?_, by go_num, ?_, H.out.2.setCell (FV _) _⟩
     . have e : ((256 ^ (3+1) : Nat) : Int) = 4294967296 := by decide
       rw [show (3+1 : Nat) = 4 from rfl] at e
       first | (rw [e]; done) | (rw [e]; rfl) | (rw [e]; congr 1; omega)
     . exact Gs wr _ _ _ _ _ H.out.1
  . have hc1 : wr.cell? ⟨w.heap.size, 3, none⟩ = some (.int .u8 0) := hc 3
    have hf1 := hf 3
    have H := Gw (Ge hh hb)
    clear hc hf hh hb
    go_wp2
    go_roundg (8 - (4 + 1))
    case measure => omega
    case rel =>
     refine ⟨5, by omega, rfl, ?_, by go_num, ?_, H.out.2.setCell (FV _) _⟩
     . have e : ((256 ^ (4+1) : Nat) : Int) = 1099511627776 := by decide
       rw [show (4+1 : Nat) = 5 from rfl] at e
       first | (rw [e]; done) | (rw [e]; rfl) | (rw [e]; congr 1; omega)
     . exact Gs wr _ _ _ _ _ H.out.1
  . have hc1 : wr.cell? ⟨w.heap.size, 2, none⟩ = some (.int .u8 0) := hc 2
    have hf1 := hf 2
    have H := Gw (Ge hh hb)
    clear hc hf hh hb
    go_wp2
    go_roundg (8 - (5 + 1))
    case measure => omega
    case rel =>
     refine ⟨6, by omega, rfl, ?_, by go_num, ?_, H.out.2.setCell (FV _) _⟩
     . have e : ((256 ^ (5+1) : Nat) : Int) = 281474976710656 := by decide
       rw [show (5+1 : Nat) = 6 from rfl] at e
       first | (rw [e]; done) | (rw [e]; rfl) | (rw [e]; congr 1; omega)
     . exact Gs wr _ _ _ _ _ H.out.1
  . have hc1 : wr.cell? ⟨w.heap.size, 1, none⟩ = some (.int .u8 0) := hc 1
    have hf1 := hf 1
    have H := Gw (Ge hh hb)
    clear hc hf hh hb
    go_wp2
    go_roundg (8 - (6 + 1))
    case measure => omega
    case rel =>
     refine ⟨7, by omega, rfl, ?_, by go_num, ?_, H.out.2.setCell (FV _) _⟩
     . have e : ((256 ^ (6+1) : Nat) : Int) = 72057594037927936 := by decide
       rw [show (6+1 : Nat) = 7 from rfl] at e
       first | (rw [e]; done) | (rw [e]; rfl) | (rw [e]; congr 1; omega)
     . exact Gs wr _ _ _ _ _ H.out.1
  . have hc1 : wr.cell? ⟨w.heap.size, 0, none⟩ = some (.int .u8 0) := hc 0
    have hf1 := hf 0
    have H := Gw (Ge hh hb)
    clear hc hf hh hb
    go_wp2
    go_roundg (8 - (7 + 1))
    case measure => omega
    case rel =>
     refine ⟨8, by omega, rfl, ?_, by go_num, ?_, H.out.2.setCell (FV _) _⟩
     . have e : ((256 ^ (7+1) : Nat) : Int) = 18446744073709551616 := by decide
       rw [show (7+1 : Nat) = 8 from rfl] at e
       first | (rw [e]; done) | (rw [e]; rfl) | (rw [e]; congr 1; omega)
     . exact Gs wr _ _ _ _ _ H.out.1
  . have H := Gw (Ge hh hb)
    clear hc hf hh hb
    go_wp2
    refine Jz (v := .tuple #[.slice (some ⟨w.heap.size, 0, none⟩) 8 8, .int .i64 0]) (by simp [results, Tryz.results57, go_sem]) rfl ⟨rfl, H.out.1, H.out.2⟩
def b3b (N : Nat) (x0 x1 : Int) : Option (List UInt8 × Int) := if x1 = 8 /\ 0 <= x0 then some (be8 x0, 0) else none
theorem e3G (N : Nat) (x0 x1 : Int) (r0 : List UInt8) (r1 : Int) (h : b3b N x0 x1 = some (r0, r1)) : H8 Tryz.prog T 57 [dI x0, dI x1] [dY r0, dI r1] := by
 unfold b3b at h
 split at h
 . rename_i h2
   obtain ⟨rfl, h2⟩ := h2
   injection h with h; injection h with e1 e2; subst e1; subst e2
   intro E g w us hsz hus
   obtain ⟨hl, hr⟩ := hus
   match us, hl with
   | [u, v], _ =>
   have hu := hr 0 _ rfl
   have hv := hr 1 _ rfl
   simp only [GM, Ii] at hu hv
   cases hu with
   | v x a u hu ha =>
   cases hv with
   | v x a v hv ha' =>
   cases hu with
   | int k n hk =>
   cases hv with
   | int k n hk' =>
   refine (c9E x0 w h2 hk.2).mono ?_
   rintro e w' ⟨rfl, hh, hb⟩
   rw [c1r] at hh
   exact a5o (xs := be8 x0) hb 0 (by decide) (by simp [be8]) hh
 . cases h
theorem V4 (a b : UInt8) : bits .xor .u8 (a.toNat : Int) (b.toNat : Int) = ((a ^^^ b).toNat : Int) := by
 rw [u8_xor_nat _ _ (Js a) (Js b)]; simp
theorem b3s {w w' : Gb} (hb : Below w.heap.size w w') {p : Addr} {v : FW} (h : w.cell? p = some v) : w'.cell? p = some v := by
 rw [hb.cell (World.block_lt_of_cell? w _ h)]; exact h
def e3H (x0 x1 x2 x3 x4 x5 x6 x7 y0 y1 y2 y3 y4 y5 y6 y7 : UInt8) : Nat -> Array FW
 | 0 => #[.int .u8 0, .int .u8 0, .int .u8 0, .int .u8 0, .int .u8 0, .int .u8 0, .int .u8 0, .int .u8 0]
 | 1 => #[.int .u8 ((x0 ^^^ y0).toNat : Int), .int .u8 0, .int .u8 0, .int .u8 0, .int .u8 0, .int .u8 0, .int .u8 0, .int .u8 0]
 | 2 => #[.int .u8 ((x0 ^^^ y0).toNat : Int), .int .u8 ((x1 ^^^ y1).toNat : Int), .int .u8 0, .int .u8 0, .int .u8 0, .int .u8 0, .int .u8 0, .int .u8 0]
 | 3 => #[.int .u8 ((x0 ^^^ y0).toNat : Int), .int .u8 ((x1 ^^^ y1).toNat : Int), .int .u8 ((x2 ^^^ y2).toNat : Int), .int .u8 0, .int .u8 0, .int .u8 0, .int .u8 0, .int .u8 0]
 | 4 => #[.int .u8 ((x0 ^^^ y0).toNat : Int), .int .u8 ((x1 ^^^ y1).toNat : Int), .int .u8 ((x2 ^^^ y2).toNat : Int), .int .u8 ((x3 ^^^ y3).toNat : Int), .int .u8 0, .int .u8 0, .int .u8 0, .int .u8 0]
 | 5 => #[.int .u8 ((x0 ^^^ y0).toNat : Int), .int .u8 ((x1 ^^^ y1).toNat : Int), .int .u8 ((x2 ^^^ y2).toNat : Int), .int .u8 ((x3 ^^^ y3).toNat : Int), .int .u8 ((x4 ^^^ y4).toNat : Int), .int .u8 0, .int .u8 0, .int .u8 0]
 | 6 => #[.int .u8 ((x0 ^^^ y0).toNat : Int), .int .u8 ((x1 ^^^ y1).toNat : Int), .int .u8 ((x2 ^^^ y2).toNat : Int), .int .u8 ((x3 ^^^ y3).toNat : Int), .int .u8 ((x4 ^^^ y4).toNat : Int), .int .u8 ((x5 ^^^ y5).toNat : Int), .int .u8 0, .int .u8 0]
 | 7 => #[.int .u8 ((x0 ^^^ y0).toNat : Int), .int .u8 ((x1 ^^^ y1).toNat : Int), .int .u8 ((x2 ^^^ y2).toNat : Int), .int .u8 ((x3 ^^^ y3).toNat : Int), .int .u8 ((x4 ^^^ y4).toNat : Int), .int .u8 ((x5 ^^^ y5).toNat : Int), .int .u8 ((x6 ^^^ y6).toNat : Int), .int .u8 0]
 | _ => #[.int .u8 ((x0 ^^^ y0).toNat : Int), .int .u8 ((x1 ^^^ y1).toNat : Int), .int .u8 ((x2 ^^^ y2).toNat : Int), .int .u8 ((x3 ^^^ y3).toNat : Int), .int .u8 ((x4 ^^^ y4).toNat : Int), .int .u8 ((x5 ^^^ y5).toNat : Int), .int .u8 ((x6 ^^^ y6).toNat : Int), .int .u8 ((x7 ^^^ y7).toNat : Int)]
set_option maxHeartbeats 8000000 in
theorem d3O (x0 x1 x2 x3 x4 x5 x6 x7 y0 y1 y2 y3 y4 y5 y6 y7 : UInt8) (b1 o1 c1 b2 o2 c2 : Nat) (w : Gb) (h1 : ∀ (k : Nat) v, ([x0, x1, x2, x3, x4, x5, x6, x7].map u8)[k]? = some v -> w.cell? ⟨b1, o1 + k, none⟩ = some v) (h2 : ∀ (k : Nat) v, ([y0, y1, y2, y3, y4, y5, y6, y7].map u8)[k]? = some v -> w.cell? ⟨b2, o2 + k, none⟩ = some v) :
 IE Tryz.prog 98 #[.slice (some ⟨b1, o1, none⟩) 8 c1, .slice (some ⟨b2, o2, none⟩) 8 c2] w fun e w' => e = .returned (.tuple #[.slice (some ⟨w.heap.size, 0, none⟩) 8 8, .int .i64 0]) /\ w'.heap[w.heap.size]? = some (.cells (e3H x0 x1 x2 x3 x4 x5 x6 x7 y0 y1 y2 y3 y4 y5 y6 y7 8) 5 (0, 0)) /\ Below w.heap.size w w' := by
 have H1 := Gw h1
 have H2 := Gw h2
 clear h1 h2
 go_enter Tryz.func98, Tryz.ntmps98
 go_wp2
 go_loopg [7, 18] 8 (fun g x i wr => ∃ k : Nat, k <= 8 /\ g = 8 - k /\ i = .int .i64 (k : Int) /\ wr.heap[w.heap.size]? = some (.cells (e3H x0 x1 x2 x3 x4 x5 x6 x7 y0 y1 y2 y3 y4 y5 y6 y7 k) 5 (0, 0)) /\ Below w.heap.size w wr)
 case atStart => exact ⟨0, by omega, rfl, rfl, He w _, (Below.refl _ _).alloc (FV _) _⟩
 case round =>
  obtain ⟨k, hk, hg, rfl, hh, hb⟩ := hrel
  have hc : ∀ j, wr.cell? ⟨w.heap.size, j, none⟩ = (e3H x0 x1 x2 x3 x4 x5 x6 x7 y0 y1 y2 y3 y4 y5 y6 y7 k)[j]? := fun j => Gz wr _ j _ _ _ hh
  have hf : ∀ j, wr.frozen? ⟨w.heap.size, j, none⟩ = false := fun j => IA wr _ j _ _ hh
  have k1 : ∀ (j : Nat) v, ([x0, x1, x2, x3, x4, x5, x6, x7].map u8)[j]? = some v -> wr.cell? ⟨b1, o1 + j, none⟩ = some v := fun j v hv => (b3s hb (H1.out j v hv))
  have k2 : ∀ (j : Nat) v, ([y0, y1, y2, y3, y4, y5, y6, y7].map u8)[j]? = some v -> wr.cell? ⟨b2, o2 + j, none⟩ = some v := fun j v hv => (b3s hb (H2.out j v hv))
  rcases (by omega : k = 0 ∨ k = 1 ∨ k = 2 ∨ k = 3 ∨ k = 4 ∨ k = 5 ∨ k = 6 ∨ k = 7 ∨ k = 8) with rfl | rfl | rfl | rfl | rfl | rfl | rfl | rfl | rfl
  . have hc1 : wr.cell? ⟨w.heap.size, 0, none⟩ = some (.int .u8 0) := hc 0
    have hf1 := hf 0
    have hx1 : wr.cell? ⟨b1, o1, none⟩ = some (.int .u8 (x0.toNat : Int)) := k1 0 _ rfl
    have hy1 : wr.cell? ⟨b2, o2, none⟩ = some (.int .u8 (y0.toNat : Int)) := k2 0 _ rfl
    have H := Gw (Ge hh hb)
    clear hc hf hh hb k1 k2
    go_wp2
    go_region
    all_goals (try go_wp2)
    go_roundg (8 - (0 + 1))
    case measure => omega
    case rel =>
     refine ⟨1, by omega, rfl, by go_num, ?_, ?_⟩
     . rw [V4]
       exact Gs wr _ _ _ _ _ H.out.1
     . exact (H.out.2.setCell (FV _) _).drew
  . have hc1 : wr.cell? ⟨w.heap.size, 1, none⟩ = some (.int .u8 0) := hc 1
    have hf1 := hf 1
    have hx1 : wr.cell? ⟨b1, o1 + 1, none⟩ = some (.int .u8 (x1.toNat : Int)) := k1 1 _ rfl
    have hy1 : wr.cell? ⟨b2, o2 + 1, none⟩ = some (.int .u8 (y1.toNat : Int)) := k2 1 _ rfl
    have H := Gw (Ge hh hb)
    clear hc hf hh hb k1 k2
    go_wp2
    go_region
    all_goals (try go_wp2)
    go_roundg (8 - (1 + 1))
    case measure => omega
    case rel =>
     refine ⟨2, by omega, rfl, by go_num, ?_, ?_⟩
     . rw [V4]
       exact Gs wr _ _ _ _ _ H.out.1
     . exact (H.out.2.setCell (FV _) _).drew
  . have hc1 : wr.cell? ⟨w.heap.size, 2, none⟩ = some (.int .u8 0) := hc 2
    have hf1 := hf 2
    have hx1 : wr.cell? ⟨b1, o1 + 2, none⟩ = some (.int .u8 (x2.toNat : Int)) := k1 2 _ rfl
    have hy1 : wr.cell? ⟨b2, o2 + 2, none⟩ = some (.int .u8 (y2.toNat : Int)) := k2 2 _ rfl
    have H := Gw (Ge hh hb)
    clear hc hf hh hb k1 k2
    go_wp2
    go_region
    all_goals (try go_wp2)
    go_roundg (8 - (2 + 1))
    case measure => omega
    case rel =>
     refine ⟨3, by omega, rfl, by go_num, ?_, ?_⟩
     . rw [V4]
       exact Gs wr _ _ _ _ _ H.out.1
     . exact (H.out.2.setCell (FV _) _).drew
  . have hc1 : wr.cell? ⟨w.heap.size, 3, none⟩ = some (.int .u8 0) := hc 3
    have hf1 := hf 3
    have hx1 : wr.cell? ⟨b1, o1 + 3, none⟩ = some (.int .u8 (x3.toNat : Int)) := k1 3 _ rfl
    have hy1 : wr.cell? ⟨b2, o2 + 3, none⟩ = some (.int .u8 (y3.toNat : Int)) := k2 3 _ rfl
    have H := Gw (Ge hh hb)
    clear hc hf hh hb k1 k2
    go_wp2
    go_region
    all_goals (try go_wp2)
    go_roundg (8 - (3 + 1))
    case measure => omega
    case rel =>
     refine ⟨4, by omega, rfl, by go_num, ?_, ?_⟩
     . rw [V4]
       exact Gs wr _ _ _ _ _ H.out.1
     . exact (H.out.2.setCell (FV _) _).drew
  . have hc1 : wr.cell? ⟨w.heap.size, 4, none⟩ = some (.int .u8 0) := hc 4
    have hf1 := hf 4
    have hx1 : wr.cell? ⟨b1, o1 + 4, none⟩ = some (.int .u8 (x4.toNat : Int)) := k1 4 _ rfl
    have hy1 : wr.cell? ⟨b2, o2 + 4, none⟩ = some (.int .u8 (y4.toNat : Int)) := k2 4 _ rfl
    have H := Gw (Ge hh hb)
    clear hc hf hh hb k1 k2
    go_wp2
    go_region
    all_goals (try go_wp2)
    go_roundg (8 - (4 + 1))
    case measure => omega
    case rel =>
     refine ⟨5, by omega, rfl, by go_num, ?_, ?_⟩
     . rw [V4]
       exact Gs wr _ _ _ _ _ H.out.1
     . exact (H.out.2.setCell (FV _) _).drew
  . have hc1 : wr.cell? ⟨w.heap.size, 5, none⟩ = some (.int .u8 0) := hc 5
    have hf1 := hf 5
    have hx1 : wr.cell? ⟨b1, o1 + 5, none⟩ = some (.int .u8 (x5.toNat : Int)) := k1 5 _ rfl
    have hy1 : wr.cell? ⟨b2, o2 + 5, none⟩ = some (.int .u8 (y5.toNat : Int)) := k2 5 _ rfl
    have H := Gw (Ge hh hb)
    clear hc hf hh hb k1 k2
    go_wp2
    go_region
    all_goals (try go_wp2)
    go_roundg (8 - (5 + 1))
    case measure => omega
    case rel =>
     refine ⟨6, by omega, rfl, by go_num, ?_, ?_⟩
     . rw [V4]
       exact Gs wr _ _ _ _ _ H.out.1
     . exact (H.out.2.setCell (FV _) _).drew
  . have hc1 : wr.cell? ⟨w.heap.size, 6, none⟩ = some (.int .u8 0) := hc 6
    have hf1 := hf 6
    have hx1 : wr.cell? ⟨b1, o1 + 6, none⟩ = some (.int .u8 (x6.toNat : Int)) := k1 6 _ rfl
    have hy1 : wr.cell? ⟨b2, o2 + 6, none⟩ = some (.int .u8 (y6.toNat : Int)) := k2 6 _ rfl
    have H := Gw (Ge hh hb)
    clear hc hf hh hb k1 k2
    go_wp2
    go_region
    all_goals (try go_wp2)
    go_roundg (8 - (6 + 1))
    case measure => omega
    case rel =>
     refine ⟨7, by omega, rfl, by go_num, ?_, ?_⟩
     . rw [V4]
       exact Gs wr _ _ _ _ _ H.out.1
     . exact (H.out.2.setCell (FV _) _).drew
  . have hc1 : wr.cell? ⟨w.heap.size, 7, none⟩ = some (.int .u8 0) := hc 7
    have hf1 := hf 7
    have hx1 : wr.cell? ⟨b1, o1 + 7, none⟩ = some (.int .u8 (x7.toNat : Int)) := k1 7 _ rfl
    have hy1 : wr.cell? ⟨b2, o2 + 7, none⟩ = some (.int .u8 (y7.toNat : Int)) := k2 7 _ rfl
    have H := Gw (Ge hh hb)
    clear hc hf hh hb k1 k2
    go_wp2
    go_region
    all_goals (try go_wp2)
    go_roundg (8 - (7 + 1))
    case measure => omega
    case rel =>
     refine ⟨8, by omega, rfl, by go_num, ?_, ?_⟩
     . rw [V4]
       exact Gs wr _ _ _ _ _ H.out.1
     . exact (H.out.2.setCell (FV _) _).drew
  . have H := Gw (Ge hh hb)
    clear hc hf hh hb k1 k2
    go_wp2
    refine Jz (v := .tuple #[.slice (some ⟨w.heap.size, 0, none⟩) 8 8, .int .i64 0]) (by simp [results, Tryz.results98, go_sem]) rfl ⟨rfl, H.out.1, H.out.2⟩
def a6I (a b : List UInt8) : List UInt8 := List.zipWith (fun x y => x ^^^ y) a b
theorem b7j {l : List UInt8} (h : l.length = 8) : ∃ x0 x1 x2 x3 x4 x5 x6 x7, l = [x0, x1, x2, x3, x4, x5, x6, x7] := by
 match l, h with
 | [x0, x1, x2, x3, x4, x5, x6, x7], _ => exact ⟨x0, x1, x2, x3, x4, x5, x6, x7, rfl⟩
def b4J (N : Nat) (x0 x1 : List UInt8) : Option (List UInt8 × Int) := if x0.length = 8 /\ x1.length = 8 then some (a6I x0 x1, 0) else none
theorem e4t (N : Nat) (x0 x1 : List UInt8) (r0 : List UInt8) (r1 : Int) (h : b4J N x0 x1 = some (r0, r1)) : H8 Tryz.prog T 98 [dY x0, dY x1] [dY r0, dI r1] := by
 unfold b4J at h
 split at h
 . rename_i h2
   obtain ⟨h2, h3⟩ := h2
   injection h with h; injection h with e1 e2; subst e1; subst e2
   intro E g w us hsz hus
   obtain ⟨hl, hr⟩ := hus
   match us, hl with
   | [u, v], _ =>
   have hu := hr 0 _ rfl
   have hv := hr 1 _ rfl
   simp only [GM, Ii] at hu hv
   cases hu with
   | v x a u hu ha =>
   cases hv with
   | v x a v hv ha' =>
   obtain ⟨A, n, c, rfl, hi⟩ := a1v hu
   obtain ⟨A', n', c', rfl, hi'⟩ := a1v hv
   have e1 : n = 8 := by rw [← IsB.len hi]; exact h2
   have e2 : n' = 8 := by rw [← IsB.len hi']; exact h3
   subst e1; subst e2
   obtain ⟨b1, o1, rfl, q1⟩ := IsB.cells hi (by decide)
   obtain ⟨b2, o2, rfl, q2⟩ := IsB.cells hi' (by decide)
   obtain ⟨x0, x1, x2, x3, x4, x5, x6, x7, rfl⟩ := b7j h2
   obtain ⟨y0, y1, y2, y3, y4, y5, y6, y7, rfl⟩ := b7j h3
   refine (d3O x0 x1 x2 x3 x4 x5 x6 x7 y0 y1 y2 y3 y4 y5 y6 y7 b1 o1 c b2 o2 c' w (fun k v hv => ?_) (fun k v hv => ?_)).mono ?_
   . rw [Gm, Option.map_eq_some_iff] at hv
     obtain ⟨z, hz, rfl⟩ := hv
     exact q1 k z hz
   . rw [Gm, Option.map_eq_some_iff] at hv
     obtain ⟨z, hz, rfl⟩ := hv
     exact q2 k z hz
   rintro e w' ⟨rfl, hh, hb⟩
   exact a5o (xs := a6I [x0, x1, x2, x3, x4, x5, x6, x7] [y0, y1, y2, y3, y4, y5, y6, y7]) hb 0 (by decide) (by simp [a6I]) hh
 . cases h
end En
namespace En
open Go Go.RowKit
def c3J (k : Nat) : ByteArray := ⟨(GW k (0 : UInt8)).toArray⟩
theorem a1b (k : Nat) : (c3J k).size = k := by simp [c3J, ByteArray.size]
theorem b4R (k : Nat) : Jb (c3J k) = (GW k (0 : UInt8)).map u8 := by simp [Jb, c3J, u8]
theorem b3I (k : Nat) (w' : Gb) : (Builtin.firstCells 1 k (.string (c3J k))).run Tryz.prog w' = .ok (If (Iu (.int .u8 0)) k) w' := by
 have := Lib.run_firstCells_string (P := Tryz.prog) w' 1 (c3J k)
 rw [a1b] at this
 rw [this]
 congr 1
 rw [b4R]
 apply Array.ext
 . simp [If, Iu]
 . intro i h1 h2
   have : i % 1 = 0 := Nat.mod_one i
   simp [If, Iu, u8, this]
theorem a9W (w : Gb) (ty : TypeId) (A : Option Addr) (n c k : Nat) (h0 : 0 < k) (hk : n + k <= 1000000) :
 (GL #[22, 3] ty #[.slice A n c, .int .i64 k]).run Tryz.prog w = (GL #[22, 9] ty #[.slice A n c, .string (c3J k)]).run Tryz.prog w := by
 obtain ⟨i0, hi0, hz0, hz1, hz2⟩ := Ka b6r
 have hw : FK.wrap (k : Int) = k := by rw [IntKind.wrap_i64]; omega
 have e6T : ¬ ((k : Int) < 0) := by omega
 have e6U : ¬ (281474976710656 < (k : Int)) := by omega
 have hk0 : k ≠ 0 := by omega
 by_cases a0A : n + k <= c
 . simp [GL, Gn Tryz.underlying22, Gn Tryz.underlying3, Gn Tryz.underlying9, sizeOf, typeInfo, zeroValue, hi0, hz0, hz1, hz2, asInt, asIntOf, hw, e6T, e6U, hk0, IS, a1b, a0A, b3I]
 . have hnc : ¬ (281474976710656 < Builtin.nextslicecap (n + k) c) := by
    have := nextslicecap_le (need := n + k) (old := c) (by omega)
    omega
   have h63 : ¬ (9223372036854775807 < ((n : Int) + (k : Int))) := by omega
   simp [GL, Gn Tryz.underlying22, Gn Tryz.underlying3, Gn Tryz.underlying9, sizeOf, typeInfo, zeroValue, hi0, hz0, hz1, hz2, asInt, asIntOf, hw, e6T, e6U, hk0, IS, a1b, a0A, b3I, hnc, h63]
theorem b9r (ls : List (List UInt8)) (k : Nat) : (ls.take k).flatten.length <= ls.flatten.length := by
 conv => rhs; rw [← List.take_append_drop k ls]
 rw [Ll, FT]
 omega
theorem b2m (ls : List (List UInt8)) (k : Nat) (h : k < ls.length) : (ls.take (k + 1)).flatten = (ls.take k).flatten ++ ls[k] := by
 rw [List.take_succ_eq_append_getElem h, Ll]; simp
set_option maxHeartbeats 400000 in
theorem d6r (A : Option Addr) (n c : Nat) (ls : List (List UInt8)) (w : Gb) (h : IsBB w A n c ls) (hn : ls.flatten.length <= 1000000) :
 IE Tryz.prog 51 #[.slice A n c] w fun e w' => ∃ A' n' c', e = .returned (.slice A' n' c') /\ Own w' w.heap.size 5 A' n' c' (ls.flatten.map u8) /\ Below w.heap.size w w' := by
 obtain ⟨i0, hi0, hz0, hz1, hz2⟩ := Ka b6r
 have e2m : n <= 9223372036854775807 := by have h1 := h.cap; have h2 := h.max; unfold maxLen at h2; omega
 have H := Gw h
 have HI := Gw (Ge hi0 (Ge hz0 (Ge hz1 hz2)))
 clear h hi0 hz0 hz1 hz2
 go_enter Tryz.func51, Tryz.ntmps51
 go_wp2
 go_loopg [3, 8] n (fun g v i wr => ∃ k A' n' c', k <= n /\ g = n - k /\ i = .int .i64 (k : Int) /\ v = .slice A' n' c' /\ Own wr w.heap.size 5 A' n' c' ((ls.take k).flatten.map u8) /\ Below w.heap.size w wr)
 case atStart => exact ⟨0, none, 0, 0, by omega, rfl, rfl, rfl, Own.nil _ _, Below.refl _ _⟩
 case round =>
  obtain ⟨k, A', n', c', hk, hg, rfl, rfl, hown, hb⟩ := hrel
  by_cases hlt : k < n
  . have hl : k < ls.length := by have := H.out.len; omega
    obtain ⟨A2, n2, c2, ⟨b, off, rfl, hc⟩, hr⟩ := H.out.at_ k _ (List.getElem?_eq_getElem hl)
    have hc2 : wr.cell? ⟨b, off + k, none⟩ = some (.slice A2 n2 c2) := by
     rw [hb.cell (p := ⟨b, off + k, none⟩) (World.block_lt_of_cell? w _ hc)]; exact hc
    have hr2 : Rd wr A2 n2 c2 (ls[k].map u8) := hr.below hb
    have hle := b9r ls (k + 1)
    have d7X := b2m ls k hl
    have hn' : n' = (ls.take k).flatten.length := by have := hown.1; rw [Gh] at this; omega
    have hn2 : n2 = ls[k].length := by have := hr2.len; rw [Gh] at this; omega
    have e8j : n' + n2 <= 1000000 := by rw [d7X, FT] at hle; omega
    have Hs := Gw d7X
    have Hn := Gw (Ge hn' hn2)
    clear d7X hle hn' hn2
    go_wp2_with (at_builtin; refine a2N _ rfl (.tmp 12) (.tmp 13) 22 rfl w.heap.size 5 i0 _ 1 Tryz.underlying22 HI.out.1 HI.out.2.1 HI.out.2.2.1 HI.out.2.2.2 rfl A' n' c' _ rfl hown A2 n2 c2 _ rfl hr2 (d4m _) ?_ (by omega) hb.size ?_)
    case _ => omega
    intro A3 c3 w3 d7V hg3 _
    have hb3 := hb.grown hg3 hb.size (hown.block)
    go_wp2
    go_roundg (n - (k + 1))
    case measure => omega
    case rel =>
     refine ⟨k + 1, A3, n' + n2, c3, by omega, rfl, by go_num, rfl, ?_, hb3⟩
     rw [Hs.out]; simpa using d7V
  . go_wp2
    go_ret
    exact ⟨A', n', c', rfl, by have e : k = n := by omega
                               have e2 : ls.take k = ls := List.take_of_length_le (by rw [H.out.len, e]; exact FV _)
                               rw [e2] at hown; exact hown, hb⟩
theorem a9p (w : Gb) (ty : TypeId) (B : Nat) (A : Option Addr) (n c k : Nat) (xs : List UInt8) (h : Own w B 5 A n c (xs.map u8)) (h0 : 0 < k) (hk : n + k <= 1000000) (hB : B <= w.heap.size) :
 ∃ A' c' w', (GL #[22, 3] ty #[.slice A n c, .int .i64 k]).run Tryz.prog w = .ok (.slice A' (n + k) c') w' /\ Own w' B 5 A' (n + k) c' ((xs ++ GW k 0).map u8) /\ w.grownBy w' (Hq A n c).ownBlock := by
 obtain ⟨i0, hi0, hz0, hz1, hz2⟩ := Ka b6r
 rw [a9W w ty A n c k h0 hk]
 obtain ⟨v', w', h1, h2, h3, _⟩ := Lib.run_append_own_string (P := Tryz.prog) w B 22 9 ty 5 i0 Tryz.underlying22 Tryz.underlying9 hi0 hz0 hz1 hz2 (.slice A n c) n _ h (c3J k) (by rw [a1b]; unfold maxLen; omega) (by rw [a1b]; omega) hB
 rw [a1b] at h2
 obtain ⟨A', c', rfl, h4, _⟩ := Own.form h2
 refine ⟨A', c', w', h1, ?_, h3⟩
 rw [b4R] at h4
 rw [List.map_append]
 exact h4
def a4N (xs : List UInt8) : List UInt8 := (xs ++ [128]) ++ GW ((8 - (xs.length + 1) % 8) % 8) 0
set_option maxHeartbeats 1000000 in
theorem e1g (A : Option Addr) (n c : Nat) (xs : List UInt8) (w : Gb) (h : IsB w A n c xs) (hx : xs.length <= 900000) :
 IE Tryz.prog 97 #[.slice A n c, .int .i64 8] w fun e w' => ∃ A' n' c', e = .returned (.tuple #[.slice A' n' c', .int .i64 0]) /\ Own w' w.heap.size 5 A' n' c' ((a4N xs).map u8) /\ Below w.heap.size w w' := by
 have hl := IsB.len h
 have H := Gw h
 clear h
 go_enter Tryz.func97, Tryz.ntmps97
 have hb0 : Below w.heap.size w (w.alloc (.cells #[.int .u8 128] 5)) := (Below.refl _ _).alloc (FV _) _
 have HJ : Hid (IsBB ((w.alloc (.cells #[.int .u8 128] 5)).alloc (.cells #[.slice A n c, .slice (some ⟨w.heap.size, 0, none⟩) 1 1] 22)) (some ⟨w.heap.size + 1, 0, none⟩) 2 2 [xs, [128]]) := by
  have := IsBB.lit2 (e := 22) (w := w.alloc (.cells #[.int .u8 128] 5)) (A' := some ⟨w.heap.size, 0, none⟩) (n' := 1) (c' := 1) (ys := [128]) (H.out.alloc _) (Own.rd (c8X [.int .u8 128] (FV _) (by simp)))
  refine Gw ?_
  rw [show (w.alloc (.cells #[.int .u8 128] 5)).heap.size = w.heap.size + 1 by simp] at this
  exact this
 have hfl : ([xs, [128]] : List (List UInt8)).flatten = xs ++ [128] := by simp
 have hjl : ([xs, [128]] : List (List UInt8)).flatten.length <= 1000000 := by rw [hfl]; simp; omega
 have HL := Gw (Ge hl hjl)
 have HX := Gw hx
 clear hl hjl hx
 go_wp2_with fail
 refine (d6r _ _ _ [xs, [128]] _ HJ.out HL.out.2).mono ?_
 rintro e w2 ⟨A2, n2, c2, rfl, ho2, hb2⟩
 rw [hfl] at ho2
 have hn2 : n2 = xs.length + 1 := by have := ho2.1; simpa using this.symm
 subst hn2
 have hb3 : Below w.heap.size w w2 := (hb0.alloc (by simp) _).trans (hb2.mono (by simp; omega))
 have ho3 : Own w2 w.heap.size 5 A2 (xs.length + 1) c2 ((xs ++ [128]).map u8) := ho2.base (by simp; omega)
 have HO := Gw (Ge ho3 hb3)
 clear ho2 hb2 hb3 ho3 hb0 HJ
 have hx := HX.out
 by_cases hr : ((xs.length : Int) + 1) % 8 = 0
 . have hm0 : (((xs.length : Int) + 1) % 8 != 0) = false := by rw [hr]; rfl
   go_wp2_with fail
   go_ret2
   refine ⟨A2, _, c2, rfl, ?_, HO.out.2⟩
   have e : a4N xs = xs ++ [128] := by
    unfold a4N
    rw [show (xs.length + 1) % 8 = 0 by omega]
    simp
   rw [e]; exact HO.out.1
 . have hm1 : (((xs.length : Int) + 1) % 8 != 0) = true := by simp; omega
   obtain ⟨k, hk⟩ : ∃ k : Nat, k = 8 - (xs.length + 1) % 8 := ⟨_, rfl⟩
   have hk2 : (8 : Int) - ((xs.length : Int) + 1) % 8 = (k : Int) := by omega
   obtain ⟨A3, c3, w3, r1, r2, r3⟩ := a9p w2 22 w.heap.size A2 (xs.length + 1) c2 k (xs ++ [128]) HO.out.1 (by omega) (by omega) HO.out.2.size
   rw [← hk2] at r1
   have R := Gw (Ge r2 (Ge r3 hk))
   clear r2 r3 hk hk2
   go_wp2_with (at_builtin; refine Lib.wpList_append_run _ rfl _ _ _ _ rfl _ _ rfl rfl _ _ r1 ?_)
   go_ret2
   refine ⟨A3, _, c3, rfl, ?_, HO.out.2.grown R.out.2.1 HO.out.2.size HO.out.1.block⟩
   have e : a4N xs = (xs ++ [128]) ++ GW k 0 := by
    unfold a4N
    rw [show (8 - (xs.length + 1) % 8) % 8 = k by have := R.out.2.2; omega]
   rw [e]; exact R.out.1
theorem c0r {g : G} {w w' : Gb} {xs : List UInt8} (hb : Below w.heap.size w w') (m : Int) (hm : FK.min <= m /\ m <= FK.max) {A : Option Addr} {n c : Nat} (ho : Own w' w.heap.size 5 A n c (xs.map u8)) :
 ∃ us' g', Ending.returned (.tuple #[.slice A n c, .int .i64 m]) = .returned (S0 us') /\ (∀ E' : Env, RepDs E' g' w' [] [.v (.bytes xs) .no, .v (.int .i64 m) .no] us') /\ PureTr g w g' w' := by
 obtain ⟨us', g', h1, h2, h3⟩ := b0N (g := g) hb ho
 refine ⟨[.slice A n c, .int .i64 m], g', rfl, fun E' => ⟨rfl, fun k y hk => ?_⟩, h3⟩
 have h4 := h2 E'
 match us', h4.1 with
 | [u], _ =>
 injection h1 with h1
 have h1 : Hq A n c = u := h1
 rcases k with _ | _ | k
 . simp at hk; subst hk
   have := h4.2 0 _ rfl
   rw [h1]
   exact this
 . simp at hk; subst hk
   exact .v _ _ _ (.int .i64 m hm) trivial
 . simp at hk
def b3R (N : Nat) (x0 : List UInt8) (x1 : Int) : Option (List UInt8 × Int) := if x1 = 8 /\ x0.length <= 900000 then some (a4N x0, 0) else none
theorem e4f (N : Nat) (x0 : List UInt8) (x1 : Int) (r0 : List UInt8) (r1 : Int) (h : b3R N x0 x1 = some (r0, r1)) : H8 Tryz.prog T 97 [dY x0, dI x1] [dY r0, dI r1] := by
 unfold b3R at h
 split at h
 . rename_i h2
   obtain ⟨rfl, h2⟩ := h2
   injection h with h; injection h with e1 e2; subst e1; subst e2
   intro E g w us hsz hus
   obtain ⟨hl, hr⟩ := hus
   match us, hl with
   | [u, v], _ =>
   have hu := hr 0 _ rfl
   have hv := hr 1 _ rfl
   simp only [GM, Ii] at hu hv
   cases hu with
   | v x a u hu ha =>
   cases hv with
   | v x a v hv ha' =>
   cases hv with
   | int k n hk' =>
   obtain ⟨A, n, c, rfl, hi⟩ := a1v hu
   refine (e1g A n c x0 w hi h2).mono ?_
   rintro e w' ⟨A', n', c', rfl, ho, hb⟩
   exact c0r hb 0 (by decide) ho
 . cases h
end En
end
end Go.Proofs.YtkoilndpfifapaaGreatDoor
