/- Texts. -/
import Derived.Test.YtkoilndpfifapaaGreatDoorZ5
import Derived.Laws.BitsAllLaws

set_option linter.unusedSimpArgs false
set_option linter.unusedVariables false
set_option linter.unusedSectionVars false
open And renaming intro → Gf
open Go renaming Value → FX, World → Gc, info_parts → Kb, cell_of_row → GA, Calls → IF, heap_alloc_new → Hf, frozen_of_row → IB, heap_setCell_same → Gt, bodyPost_ret → JA, run_underlying → Gp
open Go.BinOp renaming or → Iz, xor → Ga
open Go.Builtin renaming zeroCells → Ig, append_ → GM, lenOf → IT
open Go.IntKind renaming u32 → FL, u8 → FY, i64 → FK
open Go.Lib renaming hid → Gx, strCells → Jc
open Go.Value renaming int → Ib, cells → Iv, slice → Hr
open List renaming drop → Gj, take → Gz, getD_cons_zero → GN, getD_cons_succ → Ij, getElem?_map → Gn, replicate → GX, flatten_append → Lm, length_append → FU, length_map → Gi
open Nat renaming le_refl → FW
open UInt8 renaming ofNat → FR, toNat_lt → Jt
namespace Go.Proofs.YtkoilndpfifapaaGreatDoor
noncomputable section
namespace En
open Go Go.Proofs
set_option maxRecDepth 100000
set_option maxHeartbeats 8000000
def B9 (N : Nat) (f : LB) : Option (Int) := br (decide (0 < (f.length : Int))) (at? f 0 fun u0 => br (decide (1 < (f.length : Int))) (at? f 1 fun u1 => br (decide (2 < (f.length : Int))) (at? f 2 fun u2 => br (decide (3 < (f.length : Int))) (at? f 3 fun u3 => some (j9 Iz FL (j9 Iz FL (j9 Iz FL (a0u FL (FL.wrap (u0.toNat : Int)) 24) (a0u FL (FL.wrap (u1.toNat : Int)) 16)) (a0u FL (FL.wrap (u2.toNat : Int)) 8)) (FL.wrap (u3.toNat : Int)))) none) none) none) none
def b4A (N : Nat) : Ent := pE 190 (.v .y .z) (.v fW .z) (B9 N)
theorem c7J (N : Nat) : EO (b4A N) := pk0 (cx := cz [] []) (A9 trivial trivial) Tryz.func190 (by kernel_rfl) fun h => by kernel_rfl
def R9 (N : Nat) (f x1 : Int) : Option (Int) := some (FL.wrap (j9 Ga FL (FL.wrap (FL.wrap (f + x1) * 2654435761)) (G8 FL (FL.wrap (FL.wrap (f + x1) * 2654435761)) 15) * 2246822519))
def e4f (N : Nat) : Ent := pE 203 (.v fW (.v fW .z)) (.v fW .z) (R9 N)
theorem e4C (N : Nat) : EO (e4f N) := pk0 (cx := cz [] []) (A9 trivial trivial) Tryz.func203 (by kernel_rfl) fun h => by kernel_rfl
def b7Q {R : Type} (N : Nat) (K0 : Int -> Int -> Int -> Int -> Int -> Int -> Int -> Int -> Int -> Int -> Int -> Int -> Int -> Int -> Int -> Int -> Int -> Int -> Int -> Int -> Int -> Int -> Int -> Int -> Int -> Int -> Int -> Int -> Int -> Int -> Int -> Int -> Option R) (w : LB) (ni nj nk Aw AB nn AD AE AK nr ns nt nu nv nw BO : Int) : Option R :=
 K0 0 0 0 0 0 0 0 0 0 0 0 0 0 0 0 0 ni nj nk Aw AB nn AD AE AK nr ns nt nu nv nw BO
def b9j {R : Type} (N : Nat) (K0 : Int -> Int -> Int -> Int -> Int -> Int -> Int -> Int -> Int -> Int -> Int -> Int -> Int -> Int -> Int -> Int -> Int -> Int -> Int -> Int -> Int -> Int -> Int -> Int -> Int -> Int -> Int -> Int -> Int -> Int -> Int -> Int -> Option R) (w : LB) (ni nj nk Aw AB nn AD AE AK nr ns nt nu nv nw : Int) : Option R :=
 br (decide (16 <= (w.length : Int))) (j3 (B9 N (Gj 12 (Gz 16 w))) fun j => b7Q N K0 w ni nj nk Aw AB nn AD AE AK nr ns nt nu nv nw (FL.wrap (j + 1161830871))) none
def b7X {R : Type} (N : Nat) (K0 : Int -> Int -> Int -> Int -> Int -> Int -> Int -> Int -> Int -> Int -> Int -> Int -> Int -> Int -> Int -> Int -> Int -> Int -> Int -> Int -> Int -> Int -> Int -> Int -> Int -> Int -> Int -> Int -> Int -> Int -> Int -> Int -> Option R) (w : LB) (ni nj nk Aw AB nn AD AE AK nr ns nt nu nv : Int) : Option R :=
 br (decide (12 <= (w.length : Int))) (j3 (B9 N (Gj 8 (Gz 12 w))) fun j => b9j N K0 w ni nj nk Aw AB nn AD AE AK nr ns nt nu nv (FL.wrap (j + 2802362398))) none
def b7S {R : Type} (N : Nat) (K0 : Int -> Int -> Int -> Int -> Int -> Int -> Int -> Int -> Int -> Int -> Int -> Int -> Int -> Int -> Int -> Int -> Int -> Int -> Int -> Int -> Int -> Int -> Int -> Int -> Int -> Int -> Int -> Int -> Int -> Int -> Int -> Int -> Option R) (w : LB) (ni nj nk Aw AB nn AD AE AK nr ns nt nu : Int) : Option R :=
 br (decide (8 <= (w.length : Int))) (j3 (B9 N (Gj 4 (Gz 8 w))) fun j => b7X N K0 w ni nj nk Aw AB nn AD AE AK nr ns nt nu (FL.wrap (j + 147926629))) none
def b8b {R : Type} (N : Nat) (K0 : Int -> Int -> Int -> Int -> Int -> Int -> Int -> Int -> Int -> Int -> Int -> Int -> Int -> Int -> Int -> Int -> Int -> Int -> Int -> Int -> Int -> Int -> Int -> Int -> Int -> Int -> Int -> Int -> Int -> Int -> Int -> Int -> Option R) (w : LB) (ni nj nk Aw AB nn AD AE AK nr ns nt : Int) : Option R :=
 br (decide (4 <= (w.length : Int))) (j3 (B9 N (Gj 0 (Gz 4 w))) fun j => b7S N K0 w ni nj nk Aw AB nn AD AE AK nr ns nt (FL.wrap (j + 1788458156))) none
def b8v {R : Type} (N : Nat) (K0 : Int -> Int -> Int -> Int -> Int -> Int -> Int -> Int -> Int -> Int -> Int -> Int -> Int -> Int -> Int -> Int -> Int -> Int -> Int -> Int -> Int -> Int -> Int -> Int -> Int -> Int -> Int -> Int -> Int -> Int -> Int -> Int -> Option R) (w : LB) (ni nj nk Aw AB nn AD AE AK nr ns : Int) : Option R :=
 br (decide (16 <= (w.length : Int))) (j3 (B9 N (Gj 12 (Gz 16 w))) fun j => b8b N K0 w ni nj nk Aw AB nn AD AE AK nr ns (FL.wrap (j + 3428989683))) none
def b8L {R : Type} (N : Nat) (K0 : Int -> Int -> Int -> Int -> Int -> Int -> Int -> Int -> Int -> Int -> Int -> Int -> Int -> Int -> Int -> Int -> Int -> Int -> Int -> Int -> Int -> Int -> Int -> Int -> Int -> Int -> Int -> Int -> Int -> Int -> Int -> Int -> Option R) (w : LB) (ni nj nk Aw AB nn AD AE AK nr : Int) : Option R :=
 br (decide (12 <= (w.length : Int))) (j3 (B9 N (Gj 8 (Gz 12 w))) fun j => b8v N K0 w ni nj nk Aw AB nn AD AE AK nr (FL.wrap (j + 774553914))) none
def c2p {R : Type} (N : Nat) (K0 : Int -> Int -> Int -> Int -> Int -> Int -> Int -> Int -> Int -> Int -> Int -> Int -> Int -> Int -> Int -> Int -> Int -> Int -> Int -> Int -> Int -> Int -> Int -> Int -> Int -> Int -> Int -> Int -> Int -> Int -> Int -> Int -> Option R) (w : LB) (ni nj nk Aw AB nn AD AE AK : Int) : Option R :=
 br (decide (8 <= (w.length : Int))) (j3 (B9 N (Gj 4 (Gz 8 w))) fun j => b8L N K0 w ni nj nk Aw AB nn AD AE AK (FL.wrap (j + 2415085441))) none
def c1U {R : Type} (N : Nat) (K0 : Int -> Int -> Int -> Int -> Int -> Int -> Int -> Int -> Int -> Int -> Int -> Int -> Int -> Int -> Int -> Int -> Int -> Int -> Int -> Int -> Int -> Int -> Int -> Int -> Int -> Int -> Int -> Int -> Int -> Int -> Int -> Int -> Option R) (w : LB) (ni nj nk Aw AB nn AD AE : Int) : Option R :=
 br (decide (4 <= (w.length : Int))) (j3 (B9 N (Gj 0 (Gz 4 w))) fun j => c2p N K0 w ni nj nk Aw AB nn AD AE (FL.wrap (j + 4055616968))) none
def c1F {R : Type} (N : Nat) (K0 : Int -> Int -> Int -> Int -> Int -> Int -> Int -> Int -> Int -> Int -> Int -> Int -> Int -> Int -> Int -> Int -> Int -> Int -> Int -> Int -> Int -> Int -> Int -> Int -> Int -> Int -> Int -> Int -> Int -> Int -> Int -> Int -> Option R) (w : LB) (ni nj nk Aw AB nn AD : Int) : Option R :=
 br (decide (16 <= (w.length : Int))) (j3 (B9 N (Gj 12 (Gz 16 w))) fun j => c1U N K0 w ni nj nk Aw AB nn AD (FL.wrap (j + 1401181199))) none
def c3x {R : Type} (N : Nat) (K0 : Int -> Int -> Int -> Int -> Int -> Int -> Int -> Int -> Int -> Int -> Int -> Int -> Int -> Int -> Int -> Int -> Int -> Int -> Int -> Int -> Int -> Int -> Int -> Int -> Int -> Int -> Int -> Int -> Int -> Int -> Int -> Int -> Option R) (w : LB) (ni nj nk Aw AB nn : Int) : Option R :=
 br (decide (12 <= (w.length : Int))) (j3 (B9 N (Gj 8 (Gz 12 w))) fun j => c1F N K0 w ni nj nk Aw AB nn (FL.wrap (j + 3041712726))) none
def c2R {R : Type} (N : Nat) (K0 : Int -> Int -> Int -> Int -> Int -> Int -> Int -> Int -> Int -> Int -> Int -> Int -> Int -> Int -> Int -> Int -> Int -> Int -> Int -> Int -> Int -> Int -> Int -> Int -> Int -> Int -> Int -> Int -> Int -> Int -> Int -> Int -> Option R) (w : LB) (ni nj nk Aw AB : Int) : Option R :=
 br (decide (8 <= (w.length : Int))) (j3 (B9 N (Gj 4 (Gz 8 w))) fun j => c3x N K0 w ni nj nk Aw AB (FL.wrap (j + 387276957))) none
def c0I {R : Type} (N : Nat) (K0 : Int -> Int -> Int -> Int -> Int -> Int -> Int -> Int -> Int -> Int -> Int -> Int -> Int -> Int -> Int -> Int -> Int -> Int -> Int -> Int -> Int -> Int -> Int -> Int -> Int -> Int -> Int -> Int -> Int -> Int -> Int -> Int -> Option R) (w : LB) (ni nj nk Aw : Int) : Option R :=
 br (decide (4 <= (w.length : Int))) (j3 (B9 N (Gj 0 (Gz 4 w))) fun j => c2R N K0 w ni nj nk Aw (FL.wrap (j + 2027808484))) none
def c3i {R : Type} (N : Nat) (K0 : Int -> Int -> Int -> Int -> Int -> Int -> Int -> Int -> Int -> Int -> Int -> Int -> Int -> Int -> Int -> Int -> Int -> Int -> Int -> Int -> Int -> Int -> Int -> Int -> Int -> Int -> Int -> Int -> Int -> Int -> Int -> Int -> Option R) (w : LB) (ni nj nk : Int) : Option R :=
 br (decide (16 <= (w.length : Int))) (j3 (B9 N (Gj 12 (Gz 16 w))) fun j => c0I N K0 w ni nj nk (FL.wrap (j + 3668340011))) none
def c3k {R : Type} (N : Nat) (K0 : Int -> Int -> Int -> Int -> Int -> Int -> Int -> Int -> Int -> Int -> Int -> Int -> Int -> Int -> Int -> Int -> Int -> Int -> Int -> Int -> Int -> Int -> Int -> Int -> Int -> Int -> Int -> Int -> Int -> Int -> Int -> Int -> Option R) (w : LB) (ni nj : Int) : Option R :=
 br (decide (12 <= (w.length : Int))) (j3 (B9 N (Gj 8 (Gz 12 w))) fun j => c3i N K0 w ni nj (FL.wrap (j + 1013904242))) none
def c3j {R : Type} (N : Nat) (K0 : Int -> Int -> Int -> Int -> Int -> Int -> Int -> Int -> Int -> Int -> Int -> Int -> Int -> Int -> Int -> Int -> Int -> Int -> Int -> Int -> Int -> Int -> Int -> Int -> Int -> Int -> Int -> Int -> Int -> Int -> Int -> Int -> Option R) (w : LB) (ni : Int) : Option R :=
 br (decide (8 <= (w.length : Int))) (j3 (B9 N (Gj 4 (Gz 8 w))) fun j => c3k N K0 w ni (FL.wrap (j + 2654435769))) none
def b0J {R : Type} (N : Nat) (K0 : Int -> Int -> Int -> Int -> Int -> Int -> Int -> Int -> Int -> Int -> Int -> Int -> Int -> Int -> Int -> Int -> Int -> Int -> Int -> Int -> Int -> Int -> Int -> Int -> Int -> Int -> Int -> Int -> Int -> Int -> Int -> Int -> Option R) (w : LB) : Option R :=
 br (decide (4 <= (w.length : Int))) (j3 (B9 N (Gj 0 (Gz 4 w))) fun j => c3j N K0 w (FL.wrap (j + 0))) none
def b0m {R : Type} (N : Nat) (ds : List D) (m : Mem) (K : Ex -> List D -> Mem -> Option R) : Option R :=
 match ds, m with
 | [(.v (.bytes w) .no), (.ptr 0 2 0), (.ptr 0 3 0), (.v (.int .i64 u) .no)], [[(2, ⟨258, [(.v (.int .u32 d) .no), (.v (.int .u32 i) .no), (.v (.int .u32 x) .no), (.v (.int .u32 O) .no), (.v (.int .u32 n6) .no), (.v (.int .u32 n7) .no), (.v (.int .u32 n8) .no), (.v (.int .u32 n9) .no), (.v (.int .u32 na) .no), (.v (.int .u32 nb) .no), (.v (.int .u32 nc) .no), (.v (.int .u32 nd) .no), (.v (.int .u32 Af) .no), (.v (.int .u32 nf) .no), (.v (.int .u32 ng) .no), (.v (.int .u32 nh) .no)]⟩), (3, ⟨258, [(.v (.int .u32 ni) .no), (.v (.int .u32 nj) .no), (.v (.int .u32 nk) .no), (.v (.int .u32 Aw) .no), (.v (.int .u32 AB) .no), (.v (.int .u32 nn) .no), (.v (.int .u32 AD) .no), (.v (.int .u32 AE) .no), (.v (.int .u32 AK) .no), (.v (.int .u32 nr) .no), (.v (.int .u32 ns) .no), (.v (.int .u32 nt) .no), (.v (.int .u32 nu) .no), (.v (.int .u32 nv) .no), (.v (.int .u32 nw) .no), (.v (.int .u32 BO) .no)]⟩)]] => cond ((decide (u = 0) && (decide (d = 0) && (decide (i = 0) && (decide (x = 0) && (decide (O = 0) && (decide (n6 = 0) && (decide (n7 = 0) && (decide (n8 = 0) && (decide (n9 = 0) && (decide (na = 0) && (decide (nb = 0) && (decide (nc = 0) && (decide (nd = 0) && (decide (Af = 0) && (decide (nf = 0) && (decide (ng = 0) && (decide (nh = 0) && (decide (ni = 0) && (decide (nj = 0) && (decide (nk = 0) && (decide (Aw = 0) && (decide (AB = 0) && (decide (nn = 0) && (decide (AD = 0) && (decide (AE = 0) && (decide (AK = 0) && (decide (nr = 0) && (decide (ns = 0) && (decide (nt = 0) && (decide (nu = 0) && (decide (nv = 0) && (decide (nw = 0) && (decide (BO = 0) && true)))))))))))))))))))))))))))))))))) (b0J N (fun a0 a1 a2 a3 a4 a5 a6 a7 a8 a9 AN AW Be Bp Br Bt Bu Bv Bw By Cc Cd Ce Cf Cg Ch Ci Cj Ck Cm Cn Co => K (.exit 0) [(.ptr 0 2 0), (.ptr 0 3 0)] [[(2, ⟨258, [(.v (.int .u32 a0) .no), (.v (.int .u32 a1) .no), (.v (.int .u32 a2) .no), (.v (.int .u32 a3) .no), (.v (.int .u32 a4) .no), (.v (.int .u32 a5) .no), (.v (.int .u32 a6) .no), (.v (.int .u32 a7) .no), (.v (.int .u32 a8) .no), (.v (.int .u32 a9) .no), (.v (.int .u32 AN) .no), (.v (.int .u32 AW) .no), (.v (.int .u32 Be) .no), (.v (.int .u32 Bp) .no), (.v (.int .u32 Br) .no), (.v (.int .u32 Bt) .no)]⟩), (3, ⟨258, [(.v (.int .u32 Bu) .no), (.v (.int .u32 Bv) .no), (.v (.int .u32 Bw) .no), (.v (.int .u32 By) .no), (.v (.int .u32 Cc) .no), (.v (.int .u32 Cd) .no), (.v (.int .u32 Ce) .no), (.v (.int .u32 Cf) .no), (.v (.int .u32 Cg) .no), (.v (.int .u32 Ch) .no), (.v (.int .u32 Ci) .no), (.v (.int .u32 Cj) .no), (.v (.int .u32 Ck) .no), (.v (.int .u32 Cm) .no), (.v (.int .u32 Cn) .no), (.v (.int .u32 Co) .no)]⟩)]]) w) none
 | _, _ => none
def a7W (N : Nat) (f : LB) : Option (Int × Int × Int × Int × Int × Int × Int × Int × Int × Int × Int × Int × Int × Int × Int × Int) := br (decide (4 <= (f.length : Int))) (j3 (B9 N (Gj 0 (Gz 4 f))) fun j => br (decide (8 <= (f.length : Int))) (j3 (B9 N (Gj 4 (Gz 8 f))) fun u => br (decide (12 <= (f.length : Int))) (j3 (B9 N (Gj 8 (Gz 12 f))) fun d => br (decide (16 <= (f.length : Int))) (j3 (B9 N (Gj 12 (Gz 16 f))) fun i => br (decide (4 <= (f.length : Int))) (j3 (B9 N (Gj 0 (Gz 4 f))) fun x => br (decide (8 <= (f.length : Int))) (j3 (B9 N (Gj 4 (Gz 8 f))) fun O => br (decide (12 <= (f.length : Int))) (j3 (B9 N (Gj 8 (Gz 12 f))) fun n6 => br (decide (16 <= (f.length : Int))) (j3 (B9 N (Gj 12 (Gz 16 f))) fun n7 => br (decide (4 <= (f.length : Int))) (j3 (B9 N (Gj 0 (Gz 4 f))) fun n8 => br (decide (8 <= (f.length : Int))) (j3 (B9 N (Gj 4 (Gz 8 f))) fun n9 => br (decide (12 <= (f.length : Int))) (j3 (B9 N (Gj 8 (Gz 12 f))) fun na => br (decide (16 <= (f.length : Int))) (j3 (B9 N (Gj 12 (Gz 16 f))) fun nb => br (decide (4 <= (f.length : Int))) (j3 (B9 N (Gj 0 (Gz 4 f))) fun nc => br (decide (8 <= (f.length : Int))) (j3 (B9 N (Gj 4 (Gz 8 f))) fun nd => br (decide (12 <= (f.length : Int))) (j3 (B9 N (Gj 8 (Gz 12 f))) fun Af => br (decide (16 <= (f.length : Int))) (j3 (B9 N (Gj 12 (Gz 16 f))) fun nf => some (FL.wrap (j + 0), FL.wrap (u + 2654435769), FL.wrap (d + 1013904242), FL.wrap (i + 3668340011), FL.wrap (x + 2027808484), FL.wrap (O + 387276957), FL.wrap (n6 + 3041712726), FL.wrap (n7 + 1401181199), FL.wrap (n8 + 4055616968), FL.wrap (n9 + 2415085441), FL.wrap (na + 774553914), FL.wrap (nb + 3428989683), FL.wrap (nc + 1788458156), FL.wrap (nd + 147926629), FL.wrap (Af + 2802362398), FL.wrap (nf + 1161830871))) none) none) none) none) none) none) none) none) none) none) none) none) none) none) none) none
def b2p (N : Nat) : Cx := cl [b4A N] [] [⟨3, [0, 2, 3, 6], [2, 3], b0m N⟩]
theorem b7G {R : Type} (N : Nat) (w : LB) (K : Ex -> List D -> Mem -> Option R) : O9 (fun st K => codeK (b2p N) (s4 Tryz.f188 0) st K) 26 [0, 2, 3, 6] [2, 3] 17 [(.v (.bytes w) .no), (.ptr 0 2 0), (.ptr 0 3 0), (.v (.int .i64 0) .no)] [[(2, ⟨258, [(.v (.int .u32 0) .no), (.v (.int .u32 0) .no), (.v (.int .u32 0) .no), (.v (.int .u32 0) .no), (.v (.int .u32 0) .no), (.v (.int .u32 0) .no), (.v (.int .u32 0) .no), (.v (.int .u32 0) .no), (.v (.int .u32 0) .no), (.v (.int .u32 0) .no), (.v (.int .u32 0) .no), (.v (.int .u32 0) .no), (.v (.int .u32 0) .no), (.v (.int .u32 0) .no), (.v (.int .u32 0) .no), (.v (.int .u32 0) .no)]⟩), (3, ⟨258, [(.v (.int .u32 0) .no), (.v (.int .u32 0) .no), (.v (.int .u32 0) .no), (.v (.int .u32 0) .no), (.v (.int .u32 0) .no), (.v (.int .u32 0) .no), (.v (.int .u32 0) .no), (.v (.int .u32 0) .no), (.v (.int .u32 0) .no), (.v (.int .u32 0) .no), (.v (.int .u32 0) .no), (.v (.int .u32 0) .no), (.v (.int .u32 0) .no), (.v (.int .u32 0) .no), (.v (.int .u32 0) .no), (.v (.int .u32 0) .no)]⟩)]] K = b0J N (fun a0 a1 a2 a3 a4 a5 a6 a7 a8 a9 AN AW Be Bp Br Bt Bu Bv Bw By Cc Cd Ce Cf Cg Ch Ci Cj Ck Cm Cn Co => K (.exit 0) [(.ptr 0 2 0), (.ptr 0 3 0)] [[(2, ⟨258, [(.v (.int .u32 a0) .no), (.v (.int .u32 a1) .no), (.v (.int .u32 a2) .no), (.v (.int .u32 a3) .no), (.v (.int .u32 a4) .no), (.v (.int .u32 a5) .no), (.v (.int .u32 a6) .no), (.v (.int .u32 a7) .no), (.v (.int .u32 a8) .no), (.v (.int .u32 a9) .no), (.v (.int .u32 AN) .no), (.v (.int .u32 AW) .no), (.v (.int .u32 Be) .no), (.v (.int .u32 Bp) .no), (.v (.int .u32 Br) .no), (.v (.int .u32 Bt) .no)]⟩), (3, ⟨258, [(.v (.int .u32 Bu) .no), (.v (.int .u32 Bv) .no), (.v (.int .u32 Bw) .no), (.v (.int .u32 By) .no), (.v (.int .u32 Cc) .no), (.v (.int .u32 Cd) .no), (.v (.int .u32 Ce) .no), (.v (.int .u32 Cf) .no), (.v (.int .u32 Cg) .no), (.v (.int .u32 Ch) .no), (.v (.int .u32 Ci) .no), (.v (.int .u32 Cj) .no), (.v (.int .u32 Ck) .no), (.v (.int .u32 Cm) .no), (.v (.int .u32 Cn) .no), (.v (.int .u32 Co) .no)]⟩)]]) w := by
 kernel_rfl
theorem c5F (N : Nat) : p9 (b2p N) 26 (s4 Tryz.f188 0) := by
 refine j7 (rid := 3) (by kernel_rfl) rfl rfl fun R ds m K r h => ?_
 have h : b0m N ds m K = some r := h
 unfold b0m at h
 split at h
 . rcases j8 h with ⟨hc, hq⟩ | ⟨_, hq⟩
   . simp only [Bool.and_eq_true, decide_eq_true_eq] at hc
     obtain ⟨rfl, rfl, rfl, rfl, rfl, rfl, rfl, rfl, rfl, rfl, rfl, rfl, rfl, rfl, rfl, rfl, rfl, rfl, rfl, rfl, rfl, rfl, rfl, rfl, rfl, rfl, rfl, rfl, rfl, rfl, rfl, rfl, rfl, _⟩ := hc
     refine ⟨17, ?_⟩
     show O9 _ _ [0, 2, 3, 6] [2, 3] _ _ _ _ = _
     rw [b7G]
     exact hq
   . cases hq
 . cases h
def b1J (N : Nat) : Ent := pE 188 (.v .y .z) sh6 (a7W N)
theorem d2e (N : Nat) : EO (b1J N) := pk (cx := b2p N) (D4 ⟨c7J N, trivial⟩ trivial) Tryz.func188 (j6 (k := 1) (by kernel_rfl) ⟨trivial, c5F N⟩) (by kernel_rfl) fun h => by kernel_rfl
def c0A {R : Type} (N : Nat) (K0 : Int -> Int -> Int -> Int -> Int -> Int -> Int -> Int -> Int -> Int -> Int -> Int -> Int -> Int -> Int -> Int -> Int -> Int -> Int -> Int -> Option R) (u d i x O n6 n7 n8 n9 na nb nc nd Af nf ng nh ni : Int) : Option R :=
 K0 u d i x O n6 n7 n8 n9 na nb nc nd Af nf ng nh ni 0 0
def c3v {R : Type} (N : Nat) (K0 : Int -> Int -> Int -> Int -> Int -> Int -> Int -> Int -> Int -> Int -> Int -> Int -> Int -> Int -> Int -> Int -> Int -> Int -> Int -> Int -> Option R) (u d i x O n6 n7 n8 n9 na nb nc nd Af nf ng nh ni : Int) : Option R :=
 j3 (R9 N d ni) fun j => c0A N K0 d (j9 Ga FL u j) i x O n6 n7 n8 n9 na nb nc nd Af nf ng nh ni
def c1d {R : Type} (N : Nat) (K0 : Int -> Int -> Int -> Int -> Int -> Int -> Int -> Int -> Int -> Int -> Int -> Int -> Int -> Int -> Int -> Int -> Int -> Int -> Int -> Int -> Option R) (u d i x O n6 n7 n8 n9 na nb nc nd Af nf ng nh ni : Int) : Option R :=
 j3 (R9 N d nh) fun j => c3v N K0 d (j9 Ga FL u j) i x O n6 n7 n8 n9 na nb nc nd Af nf ng nh ni
def c2w {R : Type} (N : Nat) (K0 : Int -> Int -> Int -> Int -> Int -> Int -> Int -> Int -> Int -> Int -> Int -> Int -> Int -> Int -> Int -> Int -> Int -> Int -> Int -> Int -> Option R) (u d i x O n6 n7 n8 n9 na nb nc nd Af nf ng nh ni : Int) : Option R :=
 j3 (R9 N d ng) fun j => c1d N K0 d (j9 Ga FL u j) i x O n6 n7 n8 n9 na nb nc nd Af nf ng nh ni
def c0C {R : Type} (N : Nat) (K0 : Int -> Int -> Int -> Int -> Int -> Int -> Int -> Int -> Int -> Int -> Int -> Int -> Int -> Int -> Int -> Int -> Int -> Int -> Int -> Int -> Option R) (u d i x O n6 n7 n8 n9 na nb nc nd Af nf ng nh ni : Int) : Option R :=
 j3 (R9 N d nf) fun j => c2w N K0 d (j9 Ga FL u j) i x O n6 n7 n8 n9 na nb nc nd Af nf ng nh ni
def c1A {R : Type} (N : Nat) (K0 : Int -> Int -> Int -> Int -> Int -> Int -> Int -> Int -> Int -> Int -> Int -> Int -> Int -> Int -> Int -> Int -> Int -> Int -> Int -> Int -> Option R) (u d i x O n6 n7 n8 n9 na nb nc nd Af nf ng nh ni : Int) : Option R :=
 j3 (R9 N d Af) fun j => c0C N K0 d (j9 Ga FL u j) i x O n6 n7 n8 n9 na nb nc nd Af nf ng nh ni
def c1C {R : Type} (N : Nat) (K0 : Int -> Int -> Int -> Int -> Int -> Int -> Int -> Int -> Int -> Int -> Int -> Int -> Int -> Int -> Int -> Int -> Int -> Int -> Int -> Int -> Option R) (u d i x O n6 n7 n8 n9 na nb nc nd Af nf ng nh ni : Int) : Option R :=
 j3 (R9 N d nd) fun j => c1A N K0 d (j9 Ga FL u j) i x O n6 n7 n8 n9 na nb nc nd Af nf ng nh ni
def c4I {R : Type} (N : Nat) (K0 : Int -> Int -> Int -> Int -> Int -> Int -> Int -> Int -> Int -> Int -> Int -> Int -> Int -> Int -> Int -> Int -> Int -> Int -> Int -> Int -> Option R) (u d i x O n6 n7 n8 n9 na nb nc nd Af nf ng nh ni : Int) : Option R :=
 j3 (R9 N d nc) fun j => c1C N K0 d (j9 Ga FL u j) i x O n6 n7 n8 n9 na nb nc nd Af nf ng nh ni
def c4m {R : Type} (N : Nat) (K0 : Int -> Int -> Int -> Int -> Int -> Int -> Int -> Int -> Int -> Int -> Int -> Int -> Int -> Int -> Int -> Int -> Int -> Int -> Int -> Int -> Option R) (u d i x O n6 n7 n8 n9 na nb nc nd Af nf ng nh ni : Int) : Option R :=
 j3 (R9 N d nb) fun j => c4I N K0 d (j9 Ga FL u j) i x O n6 n7 n8 n9 na nb nc nd Af nf ng nh ni
def c5v {R : Type} (N : Nat) (K0 : Int -> Int -> Int -> Int -> Int -> Int -> Int -> Int -> Int -> Int -> Int -> Int -> Int -> Int -> Int -> Int -> Int -> Int -> Int -> Int -> Option R) (u d i x O n6 n7 n8 n9 na nb nc nd Af nf ng nh ni : Int) : Option R :=
 j3 (R9 N d na) fun j => c4m N K0 d (j9 Ga FL u j) i x O n6 n7 n8 n9 na nb nc nd Af nf ng nh ni
def c4x {R : Type} (N : Nat) (K0 : Int -> Int -> Int -> Int -> Int -> Int -> Int -> Int -> Int -> Int -> Int -> Int -> Int -> Int -> Int -> Int -> Int -> Int -> Int -> Int -> Option R) (u d i x O n6 n7 n8 n9 na nb nc nd Af nf ng nh ni : Int) : Option R :=
 j3 (R9 N d n9) fun j => c5v N K0 d (j9 Ga FL u j) i x O n6 n7 n8 n9 na nb nc nd Af nf ng nh ni
def c6l {R : Type} (N : Nat) (K0 : Int -> Int -> Int -> Int -> Int -> Int -> Int -> Int -> Int -> Int -> Int -> Int -> Int -> Int -> Int -> Int -> Int -> Int -> Int -> Int -> Option R) (u d i x O n6 n7 n8 n9 na nb nc nd Af nf ng nh ni : Int) : Option R :=
 j3 (R9 N d n8) fun j => c4x N K0 d (j9 Ga FL u j) i x O n6 n7 n8 n9 na nb nc nd Af nf ng nh ni
def c4H {R : Type} (N : Nat) (K0 : Int -> Int -> Int -> Int -> Int -> Int -> Int -> Int -> Int -> Int -> Int -> Int -> Int -> Int -> Int -> Int -> Int -> Int -> Int -> Int -> Option R) (u d i x O n6 n7 n8 n9 na nb nc nd Af nf ng nh ni : Int) : Option R :=
 j3 (R9 N d n7) fun j => c6l N K0 d (j9 Ga FL u j) i x O n6 n7 n8 n9 na nb nc nd Af nf ng nh ni
def c6v {R : Type} (N : Nat) (K0 : Int -> Int -> Int -> Int -> Int -> Int -> Int -> Int -> Int -> Int -> Int -> Int -> Int -> Int -> Int -> Int -> Int -> Int -> Int -> Int -> Option R) (u d i x O n6 n7 n8 n9 na nb nc nd Af nf ng nh ni : Int) : Option R :=
 j3 (R9 N d n6) fun j => c4H N K0 d (j9 Ga FL u j) i x O n6 n7 n8 n9 na nb nc nd Af nf ng nh ni
def c6j {R : Type} (N : Nat) (K0 : Int -> Int -> Int -> Int -> Int -> Int -> Int -> Int -> Int -> Int -> Int -> Int -> Int -> Int -> Int -> Int -> Int -> Int -> Int -> Int -> Option R) (u d i x O n6 n7 n8 n9 na nb nc nd Af nf ng nh ni : Int) : Option R :=
 j3 (R9 N d O) fun j => c6v N K0 d (j9 Ga FL u j) i x O n6 n7 n8 n9 na nb nc nd Af nf ng nh ni
def c5C {R : Type} (N : Nat) (K0 : Int -> Int -> Int -> Int -> Int -> Int -> Int -> Int -> Int -> Int -> Int -> Int -> Int -> Int -> Int -> Int -> Int -> Int -> Int -> Int -> Option R) (u d i x O n6 n7 n8 n9 na nb nc nd Af nf ng nh ni : Int) : Option R :=
 j3 (R9 N d x) fun j => c6j N K0 d (j9 Ga FL u j) i x O n6 n7 n8 n9 na nb nc nd Af nf ng nh ni
def b5y {R : Type} (N : Nat) (K0 : Int -> Int -> Int -> Int -> Int -> Int -> Int -> Int -> Int -> Int -> Int -> Int -> Int -> Int -> Int -> Int -> Int -> Int -> Int -> Int -> Option R) (u d i x O n6 n7 n8 n9 na nb nc nd Af nf ng nh ni : Int) : Option R :=
 j3 (R9 N d i) fun j => c5C N K0 d (j9 Ga FL u j) i x O n6 n7 n8 n9 na nb nc nd Af nf ng nh ni
def b2u {R : Type} (N : Nat) (ds : List D) (m : Mem) (K : Ex -> List D -> Mem -> Option R) : Option R :=
 match ds, m with
 | [(.ptr 0 2 0), (.ptr 0 3 0), (.ptr 0 4 0), (.v (.int .i64 j) .no)], [[(2, ⟨261, [(.v (.int .u32 u) .no), (.v (.int .u32 d) .no)]⟩), (3, ⟨258, [(.v (.int .u32 i) .no), (.v (.int .u32 x) .no), (.v (.int .u32 O) .no), (.v (.int .u32 n6) .no), (.v (.int .u32 n7) .no), (.v (.int .u32 n8) .no), (.v (.int .u32 n9) .no), (.v (.int .u32 na) .no), (.v (.int .u32 nb) .no), (.v (.int .u32 nc) .no), (.v (.int .u32 nd) .no), (.v (.int .u32 Af) .no), (.v (.int .u32 nf) .no), (.v (.int .u32 ng) .no), (.v (.int .u32 nh) .no), (.v (.int .u32 ni) .no)]⟩), (4, ⟨261, [(.v (.int .u32 nj) .no), (.v (.int .u32 nk) .no)]⟩)]] => cond ((decide (j = 0) && (decide (nj = 0) && (decide (nk = 0) && true)))) (b5y N (fun a0 a1 a2 a3 a4 a5 a6 a7 a8 a9 AN AW Be Bp Br Bt Bu Bv Bw By => K (.exit 0) [(.ptr 0 2 0), (.ptr 0 3 0), (.ptr 0 4 0)] [[(2, ⟨261, [(.v (.int .u32 a0) .no), (.v (.int .u32 a1) .no)]⟩), (3, ⟨258, [(.v (.int .u32 a2) .no), (.v (.int .u32 a3) .no), (.v (.int .u32 a4) .no), (.v (.int .u32 a5) .no), (.v (.int .u32 a6) .no), (.v (.int .u32 a7) .no), (.v (.int .u32 a8) .no), (.v (.int .u32 a9) .no), (.v (.int .u32 AN) .no), (.v (.int .u32 AW) .no), (.v (.int .u32 Be) .no), (.v (.int .u32 Bp) .no), (.v (.int .u32 Br) .no), (.v (.int .u32 Bt) .no), (.v (.int .u32 Bu) .no), (.v (.int .u32 Bv) .no)]⟩), (4, ⟨261, [(.v (.int .u32 Bw) .no), (.v (.int .u32 By) .no)]⟩)]]) u d i x O n6 n7 n8 n9 na nb nc nd Af nf ng nh ni) none
 | _, _ => none
def b8H (N : Nat) (f x1 x2 x3 x4 x5 x6 x7 x8 x9 xa xb xc xd xe xf xg xh : Int) : Option (Int × Int) := j3 (R9 N x1 x2) fun j => j3 (R9 N (j9 Ga FL f j) x3) fun u => j3 (R9 N (j9 Ga FL x1 u) x4) fun d => j3 (R9 N (j9 Ga FL (j9 Ga FL f j) d) x5) fun i => j3 (R9 N (j9 Ga FL (j9 Ga FL x1 u) i) x6) fun x => j3 (R9 N (j9 Ga FL (j9 Ga FL (j9 Ga FL f j) d) x) x7) fun O => j3 (R9 N (j9 Ga FL (j9 Ga FL (j9 Ga FL x1 u) i) O) x8) fun n6 => j3 (R9 N (j9 Ga FL (j9 Ga FL (j9 Ga FL (j9 Ga FL f j) d) x) n6) x9) fun n7 => j3 (R9 N (j9 Ga FL (j9 Ga FL (j9 Ga FL (j9 Ga FL x1 u) i) O) n7) xa) fun n8 => j3 (R9 N (j9 Ga FL (j9 Ga FL (j9 Ga FL (j9 Ga FL (j9 Ga FL f j) d) x) n6) n8) xb) fun n9 => j3 (R9 N (j9 Ga FL (j9 Ga FL (j9 Ga FL (j9 Ga FL (j9 Ga FL x1 u) i) O) n7) n9) xc) fun na => j3 (R9 N (j9 Ga FL (j9 Ga FL (j9 Ga FL (j9 Ga FL (j9 Ga FL (j9 Ga FL f j) d) x) n6) n8) na) xd) fun nb => j3 (R9 N (j9 Ga FL (j9 Ga FL (j9 Ga FL (j9 Ga FL (j9 Ga FL (j9 Ga FL x1 u) i) O) n7) n9) nb) xe) fun nc => j3 (R9 N (j9 Ga FL (j9 Ga FL (j9 Ga FL (j9 Ga FL (j9 Ga FL (j9 Ga FL (j9 Ga FL f j) d) x) n6) n8) na) nc) xf) fun nd => j3 (R9 N (j9 Ga FL (j9 Ga FL (j9 Ga FL (j9 Ga FL (j9 Ga FL (j9 Ga FL (j9 Ga FL x1 u) i) O) n7) n9) nb) nd) xg) fun Af => j3 (R9 N (j9 Ga FL (j9 Ga FL (j9 Ga FL (j9 Ga FL (j9 Ga FL (j9 Ga FL (j9 Ga FL (j9 Ga FL f j) d) x) n6) n8) na) nc) Af) xh) fun nf => some (j9 Ga FL (j9 Ga FL (j9 Ga FL (j9 Ga FL (j9 Ga FL (j9 Ga FL (j9 Ga FL (j9 Ga FL x1 u) i) O) n7) n9) nb) nd) nf, j9 Ga FL (j9 Ga FL (j9 Ga FL (j9 Ga FL (j9 Ga FL (j9 Ga FL (j9 Ga FL (j9 Ga FL f j) d) x) n6) n8) na) nc) Af)
def b9z (N : Nat) : Cx := cl [e4f N] [] [⟨2, [2, 3, 4, 6], [2, 3, 4], b2u N⟩]
theorem c2W {R : Type} (N : Nat) (u d i x O n6 n7 n8 n9 na nb nc nd Af nf ng nh ni : Int) (K : Ex -> List D -> Mem -> Option R) : O9 (fun st K => codeK (b9z N) (s4 Tryz.f189 0) st K) 27 [2, 3, 4, 6] [2, 3, 4] 17 [(.ptr 0 2 0), (.ptr 0 3 0), (.ptr 0 4 0), (.v (.int .i64 0) .no)] [[(2, ⟨261, [(.v (.int .u32 u) .no), (.v (.int .u32 d) .no)]⟩), (3, ⟨258, [(.v (.int .u32 i) .no), (.v (.int .u32 x) .no), (.v (.int .u32 O) .no), (.v (.int .u32 n6) .no), (.v (.int .u32 n7) .no), (.v (.int .u32 n8) .no), (.v (.int .u32 n9) .no), (.v (.int .u32 na) .no), (.v (.int .u32 nb) .no), (.v (.int .u32 nc) .no), (.v (.int .u32 nd) .no), (.v (.int .u32 Af) .no), (.v (.int .u32 nf) .no), (.v (.int .u32 ng) .no), (.v (.int .u32 nh) .no), (.v (.int .u32 ni) .no)]⟩), (4, ⟨261, [(.v (.int .u32 0) .no), (.v (.int .u32 0) .no)]⟩)]] K = b5y N (fun a0 a1 a2 a3 a4 a5 a6 a7 a8 a9 AN AW Be Bp Br Bt Bu Bv Bw By => K (.exit 0) [(.ptr 0 2 0), (.ptr 0 3 0), (.ptr 0 4 0)] [[(2, ⟨261, [(.v (.int .u32 a0) .no), (.v (.int .u32 a1) .no)]⟩), (3, ⟨258, [(.v (.int .u32 a2) .no), (.v (.int .u32 a3) .no), (.v (.int .u32 a4) .no), (.v (.int .u32 a5) .no), (.v (.int .u32 a6) .no), (.v (.int .u32 a7) .no), (.v (.int .u32 a8) .no), (.v (.int .u32 a9) .no), (.v (.int .u32 AN) .no), (.v (.int .u32 AW) .no), (.v (.int .u32 Be) .no), (.v (.int .u32 Bp) .no), (.v (.int .u32 Br) .no), (.v (.int .u32 Bt) .no), (.v (.int .u32 Bu) .no), (.v (.int .u32 Bv) .no)]⟩), (4, ⟨261, [(.v (.int .u32 Bw) .no), (.v (.int .u32 By) .no)]⟩)]]) u d i x O n6 n7 n8 n9 na nb nc nd Af nf ng nh ni := by
 kernel_rfl
theorem c9w (N : Nat) : p9 (b9z N) 27 (s4 Tryz.f189 0) := by
 refine j7 (rid := 2) (by kernel_rfl) rfl rfl fun R ds m K r h => ?_
 have h : b2u N ds m K = some r := h
 unfold b2u at h
 split at h
 . rcases j8 h with ⟨hc, hq⟩ | ⟨_, hq⟩
   . simp only [Bool.and_eq_true, decide_eq_true_eq] at hc
     obtain ⟨rfl, rfl, rfl, _⟩ := hc
     refine ⟨17, ?_⟩
     show O9 _ _ [2, 3, 4, 6] [2, 3, 4] _ _ _ _ = _
     rw [c2W]
     exact hq
   . cases hq
 . cases h
def c0d (N : Nat) : Ent := pE 189 sh7 (.a (.v fW (.v fW .z)) .z) (b8H N)
theorem d9n (N : Nat) : EO (c0d N) := pk (cx := b9z N) (D4 ⟨e4C N, trivial⟩ trivial) Tryz.func189 (j6 (k := 1) (by kernel_rfl) ⟨trivial, c9w N⟩) (by kernel_rfl) fun h => by kernel_rfl
def b2d {R : Type} (s : LB -> LB -> Option (LB × Int)) (ds : List D) (K : List D -> Option R) : Option R :=
 match ds with
 | [.v (.bytes f) .no, .v (.bytes x1) .no, .v (.bool false) .no] => s7 (s f x1) fun r0 r1 => K [dY r0, dI r1]
 | _ => none
def b9y (rs : List D) (_ : Mem) : Option (LB × Int) :=
 match rs with
 | [.v (.bytes r0) _, .v (.int .i64 r1) _] => some (r0, r1)
 | _ => none
def a7b {R : Type} (N : Nat) (u d x O n6 n7 n8 n9 na nb nc nd Af nf ng nh ni nj : Int) (Lq : LB -> Int -> Option R) (K0 : LB -> Option R) (w : LB) (i : Int) : Option R := br (decide (i < 2)) (br (decide (i = 0)) (br (decide ((w.length + [FR (FY.wrap (G8 FL u 24)).toNat, FR (FY.wrap (G8 FL u 16)).toNat, FR (FY.wrap (G8 FL u 8)).toNat, FR (FY.wrap u).toNat].length) * 1 <= 140737488355328)) (Lq (w ++ [FR (FY.wrap (G8 FL u 24)).toNat, FR (FY.wrap (G8 FL u 16)).toNat, FR (FY.wrap (G8 FL u 8)).toNat, FR (FY.wrap u).toNat]) (FK.wrap (i + 1))) none) (br (decide (i = 1)) (br (decide ((w.length + [FR (FY.wrap (G8 FL d 24)).toNat, FR (FY.wrap (G8 FL d 16)).toNat, FR (FY.wrap (G8 FL d 8)).toNat, FR (FY.wrap d).toNat].length) * 1 <= 140737488355328)) (Lq (w ++ [FR (FY.wrap (G8 FL d 24)).toNat, FR (FY.wrap (G8 FL d 16)).toNat, FR (FY.wrap (G8 FL d 8)).toNat, FR (FY.wrap d).toNat]) (FK.wrap (i + 1))) none) none)) (K0 w)
def O5 {R : Type} (N : Nat) (u d x O n6 n7 n8 n9 na nb nc nd Af nf ng nh ni nj : Int) : Nat -> LB -> Int -> (LB -> Option R) -> Option R | 0, _, _, _ => none | t + 1, w, i, K0 => a7b N u d x O n6 n7 n8 n9 na nb nc nd Af nf ng nh ni nj (fun w i => O5 N u d x O n6 n7 n8 n9 na nb nc nd Af nf ng nh ni nj t w i K0) K0 w i
def a7H {R : Type} (N : Nat) (ds : List D) (m : Mem) (K : Ex -> List D -> Mem -> Option R) : Option R :=
 match ds, m with
 | [(.ptr 0 8 0), (.v (.bytes w) (.own (.slot 10) 5)), (.agg [(.v (.int .u32 u) .no), (.v (.int .u32 d) .no)]), (.v (.int .i64 i) .no)], [[(8, ⟨258, [(.v (.int .u32 x) .no), (.v (.int .u32 O) .no), (.v (.int .u32 n6) .no), (.v (.int .u32 n7) .no), (.v (.int .u32 n8) .no), (.v (.int .u32 n9) .no), (.v (.int .u32 na) .no), (.v (.int .u32 nb) .no), (.v (.int .u32 nc) .no), (.v (.int .u32 nd) .no), (.v (.int .u32 Af) .no), (.v (.int .u32 nf) .no), (.v (.int .u32 ng) .no), (.v (.int .u32 nh) .no), (.v (.int .u32 ni) .no), (.v (.int .u32 nj) .no)]⟩)]] => O5 N u d x O n6 n7 n8 n9 na nb nc nd Af nf ng nh ni nj N w i (fun a0 => K (.exit 2) [(.ptr 0 8 0), (.v (.bytes a0) (.own (.slot 10) 5))] [[(8, ⟨258, [(.v (.int .u32 x) .no), (.v (.int .u32 O) .no), (.v (.int .u32 n6) .no), (.v (.int .u32 n7) .no), (.v (.int .u32 n8) .no), (.v (.int .u32 n9) .no), (.v (.int .u32 na) .no), (.v (.int .u32 nb) .no), (.v (.int .u32 nc) .no), (.v (.int .u32 nd) .no), (.v (.int .u32 Af) .no), (.v (.int .u32 nf) .no), (.v (.int .u32 ng) .no), (.v (.int .u32 nh) .no), (.v (.int .u32 ni) .no), (.v (.int .u32 nj) .no)]⟩)]])
 | _, _ => none
def b1X (N : Nat) (f x1 : LB) : Option (LB × Int) := br (!decide ((f.length : Int) = 16)) (some ([], 19)) (br (!decide ((x1.length : Int) = 8)) (some ([], 1)) (c7g (a7W N f) fun j u d i x O n6 n7 n8 n9 na nb nc nd Af nf => br (decide (4 <= (x1.length : Int))) (j3 (B9 N (Gz 4 x1)) fun ng => br (decide (4 <= (x1.length : Int))) (j3 (B9 N (Gj 4 x1)) fun nh => s7 (b8H N ng nh j u d i x O n6 n7 n8 n9 na nb nc nd Af nf) fun ni nj => O5 N ni nj j u d i x O n6 n7 n8 n9 na nb nc nd Af nf N [] 0 fun lk => some (lk, 0)) none) none))
def a0w (N : Nat) : Cx := { T := T, isPure := a5b [b1J N, b4A N, c0d N], pureK := fun g ds K => a1K [b1J N, b4A N, c0d N] g ds K, memK := fun g dst ds m K => W4 [] g dst ds m K, meth := a2E [], keep := fun r => match r with | 8 => [1, 8, 22] | 14 => [8, 10, 46, 47] | _ => [], keepX := fun r => match r with | 8 => [1, 8] | 14 => [8, 10] | _ => [], loopT := fun r ds m K => match r with | 14 => a7H N ds m K | _ => none, jumps := 9 }
theorem b5O {R : Type} (N : Nat) (u d x O n6 n7 n8 n9 na nb nc nd Af nf ng nh ni nj : Int) (w : LB) (i : Int) (L : List D -> Mem -> Option R) (K : Ex -> List D -> Mem -> Option R) :
 W3 (fun st K => codeK (a0w N) (s4 Tryz.f149 1) st K) 66 [8, 10, 46, 47] [8, 10] L [(.ptr 0 8 0), (.v (.bytes w) (.own (.slot 10) 5)), (.agg [(.v (.int .u32 u) .no), (.v (.int .u32 d) .no)]), (dI i)] [[(8, ⟨258, [(.v (.int .u32 x) .no), (.v (.int .u32 O) .no), (.v (.int .u32 n6) .no), (.v (.int .u32 n7) .no), (.v (.int .u32 n8) .no), (.v (.int .u32 n9) .no), (.v (.int .u32 na) .no), (.v (.int .u32 nb) .no), (.v (.int .u32 nc) .no), (.v (.int .u32 nd) .no), (.v (.int .u32 Af) .no), (.v (.int .u32 nf) .no), (.v (.int .u32 ng) .no), (.v (.int .u32 nh) .no), (.v (.int .u32 ni) .no), (.v (.int .u32 nj) .no)]⟩)]] K = a7b N u d x O n6 n7 n8 n9 na nb nc nd Af nf ng nh ni nj (fun w i => L [(.ptr 0 8 0), (.v (.bytes w) (.own (.slot 10) 5)), (.agg [(.v (.int .u32 u) .no), (.v (.int .u32 d) .no)]), (dI i)] [[(8, ⟨258, [(.v (.int .u32 x) .no), (.v (.int .u32 O) .no), (.v (.int .u32 n6) .no), (.v (.int .u32 n7) .no), (.v (.int .u32 n8) .no), (.v (.int .u32 n9) .no), (.v (.int .u32 na) .no), (.v (.int .u32 nb) .no), (.v (.int .u32 nc) .no), (.v (.int .u32 nd) .no), (.v (.int .u32 Af) .no), (.v (.int .u32 nf) .no), (.v (.int .u32 ng) .no), (.v (.int .u32 nh) .no), (.v (.int .u32 ni) .no), (.v (.int .u32 nj) .no)]⟩)]]) (fun a0 => K (.exit 2) [(.ptr 0 8 0), (.v (.bytes a0) (.own (.slot 10) 5))] [[(8, ⟨258, [(.v (.int .u32 x) .no), (.v (.int .u32 O) .no), (.v (.int .u32 n6) .no), (.v (.int .u32 n7) .no), (.v (.int .u32 n8) .no), (.v (.int .u32 n9) .no), (.v (.int .u32 na) .no), (.v (.int .u32 nb) .no), (.v (.int .u32 nc) .no), (.v (.int .u32 nd) .no), (.v (.int .u32 Af) .no), (.v (.int .u32 nf) .no), (.v (.int .u32 ng) .no), (.v (.int .u32 nh) .no), (.v (.int .u32 ni) .no), (.v (.int .u32 nj) .no)]⟩)]]) w i := by
 kernel_rfl
theorem a6U {R : Type} (N : Nat) (u d x O n6 n7 n8 n9 na nb nc nd Af nf ng nh ni nj : Int) (K : Ex -> List D -> Mem -> Option R) : ∀ (t : Nat) (w : LB) (i : Int),
 O9 (fun st K => codeK (a0w N) (s4 Tryz.f149 1) st K) 66 [8, 10, 46, 47] [8, 10] t [(.ptr 0 8 0), (.v (.bytes w) (.own (.slot 10) 5)), (.agg [(.v (.int .u32 u) .no), (.v (.int .u32 d) .no)]), (dI i)] [[(8, ⟨258, [(.v (.int .u32 x) .no), (.v (.int .u32 O) .no), (.v (.int .u32 n6) .no), (.v (.int .u32 n7) .no), (.v (.int .u32 n8) .no), (.v (.int .u32 n9) .no), (.v (.int .u32 na) .no), (.v (.int .u32 nb) .no), (.v (.int .u32 nc) .no), (.v (.int .u32 nd) .no), (.v (.int .u32 Af) .no), (.v (.int .u32 nf) .no), (.v (.int .u32 ng) .no), (.v (.int .u32 nh) .no), (.v (.int .u32 ni) .no), (.v (.int .u32 nj) .no)]⟩)]] K = O5 N u d x O n6 n7 n8 n9 na nb nc nd Af nf ng nh ni nj t w i (fun a0 => K (.exit 2) [(.ptr 0 8 0), (.v (.bytes a0) (.own (.slot 10) 5))] [[(8, ⟨258, [(.v (.int .u32 x) .no), (.v (.int .u32 O) .no), (.v (.int .u32 n6) .no), (.v (.int .u32 n7) .no), (.v (.int .u32 n8) .no), (.v (.int .u32 n9) .no), (.v (.int .u32 na) .no), (.v (.int .u32 nb) .no), (.v (.int .u32 nc) .no), (.v (.int .u32 nd) .no), (.v (.int .u32 Af) .no), (.v (.int .u32 nf) .no), (.v (.int .u32 ng) .no), (.v (.int .u32 nh) .no), (.v (.int .u32 ni) .no), (.v (.int .u32 nj) .no)]⟩)]])
 | 0, w, i => rfl
 | t + 1, w, i => (b5O N u d x O n6 n7 n8 n9 na nb nc nd Af nf ng nh ni nj w i _ K).trans (congrArg (fun L => a7b N u d x O n6 n7 n8 n9 na nb nc nd Af nf ng nh ni nj L (fun a0 => K (.exit 2) [(.ptr 0 8 0), (.v (.bytes a0) (.own (.slot 10) 5))] [[(8, ⟨258, [(.v (.int .u32 x) .no), (.v (.int .u32 O) .no), (.v (.int .u32 n6) .no), (.v (.int .u32 n7) .no), (.v (.int .u32 n8) .no), (.v (.int .u32 n9) .no), (.v (.int .u32 na) .no), (.v (.int .u32 nb) .no), (.v (.int .u32 nc) .no), (.v (.int .u32 nd) .no), (.v (.int .u32 Af) .no), (.v (.int .u32 nf) .no), (.v (.int .u32 ng) .no), (.v (.int .u32 nh) .no), (.v (.int .u32 ni) .no), (.v (.int .u32 nj) .no)]⟩)]]) w i) (funext fun w => funext fun i => a6U N u d x O n6 n7 n8 n9 na nb nc nd Af nf ng nh ni nj K t w i))
theorem c4G (N : Nat) (f x1 : _) : M4 (a0w N) Tryz.f149 [dY f, dY x1, dB false] [] b9y = b1X N f x1 := by
 kernel_rfl
abbrev c8x (s : LB -> LB -> Option (LB × Int)) : Prop := ∀ {f x1 r0 r1}, s f x1 = some (r0, r1) -> PRT 149 [dY f, dY x1, dB false] [dY r0, dI r1]
theorem d1F (s : LB -> LB -> Option (LB × Int)) (hs : c8x s) : EO ⟨149, b2d s⟩ := by
 refine ⟨K6 Tryz.func149 (by kernel_rfl) (c := s6 Tryz.f149) (by kernel_rfl), fun R ds K r h => ?_, fun R ds K => ?_⟩
 . simp only [b2d] at h
   split at h
   . obtain ⟨r0, r1, h1, h2⟩ := a6E h
     exact ⟨_, h2, hs h1⟩
   . cases h
 . simp only [b2d]
   split
   . rw [e2I]; rfl
   . rfl
theorem d5u (N : Nat) : CxOK Tryz.prog (a0w N) :=
 M3 (es := [b1J N, b4A N, c0d N]) (me := []) (ms := []) a7s ⟨d2e N, c7J N, d9n N, trivial⟩ trivial trivial rfl (fun _ _ _ _ => rfl) (fun _ _ _ _ _ _ => rfl) rfl
theorem c6f (N : Nat) : p9 (a0w N) 66 (s4 Tryz.f149 0) :=
 j7 (rid := 8) (by kernel_rfl) rfl rfl fun R ds m K r h => by cases (show (none : Option R) = some r from h)
theorem c3e (N : Nat) : p9 (a0w N) 66 (s4 Tryz.f149 1) := by
 refine j7 (rid := 14) (by kernel_rfl) rfl rfl fun R ds m K r h => ?_
 have h : a7H N ds m K = some r := h
 unfold a7H at h
 split at h
 . exact ⟨N, Eq.trans (a6U ..) h⟩
 . cases h
theorem d1T (N : Nat) : B8 (a0w N) Tryz.f149.ntmps (s6 Tryz.f149) :=
 j6 (k := 2) (by kernel_rfl) ⟨⟨trivial, c6f N⟩, c3e N⟩
theorem d9V (N : Nat) : c8x (b1X N) := fun {f x1 r0 r1} h => c8C (cx := a0w N) (by kernel_rfl) (d5u N) Tryz.func149 (by kernel_rfl) (by kernel_rfl) (d1T N) (by rfl) (by rfl) (by rfl) (rf := b9y) ((c4G ..).trans h) (fun rs' m h => by
 unfold b9y at h
 split at h
 . cases h; exact ⟨rfl, rfl⟩
 . cases h)
def d4L (N : Nat) (f x1 : LB) : Option (LB × Int) := s7 (b1X N f x1) fun w u => some (w, u)
def d5I (N : Nat) : Ent := pE 99 (.v .y (.v .y .z)) (.v .y (.v fI .z)) (d4L N)
theorem d7x (N : Nat) : EO (d5I N) := pk0 (cx := cz [⟨149, b2d (b1X N)⟩] []) (A9 ⟨d1F _ (d9V N), trivial⟩ trivial) Tryz.func99 (by kernel_rfl) fun h => by kernel_rfl
def a7A (N : Nat) (f x1 : LB) : Option (LB) := s7 (d4L N f x1) fun w u => some w
def b9u (N : Nat) : Ent := pE 55 (.v .y (.v .y .z)) (.v .y .z) (a7A N)
theorem d8B (N : Nat) : EO (b9u N) := pk0 (cx := cz [d5I N] []) (A9 ⟨d7x N, trivial⟩ trivial) Tryz.func55 (by kernel_rfl) fun h => by kernel_rfl
def K2 (N : Nat) (f : LB) : Option (Int) := br (decide (0 < (f.length : Int))) (at? f 0 fun u0 => br (decide (1 < (f.length : Int))) (at? f 1 fun u1 => br (decide (2 < (f.length : Int))) (at? f 2 fun u2 => br (decide (3 < (f.length : Int))) (at? f 3 fun u3 => some (FL.wrap (FL.wrap (FL.wrap (a0u FL (FL.wrap (u0.toNat : Int)) 24 + a0u FL (FL.wrap (u1.toNat : Int)) 16) + a0u FL (FL.wrap (u2.toNat : Int)) 8) + FL.wrap (u3.toNat : Int)))) none) none) none) none
def c5I (N : Nat) : Ent := pE 150 (.v .y .z) (.v fW .z) (K2 N)
theorem c6W (N : Nat) : EO (c5I N) := pk0 (cx := cz [] []) (A9 trivial trivial) Tryz.func150 (by kernel_rfl) fun h => by kernel_rfl
def b7P (N : Nat) (f x1 : Int) : Option (Int) := some (FL.wrap (j9 Ga FL (FL.wrap (FL.wrap (f + x1) * 2654435761)) (G8 FL (FL.wrap (FL.wrap (f + x1) * 2654435761)) 15) * 2246822519))
def d4A (N : Nat) : Ent := pE 151 (.v fW (.v fW .z)) (.v fW .z) (b7P N)
theorem d8T (N : Nat) : EO (d4A N) := pk0 (cx := cz [] []) (A9 trivial trivial) Tryz.func151 (by kernel_rfl) fun h => by kernel_rfl
def C1 (N : Nat) (f : LB) (x1 : Int) : Option (Int) := br (decide (0 <= FK.wrap (FK.wrap (4 * x1.tmod 4) + 4)) && decide (FK.wrap (FK.wrap (4 * x1.tmod 4) + 4) <= (f.length : Int))) (br (decide (0 <= FK.wrap (4 * x1.tmod 4)) && decide (FK.wrap (4 * x1.tmod 4) <= ((FK.wrap (FK.wrap (4 * x1.tmod 4) + 4)).toNat : Int))) (j3 (K2 N (Gj (FK.wrap (4 * x1.tmod 4)).toNat (Gz (FK.wrap (FK.wrap (4 * x1.tmod 4) + 4)).toNat f))) fun j => some (FL.wrap (j + FL.wrap (FL.wrap x1 * 2654435769)))) none) none
def c2Q (N : Nat) : Ent := pE 152 (.v .y (.v fI .z)) (.v fW .z) (C1 N)
theorem d0Q (N : Nat) : EO (c2Q N) := pk0 (cx := cz [c5I N] []) (A9 ⟨c6W N, trivial⟩ trivial) Tryz.func152 (by kernel_rfl) fun h => by kernel_rfl
def a8d {R : Type} (N : Nat) (w : LB) (b1 : Bool) (Lq : Int -> Int -> Int -> Option R) (K0 : Int -> Int -> Option R) (d i x : Int) : Option R := br (decide (x < 16)) (br b1 (j3 (C1 N w (FK.wrap (15 - x))) fun j => j3 (b7P N i j) fun u => Lq i (j9 Ga FL d u) (FK.wrap (x + 1))) (j3 (C1 N w x) fun n2_1 => j3 (b7P N i n2_1) fun n3_1 => Lq i (j9 Ga FL d n3_1) (FK.wrap (x + 1)))) (K0 d i)
def P8 {R : Type} (N : Nat) (w : LB) (b1 : Bool) : Nat -> Int -> Int -> Int -> (Int -> Int -> Option R) -> Option R | 0, _, _, _, _ => none | t + 1, d, i, x, K0 => a8d N w b1 (fun d i x => P8 N w b1 t d i x K0) K0 d i x
def b3d {R : Type} (N : Nat) (ds : List D) (m : Mem) (K : Ex -> List D -> Mem -> Option R) : Option R :=
 match ds, m with
 | [(.v (.bytes w) .no), (.v (.bool b1) .no), (.v (.int .u32 d) .no), (.v (.int .u32 i) .no), (.v (.int .i64 x) .no)], [[]] => P8 N w b1 N d i x (fun a0 a1 => K (.exit 0) [(.v (.int .u32 a0) .no), (.v (.int .u32 a1) .no)] [[]])
 | _, _ => none
def d4X (N : Nat) (f x1 : LB) (x2 : Bool) : Option (LB × Int) := br (!decide ((f.length : Int) = 16)) (some ([], 19)) (br (!decide ((x1.length : Int) = 8)) (some ([], 1)) (br (decide (4 <= (x1.length : Int))) (j3 (K2 N (Gz 4 x1)) fun j => br (decide (4 <= (x1.length : Int))) (j3 (K2 N (Gj 4 x1)) fun u => P8 N f x2 N j u 0 fun d i => some ([FR (FY.wrap (G8 FL i 24)).toNat, FR (FY.wrap (G8 FL i 16)).toNat, FR (FY.wrap (G8 FL i 8)).toNat, FR (FY.wrap i).toNat, FR (FY.wrap (G8 FL d 24)).toNat, FR (FY.wrap (G8 FL d 16)).toNat, FR (FY.wrap (G8 FL d 8)).toNat, FR (FY.wrap d).toNat], 0)) none) none))
def c7Y (N : Nat) : Cx := cl [c5I N, c2Q N, d4A N] [] [⟨7, [0, 2, 8, 9, 10], [8, 9], b3d N⟩]
theorem d1m (N : Nat) : p9 (c7Y N) 63 (s4 Tryz.f100 0) := by
 refine j7 (rid := 7) (by kernel_rfl) rfl rfl fun R ds m K r h => ?_
 change b3d N ds m K = _ at h
 unfold b3d at h
 split at h
 . rename_i w b1 d i x
   exact ⟨N, Eq.trans (lpI (fun (e : (Int -> Int -> Option R)) L (s : Int × Int × Int) => a8d N w b1 (fun d i x => L (d, i, x)) e s.1 s.2.1 s.2.2) (fun e t s => P8 N w b1 t s.1 s.2.1 s.2.2 e) (fun s => [(.v (.bytes w) .no), (.v (.bool b1) .no), (.v (.int .u32 s.1) .no), (.v (.int .u32 s.2.1) .no), (.v (.int .i64 s.2.2) .no)]) (fun s => [[]]) (fun _ _ => rfl) (fun _ _ _ => rfl) (e := _) (fun L s => by kernel_rfl) N (d, i, x)) h⟩
 . cases h
def d4y (N : Nat) : Ent := pE 100 (.v .y (.v .y (.v .b .z))) (.v .y (.v fI .z)) (d4X N)
theorem d9D (N : Nat) : EO (d4y N) := pk (cx := c7Y N) (D4 ⟨c6W N, d0Q N, d8T N, trivial⟩ trivial) Tryz.func100 (j6 (k := 1) (by kernel_rfl) ⟨trivial, d1m N⟩) (by kernel_rfl) fun h => by kernel_rfl
def a9L (N : Nat) (f x1 : LB) : Option (LB × Int) := s7 (d4X N f x1 false) fun w u => some (w, u)
def d1O (N : Nat) : Ent := pE 58 (.v .y (.v .y .z)) (.v .y (.v fI .z)) (a9L N)
theorem e0q (N : Nat) : EO (d1O N) := pk0 (cx := cz [d4y N] []) (A9 ⟨d9D N, trivial⟩ trivial) Tryz.func58 (by kernel_rfl) fun h => by kernel_rfl
end En

namespace En
open Go Go.RowKit
def z8 : Array FX := #[.int .u8 0, .int .u8 0, .int .u8 0, .int .u8 0, .int .u8 0, .int .u8 0, .int .u8 0, .int .u8 0]
theorem e4l (w : Gc) : (Instr.makeSlice 22 (.int .i64 8) (.int .i64 8)).run Tryz.prog w = .ok (.slice (some ⟨w.heap.size, 0, none⟩) 8 8) (w.alloc (.cells z8 5)) := by
 obtain ⟨i0, hi0, hz0, hz1, hz2⟩ := Kb b6s
 have := run_makeSlice (P := Tryz.prog) (w := w) 22 5 i0 (.int .u8 0) Tryz.underlying22 hi0 hz0 .i64 .i64 8 8 (by decide) (by decide) (by rw [hz1]; decide) (by rw [hz2]; decide) (by decide)
 rw [hz1] at this
 rw [this]
 have e : madeCells (Ib FY 0).cells (Int.toNat 8 * 1) = z8 := by
  apply Array.ext
  . rw [size_madeCells]; rfl
  . intro i h1 h2
    simp [z8] at h2
    rcases (by omega : i = 0 ∨ i = 1 ∨ i = 2 ∨ i = 3 ∨ i = 4 ∨ i = 5 ∨ i = 6 ∨ i = 7) with rfl | rfl | rfl | rfl | rfl | rfl | rfl | rfl <;> simp [z8, madeCells, Iv]
 rw [e]; rfl
theorem byI (z : Int) (h0 : 0 <= z) (h1 : z < 256) : (Ib FY z) = u8 (FR z.toNat) := by
 unfold u8
 rw [UInt8.toNat_ofNat', Nat.mod_eq_of_lt (by omega), Int.toNat_of_nonneg h0]
def be8 (n : Int) : List UInt8 := [FR (n / 72057594037927936 % 256).toNat, FR (n / 281474976710656 % 256).toNat, FR (n / 1099511627776 % 256).toNat, FR (n / 4294967296 % 256).toNat, FR (n / 16777216 % 256).toNat, FR (n / 65536 % 256).toNat, FR (n / 256 % 256).toNat, FR (n % 256).toNat]
theorem a5j {g : G} {w w' : Gc} {xs : List UInt8} (hb : Below w.heap.size w w') (m : Int) (hm : FK.min <= m /\ m <= FK.max) (hl : xs.length <= 1000) (hh : w'.heap[w.heap.size]? = some (.cells (xs.map u8).toArray 5 (0, 0))) :
 ∃ us' g', Ending.returned (.tuple #[.slice (some ⟨w.heap.size, 0, none⟩) xs.length xs.length, .int .i64 m]) = .returned (S0 us') /\ (∀ E' : Env, RepDs E' g' w' [] [.v (.bytes xs) .no, .v (.int .i64 m) .no] us') /\ PureTr g w g' w' := by
 refine ⟨[.slice (some ⟨w.heap.size, 0, none⟩) xs.length xs.length, .int .i64 m], { g with Γ := fun b => if b < w.heap.size then g.Γ b else .imm }, rfl, fun E' => ⟨rfl, fun k y hk => ?_⟩, ⟨⟨hb.os, hb.tape, hb.output, hb.size, hb.block⟩, fun b hlt => if_pos hlt, fun b hge => by
  show Perm.still (if b < w.heap.size then g.Γ b else .imm) = true
  rw [if_neg (by omega)]; rfl, rfl, rfl⟩⟩
 rcases k with _ | _ | k
 . simp at hk; subst hk
   refine .v _ _ _ (.bytes _ _ _ _ rfl (FW _) (by unfold maxLen; omega) (fun k x hx => ⟨_, _, rfl, ?_, ?_⟩)) trivial
   . unfold s5
     show (match (if w.heap.size < w.heap.size then g.Γ w.heap.size else .imm) with | .imm => True | .low n => 0 + k < n | .own _ n => 0 + k < n | .box _ _ => False)
     rw [if_neg (by omega)]; trivial
   . rw [GA w' w.heap.size (0 + k) _ _ _ hh, Nat.zero_add]
     simp [hx]; rfl
 . simp at hk; subst hk
   exact .v _ _ _ (.int .i64 m hm) trivial
 . simp at hk
attribute [local go_sem] e4l
def c4t (n : Int) : Nat -> Array FX
 | 0 => #[.int .u8 0, .int .u8 0, .int .u8 0, .int .u8 0, .int .u8 0, .int .u8 0, .int .u8 0, .int .u8 0]
 | 1 => #[.int .u8 0, .int .u8 0, .int .u8 0, .int .u8 0, .int .u8 0, .int .u8 0, .int .u8 0, .int .u8 (n % 256)]
 | 2 => #[.int .u8 0, .int .u8 0, .int .u8 0, .int .u8 0, .int .u8 0, .int .u8 0, .int .u8 (n / 256 % 256), .int .u8 (n % 256)]
 | 3 => #[.int .u8 0, .int .u8 0, .int .u8 0, .int .u8 0, .int .u8 0, .int .u8 (n / 65536 % 256), .int .u8 (n / 256 % 256), .int .u8 (n % 256)]
 | 4 => #[.int .u8 0, .int .u8 0, .int .u8 0, .int .u8 0, .int .u8 (n / 16777216 % 256), .int .u8 (n / 65536 % 256), .int .u8 (n / 256 % 256), .int .u8 (n % 256)]
 | 5 => #[.int .u8 0, .int .u8 0, .int .u8 0, .int .u8 (n / 4294967296 % 256), .int .u8 (n / 16777216 % 256), .int .u8 (n / 65536 % 256), .int .u8 (n / 256 % 256), .int .u8 (n % 256)]
 | 6 => #[.int .u8 0, .int .u8 0, .int .u8 (n / 1099511627776 % 256), .int .u8 (n / 4294967296 % 256), .int .u8 (n / 16777216 % 256), .int .u8 (n / 65536 % 256), .int .u8 (n / 256 % 256), .int .u8 (n % 256)]
 | 7 => #[.int .u8 0, .int .u8 (n / 281474976710656 % 256), .int .u8 (n / 1099511627776 % 256), .int .u8 (n / 4294967296 % 256), .int .u8 (n / 16777216 % 256), .int .u8 (n / 65536 % 256), .int .u8 (n / 256 % 256), .int .u8 (n % 256)]
 | _ => #[.int .u8 (n / 72057594037927936 % 256), .int .u8 (n / 281474976710656 % 256), .int .u8 (n / 1099511627776 % 256), .int .u8 (n / 4294967296 % 256), .int .u8 (n / 16777216 % 256), .int .u8 (n / 65536 % 256), .int .u8 (n / 256 % 256), .int .u8 (n % 256)]
theorem c1S (n : Int) : c4t n 8 = ((be8 n).map u8).toArray := by
 show #[(.int .u8 (n / 72057594037927936 % 256) : FX), (.int .u8 (n / 281474976710656 % 256) : FX), (.int .u8 (n / 1099511627776 % 256) : FX), (.int .u8 (n / 4294967296 % 256) : FX), (.int .u8 (n / 16777216 % 256) : FX), (.int .u8 (n / 65536 % 256) : FX), (.int .u8 (n / 256 % 256) : FX), (.int .u8 (n % 256) : FX)] = #[u8 (FR (n / 72057594037927936 % 256).toNat), u8 (FR (n / 281474976710656 % 256).toNat), u8 (FR (n / 1099511627776 % 256).toNat), u8 (FR (n / 4294967296 % 256).toNat), u8 (FR (n / 16777216 % 256).toNat), u8 (FR (n / 65536 % 256).toNat), u8 (FR (n / 256 % 256).toNat), u8 (FR (n % 256).toNat)]
 rw [byI (n / 72057594037927936 % 256) (by omega) (by omega), byI (n / 281474976710656 % 256) (by omega) (by omega), byI (n / 1099511627776 % 256) (by omega) (by omega), byI (n / 4294967296 % 256) (by omega) (by omega), byI (n / 16777216 % 256) (by omega) (by omega), byI (n / 65536 % 256) (by omega) (by omega), byI (n / 256 % 256) (by omega) (by omega), byI (n % 256) (by omega) (by omega)]
set_option maxHeartbeats 4000000 in
theorem d3o (n : Int) (w : Gc) (h1 : 0 <= n) (h2 : n <= 9223372036854775807) :
 IF Tryz.prog 49 #[.int .i64 n, .int .i64 8] w fun e w' => e = .returned (.tuple #[.slice (some ⟨w.heap.size, 0, none⟩) 8 8, .int .i64 0]) /\ w'.heap[w.heap.size]? = some (.cells (c4t n 8) 5 (0, 0)) /\ Below w.heap.size w w' := by
 have h3 : ¬ n < 0 := by omega
 go_enter Tryz.func49, Tryz.ntmps49
 go_wp2
 go_loopg [7, 31] 8 (fun g x i wr => ∃ k : Nat, k <= 8 /\ g = 8 - k /\ i = .int .i64 (k : Int) /\ wr.heap[w.heap.size]? = some (.cells (c4t n k) 5 (0, 0)) /\ Below w.heap.size w wr)
 case atStart => exact ⟨0, by omega, rfl, rfl, Hf w _, (Below.refl _ _).alloc (FW _) _⟩
 case round =>
  obtain ⟨k, hk, hg, rfl, hh, hb⟩ := hrel
  have hc : ∀ j, wr.cell? ⟨w.heap.size, j, none⟩ = (c4t n k)[j]? := fun j => GA wr _ j _ _ _ hh
  have hf : ∀ j, wr.frozen? ⟨w.heap.size, j, none⟩ = false := fun j => IB wr _ j _ _ hh
  rcases (by omega : k = 0 ∨ k = 1 ∨ k = 2 ∨ k = 3 ∨ k = 4 ∨ k = 5 ∨ k = 6 ∨ k = 7 ∨ k = 8) with rfl | rfl | rfl | rfl | rfl | rfl | rfl | rfl | rfl
  . have hc1 : wr.cell? ⟨w.heap.size, 7, none⟩ = some (.int .u8 0) := hc 7
    have hf1 := hf 7
    have H := Gx (Gf hh hb)
    clear hc hf hh hb
    go_wp2
    go_roundg (8 - (0 + 1))
    case measure => omega
    case rel =>
     refine ⟨1, by omega, rfl, by go_num, ?_, H.out.2.setCell (FW _) _⟩
     exact Gt wr _ _ _ _ _ H.out.1
  . have hc1 : wr.cell? ⟨w.heap.size, 6, none⟩ = some (.int .u8 0) := hc 6
    have hf1 := hf 6
    have H := Gx (Gf hh hb)
    clear hc hf hh hb
    go_wp2
    go_roundg (8 - (1 + 1))
    case measure => omega
    case rel =>
     refine ⟨2, by omega, rfl, by go_num, ?_, H.out.2.setCell (FW _) _⟩
     exact Gt wr _ _ _ _ _ H.out.1
  . have hc1 : wr.cell? ⟨w.heap.size, 5, none⟩ = some (.int .u8 0) := hc 5
    have hf1 := hf 5
    have H := Gx (Gf hh hb)
    clear hc hf hh hb
    go_wp2
    go_roundg (8 - (2 + 1))
    case measure => omega
    case rel =>
     refine ⟨3, by omega, rfl, by go_num, ?_, H.out.2.setCell (FW _) _⟩
     exact Gt wr _ _ _ _ _ H.out.1
  . have hc1 : wr.cell? ⟨w.heap.size, 4, none⟩ = some (.int .u8 0) := hc 4
    have hf1 := hf 4
    have H := Gx (Gf hh hb)
    clear hc hf hh hb
    go_wp2
    go_roundg (8 - (3 + 1))
    case measure => omega
    case rel =>
     refine ⟨4, by omega, rfl, by go_num, ?_, H.out.2.setCell (FW _) _⟩
     exact Gt wr _ _ _ _ _ H.out.1
  . have hc1 : wr.cell? ⟨w.heap.size, 3, none⟩ = some (.int .u8 0) := hc 3
    have hf1 := hf 3
    have H := Gx (Gf hh hb)
    clear hc hf hh hb
    go_wp2
    go_roundg (8 - (4 + 1))
    case measure => omega
    case rel =>
     refine ⟨5, by omega, rfl, by go_num, ?_, H.out.2.setCell (FW _) _⟩
     exact Gt wr _ _ _ _ _ H.out.1
  . have hc1 : wr.cell? ⟨w.heap.size, 2, none⟩ = some (.int .u8 0) := hc 2
    have hf1 := hf 2
    have H := Gx (Gf hh hb)
    clear hc hf hh hb
    go_wp2
    go_roundg (8 - (5 + 1))
    case measure => omega
    case rel =>
     refine ⟨6, by omega, rfl, by go_num, ?_, H.out.2.setCell (FW _) _⟩
     exact Gt wr _ _ _ _ _ H.out.1
  . have hc1 : wr.cell? ⟨w.heap.size, 1, none⟩ = some (.int .u8 0) := hc 1
    have hf1 := hf 1
    have H := Gx (Gf hh hb)
    clear hc hf hh hb
    go_wp2
    go_roundg (8 - (6 + 1))
    case measure => omega
    case rel =>
     refine ⟨7, by omega, rfl, by go_num, ?_, H.out.2.setCell (FW _) _⟩
     exact Gt wr _ _ _ _ _ H.out.1
  . have hc1 : wr.cell? ⟨w.heap.size, 0, none⟩ = some (.int .u8 0) := hc 0
    have hf1 := hf 0
    have H := Gx (Gf hh hb)
    clear hc hf hh hb
    go_wp2
    go_roundg (8 - (7 + 1))
    case measure => omega
    case rel =>
     refine ⟨8, by omega, rfl, by go_num, ?_, H.out.2.setCell (FW _) _⟩
     rw [← (by omega : n / 72057594037927936 % 256 = n / 72057594037927936)]; exact Gt wr _ _ _ _ _ H.out.1
  . have H := Gx (Gf hh hb)
    clear hc hf hh hb
    go_wp2
    refine JA (v := .tuple #[.slice (some ⟨w.heap.size, 0, none⟩) 8 8, .int .i64 0]) (by simp [results, Tryz.results49, go_sem]) rfl ⟨rfl, H.out.1, H.out.2⟩
def a6d (N : Nat) (x0 x1 : Int) : Option (List UInt8 × Int) := if x1 = 8 /\ 0 <= x0 then some (be8 x0, 0) else none
theorem d8S (N : Nat) (x0 x1 : Int) (r0 : List UInt8) (r1 : Int) (h : a6d N x0 x1 = some (r0, r1)) : H8 Tryz.prog T 49 [dI x0, dI x1] [dY r0, dI r1] := by
 unfold a6d at h
 split at h
 . rename_i h2
   obtain ⟨rfl, h2⟩ := h2
   injection h with h; injection h with e1 e2; subst e1; subst e2
   intro E g w us hsz hus
   obtain ⟨hl, hr⟩ := hus
   match us, hl with
   | [u, v], _ =>
   have hu := hr 0 _ rfl
   have hv := hr 1 _ rfl
   simp only [GN, Ij] at hu hv
   cases hu with
   | v x a u hu ha =>
   cases hv with
   | v x a v hv ha' =>
   cases hu with
   | int k n hk =>
   cases hv with
   | int k n hk' =>
   refine (d3o x0 w h2 hk.2).mono ?_
   rintro e w' ⟨rfl, hh, hb⟩
   rw [c1S] at hh
   exact a5j (xs := be8 x0) hb 0 (by decide) (by simp [be8]) hh
 . cases h
set_option maxHeartbeats 4000000 in
theorem d1k (n : Int) (w : Gc) (h1 : 0 <= n) (h2 : n <= 9223372036854775807) :
 IF Tryz.prog 57 #[.int .i64 n, .int .i64 8] w fun e w' => e = .returned (.tuple #[.slice (some ⟨w.heap.size, 0, none⟩) 8 8, .int .i64 0]) /\ w'.heap[w.heap.size]? = some (.cells (c4t n 8) 5 (0, 0)) /\ Below w.heap.size w w' := by
 have h3 : ¬ n < 0 := by omega
 go_enter Tryz.func57, Tryz.ntmps57
 go_wp2
 go_loopg [0, 7] 8 (fun g m i wr => ∃ k : Nat, k <= 8 /\ g = 8 - k /\ m = .int .i64 (n / (256 ^ k : Nat)) /\ i = .int .i64 (7 - (k : Int)) /\ wr.heap[w.heap.size]? = some (.cells (c4t n k) 5 (0, 0)) /\ Below w.heap.size w wr)
 case atStart => exact ⟨0, by omega, rfl, by simp, rfl, Hf w _, (Below.refl _ _).alloc (FW _) _⟩
 case round =>
  obtain ⟨k, hk, hg, rfl, rfl, hh, hb⟩ := hrel
  have hc : ∀ j, wr.cell? ⟨w.heap.size, j, none⟩ = (c4t n k)[j]? := fun j => GA wr _ j _ _ _ hh
  have hf : ∀ j, wr.frozen? ⟨w.heap.size, j, none⟩ = false := fun j => IB wr _ j _ _ hh
  rcases (by omega : k = 0 ∨ k = 1 ∨ k = 2 ∨ k = 3 ∨ k = 4 ∨ k = 5 ∨ k = 6 ∨ k = 7 ∨ k = 8) with rfl | rfl | rfl | rfl | rfl | rfl | rfl | rfl | rfl
  . have hc1 : wr.cell? ⟨w.heap.size, 7, none⟩ = some (.int .u8 0) := hc 7
    have hf1 := hf 7
    have H := Gx (Gf hh hb)
    clear hc hf hh hb
    go_wp2
    go_roundg (8 - (0 + 1))
    case measure => omega
    case rel =>
     refine ⟨1, by omega, rfl, ?_, by go_num, ?_, H.out.2.setCell (FW _) _⟩
     . have e : ((256 ^ (0+1) : Nat) : Int) = 256 := by decide
       rw [show (0+1 : Nat) = 1 from rfl] at e
       first | (rw [e]; done) | (rw [e]; rfl) | (rw [e]; congr 1; omega)
     . exact Gt wr _ _ _ _ _ H.out.1
  . have hc1 : wr.cell? ⟨w.heap.size, 6, none⟩ = some (.int .u8 0) := hc 6
    have hf1 := hf 6
    have H := Gx (Gf hh hb)
    clear hc hf hh hb
    go_wp2
    go_roundg (8 - (1 + 1))
    case measure => omega
    case rel =>
     refine ⟨2, by omega, rfl, ?_, by go_num, ?_, H.out.2.setCell (FW _) _⟩
     . have e : ((256 ^ (1+1) : Nat) : Int) = 65536 := by decide
       rw [show (1+1 : Nat) = 2 from rfl] at e
       first | (rw [e]; done) | (rw [e]; rfl) | (rw [e]; congr 1; omega)
     . exact Gt wr _ _ _ _ _ H.out.1
  . have hc1 : wr.cell? ⟨w.heap.size, 5, none⟩ = some (.int .u8 0) := hc 5
    have hf1 := hf 5
    have H := Gx (Gf hh hb)
    clear hc hf hh hb
    go_wp2
    go_roundg (8 - (2 + 1))
    case measure => omega
    case rel =>
     refine ⟨3, by omega, rfl, ?_, by go_num, ?_, H.out.2.setCell (FW _) _⟩
     . have e : ((256 ^ (2+1) : Nat) : Int) = 16777216 := by decide
       rw [show (2+1 : Nat) = 3 from rfl] at e
       first | (rw [e]; done) | (rw [e]; rfl) | (rw [e]; congr 1; omega)
     . exact Gt wr _ _ _ _ _ H.out.1
  . have hc1 : wr.cell? ⟨w.heap.size, 4, none⟩ = some (.int .u8 0) := hc 4
    have hf1 := hf 4
    have H := Gx (Gf hh hb)
    clear hc hf hh hb
    go_wp2
    go_roundg (8 - (3 + 1))
    case measure => omega
    case rel =>
     refine ⟨4, by omega, rfl, ?_, by go_num, ?_, H.out.2.setCell (FW _) _⟩
     . have e : ((256 ^ (3+1) : Nat) : Int) = 4294967296 := by decide
       rw [show (3+1 : Nat) = 4 from rfl] at e
       first | (rw [e]; done) | (rw [e]; rfl) | (rw [e]; congr 1; omega)
     . exact Gt wr _ _ _ _ _ H.out.1
  . have hc1 : wr.cell? ⟨w.heap.size, 3, none⟩ = some (.int .u8 0) := hc 3
    have hf1 := hf 3
    have H := Gx (Gf hh hb)
    clear hc hf hh hb
    go_wp2
    go_roundg (8 - (4 + 1))
    case measure => omega
    case rel =>
     refine ⟨5, by omega, rfl, ?_, by go_num, ?_, H.out.2.setCell (FW _) _⟩
     . have e : ((256 ^ (4+1) : Nat) : Int) = 1099511627776 := by decide
       rw [show (4+1 : Nat) = 5 from rfl] at e
       first | (rw [e]; done) | (rw [e]; rfl) | (rw [e]; congr 1; omega)
     . exact Gt wr _ _ _ _ _ H.out.1
  . have hc1 : wr.cell? ⟨w.heap.size, 2, none⟩ = some (.int .u8 0) := hc 2
    have hf1 := hf 2
    have H := Gx (Gf hh hb)
    clear hc hf hh hb
    go_wp2
    go_roundg (8 - (5 + 1))
    case measure => omega
    case rel =>
     refine ⟨6, by omega, rfl, ?_, by go_num, ?_, H.out.2.setCell (FW _) _⟩
     . have e : ((256 ^ (5+1) : Nat) : Int) = 281474976710656 := by decide
       rw [show (5+1 : Nat) = 6 from rfl] at e
       first | (rw [e]; done) | (rw [e]; rfl) | (rw [e]; congr 1; omega)
     . exact Gt wr _ _ _ _ _ H.out.1
  . have hc1 : wr.cell? ⟨w.heap.size, 1, none⟩ = some (.int .u8 0) := hc 1
    have hf1 := hf 1
    have H := Gx (Gf hh hb)
    clear hc hf hh hb
    go_wp2
    go_roundg (8 - (6 + 1))
    case measure => omega
    case rel =>
     refine ⟨7, by omega, rfl, ?_, by go_num, ?_, H.out.2.setCell (FW _) _⟩
     . have e : ((256 ^ (6+1) : Nat) : Int) = 72057594037927936 := by decide
       rw [show (6+1 : Nat) = 7 from rfl] at e
       first | (rw [e]; done) | (rw [e]; rfl) | (rw [e]; congr 1; omega)
     . exact Gt wr _ _ _ _ _ H.out.1
  . have hc1 : wr.cell? ⟨w.heap.size, 0, none⟩ = some (.int .u8 0) := hc 0
    have hf1 := hf 0
    have H := Gx (Gf hh hb)
    clear hc hf hh hb
    go_wp2
    go_roundg (8 - (7 + 1))
    case measure => omega
    case rel =>
     refine ⟨8, by omega, rfl, ?_, by go_num, ?_, H.out.2.setCell (FW _) _⟩
     . have e : ((256 ^ (7+1) : Nat) : Int) = 18446744073709551616 := by decide
       rw [show (7+1 : Nat) = 8 from rfl] at e
       first | (rw [e]; done) | (rw [e]; rfl) | (rw [e]; congr 1; omega)
     . exact Gt wr _ _ _ _ _ H.out.1
  . have H := Gx (Gf hh hb)
    clear hc hf hh hb
    go_wp2
    refine JA (v := .tuple #[.slice (some ⟨w.heap.size, 0, none⟩) 8 8, .int .i64 0]) (by simp [results, Tryz.results57, go_sem]) rfl ⟨rfl, H.out.1, H.out.2⟩
def b4v (N : Nat) (x0 x1 : Int) : Option (List UInt8 × Int) := if x1 = 8 /\ 0 <= x0 then some (be8 x0, 0) else none
theorem e2b (N : Nat) (x0 x1 : Int) (r0 : List UInt8) (r1 : Int) (h : b4v N x0 x1 = some (r0, r1)) : H8 Tryz.prog T 57 [dI x0, dI x1] [dY r0, dI r1] := by
 unfold b4v at h
 split at h
 . rename_i h2
   obtain ⟨rfl, h2⟩ := h2
   injection h with h; injection h with e1 e2; subst e1; subst e2
   intro E g w us hsz hus
   obtain ⟨hl, hr⟩ := hus
   match us, hl with
   | [u, v], _ =>
   have hu := hr 0 _ rfl
   have hv := hr 1 _ rfl
   simp only [GN, Ij] at hu hv
   cases hu with
   | v x a u hu ha =>
   cases hv with
   | v x a v hv ha' =>
   cases hu with
   | int k n hk =>
   cases hv with
   | int k n hk' =>
   refine (d1k x0 w h2 hk.2).mono ?_
   rintro e w' ⟨rfl, hh, hb⟩
   rw [c1S] at hh
   exact a5j (xs := be8 x0) hb 0 (by decide) (by simp [be8]) hh
 . cases h
theorem W6 (a b : UInt8) : bits .xor .u8 (a.toNat : Int) (b.toNat : Int) = ((a ^^^ b).toNat : Int) := by
 rw [u8_xor_nat _ _ (Jt a) (Jt b)]; simp
theorem b3S {w w' : Gc} (hb : Below w.heap.size w w') {p : Addr} {v : FX} (h : w.cell? p = some v) : w'.cell? p = some v := by
 rw [hb.cell (World.block_lt_of_cell? w _ h)]; exact h
def e1O (x0 x1 x2 x3 x4 x5 x6 x7 y0 y1 y2 y3 y4 y5 y6 y7 : UInt8) : Nat -> Array FX
 | 0 => #[.int .u8 0, .int .u8 0, .int .u8 0, .int .u8 0, .int .u8 0, .int .u8 0, .int .u8 0, .int .u8 0]
 | 1 => #[.int .u8 ((x0 ^^^ y0).toNat : Int), .int .u8 0, .int .u8 0, .int .u8 0, .int .u8 0, .int .u8 0, .int .u8 0, .int .u8 0]
 | 2 => #[.int .u8 ((x0 ^^^ y0).toNat : Int), .int .u8 ((x1 ^^^ y1).toNat : Int), .int .u8 0, .int .u8 0, .int .u8 0, .int .u8 0, .int .u8 0, .int .u8 0]
 | 3 => #[.int .u8 ((x0 ^^^ y0).toNat : Int), .int .u8 ((x1 ^^^ y1).toNat : Int), .int .u8 ((x2 ^^^ y2).toNat : Int), .int .u8 0, .int .u8 0, .int .u8 0, .int .u8 0, .int .u8 0]
 | 4 => #[.int .u8 ((x0 ^^^ y0).toNat : Int), .int .u8 ((x1 ^^^ y1).toNat : Int), .int .u8 ((x2 ^^^ y2).toNat : Int), .int .u8 ((x3 ^^^ y3).toNat : Int), .int .u8 0, .int .u8 0, .int .u8 0, .int .u8 0]
 | 5 => #[.int .u8 ((x0 ^^^ y0).toNat : Int), .int .u8 ((x1 ^^^ y1).toNat : Int), .int .u8 ((x2 ^^^ y2).toNat : Int), .int .u8 ((x3 ^^^ y3).toNat : Int), .int .u8 ((x4 ^^^ y4).toNat : Int), .int .u8 0, .int .u8 0, .int .u8 0]
 | 6 => #[.int .u8 ((x0 ^^^ y0).toNat : Int), .int .u8 ((x1 ^^^ y1).toNat : Int), .int .u8 ((x2 ^^^ y2).toNat : Int), .int .u8 ((x3 ^^^ y3).toNat : Int), .int .u8 ((x4 ^^^ y4).toNat : Int), .int .u8 ((x5 ^^^ y5).toNat : Int), .int .u8 0, .int .u8 0]
 | 7 => #[.int .u8 ((x0 ^^^ y0).toNat : Int), .int .u8 ((x1 ^^^ y1).toNat : Int), .int .u8 ((x2 ^^^ y2).toNat : Int), .int .u8 ((x3 ^^^ y3).toNat : Int), .int .u8 ((x4 ^^^ y4).toNat : Int), .int .u8 ((x5 ^^^ y5).toNat : Int), .int .u8 ((x6 ^^^ y6).toNat : Int), .int .u8 0]
 | _ => #[.int .u8 ((x0 ^^^ y0).toNat : Int), .int .u8 ((x1 ^^^ y1).toNat : Int), .int .u8 ((x2 ^^^ y2).toNat : Int), .int .u8 ((x3 ^^^ y3).toNat : Int), .int .u8 ((x4 ^^^ y4).toNat : Int), .int .u8 ((x5 ^^^ y5).toNat : Int), .int .u8 ((x6 ^^^ y6).toNat : Int), .int .u8 ((x7 ^^^ y7).toNat : Int)]
set_option maxHeartbeats 8000000 in
theorem d6R (x0 x1 x2 x3 x4 x5 x6 x7 y0 y1 y2 y3 y4 y5 y6 y7 : UInt8) (b1 o1 c1 b2 o2 c2 : Nat) (w : Gc) (h1 : ∀ (k : Nat) v, ([x0, x1, x2, x3, x4, x5, x6, x7].map u8)[k]? = some v -> w.cell? ⟨b1, o1 + k, none⟩ = some v) (h2 : ∀ (k : Nat) v, ([y0, y1, y2, y3, y4, y5, y6, y7].map u8)[k]? = some v -> w.cell? ⟨b2, o2 + k, none⟩ = some v) :
 IF Tryz.prog 98 #[.slice (some ⟨b1, o1, none⟩) 8 c1, .slice (some ⟨b2, o2, none⟩) 8 c2] w fun e w' => e = .returned (.tuple #[.slice (some ⟨w.heap.size, 0, none⟩) 8 8, .int .i64 0]) /\ w'.heap[w.heap.size]? = some (.cells (e1O x0 x1 x2 x3 x4 x5 x6 x7 y0 y1 y2 y3 y4 y5 y6 y7 8) 5 (0, 0)) /\ Below w.heap.size w w' := by
 have H1 := Gx h1
 have H2 := Gx h2
 clear h1 h2
 go_enter Tryz.func98, Tryz.ntmps98
 go_wp2
 go_loopg [7, 18] 8 (fun g x i wr => ∃ k : Nat, k <= 8 /\ g = 8 - k /\ i = .int .i64 (k : Int) /\ wr.heap[w.heap.size]? = some (.cells (e1O x0 x1 x2 x3 x4 x5 x6 x7 y0 y1 y2 y3 y4 y5 y6 y7 k) 5 (0, 0)) /\ Below w.heap.size w wr)
 case atStart => exact ⟨0, by omega, rfl, rfl, Hf w _, (Below.refl _ _).alloc (FW _) _⟩
 case round =>
  obtain ⟨k, hk, hg, rfl, hh, hb⟩ := hrel
  have hc : ∀ j, wr.cell? ⟨w.heap.size, j, none⟩ = (e1O x0 x1 x2 x3 x4 x5 x6 x7 y0 y1 y2 y3 y4 y5 y6 y7 k)[j]? := fun j => GA wr _ j _ _ _ hh
  have hf : ∀ j, wr.frozen? ⟨w.heap.size, j, none⟩ = false := fun j => IB wr _ j _ _ hh
  have k1 : ∀ (j : Nat) v, ([x0, x1, x2, x3, x4, x5, x6, x7].map u8)[j]? = some v -> wr.cell? ⟨b1, o1 + j, none⟩ = some v := fun j v hv => (b3S hb (H1.out j v hv))
  have k2 : ∀ (j : Nat) v, ([y0, y1, y2, y3, y4, y5, y6, y7].map u8)[j]? = some v -> wr.cell? ⟨b2, o2 + j, none⟩ = some v := fun j v hv => (b3S hb (H2.out j v hv))
  rcases (by omega : k = 0 ∨ k = 1 ∨ k = 2 ∨ k = 3 ∨ k = 4 ∨ k = 5 ∨ k = 6 ∨ k = 7 ∨ k = 8) with rfl | rfl | rfl | rfl | rfl | rfl | rfl | rfl | rfl
  . have hc1 : wr.cell? ⟨w.heap.size, 0, none⟩ = some (.int .u8 0) := hc 0
    have hf1 := hf 0
    have hx1 : wr.cell? ⟨b1, o1, none⟩ = some (.int .u8 (x0.toNat : Int)) := k1 0 _ rfl
    have hy1 : wr.cell? ⟨b2, o2, none⟩ = some (.int .u8 (y0.toNat : Int)) := k2 0 _ rfl
    have H := Gx (Gf hh hb)
    clear hc hf hh hb k1 k2
    go_wp2
    go_region
    all_goals (try go_wp2)
    go_roundg (8 - (0 + 1))
    case measure => omega
    case rel =>
     refine ⟨1, by omega, rfl, by go_num, ?_, ?_⟩
     . rw [W6]
       exact Gt wr _ _ _ _ _ H.out.1
     . exact (H.out.2.setCell (FW _) _).drew
  . have hc1 : wr.cell? ⟨w.heap.size, 1, none⟩ = some (.int .u8 0) := hc 1
    have hf1 := hf 1
    have hx1 : wr.cell? ⟨b1, o1 + 1, none⟩ = some (.int .u8 (x1.toNat : Int)) := k1 1 _ rfl
    have hy1 : wr.cell? ⟨b2, o2 + 1, none⟩ = some (.int .u8 (y1.toNat : Int)) := k2 1 _ rfl
    have H := Gx (Gf hh hb)
    clear hc hf hh hb k1 k2
    go_wp2
    go_region
    all_goals (try go_wp2)
    go_roundg (8 - (1 + 1))
    case measure => omega
    case rel =>
     refine ⟨2, by omega, rfl, by go_num, ?_, ?_⟩
     . rw [W6]
       exact Gt wr _ _ _ _ _ H.out.1
     . exact (H.out.2.setCell (FW _) _).drew
  . have hc1 : wr.cell? ⟨w.heap.size, 2, none⟩ = some (.int .u8 0) := hc 2
    have hf1 := hf 2
    have hx1 : wr.cell? ⟨b1, o1 + 2, none⟩ = some (.int .u8 (x2.toNat : Int)) := k1 2 _ rfl
    have hy1 : wr.cell? ⟨b2, o2 + 2, none⟩ = some (.int .u8 (y2.toNat : Int)) := k2 2 _ rfl
    have H := Gx (Gf hh hb)
    clear hc hf hh hb k1 k2
    go_wp2
    go_region
    all_goals (try go_wp2)
    go_roundg (8 - (2 + 1))
    case measure => omega
    case rel =>
     refine ⟨3, by omega, rfl, by go_num, ?_, ?_⟩
     . rw [W6]
       exact Gt wr _ _ _ _ _ H.out.1
     . exact (H.out.2.setCell (FW _) _).drew
  . have hc1 : wr.cell? ⟨w.heap.size, 3, none⟩ = some (.int .u8 0) := hc 3
    have hf1 := hf 3
    have hx1 : wr.cell? ⟨b1, o1 + 3, none⟩ = some (.int .u8 (x3.toNat : Int)) := k1 3 _ rfl
    have hy1 : wr.cell? ⟨b2, o2 + 3, none⟩ = some (.int .u8 (y3.toNat : Int)) := k2 3 _ rfl
    have H := Gx (Gf hh hb)
    clear hc hf hh hb k1 k2
    go_wp2
    go_region
    all_goals (try go_wp2)
    go_roundg (8 - (3 + 1))
    case measure => omega
    case rel =>
     refine ⟨4, by omega, rfl, by go_num, ?_, ?_⟩
     . rw [W6]
       exact Gt wr _ _ _ _ _ H.out.1
     . exact (H.out.2.setCell (FW _) _).drew
  . have hc1 : wr.cell? ⟨w.heap.size, 4, none⟩ = some (.int .u8 0) := hc 4
    have hf1 := hf 4
    have hx1 : wr.cell? ⟨b1, o1 + 4, none⟩ = some (.int .u8 (x4.toNat : Int)) := k1 4 _ rfl
    have hy1 : wr.cell? ⟨b2, o2 + 4, none⟩ = some (.int .u8 (y4.toNat : Int)) := k2 4 _ rfl
    have H := Gx (Gf hh hb)
    clear hc hf hh hb k1 k2
    go_wp2
    go_region
    all_goals (try go_wp2)
    go_roundg (8 - (4 + 1))
    case measure => omega
    case rel =>
     refine ⟨5, by omega, rfl, by go_num, ?_, ?_⟩
     . rw [W6]
       exact Gt wr _ _ _ _ _ H.out.1
     . exact (H.out.2.setCell (FW _) _).drew
  . have hc1 : wr.cell? ⟨w.heap.size, 5, none⟩ = some (.int .u8 0) := hc 5
    have hf1 := hf 5
    have hx1 : wr.cell? ⟨b1, o1 + 5, none⟩ = some (.int .u8 (x5.toNat : Int)) := k1 5 _ rfl
    have hy1 : wr.cell? ⟨b2, o2 + 5, none⟩ = some (.int .u8 (y5.toNat : Int)) := k2 5 _ rfl
    have H := Gx (Gf hh hb)
    clear hc hf hh hb k1 k2
    go_wp2
    go_region
    all_goals (try go_wp2)
    go_roundg (8 - (5 + 1))
    case measure => omega
    case rel =>
     refine ⟨6, by omega, rfl, by go_num, ?_, ?_⟩
     . rw [W6]
       exact Gt wr _ _ _ _ _ H.out.1
     . exact (H.out.2.setCell (FW _) _).drew
  . have hc1 : wr.cell? ⟨w.heap.size, 6, none⟩ = some (.int .u8 0) := hc 6
    have hf1 := hf 6
    have hx1 : wr.cell? ⟨b1, o1 + 6, none⟩ = some (.int .u8 (x6.toNat : Int)) := k1 6 _ rfl
    have hy1 : wr.cell? ⟨b2, o2 + 6, none⟩ = some (.int .u8 (y6.toNat : Int)) := k2 6 _ rfl
    have H := Gx (Gf hh hb)
    clear hc hf hh hb k1 k2
    go_wp2
    go_region
    all_goals (try go_wp2)
    go_roundg (8 - (6 + 1))
    case measure => omega
    case rel =>
     refine ⟨7, by omega, rfl, by go_num, ?_, ?_⟩
     . rw [W6]
       exact Gt wr _ _ _ _ _ H.out.1
     . exact (H.out.2.setCell (FW _) _).drew
  . have hc1 : wr.cell? ⟨w.heap.size, 7, none⟩ = some (.int .u8 0) := hc 7
    have hf1 := hf 7
    have hx1 : wr.cell? ⟨b1, o1 + 7, none⟩ = some (.int .u8 (x7.toNat : Int)) := k1 7 _ rfl
    have hy1 : wr.cell? ⟨b2, o2 + 7, none⟩ = some (.int .u8 (y7.toNat : Int)) := k2 7 _ rfl
    have H := Gx (Gf hh hb)
    clear hc hf hh hb k1 k2
    go_wp2
    go_region
    all_goals (try go_wp2)
    go_roundg (8 - (7 + 1))
    case measure => omega
    case rel =>
     refine ⟨8, by omega, rfl, by go_num, ?_, ?_⟩
     . rw [W6]
       exact Gt wr _ _ _ _ _ H.out.1
     . exact (H.out.2.setCell (FW _) _).drew
  . have H := Gx (Gf hh hb)
    clear hc hf hh hb k1 k2
    go_wp2
    refine JA (v := .tuple #[.slice (some ⟨w.heap.size, 0, none⟩) 8 8, .int .i64 0]) (by simp [results, Tryz.results98, go_sem]) rfl ⟨rfl, H.out.1, H.out.2⟩
def a6H (a b : List UInt8) : List UInt8 := List.zipWith (fun x y => x ^^^ y) a b
theorem b6K {l : List UInt8} (h : l.length = 8) : ∃ x0 x1 x2 x3 x4 x5 x6 x7, l = [x0, x1, x2, x3, x4, x5, x6, x7] := by
 match l, h with
 | [x0, x1, x2, x3, x4, x5, x6, x7], _ => exact ⟨x0, x1, x2, x3, x4, x5, x6, x7, rfl⟩
def b5n (N : Nat) (x0 x1 : List UInt8) : Option (List UInt8 × Int) := if x0.length = 8 /\ x1.length = 8 then some (a6H x0 x1, 0) else none
theorem e3a (N : Nat) (x0 x1 : List UInt8) (r0 : List UInt8) (r1 : Int) (h : b5n N x0 x1 = some (r0, r1)) : H8 Tryz.prog T 98 [dY x0, dY x1] [dY r0, dI r1] := by
 unfold b5n at h
 split at h
 . rename_i h2
   obtain ⟨h2, h3⟩ := h2
   injection h with h; injection h with e1 e2; subst e1; subst e2
   intro E g w us hsz hus
   obtain ⟨hl, hr⟩ := hus
   match us, hl with
   | [u, v], _ =>
   have hu := hr 0 _ rfl
   have hv := hr 1 _ rfl
   simp only [GN, Ij] at hu hv
   cases hu with
   | v x a u hu ha =>
   cases hv with
   | v x a v hv ha' =>
   obtain ⟨A, n, c, rfl, hi⟩ := a1l hu
   obtain ⟨A', n', c', rfl, hi'⟩ := a1l hv
   have e1 : n = 8 := by rw [← IsB.len hi]; exact h2
   have e2 : n' = 8 := by rw [← IsB.len hi']; exact h3
   subst e1; subst e2
   obtain ⟨b1, o1, rfl, q1⟩ := IsB.cells hi (by decide)
   obtain ⟨b2, o2, rfl, q2⟩ := IsB.cells hi' (by decide)
   obtain ⟨x0, x1, x2, x3, x4, x5, x6, x7, rfl⟩ := b6K h2
   obtain ⟨y0, y1, y2, y3, y4, y5, y6, y7, rfl⟩ := b6K h3
   refine (d6R x0 x1 x2 x3 x4 x5 x6 x7 y0 y1 y2 y3 y4 y5 y6 y7 b1 o1 c b2 o2 c' w (fun k v hv => ?_) (fun k v hv => ?_)).mono ?_
   . rw [Gn, Option.map_eq_some_iff] at hv
     obtain ⟨z, hz, rfl⟩ := hv
     exact q1 k z hz
   . rw [Gn, Option.map_eq_some_iff] at hv
     obtain ⟨z, hz, rfl⟩ := hv
     exact q2 k z hz
   rintro e w' ⟨rfl, hh, hb⟩
   exact a5j (xs := a6H [x0, x1, x2, x3, x4, x5, x6, x7] [y0, y1, y2, y3, y4, y5, y6, y7]) hb 0 (by decide) (by simp [a6H]) hh
 . cases h
end En
namespace En
open Go Go.RowKit
def c1I (k : Nat) : ByteArray := ⟨(GX k (0 : UInt8)).toArray⟩
theorem a0W (k : Nat) : (c1I k).size = k := by simp [c1I, ByteArray.size]
theorem b4k (k : Nat) : Jc (c1I k) = (GX k (0 : UInt8)).map u8 := by simp [Jc, c1I, u8]
theorem b2R (k : Nat) (w' : Gc) : (Builtin.firstCells 1 k (.string (c1I k))).run Tryz.prog w' = .ok (Ig (Iv (.int .u8 0)) k) w' := by
 have := Lib.run_firstCells_string (P := Tryz.prog) w' 1 (c1I k)
 rw [a0W] at this
 rw [this]
 congr 1
 rw [b4k]
 apply Array.ext
 . simp [Ig, Iv]
 . intro i h1 h2
   have : i % 1 = 0 := Nat.mod_one i
   simp [Ig, Iv, u8, this]
theorem a9w (w : Gc) (ty : TypeId) (A : Option Addr) (n c k : Nat) (h0 : 0 < k) (hk : n + k <= 1000000) :
 (GM #[22, 3] ty #[.slice A n c, .int .i64 k]).run Tryz.prog w = (GM #[22, 9] ty #[.slice A n c, .string (c1I k)]).run Tryz.prog w := by
 obtain ⟨i0, hi0, hz0, hz1, hz2⟩ := Kb b6s
 have hw : FK.wrap (k : Int) = k := by rw [IntKind.wrap_i64]; omega
 have e5T : ¬ ((k : Int) < 0) := by omega
 have e5U : ¬ (281474976710656 < (k : Int)) := by omega
 have hk0 : k ≠ 0 := by omega
 by_cases a0A : n + k <= c
 . simp [GM, Gp Tryz.underlying22, Gp Tryz.underlying3, Gp Tryz.underlying9, sizeOf, typeInfo, zeroValue, hi0, hz0, hz1, hz2, asInt, asIntOf, hw, e5T, e5U, hk0, IT, a0W, a0A, b2R]
 . have hnc : ¬ (281474976710656 < Builtin.nextslicecap (n + k) c) := by
    have := nextslicecap_le (need := n + k) (old := c) (by omega)
    omega
   have h63 : ¬ (9223372036854775807 < ((n : Int) + (k : Int))) := by omega
   simp [GM, Gp Tryz.underlying22, Gp Tryz.underlying3, Gp Tryz.underlying9, sizeOf, typeInfo, zeroValue, hi0, hz0, hz1, hz2, asInt, asIntOf, hw, e5T, e5U, hk0, IT, a0W, a0A, b2R, hnc, h63]
theorem b9L (ls : List (List UInt8)) (k : Nat) : (ls.take k).flatten.length <= ls.flatten.length := by
 conv => rhs; rw [← List.take_append_drop k ls]
 rw [Lm, FU]
 omega
theorem b4S (ls : List (List UInt8)) (k : Nat) (h : k < ls.length) : (ls.take (k + 1)).flatten = (ls.take k).flatten ++ ls[k] := by
 rw [List.take_succ_eq_append_getElem h, Lm]; simp
set_option maxHeartbeats 400000 in
theorem d6B (A : Option Addr) (n c : Nat) (ls : List (List UInt8)) (w : Gc) (h : IsBB w A n c ls) (hn : ls.flatten.length <= 1000000) :
 IF Tryz.prog 51 #[.slice A n c] w fun e w' => ∃ A' n' c', e = .returned (.slice A' n' c') /\ Own w' w.heap.size 5 A' n' c' (ls.flatten.map u8) /\ Below w.heap.size w w' := by
 obtain ⟨i0, hi0, hz0, hz1, hz2⟩ := Kb b6s
 have e0K : n <= 9223372036854775807 := by have h1 := h.cap; have h2 := h.max; unfold maxLen at h2; omega
 have H := Gx h
 have HI := Gx (Gf hi0 (Gf hz0 (Gf hz1 hz2)))
 clear h hi0 hz0 hz1 hz2
 go_enter Tryz.func51, Tryz.ntmps51
 go_wp2
 go_loopg [3, 8] n (fun g v i wr => ∃ k A' n' c', k <= n /\ g = n - k /\ i = .int .i64 (k : Int) /\ v = .slice A' n' c' /\ Own wr w.heap.size 5 A' n' c' ((ls.take k).flatten.map u8) /\ Below w.heap.size w wr)
 case atStart => exact ⟨0, none, 0, 0, by omega, rfl, rfl, rfl, Own.nil _ _, Below.refl _ _⟩
 case round =>
  obtain ⟨k, A', n', c', hk, hg, rfl, rfl, hown, hb⟩ := hrel
  by_cases hlt : k < n
  . have hl : k < ls.length := by have := H.out.len; omega
    obtain ⟨A2, n2, c2, ⟨b, off, rfl, hc⟩, hr⟩ := H.out.at_ k _ (List.getElem?_eq_getElem hl)
    have hc2 : wr.cell? ⟨b, off + k, none⟩ = some (.slice A2 n2 c2) := by
     rw [hb.cell (p := ⟨b, off + k, none⟩) (World.block_lt_of_cell? w _ hc)]; exact hc
    have hr2 : Rd wr A2 n2 c2 (ls[k].map u8) := hr.below hb
    have hle := b9L ls (k + 1)
    have d7e := b4S ls k hl
    have hn' : n' = (ls.take k).flatten.length := by have := hown.1; rw [Gi] at this; omega
    have hn2 : n2 = ls[k].length := by have := hr2.len; rw [Gi] at this; omega
    have e7k : n' + n2 <= 1000000 := by rw [d7e, FU] at hle; omega
    have Hs := Gx d7e
    have Hn := Gx (Gf hn' hn2)
    clear d7e hle hn' hn2
    go_wp2_with (at_builtin; refine a2w _ rfl (.tmp 12) (.tmp 13) 22 rfl w.heap.size 5 i0 _ 1 Tryz.underlying22 HI.out.1 HI.out.2.1 HI.out.2.2.1 HI.out.2.2.2 rfl A' n' c' _ rfl hown A2 n2 c2 _ rfl hr2 (d4E _) ?_ (by omega) hb.size ?_)
    case _ => omega
    intro A3 c3 w3 d7d hg3 _
    have hb3 := hb.grown hg3 hb.size (hown.block)
    go_wp2
    go_roundg (n - (k + 1))
    case measure => omega
    case rel =>
     refine ⟨k + 1, A3, n' + n2, c3, by omega, rfl, by go_num, rfl, ?_, hb3⟩
     rw [Hs.out]; simpa using d7d
  . go_wp2
    go_ret
    exact ⟨A', n', c', rfl, by have e : k = n := by omega
                               have e2 : ls.take k = ls := List.take_of_length_le (by rw [H.out.len, e]; exact FW _)
                               rw [e2] at hown; exact hown, hb⟩
theorem a9Z (w : Gc) (ty : TypeId) (B : Nat) (A : Option Addr) (n c k : Nat) (xs : List UInt8) (h : Own w B 5 A n c (xs.map u8)) (h0 : 0 < k) (hk : n + k <= 1000000) (hB : B <= w.heap.size) :
 ∃ A' c' w', (GM #[22, 3] ty #[.slice A n c, .int .i64 k]).run Tryz.prog w = .ok (.slice A' (n + k) c') w' /\ Own w' B 5 A' (n + k) c' ((xs ++ GX k 0).map u8) /\ w.grownBy w' (Hr A n c).ownBlock := by
 obtain ⟨i0, hi0, hz0, hz1, hz2⟩ := Kb b6s
 rw [a9w w ty A n c k h0 hk]
 obtain ⟨v', w', h1, h2, h3, _⟩ := Lib.run_append_own_string (P := Tryz.prog) w B 22 9 ty 5 i0 Tryz.underlying22 Tryz.underlying9 hi0 hz0 hz1 hz2 (.slice A n c) n _ h (c1I k) (by rw [a0W]; unfold maxLen; omega) (by rw [a0W]; omega) hB
 rw [a0W] at h2
 obtain ⟨A', c', rfl, h4, _⟩ := Own.form h2
 refine ⟨A', c', w', h1, ?_, h3⟩
 rw [b4k] at h4
 rw [List.map_append]
 exact h4
def a5S (xs : List UInt8) : List UInt8 := (xs ++ [128]) ++ GX ((8 - (xs.length + 1) % 8) % 8) 0
set_option maxHeartbeats 1000000 in
theorem d7q (A : Option Addr) (n c : Nat) (xs : List UInt8) (w : Gc) (h : IsB w A n c xs) (hx : xs.length <= 900000) :
 IF Tryz.prog 97 #[.slice A n c, .int .i64 8] w fun e w' => ∃ A' n' c', e = .returned (.tuple #[.slice A' n' c', .int .i64 0]) /\ Own w' w.heap.size 5 A' n' c' ((a5S xs).map u8) /\ Below w.heap.size w w' := by
 have hl := IsB.len h
 have H := Gx h
 clear h
 go_enter Tryz.func97, Tryz.ntmps97
 have hb0 : Below w.heap.size w (w.alloc (.cells #[.int .u8 128] 5)) := (Below.refl _ _).alloc (FW _) _
 have HJ : Hid (IsBB ((w.alloc (.cells #[.int .u8 128] 5)).alloc (.cells #[.slice A n c, .slice (some ⟨w.heap.size, 0, none⟩) 1 1] 22)) (some ⟨w.heap.size + 1, 0, none⟩) 2 2 [xs, [128]]) := by
  have := IsBB.lit2 (e := 22) (w := w.alloc (.cells #[.int .u8 128] 5)) (A' := some ⟨w.heap.size, 0, none⟩) (n' := 1) (c' := 1) (ys := [128]) (H.out.alloc _) (Own.rd (c7z [.int .u8 128] (FW _) (by simp)))
  refine Gx ?_
  rw [show (w.alloc (.cells #[.int .u8 128] 5)).heap.size = w.heap.size + 1 by simp] at this
  exact this
 have hfl : ([xs, [128]] : List (List UInt8)).flatten = xs ++ [128] := by simp
 have hjl : ([xs, [128]] : List (List UInt8)).flatten.length <= 1000000 := by rw [hfl]; simp; omega
 have HL := Gx (Gf hl hjl)
 have HX := Gx hx
 clear hl hjl hx
 go_wp2_with fail
 refine (d6B _ _ _ [xs, [128]] _ HJ.out HL.out.2).mono ?_
 rintro e w2 ⟨A2, n2, c2, rfl, ho2, hb2⟩
 rw [hfl] at ho2
 have hn2 : n2 = xs.length + 1 := by have := ho2.1; simpa using this.symm
 subst hn2
 have hb3 : Below w.heap.size w w2 := (hb0.alloc (by simp) _).trans (hb2.mono (by simp; omega))
 have ho3 : Own w2 w.heap.size 5 A2 (xs.length + 1) c2 ((xs ++ [128]).map u8) := ho2.base (by simp; omega)
 have HO := Gx (Gf ho3 hb3)
 clear ho2 hb2 hb3 ho3 hb0 HJ
 have hx := HX.out
 by_cases hr : ((xs.length : Int) + 1) % 8 = 0
 . have hm0 : (((xs.length : Int) + 1) % 8 != 0) = false := by rw [hr]; rfl
   go_wp2_with fail
   go_ret2
   refine ⟨A2, _, c2, rfl, ?_, HO.out.2⟩
   have e : a5S xs = xs ++ [128] := by
    unfold a5S
    rw [show (xs.length + 1) % 8 = 0 by omega]
    simp
   rw [e]; exact HO.out.1
 . have hm1 : (((xs.length : Int) + 1) % 8 != 0) = true := by simp; omega
   obtain ⟨k, hk⟩ : ∃ k : Nat, k = 8 - (xs.length + 1) % 8 := ⟨_, rfl⟩
   have hk2 : (8 : Int) - ((xs.length : Int) + 1) % 8 = (k : Int) := by omega
   obtain ⟨A3, c3, w3, r1, r2, r3⟩ := a9Z w2 22 w.heap.size A2 (xs.length + 1) c2 k (xs ++ [128]) HO.out.1 (by omega) (by omega) HO.out.2.size
   rw [← hk2] at r1
   have R := Gx (Gf r2 (Gf r3 hk))
   clear r2 r3 hk hk2
   go_wp2_with (at_builtin; refine Lib.wpList_append_run _ rfl _ _ _ _ rfl _ _ rfl rfl _ _ r1 ?_)
   go_ret2
   refine ⟨A3, _, c3, rfl, ?_, HO.out.2.grown R.out.2.1 HO.out.2.size HO.out.1.block⟩
   have e : a5S xs = (xs ++ [128]) ++ GX k 0 := by
    unfold a5S
    rw [show (8 - (xs.length + 1) % 8) % 8 = k by have := R.out.2.2; omega]
   rw [e]; exact R.out.1
theorem b8z {g : G} {w w' : Gc} {xs : List UInt8} (hb : Below w.heap.size w w') (m : Int) (hm : FK.min <= m /\ m <= FK.max) {A : Option Addr} {n c : Nat} (ho : Own w' w.heap.size 5 A n c (xs.map u8)) :
 ∃ us' g', Ending.returned (.tuple #[.slice A n c, .int .i64 m]) = .returned (S0 us') /\ (∀ E' : Env, RepDs E' g' w' [] [.v (.bytes xs) .no, .v (.int .i64 m) .no] us') /\ PureTr g w g' w' := by
 obtain ⟨us', g', h1, h2, h3⟩ := b0K (g := g) hb ho
 refine ⟨[.slice A n c, .int .i64 m], g', rfl, fun E' => ⟨rfl, fun k y hk => ?_⟩, h3⟩
 have h4 := h2 E'
 match us', h4.1 with
 | [u], _ =>
 injection h1 with h1
 have h1 : Hr A n c = u := h1
 rcases k with _ | _ | k
 . simp at hk; subst hk
   have := h4.2 0 _ rfl
   rw [h1]
   exact this
 . simp at hk; subst hk
   exact .v _ _ _ (.int .i64 m hm) trivial
 . simp at hk
def b4z (N : Nat) (x0 : List UInt8) (x1 : Int) : Option (List UInt8 × Int) := if x1 = 8 /\ x0.length <= 900000 then some (a5S x0, 0) else none
theorem e2n (N : Nat) (x0 : List UInt8) (x1 : Int) (r0 : List UInt8) (r1 : Int) (h : b4z N x0 x1 = some (r0, r1)) : H8 Tryz.prog T 97 [dY x0, dI x1] [dY r0, dI r1] := by
 unfold b4z at h
 split at h
 . rename_i h2
   obtain ⟨rfl, h2⟩ := h2
   injection h with h; injection h with e1 e2; subst e1; subst e2
   intro E g w us hsz hus
   obtain ⟨hl, hr⟩ := hus
   match us, hl with
   | [u, v], _ =>
   have hu := hr 0 _ rfl
   have hv := hr 1 _ rfl
   simp only [GN, Ij] at hu hv
   cases hu with
   | v x a u hu ha =>
   cases hv with
   | v x a v hv ha' =>
   cases hv with
   | int k n hk' =>
   obtain ⟨A, n, c, rfl, hi⟩ := a1l hu
   refine (d7q A n c x0 w hi h2).mono ?_
   rintro e w' ⟨A', n', c', rfl, ho, hb⟩
   exact b8z hb 0 (by decide) ho
 . cases h
end En
end
end Go.Proofs.YtkoilndpfifapaaGreatDoor
