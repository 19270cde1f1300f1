/- Several texts in one. -/
import Derived.Test.YtkoilndpfifapaaGreatDoorZ4
import Derived.Test.YtkoilndpfifapaaGreatDoorZ14
import Derived.Test.YtkoilndpfifapaaGreatDoorZ6
import Derived.Deep.LoopGhost
import Derived.Test.YtkoilndpfifapaaGreatDoorZ2
import Derived.ProofKit
import Derived.OpenShut
import Derived.ChangeOld
import Derived.Below
import Derived.Test.YtkoilndpfifapaaGreatDoorRows
import Derived.ShutString
import Derived.Lib.SmallJoins
import Derived.Test.YtkoilndpfifapaaGreatDoorZ8
import Derived.Test.YtkoilndpfifapaaGreatDoorCards
import Derived.Test.YtkoilndpfifapaaGreatDoorTie
import Derived.Test.YtkoilndpfifapaaGreatDoorZ3
import Derived.Lib.LaidTab
import Derived.LaidMore
import Derived.Handed
import Derived.WideShapes
import Derived.Lay
import Derived.ChangeSame

set_option linter.unusedSimpArgs false
set_option linter.unusedVariables false
set_option linter.unusedSectionVars false
open And renaming intro → Ge
open Bool renaming and_true → GB, and_self → GO, not_true → GN, not_false → GQ, and_eq_true → FS
open Eq renaming trans → Gr
open Go renaming World → Gb, Value → FW, Calls → IE, heap_alloc_new → He, cell_of_row → Gz, frozen_of_row → IA, TypeId → FP, Field → Ks, Program → Gt, DataW → LS, MemPlace → Ld
open Go.DataW renaming trod → LF, trod_int → Kc, trod_slice → Mb, Trod → OW
open Go.IntKind renaming i64 → FK
open Go.Lib renaming hid → Gw, tabData → Km, asciiSpaceTab → Jr, pow10Tab → KD
open Go.Value renaming int → Ia, slice → Hq, bool → KB, okWide → LU
open Go.World renaming cells?_some → Kk, cell? → Ke, var? → LC, laidAll → Lx
open List renaming getElem?_eq_some_iff → FN, mem_of_getElem? → Ga, mem_cons → GG, mem_cons_self → IN, any_eq_true → KA, getElem?_of_mem → Ic, getElem?_append_left → Gg, mem_flatMap → Kw, length_map → Gh, mem_map → IQ, getElem?_map → Gm, getElem?_eq_getElem → FQ, getD_eq_getElem?_getD → FU, getElem?_append_right → Gj, all_eq_true → Hf, flatten_cons → Kl
open Nat renaming not_lt_zero → Ir, le_refl → FV, lt_or_ge → Hh, mul_comm → LQ, le_trans → IK, zero_le → Hp, add_assoc → Ht, beq → FY, succ_mul → LR, eq_of_beq_eq_true → FM
open Option renaming bind_eq_some_iff → II, bind_some → GU
open Option.some renaming inj → It
namespace Go.Proofs.YtkoilndpfifapaaGreatDoor
noncomputable section
namespace En
open Go Go.Proofs
set_option maxRecDepth 100000
set_option maxHeartbeats 8000000
def U9 {R : Type} (N : Nat) (w l1 : LB) (Lq : Int -> Option R) (K0 : Int -> Option R) (K1 : Option R) (d : Int) : Option R := br (decide (d < (w.length : Int))) (br (decide (d < (l1.length : Int))) (br (decide (0 <= d) && decide (d < (w.length : Int))) (at? w d.toNat fun u0 => br (decide (0 <= d) && decide (d < (l1.length : Int))) (at? l1 d.toNat fun u1 => br (decide ((u0.toNat : Int) < (u1.toNat : Int))) (K0 (-1)) (br (decide (0 <= d) && decide (d < (w.length : Int))) (at? w d.toNat fun u2 => br (decide (0 <= d) && decide (d < (l1.length : Int))) (at? l1 d.toNat fun u3 => br (decide ((u3.toNat : Int) < (u2.toNat : Int))) (K0 1) (Lq (FK.wrap (d + 1)))) none) none)) none) none) K1) K1
def U6 {R : Type} (N : Nat) (w l1 : LB) : Nat -> Int -> (Int -> Option R) -> (Option R) -> Option R | 0, _, _, _ => none | t + 1, d, K0, K1 => U9 N w l1 (fun d => U6 N w l1 t d K0 K1) K0 K1 d
def a5x {R : Type} (N : Nat) (ds : List D) (m : Mem) (K : Ex -> List D -> Mem -> Option R) : Option R :=
 match ds, m with
 | [(.v (.bytes w) .no), (.v (.bytes l1) .no), (.v (.int .i64 d) .no)], [[]] => U6 N w l1 N d (fun a2 => K .ret [(.v (.bytes w) .no), (.v (.bytes l1) .no), (.v (.int .i64 a2) .no)] [[]]) (K (.exit 0) [(.v (.bytes w) .no), (.v (.bytes l1) .no), .any] [[]])
 | _, _ => none
def a0Q (N : Nat) (f x1 : LB) : Option (Int) := U6 N f x1 N 0 (fun j => some j) (br (decide ((f.length : Int) < (x1.length : Int))) (some (-1)) (br (decide ((x1.length : Int) < (f.length : Int))) (some 1) (some 0)))
def b3A (N : Nat) : Cx := cl [] [] [⟨2, [0, 1, 5], [0, 1, 4], a5x N⟩]
theorem b7U (N : Nat) : p9 (b3A N) 46 (s4 Tryz.f10 0) := by
 refine j7 (rid := 2) (by kernel_rfl) rfl rfl fun R ds m K r h => ?_
 change a5x N ds m K = _ at h
 unfold a5x at h
 split at h
 . rename_i w l1 d
   exact ⟨N, Gr (lpI (fun (e : (Int -> Option R) × (Option R)) L (s : Int) => U9 N w l1 (fun d => L d) e.1 e.2 s) (fun e t s => U6 N w l1 t s e.1 e.2) (fun s => [(.v (.bytes w) .no), (.v (.bytes l1) .no), (.v (.int .i64 s) .no)]) (fun s => [[]]) (fun _ _ => rfl) (fun _ _ _ => rfl) (e := (_, _)) (fun L s => by kernel_rfl) N d) h⟩
 . cases h
def b6B (N : Nat) : Ent := pE 10 (.v .y (.v .y .z)) (.v fI .z) (a0Q N)
theorem b6Y (N : Nat) : POK Tryz.prog T 10 (.v .y (.v .y .z)) (.v fI .z) (a0Q N) := pok (cx := b3A N) fo (D4 trivial trivial) (j6 (k := 1) (by kernel_rfl) ⟨trivial, b7U N⟩) Tryz.func10 (by kernel_rfl) rfl fun h => by kernel_rfl
theorem c6k (N : Nat) : EO (b6B N) := a1E (gz Tryz.func10 (by kernel_rfl)) rfl (b6Y N)
theorem b5Z (N : Nat) (f x1 : LB) (r0 : Int) (h : a0Q N f x1 = some r0) : PRT 10 [dY f, dY x1] [dI r0] := b6Y N (f, x1, ()) r0 h
def a6u (N : Nat) (f x1 : LB) : Option (Bool) := j3 (a0Q N f x1) fun j => some (decide (j = 0))
def d2K (N : Nat) : Cx := cz [b6B N] []
def c8M (N : Nat) : Ent := pE 16 (.v .y (.v .y .z)) (.v .b .z) (a6u N)
theorem d2W (N : Nat) : EO (c8M N) := pk0 (cx := d2K N) (A9 ⟨c6k N, trivial⟩ trivial) Tryz.func16 (by kernel_rfl) fun h => by kernel_rfl
def a2t {R : Type} (N : Nat) (Aa Ab : List V) (Lq : Int -> Option R) (K0 : Bool -> Option R) (K1 : Option R) (d : Int) : Option R := br (decide (d < (Aa.length : Int))) (br (decide (0 <= d) && decide (d < (Aa.length : Int))) (at? Aa d.toNat fun f => V.unInt FK f fun u => br (decide (0 <= d) && decide (d < (Ab.length : Int))) (at? Ab d.toNat fun x2 => V.unInt FK x2 fun i => br (!decide (u = i)) (K0 false) (Lq (FK.wrap (d + 1)))) none) none) K1
def a3n {R : Type} (N : Nat) (Aa Ab : List V) : Nat -> Int -> (Bool -> Option R) -> (Option R) -> Option R | 0, _, _, _ => none | t + 1, d, K0, K1 => a2t N Aa Ab (fun d => a3n N Aa Ab t d K0 K1) K0 K1 d
def b2x {R : Type} (N : Nat) (ds : List D) (m : Mem) (K : Ex -> List D -> Mem -> Option R) : Option R :=
 match ds, m with
 | [(.v (.sl 3 Aa) .no), (.v (.sl 3 Ab) .no), (.v (.int .i64 d) .no)], [[]] => a3n N Aa Ab N d (fun a0 => K .ret [(.v (.bool a0) .no)] [[]]) (K (.exit 0) [.any] [[]])
 | _, _ => none
def b4I (N : Nat) (f x1 : List V) : Option (Bool) := br (!decide ((f.length : Int) = (x1.length : Int))) (some false) (a3n N f x1 N 0 (fun b0 => some b0) (some true))
def c8i (N : Nat) : Cx := cl [] [] [⟨4, [0, 1, 5], [4], b2x N⟩]
theorem d1k (N : Nat) : p9 (c8i N) 26 (s4 Tryz.f38 0) := by
 refine j7 (rid := 4) (by kernel_rfl) rfl rfl fun R ds m K r h => ?_
 change b2x N ds m K = _ at h
 unfold b2x at h
 split at h
 . rename_i Aa Ab d
   exact ⟨N, Gr (lpI (fun (e : (Bool -> Option R) × (Option R)) L (s : Int) => a2t N Aa Ab (fun d => L d) e.1 e.2 s) (fun e t s => a3n N Aa Ab t s e.1 e.2) (fun s => [(.v (.sl 3 Aa) .no), (.v (.sl 3 Ab) .no), (.v (.int .i64 s) .no)]) (fun s => [[]]) (fun _ _ => rfl) (fun _ _ _ => rfl) (e := (_, _)) (fun L s => by kernel_rfl) N d) h⟩
 . cases h
def d3D (N : Nat) : Ent := pE 38 (.v (.l 3) (.v (.l 3) .z)) (.v .b .z) (b4I N)
theorem e2e (N : Nat) : EO (d3D N) := pk (cx := c8i N) (D4 trivial trivial) Tryz.func38 (j6 (k := 1) (by kernel_rfl) ⟨trivial, d1k N⟩) (by kernel_rfl) fun h => by kernel_rfl
def a0e {R : Type} (N : Nat) (Aa Ab : List V) (Lq : Int -> Option R) (K0 : Bool -> Option R) (K1 : Option R) (d : Int) : Option R := br (decide (d < (Aa.length : Int))) (br (decide (0 <= d) && decide (d < (Aa.length : Int))) (at? Aa d.toNat fun f => f.unAgg fun l1 => e9 l1 fun x2 l3 => V.unInt FK x2 fun x => e9 l3 fun x5 l6 => V.unInt FK x5 fun n7 => e9 l6 fun x8 l9 => V.unInt FK x8 fun na => D2 l9 (br (decide (0 <= d) && decide (d < (Ab.length : Int))) (at? Ab d.toNat fun xb => xb.unAgg fun Ax => e9 Ax fun xd AL => V.unInt FK xd fun nf => e9 AL fun xg lh => V.unInt FK xg fun ni => e9 lh fun xj lk => V.unInt FK xj fun Aw => D2 lk (br (!(decide (x = nf) && (decide (n7 = ni) && (decide (na = Aw) && true) && true))) (K0 false) (Lq (FK.wrap (d + 1))))) none)) none) K1
def X6 {R : Type} (N : Nat) (Aa Ab : List V) : Nat -> Int -> (Bool -> Option R) -> (Option R) -> Option R | 0, _, _, _ => none | t + 1, d, K0, K1 => a0e N Aa Ab (fun d => X6 N Aa Ab t d K0 K1) K0 K1 d
def a7d {R : Type} (N : Nat) (ds : List D) (m : Mem) (K : Ex -> List D -> Mem -> Option R) : Option R :=
 match ds, m with
 | [(.v (.sl 44 Aa) .no), (.v (.sl 44 Ab) .no), (.v (.int .i64 d) .no)], [[]] => X6 N Aa Ab N d (fun a0 => K .ret [(.v (.bool a0) .no)] [[]]) (K (.exit 0) [.any] [[]])
 | _, _ => none
def a2L (N : Nat) (f x1 : List V) : Option (Bool) := br (!decide ((f.length : Int) = (x1.length : Int))) (some false) (X6 N f x1 N 0 (fun b0 => some b0) (some true))
def b6m (N : Nat) : Cx := cl [] [] [⟨4, [0, 1, 5], [4], a7d N⟩]
theorem c2Y (N : Nat) : p9 (b6m N) 26 (s4 Tryz.f17 0) := by
 refine j7 (rid := 4) (by kernel_rfl) rfl rfl fun R ds m K r h => ?_
 change a7d N ds m K = _ at h
 unfold a7d at h
 split at h
 . rename_i Aa Ab d
   exact ⟨N, Gr (lpI (fun (e : (Bool -> Option R) × (Option R)) L (s : Int) => a0e N Aa Ab (fun d => L d) e.1 e.2 s) (fun e t s => X6 N Aa Ab t s e.1 e.2) (fun s => [(.v (.sl 44 Aa) .no), (.v (.sl 44 Ab) .no), (.v (.int .i64 s) .no)]) (fun s => [[]]) (fun _ _ => rfl) (fun _ _ _ => rfl) (e := (_, _)) (fun L s => by kernel_rfl) N d) h⟩
 . cases h
def a8x (N : Nat) : Ent := pE 17 (.v (.l 44) (.v (.l 44) .z)) (.v .b .z) (a2L N)
theorem b0n (N : Nat) : EO (a8x N) := pk (cx := b6m N) (D4 trivial trivial) Tryz.func17 (j6 (k := 1) (by kernel_rfl) ⟨trivial, c2Y N⟩) (by kernel_rfl) fun h => by kernel_rfl
def Z1 {R : Type} (N : Nat) (u d : Int) (b3 : Bool) (Ah Ai Ac Ad : List V) (n8 n9 : Int) (AA : Bool) (Au An Ao Ak : List V) (Lq : Int -> Option R) (K0 : Bool -> Option R) (K1 : Option R) (j : Int) : Option R := br (decide (j < (Ah.length : Int))) (br (decide (0 <= j) && decide (j < (Ah.length : Int))) (at? Ah j.toNat fun f => f.unAgg fun l1 => e9 l1 fun x2 l3 => V.unInt FK x2 fun x => e9 l3 fun x5 l6 => V.unInt FK x5 fun n7 => D2 l6 (br (decide (0 <= j) && decide (j < (Au.length : Int))) (at? Au j.toNat fun x8 => x8.unAgg fun l9 => e9 l9 fun xa Ay => V.unInt FK xa fun nc => e9 Ay fun xd AL => V.unInt FK xd fun nf => D2 AL (br (!(decide (x = nc) && (decide (n7 = nf) && true))) (K0 false) (Lq (FK.wrap (j + 1))))) none)) none) K1
def Z6 {R : Type} (N : Nat) (u d : Int) (b3 : Bool) (Ah Ai Ac Ad : List V) (n8 n9 : Int) (AA : Bool) (Au An Ao Ak : List V) : Nat -> Int -> (Bool -> Option R) -> (Option R) -> Option R | 0, _, _, _ => none | t + 1, j, K0, K1 => Z1 N u d b3 Ah Ai Ac Ad n8 n9 AA Au An Ao Ak (fun j => Z6 N u d b3 Ah Ai Ac Ad n8 n9 AA Au An Ao Ak t j K0 K1) K0 K1 j
def a7P {R : Type} (N : Nat) (ds : List D) (m : Mem) (K : Ex -> List D -> Mem -> Option R) : Option R :=
 match ds, m with
 | [(.ptr 0 2 0), (.ptr 0 3 0), (.v (.int .i64 j) .no)], c3X u d b3 Ah Ai Ac Ad n8 n9 AA Au An Ao Ak => Z6 N u d b3 Ah Ai Ac Ad n8 n9 AA Au An Ao Ak N j (fun a0 => K .ret [(.ptr 0 2 0), (.ptr 0 3 0), (.v (.bool a0) .no)] (c3X u d b3 Ah Ai Ac Ad n8 n9 AA Au An Ao Ak)) (K (.exit 0) [(.ptr 0 2 0), (.ptr 0 3 0), .any] (c3X u d b3 Ah Ai Ac Ad n8 n9 AA Au An Ao Ak))
 | _, _ => none
def Y6 {R : Type} (N : Nat) (u d : Int) (b3 : Bool) (Ah Ai Ac Ad : List V) (n8 n9 : Int) (AA : Bool) (Au An Ao Ak : List V) (Lq : Int -> Option R) (K0 : Bool -> Option R) (K1 : Option R) (j : Int) : Option R := br (decide (j < (Ad.length : Int))) (br (decide (0 <= j) && decide (j < (Ad.length : Int))) (at? Ad j.toNat fun f => f.unAgg fun l1 => e9 l1 fun x2 l3 => V.unInt FK x2 fun x => e9 l3 fun x5 l6 => V.unInt FK x5 fun n7 => e9 l6 fun x8 l9 => V.unSl 3 x8 fun la => D2 l9 (br (decide (0 <= j) && decide (j < (Ak.length : Int))) (at? Ak j.toNat fun xb => xb.unAgg fun Ax => e9 Ax fun xd AL => V.unInt FK xd fun nf => e9 AL fun xg lh => V.unInt FK xg fun ni => e9 lh fun xj lk => V.unSl 3 xj fun ll => D2 lk (br (!(decide (x = nf) && (decide (n7 = ni) && true))) (K0 false) (br (decide (0 <= j) && decide (j < (Ad.length : Int))) (at? Ad j.toNat fun xm => xm.unAgg fun ln => e9 ln fun xo AX => V.unInt FK xo fun AK => e9 AX fun xr Ba => V.unInt FK xr fun nt => e9 Ba fun xu AU => V.unSl 3 xu fun Bl => D2 AU (br (decide (0 <= j) && decide (j < (Ak.length : Int))) (at? Ak j.toNat fun xx => xx.unAgg fun ly => e9 ly fun xz Bd => V.unInt FK xz fun FJ => e9 Bd fun BM AY => V.unInt FK BM fun CP => e9 AY fun BN AZ => V.unSl 3 BN fun CM => D2 AZ (j3 (b4I N Bl CM) fun EK => br (!EK) (K0 false) (Lq (FK.wrap (j + 1))))) none)) none))) none)) none) K1
def Z8 {R : Type} (N : Nat) (u d : Int) (b3 : Bool) (Ah Ai Ac Ad : List V) (n8 n9 : Int) (AA : Bool) (Au An Ao Ak : List V) : Nat -> Int -> (Bool -> Option R) -> (Option R) -> Option R | 0, _, _, _ => none | t + 1, j, K0, K1 => Y6 N u d b3 Ah Ai Ac Ad n8 n9 AA Au An Ao Ak (fun j => Z8 N u d b3 Ah Ai Ac Ad n8 n9 AA Au An Ao Ak t j K0 K1) K0 K1 j
def a7e {R : Type} (N : Nat) (ds : List D) (m : Mem) (K : Ex -> List D -> Mem -> Option R) : Option R :=
 match ds, m with
 | [(.ptr 0 2 0), (.ptr 0 3 0), (.v (.int .i64 j) .no)], c3X u d b3 Ah Ai Ac Ad n8 n9 AA Au An Ao Ak => Z8 N u d b3 Ah Ai Ac Ad n8 n9 AA Au An Ao Ak N j (fun a0 => K .ret [(.ptr 0 2 0), (.ptr 0 3 0), (.v (.bool a0) .no)] (c3X u d b3 Ah Ai Ac Ad n8 n9 AA Au An Ao Ak)) (K (.exit 2) [(.ptr 0 2 0), (.ptr 0 3 0), .any] (c3X u d b3 Ah Ai Ac Ad n8 n9 AA Au An Ao Ak))
 | _, _ => none
def a9f (N : Nat) (f x1 : Int) (x2 : Bool) (x3 x4 x5 x6 : List V) (x7 x8 : Int) (x9 : Bool) (xa xb xc xd : List V) : Option (Bool) := br (!(decide (f = x7) && (decide (x1 = x8) && true))) (some false) (br (!x2 == x9) (some false) (br (!decide ((x3.length : Int) = (xa.length : Int))) (some false) (j3 (a2L N x4 xb) fun b0 => br (!b0) (some false) (j3 (b4I N x5 xc) fun b1 => br (!b1) (some false) (br (!decide ((x6.length : Int) = (xd.length : Int))) (some false) (Z6 N f x1 x2 x3 x4 x5 x6 x7 x8 x9 xa xb xc xd N 0 (fun b2 => some b2) (Z8 N f x1 x2 x3 x4 x5 x6 x7 x8 x9 xa xb xc xd N 0 (fun b3 => some b3) (some true))))))))
def b0i (N : Nat) : Cx := cl [a8x N, d3D N] [] [⟨4, [2, 3, 5], [2, 3, 4], a7P N⟩, ⟨9, [2, 3, 6], [2, 3, 4], a7e N⟩]
theorem c2F (N : Nat) : p9 (b0i N) 107 (s4 Tryz.f18 0) := by
 refine j7 (rid := 4) (by kernel_rfl) rfl rfl fun R ds m K r h => ?_
 change a7P N ds m K = _ at h
 unfold a7P at h
 split at h
 . rename_i j u d b3 Ah Ai Ac Ad n8 n9 AA Au An Ao Ak
   exact ⟨N, Gr (lpI (fun (e : (Bool -> Option R) × (Option R)) L (s : Int) => Z1 N u d b3 Ah Ai Ac Ad n8 n9 AA Au An Ao Ak (fun j => L j) e.1 e.2 s) (fun e t s => Z6 N u d b3 Ah Ai Ac Ad n8 n9 AA Au An Ao Ak t s e.1 e.2) (fun s => [(.ptr 0 2 0), (.ptr 0 3 0), (.v (.int .i64 s) .no)]) (fun s => c3X u d b3 Ah Ai Ac Ad n8 n9 AA Au An Ao Ak) (fun _ _ => rfl) (fun _ _ _ => rfl) (e := (_, _)) (fun L s => by kernel_rfl) N j) h⟩
 . cases h
theorem c1W (N : Nat) : p9 (b0i N) 107 (s4 Tryz.f18 1) := by
 refine j7 (rid := 9) (by kernel_rfl) rfl rfl fun R ds m K r h => ?_
 change a7e N ds m K = _ at h
 unfold a7e at h
 split at h
 . rename_i j u d b3 Ah Ai Ac Ad n8 n9 AA Au An Ao Ak
   exact ⟨N, Gr (lpI (fun (e : (Bool -> Option R) × (Option R)) L (s : Int) => Y6 N u d b3 Ah Ai Ac Ad n8 n9 AA Au An Ao Ak (fun j => L j) e.1 e.2 s) (fun e t s => Z8 N u d b3 Ah Ai Ac Ad n8 n9 AA Au An Ao Ak t s e.1 e.2) (fun s => [(.ptr 0 2 0), (.ptr 0 3 0), (.v (.int .i64 s) .no)]) (fun s => c3X u d b3 Ah Ai Ac Ad n8 n9 AA Au An Ao Ak) (fun _ _ => rfl) (fun _ _ _ => rfl) (e := (_, _)) (fun L s => by kernel_rfl) N j) h⟩
 . cases h
def c0I (N : Nat) : Ent := pE 18 e7q (.v .b .z) (a9f N)
theorem d1m (N : Nat) : EO (c0I N) := pk (cx := b0i N) (D4 ⟨b0n N, e2e N, trivial⟩ trivial) Tryz.func18 (j6 (k := 2) (by kernel_rfl) ⟨⟨trivial, c2F N⟩, c1W N⟩) (by kernel_rfl) fun h => by kernel_rfl
def U0 {R : Type} (N : Nat) (b1 b2 : Bool) (i : Int) (Ah : List V) (O n6 n7 n8 n9 : Int) (Ag Au : List V) (bc bd : Bool) (Af : Int) (Am : List V) (ng nh ni nj nk : Int) (Az AH : List V) (Lq : Int -> Option R) (K0 : Bool -> Option R) (K1 : Option R) (j : Int) : Option R := br (decide (j < (Ag.length : Int))) (br (decide (0 <= j) && decide (j < (Ag.length : Int))) (at? Ag j.toNat fun f => f.unAgg fun l1 => e9 l1 fun x2 l3 => V.unInt FK x2 fun x => e9 l3 fun x5 l6 => V.unInt FK x5 fun n7 => e9 l6 fun x8 l9 => V.unInt FK x8 fun na => e9 l9 fun xb Ax => V.unInt FK xb fun nd => D2 Ax (br (decide (0 <= j) && decide (j < (Az.length : Int))) (at? Az j.toNat fun xe => xe.unAgg fun AC => e9 AC fun xg lh => V.unInt FK xg fun ni => e9 lh fun xj lk => V.unInt FK xj fun Aw => e9 lk fun xm ln => V.unInt FK xm fun AD => e9 ln fun xp AT => V.unInt FK xp fun nr => D2 AT (br (!(decide (x = ni) && (decide (n7 = Aw) && (decide (na = AD) && (decide (nd = nr) && true))))) (K0 false) (Lq (FK.wrap (j + 1))))) none)) none) K1
def U2 {R : Type} (N : Nat) (b1 b2 : Bool) (i : Int) (Ah : List V) (O n6 n7 n8 n9 : Int) (Ag Au : List V) (bc bd : Bool) (Af : Int) (Am : List V) (ng nh ni nj nk : Int) (Az AH : List V) : Nat -> Int -> (Bool -> Option R) -> (Option R) -> Option R | 0, _, _, _ => none | t + 1, j, K0, K1 => U0 N b1 b2 i Ah O n6 n7 n8 n9 Ag Au bc bd Af Am ng nh ni nj nk Az AH (fun j => U2 N b1 b2 i Ah O n6 n7 n8 n9 Ag Au bc bd Af Am ng nh ni nj nk Az AH t j K0 K1) K0 K1 j
def a5e {R : Type} (N : Nat) (ds : List D) (m : Mem) (K : Ex -> List D -> Mem -> Option R) : Option R :=
 match ds, m with
 | [(.ptr 0 2 0), (.ptr 0 3 0), (.v (.int .i64 j) .no)], c2G b1 b2 i Ah O n6 n7 n8 n9 Ag Au bc bd Af Am ng nh ni nj nk Az AH => U2 N b1 b2 i Ah O n6 n7 n8 n9 Ag Au bc bd Af Am ng nh ni nj nk Az AH N j (fun a0 => K .ret [(.ptr 0 2 0), (.ptr 0 3 0), (.v (.bool a0) .no)] (c2G b1 b2 i Ah O n6 n7 n8 n9 Ag Au bc bd Af Am ng nh ni nj nk Az AH)) (K (.exit 0) [(.ptr 0 2 0), (.ptr 0 3 0), .any] (c2G b1 b2 i Ah O n6 n7 n8 n9 Ag Au bc bd Af Am ng nh ni nj nk Az AH))
 | _, _ => none
def V1 {R : Type} (N : Nat) (b1 b2 : Bool) (i : Int) (Ah : List V) (O n6 n7 n8 n9 : Int) (Ag Au : List V) (bc bd : Bool) (Af : Int) (Am : List V) (ng nh ni nj nk : Int) (Az AH : List V) (Lq : Int -> Option R) (K0 : Bool -> Option R) (K1 : Option R) (j : Int) : Option R := br (decide (j < (Au.length : Int))) (br (decide (0 <= j) && decide (j < (Au.length : Int))) (at? Au j.toNat fun f => f.unAgg fun l1 => e9 l1 fun x2 l3 => V.unInt FK x2 fun x => e9 l3 fun x5 l6 => V.unInt FK x5 fun n7 => e9 l6 fun x8 l9 => V.unInt FK x8 fun na => e9 l9 fun xb Ax => V.unInt FK xb fun nd => D2 Ax (br (decide (0 <= j) && decide (j < (AH.length : Int))) (at? AH j.toNat fun xe => xe.unAgg fun AC => e9 AC fun xg lh => V.unInt FK xg fun ni => e9 lh fun xj lk => V.unInt FK xj fun Aw => e9 lk fun xm ln => V.unInt FK xm fun AD => e9 ln fun xp AT => V.unInt FK xp fun nr => D2 AT (br (!(decide (x = ni) && (decide (n7 = Aw) && (decide (na = AD) && (decide (nd = nr) && true))))) (K0 false) (Lq (FK.wrap (j + 1))))) none)) none) K1
def U5 {R : Type} (N : Nat) (b1 b2 : Bool) (i : Int) (Ah : List V) (O n6 n7 n8 n9 : Int) (Ag Au : List V) (bc bd : Bool) (Af : Int) (Am : List V) (ng nh ni nj nk : Int) (Az AH : List V) : Nat -> Int -> (Bool -> Option R) -> (Option R) -> Option R | 0, _, _, _ => none | t + 1, j, K0, K1 => V1 N b1 b2 i Ah O n6 n7 n8 n9 Ag Au bc bd Af Am ng nh ni nj nk Az AH (fun j => U5 N b1 b2 i Ah O n6 n7 n8 n9 Ag Au bc bd Af Am ng nh ni nj nk Az AH t j K0 K1) K0 K1 j
def a5u {R : Type} (N : Nat) (ds : List D) (m : Mem) (K : Ex -> List D -> Mem -> Option R) : Option R :=
 match ds, m with
 | [(.ptr 0 2 0), (.ptr 0 3 0), (.v (.int .i64 j) .no)], c2G b1 b2 i Ah O n6 n7 n8 n9 Ag Au bc bd Af Am ng nh ni nj nk Az AH => U5 N b1 b2 i Ah O n6 n7 n8 n9 Ag Au bc bd Af Am ng nh ni nj nk Az AH N j (fun a0 => K .ret [(.ptr 0 2 0), (.ptr 0 3 0), (.v (.bool a0) .no)] (c2G b1 b2 i Ah O n6 n7 n8 n9 Ag Au bc bd Af Am ng nh ni nj nk Az AH)) (K (.exit 2) [(.ptr 0 2 0), (.ptr 0 3 0), .any] (c2G b1 b2 i Ah O n6 n7 n8 n9 Ag Au bc bd Af Am ng nh ni nj nk Az AH))
 | _, _ => none
def a6m (N : Nat) (f x1 : Bool) (x2 : Int) (x3 : List V) (x4 x5 x6 x7 x8 : Int) (x9 xa : List V) (xb xc : Bool) (xd : Int) (xe : List V) (xf xg xh xi xj : Int) (xk xl : List V) : Option (Bool) := br (!f == xb) (some false) (br (!x1 == xc) (some false) (br (!decide (x2 = xd)) (some false) (j3 (a2L N x3 xe) fun b0 => br (!b0) (some false) (br (!(decide (x4 = xf) && (decide (x5 = xg) && (decide (x6 = xh) && true) && true))) (some false) (br (!decide (x7 = xi)) (some false) (br (!decide (x8 = xj)) (some false) (br (!decide ((x9.length : Int) = (xk.length : Int))) (some false) (br (!decide ((xa.length : Int) = (xl.length : Int))) (some false) (U2 N f x1 x2 x3 x4 x5 x6 x7 x8 x9 xa xb xc xd xe xf xg xh xi xj xk xl N 0 (fun b1 => some b1) (U5 N f x1 x2 x3 x4 x5 x6 x7 x8 x9 xa xb xc xd xe xf xg xh xi xj xk xl N 0 (fun b2 => some b2) (some true)))))))))))
def a7H (N : Nat) : Cx := cl [a8x N] [] [⟨4, [2, 3, 5], [2, 3, 4], a5e N⟩, ⟨9, [2, 3, 6], [2, 3, 4], a5u N⟩]
theorem b8j (N : Nat) : p9 (a7H N) 109 (s4 Tryz.f19 0) := by
 refine j7 (rid := 4) (by kernel_rfl) rfl rfl fun R ds m K r h => ?_
 change a5e N ds m K = _ at h
 unfold a5e at h
 split at h
 . rename_i j b1 b2 i Ah O n6 n7 n8 n9 Ag Au bc bd Af Am ng nh ni nj nk Az AH
   exact ⟨N, Gr (lpI (fun (e : (Bool -> Option R) × (Option R)) L (s : Int) => U0 N b1 b2 i Ah O n6 n7 n8 n9 Ag Au bc bd Af Am ng nh ni nj nk Az AH (fun j => L j) e.1 e.2 s) (fun e t s => U2 N b1 b2 i Ah O n6 n7 n8 n9 Ag Au bc bd Af Am ng nh ni nj nk Az AH t s e.1 e.2) (fun s => [(.ptr 0 2 0), (.ptr 0 3 0), (.v (.int .i64 s) .no)]) (fun s => c2G b1 b2 i Ah O n6 n7 n8 n9 Ag Au bc bd Af Am ng nh ni nj nk Az AH) (fun _ _ => rfl) (fun _ _ _ => rfl) (e := (_, _)) (fun L s => by kernel_rfl) N j) h⟩
 . cases h
theorem b7N (N : Nat) : p9 (a7H N) 109 (s4 Tryz.f19 1) := by
 refine j7 (rid := 9) (by kernel_rfl) rfl rfl fun R ds m K r h => ?_
 change a5u N ds m K = _ at h
 unfold a5u at h
 split at h
 . rename_i j b1 b2 i Ah O n6 n7 n8 n9 Ag Au bc bd Af Am ng nh ni nj nk Az AH
   exact ⟨N, Gr (lpI (fun (e : (Bool -> Option R) × (Option R)) L (s : Int) => V1 N b1 b2 i Ah O n6 n7 n8 n9 Ag Au bc bd Af Am ng nh ni nj nk Az AH (fun j => L j) e.1 e.2 s) (fun e t s => U5 N b1 b2 i Ah O n6 n7 n8 n9 Ag Au bc bd Af Am ng nh ni nj nk Az AH t s e.1 e.2) (fun s => [(.ptr 0 2 0), (.ptr 0 3 0), (.v (.int .i64 s) .no)]) (fun s => c2G b1 b2 i Ah O n6 n7 n8 n9 Ag Au bc bd Af Am ng nh ni nj nk Az AH) (fun _ _ => rfl) (fun _ _ _ => rfl) (e := (_, _)) (fun L s => by kernel_rfl) N j) h⟩
 . cases h
def b7k (N : Nat) : Ent := pE 19 e7W (.v .b .z) (a6m N)
theorem c6N (N : Nat) : EO (b7k N) := pk (cx := a7H N) (D4 ⟨b0n N, trivial⟩ trivial) Tryz.func19 (j6 (k := 2) (by kernel_rfl) ⟨⟨trivial, b8j N⟩, b7N N⟩) (by kernel_rfl) fun h => by kernel_rfl
def a0T {R : Type} (N : Nat) (l1 : LB) (d i : Int) (Ah Ai Ac Ad Ae : List V) (l9 : LB) (na nb : Int) (An Ao Ak Am Ar : List V) (Lq : Int -> Option R) (K0 : Bool -> Option R) (K1 : Option R) (j : Int) : Option R := br (decide (j < (Ah.length : Int))) (br (decide (0 <= j) && decide (j < (Ah.length : Int))) (at? Ah j.toNat fun f => f.unAgg fun l1 => e9 l1 fun x2 l3 => x2.unBytes fun l4 => e9 l3 fun x5 l6 => V.unInt FK x5 fun n7 => e9 l6 fun x8 l9 => V.unInt FK x8 fun na => D2 l9 (br (decide (0 <= j) && decide (j < (An.length : Int))) (at? An j.toNat fun xb => xb.unAgg fun Ax => e9 Ax fun xd AL => xd.unBytes fun AC => e9 AL fun xg lh => V.unInt FK xg fun ni => e9 lh fun xj lk => V.unInt FK xj fun Aw => D2 lk (j3 (a6u N l4 AC) fun CC => br (!CC) (K0 false) (br (!decide (n7 = ni)) (K0 false) (br (!decide (na = Aw)) (K0 false) (Lq (FK.wrap (j + 1))))))) none)) none) K1
def a1a {R : Type} (N : Nat) (l1 : LB) (d i : Int) (Ah Ai Ac Ad Ae : List V) (l9 : LB) (na nb : Int) (An Ao Ak Am Ar : List V) : Nat -> Int -> (Bool -> Option R) -> (Option R) -> Option R | 0, _, _, _ => none | t + 1, j, K0, K1 => a0T N l1 d i Ah Ai Ac Ad Ae l9 na nb An Ao Ak Am Ar (fun j => a1a N l1 d i Ah Ai Ac Ad Ae l9 na nb An Ao Ak Am Ar t j K0 K1) K0 K1 j
def a9V {R : Type} (N : Nat) (ds : List D) (m : Mem) (K : Ex -> List D -> Mem -> Option R) : Option R :=
 match ds, m with
 | [(.ptr 0 2 0), (.ptr 0 3 0), (.v (.int .i64 j) .no), .any, .any], a6J l1 d i Ah Ai Ac Ad Ae l9 na nb An Ao Ak Am Ar => a1a N l1 d i Ah Ai Ac Ad Ae l9 na nb An Ao Ak Am Ar N j (fun a0 => K .ret [(.ptr 0 2 0), (.ptr 0 3 0), (.v (.bool a0) .no), .any, .any] (a6J l1 d i Ah Ai Ac Ad Ae l9 na nb An Ao Ak Am Ar)) (K (.exit 0) [(.ptr 0 2 0), (.ptr 0 3 0), .any, .any, .any] (a6J l1 d i Ah Ai Ac Ad Ae l9 na nb An Ao Ak Am Ar))
 | _, _ => none
def Y0 {R : Type} (N : Nat) (l1 : LB) (d i : Int) (Ah Ai Ac Ad Ae : List V) (l9 : LB) (na nb : Int) (An Ao Ak Am Ar : List V) (Lq : Int -> Option R) (K0 : Bool -> Option R) (K1 : Option R) (j : Int) : Option R := br (decide (j < (Ai.length : Int))) (br (decide (0 <= j) && decide (j < (Ai.length : Int))) (at? Ai j.toNat fun f => f.unAgg fun l1 => e9 l1 fun x2 l3 => V.unInt FK x2 fun x => e9 l3 fun x5 l6 => V.unInt FK x5 fun n7 => e9 l6 fun x8 l9 => x8.unBool fun AA => e9 l9 fun xb Ax => V.unSl 42 xb fun ld => e9 Ax fun xe AC => V.unSl 44 xe fun lg => e9 AC fun xh AO => V.unSl 3 xh fun lj => e9 AO fun xk ll => V.unSl 105 xk fun AP => D2 ll (br (decide (0 <= j) && decide (j < (Ao.length : Int))) (at? Ao j.toNat fun xn => xn.unAgg fun Bc => e9 Bc fun xp AT => V.unInt FK xp fun nr => e9 AT fun EL Bk => V.unInt FK EL fun nu => e9 Bk fun xv Bl => xv.unBool fun EM => e9 Bl fun xy Bm => V.unSl 42 xy fun Bd => e9 Bm fun CD BC => V.unSl 44 CD fun AY => e9 BC fun BG Bh => V.unSl 3 BG fun AZ => e9 Bh fun BH Bn => V.unSl 105 BH fun AV => D2 Bn (j3 (a9f N x n7 AA ld lg lj AP nr nu EM Bd AY AZ AV) fun EN => br (!EN) (K0 false) (Lq (FK.wrap (j + 1))))) none)) none) K1
def Y3 {R : Type} (N : Nat) (l1 : LB) (d i : Int) (Ah Ai Ac Ad Ae : List V) (l9 : LB) (na nb : Int) (An Ao Ak Am Ar : List V) : Nat -> Int -> (Bool -> Option R) -> (Option R) -> Option R | 0, _, _, _ => none | t + 1, j, K0, K1 => Y0 N l1 d i Ah Ai Ac Ad Ae l9 na nb An Ao Ak Am Ar (fun j => Y3 N l1 d i Ah Ai Ac Ad Ae l9 na nb An Ao Ak Am Ar t j K0 K1) K0 K1 j
def a7C {R : Type} (N : Nat) (ds : List D) (m : Mem) (K : Ex -> List D -> Mem -> Option R) : Option R :=
 match ds, m with
 | [(.ptr 0 2 0), (.ptr 0 3 0), .any, .any, (.v (.int .i64 j) .no), .any, .any], a6J l1 d i Ah Ai Ac Ad Ae l9 na nb An Ao Ak Am Ar => Y3 N l1 d i Ah Ai Ac Ad Ae l9 na nb An Ao Ak Am Ar N j (fun a0 => K .ret [(.ptr 0 2 0), (.ptr 0 3 0), (.v (.bool a0) .no), .any, .any, .any, .any] (a6J l1 d i Ah Ai Ac Ad Ae l9 na nb An Ao Ak Am Ar)) (K (.exit 2) [(.ptr 0 2 0), (.ptr 0 3 0), .any, .any, .any, .any, .any] (a6J l1 d i Ah Ai Ac Ad Ae l9 na nb An Ao Ak Am Ar))
 | _, _ => none
def X5 {R : Type} (N : Nat) (l1 : LB) (d i : Int) (Ah Ai Ac Ad Ae : List V) (l9 : LB) (na nb : Int) (An Ao Ak Am Ar : List V) (Lq : Int -> Option R) (K0 : Bool -> Option R) (K1 : Option R) (j : Int) : Option R := br (decide (j < (Ac.length : Int))) (br (decide (0 <= j) && decide (j < (Ac.length : Int))) (at? Ac j.toNat fun f => f.unAgg fun l1 => e9 l1 fun x2 l3 => x2.unBool fun b4 => e9 l3 fun x5 l6 => x5.unBool fun b7 => e9 l6 fun x8 l9 => V.unInt FK x8 fun na => e9 l9 fun xb Ax => V.unSl 44 xb fun ld => e9 Ax fun xe AC => V.unInt FK xe fun ng => e9 AC fun xh AO => V.unInt FK xh fun nj => e9 AO fun xk ll => V.unInt FK xk fun AB => e9 ll fun xn Bc => V.unInt FK xn fun AE => e9 Bc fun xq lr => V.unInt FK xq fun ns => e9 lr fun Bz lu => V.unSl 54 Bz fun AU => e9 lu fun xw lx => V.unSl 107 xw fun ly => D2 lx (br (decide (0 <= j) && decide (j < (Ak.length : Int))) (at? Ak j.toNat fun xz => xz.unAgg fun Bd => e9 Bd fun CD BC => CD.unBool fun BX => e9 BC fun BG Bh => BG.unBool fun BY => e9 Bh fun BH Bn => V.unInt FK BH fun EO => e9 Bn fun EP BV => V.unSl 44 EP fun Bi => e9 BV fun ER BW => V.unInt FK ER fun ES => e9 BW fun Cv BF => V.unInt FK Cv fun ET => e9 BF fun Cw Bj => V.unInt FK Cw fun EU => e9 Bj fun BJ BD => V.unInt FK BJ fun CN => e9 BD fun BK BL => V.unInt FK BK fun EV => e9 BL fun Cy Cz => V.unSl 54 Cy fun Cr => e9 Cz fun CA CB => V.unSl 107 CA fun Cs => D2 CB (j3 (a6m N b4 b7 na ld ng nj AB AE ns AU ly BX BY EO Bi ES ET EU CN EV Cr Cs) fun EW => br (!EW) (K0 false) (Lq (FK.wrap (j + 1))))) none)) none) K1
def X8 {R : Type} (N : Nat) (l1 : LB) (d i : Int) (Ah Ai Ac Ad Ae : List V) (l9 : LB) (na nb : Int) (An Ao Ak Am Ar : List V) : Nat -> Int -> (Bool -> Option R) -> (Option R) -> Option R | 0, _, _, _ => none | t + 1, j, K0, K1 => X5 N l1 d i Ah Ai Ac Ad Ae l9 na nb An Ao Ak Am Ar (fun j => X8 N l1 d i Ah Ai Ac Ad Ae l9 na nb An Ao Ak Am Ar t j K0 K1) K0 K1 j
def a7Q {R : Type} (N : Nat) (ds : List D) (m : Mem) (K : Ex -> List D -> Mem -> Option R) : Option R :=
 match ds, m with
 | [(.ptr 0 2 0), (.ptr 0 3 0), .any, .any, (.v (.int .i64 j) .no), .any, .any], a6J l1 d i Ah Ai Ac Ad Ae l9 na nb An Ao Ak Am Ar => X8 N l1 d i Ah Ai Ac Ad Ae l9 na nb An Ao Ak Am Ar N j (fun a0 => K .ret [(.ptr 0 2 0), (.ptr 0 3 0), (.v (.bool a0) .no), .any, .any, .any, .any] (a6J l1 d i Ah Ai Ac Ad Ae l9 na nb An Ao Ak Am Ar)) (K (.exit 4) [(.ptr 0 2 0), (.ptr 0 3 0), .any, .any, .any, .any, .any] (a6J l1 d i Ah Ai Ac Ad Ae l9 na nb An Ao Ak Am Ar))
 | _, _ => none
def Z2 {R : Type} (N : Nat) (l1 : LB) (d i : Int) (Ah Ai Ac Ad Ae : List V) (l9 : LB) (na nb : Int) (An Ao Ak Am Ar : List V) (Lq : Int -> Option R) (K0 : Bool -> Option R) (K1 : Option R) (j : Int) : Option R := br (decide (j < (Ae.length : Int))) (br (decide (0 <= j) && decide (j < (Ae.length : Int))) (at? Ae j.toNat fun f => f.unAgg fun l1 => e9 l1 fun x2 l3 => x2.unBytes fun l4 => e9 l3 fun x5 l6 => V.unInt FK x5 fun n7 => e9 l6 fun x8 l9 => V.unInt FK x8 fun na => D2 l9 (br (decide (0 <= j) && decide (j < (Ar.length : Int))) (at? Ar j.toNat fun xb => xb.unAgg fun Ax => e9 Ax fun xd AL => xd.unBytes fun AC => e9 AL fun xg lh => V.unInt FK xg fun ni => e9 lh fun xj lk => V.unInt FK xj fun Aw => D2 lk (j3 (a6u N l4 AC) fun CC => br (!CC) (K0 false) (br (!decide (n7 = ni)) (K0 false) (br (!decide (na = Aw)) (K0 false) (Lq (FK.wrap (j + 1))))))) none)) none) K1
def Y9 {R : Type} (N : Nat) (l1 : LB) (d i : Int) (Ah Ai Ac Ad Ae : List V) (l9 : LB) (na nb : Int) (An Ao Ak Am Ar : List V) : Nat -> Int -> (Bool -> Option R) -> (Option R) -> Option R | 0, _, _, _ => none | t + 1, j, K0, K1 => Z2 N l1 d i Ah Ai Ac Ad Ae l9 na nb An Ao Ak Am Ar (fun j => Y9 N l1 d i Ah Ai Ac Ad Ae l9 na nb An Ao Ak Am Ar t j K0 K1) K0 K1 j
def a7l {R : Type} (N : Nat) (ds : List D) (m : Mem) (K : Ex -> List D -> Mem -> Option R) : Option R :=
 match ds, m with
 | [(.ptr 0 2 0), (.ptr 0 3 0), .any, .any, (.v (.int .i64 j) .no)], a6J l1 d i Ah Ai Ac Ad Ae l9 na nb An Ao Ak Am Ar => Y9 N l1 d i Ah Ai Ac Ad Ae l9 na nb An Ao Ak Am Ar N j (fun a0 => K .ret [(.ptr 0 2 0), (.ptr 0 3 0), (.v (.bool a0) .no), .any, .any] (a6J l1 d i Ah Ai Ac Ad Ae l9 na nb An Ao Ak Am Ar)) (K (.exit 6) [(.ptr 0 2 0), (.ptr 0 3 0), .any, .any, .any] (a6J l1 d i Ah Ai Ac Ad Ae l9 na nb An Ao Ak Am Ar))
 | _, _ => none
def b1W (N : Nat) (f : LB) (x1 x2 : Int) (x3 x4 x5 x6 x7 : List V) (x8 : LB) (x9 xa : Int) (xb xc xd xe xf : List V) : Option (Bool) := j3 (a6u N f x8) fun b0 => br (!b0) (some false) (br (!decide (x1 = x9)) (some false) (br (!decide (x2 = xa)) (some false) (br (!decide ((x3.length : Int) = (xb.length : Int))) (some false) (br (!decide ((x4.length : Int) = (xc.length : Int))) (some false) (br (!decide ((x5.length : Int) = (xd.length : Int))) (some false) (j3 (a2L N x6 xe) fun b1 => br (!b1) (some false) (br (!decide ((x7.length : Int) = (xf.length : Int))) (some false) (a1a N f x1 x2 x3 x4 x5 x6 x7 x8 x9 xa xb xc xd xe xf N 0 (fun b2 => some b2) (Y3 N f x1 x2 x3 x4 x5 x6 x7 x8 x9 xa xb xc xd xe xf N 0 (fun b3 => some b3) (X8 N f x1 x2 x3 x4 x5 x6 x7 x8 x9 xa xb xc xd xe xf N 0 (fun b4 => some b4) (Y9 N f x1 x2 x3 x4 x5 x6 x7 x8 x9 xa xb xc xd xe xf N 0 (fun b5 => some b5) (some true))))))))))))
def a5g (N : Nat) : Cx := cl [c8M N, a8x N, c0I N, b7k N] [] [⟨4, [2, 3, 5, 11, 12], [2, 3, 4, 11, 12], a9V N⟩, ⟨10, [2, 3, 6, 7, 8, 11, 12], [2, 3, 4, 6, 7, 11, 12], a7C N⟩, ⟨15, [2, 3, 6, 7, 9, 11, 12], [2, 3, 4, 6, 7, 11, 12], a7Q N⟩, ⟨20, [2, 3, 6, 7, 10], [2, 3, 4, 6, 7], a7l N⟩] true
theorem c6x (N : Nat) : p9 (a5g N) 189 (s4 Tryz.f7 0) := by
 refine j7 (rid := 4) (by kernel_rfl) rfl rfl fun R ds m K r h => ?_
 change a9V N ds m K = _ at h
 unfold a9V at h
 split at h
 . rename_i j l1 d i Ah Ai Ac Ad Ae l9 na nb An Ao Ak Am Ar
   exact ⟨N, Gr (lpI (fun (e : (Bool -> Option R) × (Option R)) L (s : Int) => a0T N l1 d i Ah Ai Ac Ad Ae l9 na nb An Ao Ak Am Ar (fun j => L j) e.1 e.2 s) (fun e t s => a1a N l1 d i Ah Ai Ac Ad Ae l9 na nb An Ao Ak Am Ar t s e.1 e.2) (fun s => [(.ptr 0 2 0), (.ptr 0 3 0), (.v (.int .i64 s) .no), .any, .any]) (fun s => a6J l1 d i Ah Ai Ac Ad Ae l9 na nb An Ao Ak Am Ar) (fun _ _ => rfl) (fun _ _ _ => rfl) (e := (_, _)) (fun L s => by kernel_rfl) N j) h⟩
 . cases h
theorem c2L (N : Nat) : p9 (a5g N) 189 (s4 Tryz.f7 1) := by
 refine j7 (rid := 10) (by kernel_rfl) rfl rfl fun R ds m K r h => ?_
 change a7C N ds m K = _ at h
 unfold a7C at h
 split at h
 . rename_i j l1 d i Ah Ai Ac Ad Ae l9 na nb An Ao Ak Am Ar
   exact ⟨N, Gr (lpI (fun (e : (Bool -> Option R) × (Option R)) L (s : Int) => Y0 N l1 d i Ah Ai Ac Ad Ae l9 na nb An Ao Ak Am Ar (fun j => L j) e.1 e.2 s) (fun e t s => Y3 N l1 d i Ah Ai Ac Ad Ae l9 na nb An Ao Ak Am Ar t s e.1 e.2) (fun s => [(.ptr 0 2 0), (.ptr 0 3 0), .any, .any, (.v (.int .i64 s) .no), .any, .any]) (fun s => a6J l1 d i Ah Ai Ac Ad Ae l9 na nb An Ao Ak Am Ar) (fun _ _ => rfl) (fun _ _ _ => rfl) (e := (_, _)) (fun L s => by kernel_rfl) N j) h⟩
 . cases h
theorem c2f (N : Nat) : p9 (a5g N) 189 (s4 Tryz.f7 2) := by
 refine j7 (rid := 15) (by kernel_rfl) rfl rfl fun R ds m K r h => ?_
 change a7Q N ds m K = _ at h
 unfold a7Q at h
 split at h
 . rename_i j l1 d i Ah Ai Ac Ad Ae l9 na nb An Ao Ak Am Ar
   exact ⟨N, Gr (lpI (fun (e : (Bool -> Option R) × (Option R)) L (s : Int) => X5 N l1 d i Ah Ai Ac Ad Ae l9 na nb An Ao Ak Am Ar (fun j => L j) e.1 e.2 s) (fun e t s => X8 N l1 d i Ah Ai Ac Ad Ae l9 na nb An Ao Ak Am Ar t s e.1 e.2) (fun s => [(.ptr 0 2 0), (.ptr 0 3 0), .any, .any, (.v (.int .i64 s) .no), .any, .any]) (fun s => a6J l1 d i Ah Ai Ac Ad Ae l9 na nb An Ao Ak Am Ar) (fun _ _ => rfl) (fun _ _ _ => rfl) (e := (_, _)) (fun L s => by kernel_rfl) N j) h⟩
 . cases h
theorem c1K (N : Nat) : p9 (a5g N) 189 (s4 Tryz.f7 3) := by
 refine j7 (rid := 20) (by kernel_rfl) rfl rfl fun R ds m K r h => ?_
 change a7l N ds m K = _ at h
 unfold a7l at h
 split at h
 . rename_i j l1 d i Ah Ai Ac Ad Ae l9 na nb An Ao Ak Am Ar
   exact ⟨N, Gr (lpI (fun (e : (Bool -> Option R) × (Option R)) L (s : Int) => Z2 N l1 d i Ah Ai Ac Ad Ae l9 na nb An Ao Ak Am Ar (fun j => L j) e.1 e.2 s) (fun e t s => Y9 N l1 d i Ah Ai Ac Ad Ae l9 na nb An Ao Ak Am Ar t s e.1 e.2) (fun s => [(.ptr 0 2 0), (.ptr 0 3 0), .any, .any, (.v (.int .i64 s) .no)]) (fun s => a6J l1 d i Ah Ai Ac Ad Ae l9 na nb An Ao Ak Am Ar) (fun _ _ => rfl) (fun _ _ _ => rfl) (e := (_, _)) (fun L s => by kernel_rfl) N j) h⟩
 . cases h
theorem d9A (N : Nat) : POK Tryz.prog T 7 e7P (.v .b .z) (b1W N) := pok (cx := a5g N) fo (D4 ⟨d2W N, b0n N, d1m N, c6N N, trivial⟩ trivial) (j6 (k := 4) (by kernel_rfl) ⟨⟨⟨⟨trivial, c6x N⟩, c2L N⟩, c2f N⟩, c1K N⟩) Tryz.func7 (by kernel_rfl) rfl fun h => by kernel_rfl
theorem e0m (N : Nat) (f : LB) (x1 x2 : Int) (x3 x4 x5 x6 x7 : List V) (x8 : LB) (x9 xa : Int) (xb xc xd xe xf : List V) (r0 : Bool) (h : b1W N f x1 x2 x3 x4 x5 x6 x7 x8 x9 xa xb xc xd xe xf = some r0) : PRT 7 [g0a f x1 x2 x3 x4 x5 x6 x7, g0a x8 x9 xa xb xc xd xe xf] [dB r0] := d9A N (f, x1, x2, x3, x4, x5, x6, x7, x8, x9, xa, xb, xc, xd, xe, xf, ()) r0 h
def a8v (N : Nat)  : Option (Bool) := s7 (a2S N ([112, 117, 115, 104, 32, 45, 50, 10, 116, 104, 114, 111, 119, 10] : LB)) fun w u => br (decide (u = 0)) (br (decide ((w.length : Int) = 2)) (br (decide (0 < (w.length : Int))) (at? w 0 fun x2 => x2.unAgg fun l3 => e9 l3 fun x4 l5 => V.unInt FK x4 fun n6 => e9 l5 fun x7 l8 => V.unInt FK x7 fun n9 => e9 l8 fun xa Ay => V.unInt FK xa fun nc => e9 Ay fun xd AL => V.unInt FK xd fun nf => D2 AL (br (decide (n6 = 1) && (decide (n9 = -2) && (decide (nc = 0) && (decide (nf = 0) && true)))) (j3 (a4m N w) fun lg => some (decide (lg = ([112, 117, 115, 104, 32, 45, 50, 10, 116, 104, 114, 111, 119, 10] : LB)))) (some false))) none) (some false)) (some false)
def d1X (N : Nat) : Cx := cz [c2T N, c8Q N] []
theorem d3Y (N : Nat) : POK Tryz.prog T 5 .z (.v .b .z) (a8v N) := pok (cx := d1X N) fo (A9 ⟨d0x N, d4O N, trivial⟩ trivial) (lz (by kernel_rfl)) Tryz.func5 (by kernel_rfl) rfl fun h => by kernel_rfl
theorem c3z (N : Nat)  (r0 : Bool) (h : a8v N  = some r0) : PRT 5 [] [dB r0] := d3Y N () r0 h
end En

namespace En
open Go
theorem X0 {R : Type} (X Y : Option R) : br false X Y = Y := id rfl
theorem X1 {R : Type} (X Y : Option R) : br true X Y = X := id rfl
theorem V8 {α R : Type} (S : Nat -> Int -> Option R) (K : Option R) (l : List α)
 (M4 : ∀ (t i : Nat) (x : α), l[i]? = some x -> S (t + 1) i = S t ((i + 1 : Nat) : Int))
 (a9m : ∀ t : Nat, S (t + 1) (l.length : Int) = K) (t : Nat) (ht : l.length < t) : S t 0 = K := by
 have := Q9 (fun t i (_ : List UInt8) => S t i) (fun _ => K) l (fun _ => []) 0 (fun t i x out hx _ => by rw [M4 t i x hx]) (fun t _ => a9m t) t [] ht (by rw [show l.flatMap (fun _ => ([] : List UInt8)) = [] by induction l <;> simp_all]; decide)
 exact this
theorem a6Z {α R : Type} {enc : α -> V} {l : List α} {i : Nat} {x : α} (h : l[i]? = some x) (K : V -> Option R) :
 br (decide (0 <= (i : Int)) && decide ((i : Int) < ((l.map enc).length : Int))) (at? (l.map enc) (i : Int).toNat K) none = K (enc x) := by
 have := C8 (enc := enc) h K none
 have hi : i < l.length := (FN.1 h).1
 rw [j5, if_pos (by simp; omega)] at this
 exact this
theorem e3J {R : Type} {l : List UInt8} {i : Nat} {x : UInt8} (h : l[i]? = some x) (K : UInt8 -> Option R) : at? l (i : Int).toNat K = K x := by
 rw [Int.toNat_natCast]
 unfold at?
 rw [h]
section
variable (N : Nat)
theorem a3L (b : List UInt8) (hN : b.length < N) (hb : b.length <= 9000000000000000000) : a0Q N b b = some 0 := by
 have L : ∀ K1, U6 N b b N 0 (fun n => some n) K1 = K1 := fun K1 => V8 (fun t i => U6 N b b t i (fun n0 => some n0) K1) K1 b (fun t i x hx => by
  show U9 N b b _ _ _ _ = _
  unfold U9
  simp only [e3J hx, Int.lt_irrefl, decide_eq_true (show (0 : Int) <= i by omega), decide_eq_true (show (i : Int) < (b.length : Int) by have := C3 hx; omega), decide_true, decide_false, GB, GO, GN, GQ, beq_self_eq_true, X0, X1, j4]
  rw [C7 (C3 hx) (by omega)]) (fun t => by
  show U9 N b b _ _ _ _ = _
  unfold U9
  simp only [Int.lt_irrefl, decide_true, decide_false, GB, GO, GN, GQ, beq_self_eq_true, X0, X1, j4]) N (by omega)
 unfold a0Q
 rw [L]
 simp only [Int.lt_irrefl, decide_true, decide_false, GB, GO, GN, GQ, beq_self_eq_true, X0, X1, j4]
theorem a7B (hN : 1000 < N) (b : List UInt8) (hb : b.length <= 900) : a6u N b b = some true := by
 unfold a6u
 rw [a3L N b (by omega) (by omega)]
 rfl
theorem b7C (hN : 1000 < N) (l : List Int) (hl : l.length <= 900) : b4I N (l.map nV) (l.map nV) = some true := by
 have h : ∀ K1, a3n N (l.map nV) (l.map nV) N 0 (fun b => some b) K1 = K1 := fun K1 => V8 (fun t i => a3n N (l.map nV) (l.map nV) t i (fun b => some b) K1) K1 l (fun t i x hx => by
  show a2t N (l.map nV) (l.map nV) _ _ _ _ = _
  unfold a2t
  rw [C8 hx]
  simp only [a6Z hx, nV, p7, o8, p5, o9, o6, A8, p8, decide_true, decide_false, GB, GO, GN, GQ, beq_self_eq_true, X0, X1, j4]
  rw [C7 (C3 hx) (by omega)]) (fun t => by
  show a2t N (l.map nV) (l.map nV) _ _ _ _ = _
  unfold a2t
  rw [C0]) N (by omega)
 unfold b4I
 rw [h]
 simp only [decide_true, decide_false, GB, GO, GN, GQ, beq_self_eq_true, X0, X1, j4]
theorem a5Z (hN : 1000 < N) (l : List Tp) (hl : l.length <= 900) : a2L N (l.map tpV) (l.map tpV) = some true := by
 have h : ∀ K1, X6 N (l.map tpV) (l.map tpV) N 0 (fun b => some b) K1 = K1 := fun K1 => V8 (fun t i => X6 N (l.map tpV) (l.map tpV) t i (fun b => some b) K1) K1 l (fun t i x hx => by
  show a0e N (l.map tpV) (l.map tpV) _ _ _ _ = _
  unfold a0e
  rw [C8 hx]
  simp only [a6Z hx, tpV, p7, o8, p5, o9, o6, A8, p8, decide_true, decide_false, GB, GO, GN, GQ, beq_self_eq_true, X0, X1, j4]
  rw [C7 (C3 hx) (by omega)]) (fun t => by
  show a0e N (l.map tpV) (l.map tpV) _ _ _ _ = _
  unfold a0e
  rw [C0]) N (by omega)
 unfold a2L
 rw [h]
 simp only [decide_true, decide_false, GB, GO, GN, GQ, beq_self_eq_true, X0, X1, j4]
theorem c2t (hN : 1000 < N) (c : Cl) (hc : d7s c) : a9f N c.sup.p c.sup.c c.itf (c.ext.map rfV) (c.fs.map tpV) (c.vs.map nV) (c.is.map ilV) c.sup.p c.sup.c c.itf (c.ext.map rfV) (c.fs.map tpV) (c.vs.map nV) (c.is.map ilV) = some true := by
 obtain ⟨h1, h2, h3, h4, h5⟩ := hc
 have l1 : ∀ K1, Z6 N c.sup.p c.sup.c c.itf (c.ext.map rfV) (c.fs.map tpV) (c.vs.map nV) (c.is.map ilV) c.sup.p c.sup.c c.itf (c.ext.map rfV) (c.fs.map tpV) (c.vs.map nV) (c.is.map ilV) N 0 (fun b => some b) K1 = K1 := fun K1 => V8 (fun t i => Z6 N c.sup.p c.sup.c c.itf (c.ext.map rfV) (c.fs.map tpV) (c.vs.map nV) (c.is.map ilV) c.sup.p c.sup.c c.itf (c.ext.map rfV) (c.fs.map tpV) (c.vs.map nV) (c.is.map ilV) t i (fun b => some b) K1) K1 c.ext (fun t i x hx => by
  show Z1 N c.sup.p c.sup.c c.itf (c.ext.map rfV) (c.fs.map tpV) (c.vs.map nV) (c.is.map ilV) c.sup.p c.sup.c c.itf (c.ext.map rfV) (c.fs.map tpV) (c.vs.map nV) (c.is.map ilV) _ _ _ _ = _
  unfold Z1
  rw [C8 hx]
  simp only [a6Z hx, rfV, p7, o8, p5, o9, o6, A8, p8, decide_true, decide_false, GB, GO, GN, GQ, beq_self_eq_true, X0, X1, j4]
  rw [C7 (C3 hx) (by omega)]) (fun t => by
  show Z1 N c.sup.p c.sup.c c.itf (c.ext.map rfV) (c.fs.map tpV) (c.vs.map nV) (c.is.map ilV) c.sup.p c.sup.c c.itf (c.ext.map rfV) (c.fs.map tpV) (c.vs.map nV) (c.is.map ilV) _ _ _ _ = _
  unfold Z1
  rw [C0]) N (by omega)
 have l2 : ∀ K1, Z8 N c.sup.p c.sup.c c.itf (c.ext.map rfV) (c.fs.map tpV) (c.vs.map nV) (c.is.map ilV) c.sup.p c.sup.c c.itf (c.ext.map rfV) (c.fs.map tpV) (c.vs.map nV) (c.is.map ilV) N 0 (fun b => some b) K1 = K1 := fun K1 => V8 (fun t i => Z8 N c.sup.p c.sup.c c.itf (c.ext.map rfV) (c.fs.map tpV) (c.vs.map nV) (c.is.map ilV) c.sup.p c.sup.c c.itf (c.ext.map rfV) (c.fs.map tpV) (c.vs.map nV) (c.is.map ilV) t i (fun b => some b) K1) K1 c.is (fun t i x hx => by
  show Y6 N c.sup.p c.sup.c c.itf (c.ext.map rfV) (c.fs.map tpV) (c.vs.map nV) (c.is.map ilV) c.sup.p c.sup.c c.itf (c.ext.map rfV) (c.fs.map tpV) (c.vs.map nV) (c.is.map ilV) _ _ _ _ = _
  unfold Y6
  rw [C8 hx]
  simp only [a6Z hx, ilV, p7, o8, p5, o9, o6, A8, p8, decide_true, decide_false, GB, GO, GN, GQ, beq_self_eq_true, X0, X1, j4, b7C N hN x.ms (h5 x (Ga hx))]
  rw [C7 (C3 hx) (by omega)]) (fun t => by
  show Y6 N c.sup.p c.sup.c c.itf (c.ext.map rfV) (c.fs.map tpV) (c.vs.map nV) (c.is.map ilV) c.sup.p c.sup.c c.itf (c.ext.map rfV) (c.fs.map tpV) (c.vs.map nV) (c.is.map ilV) _ _ _ _ = _
  unfold Y6
  rw [C0]) N (by omega)
 unfold a9f
 rw [l1, l2]
 simp only [a5Z N hN c.fs h2, b7C N hN c.vs h3, decide_true, decide_false, GB, GO, GN, GQ, beq_self_eq_true, X0, X1, j4]
theorem b9w (hN : 1000 < N) (m : Mt) (hm : d5c m) : a6m N m.st m.ab m.cls (m.ps.map tpV) m.r.k m.r.r.p m.r.r.c m.lo m.sk (iE m.code) (m.hs.map hdV) m.st m.ab m.cls (m.ps.map tpV) m.r.k m.r.r.p m.r.r.c m.lo m.sk (iE m.code) (m.hs.map hdV) = some true := by
 obtain ⟨h1, h2, h3⟩ := hm
 rw [a3G]
 have l1 : ∀ K1, U2 N m.st m.ab m.cls (m.ps.map tpV) m.r.k m.r.r.p m.r.r.c m.lo m.sk (m.code.map iV) (m.hs.map hdV) m.st m.ab m.cls (m.ps.map tpV) m.r.k m.r.r.p m.r.r.c m.lo m.sk (m.code.map iV) (m.hs.map hdV) N 0 (fun b => some b) K1 = K1 := fun K1 => V8 (fun t i => U2 N m.st m.ab m.cls (m.ps.map tpV) m.r.k m.r.r.p m.r.r.c m.lo m.sk (m.code.map iV) (m.hs.map hdV) m.st m.ab m.cls (m.ps.map tpV) m.r.k m.r.r.p m.r.r.c m.lo m.sk (m.code.map iV) (m.hs.map hdV) t i (fun b => some b) K1) K1 m.code (fun t i x hx => by
  show U0 N m.st m.ab m.cls (m.ps.map tpV) m.r.k m.r.r.p m.r.r.c m.lo m.sk (m.code.map iV) (m.hs.map hdV) m.st m.ab m.cls (m.ps.map tpV) m.r.k m.r.r.p m.r.r.c m.lo m.sk (m.code.map iV) (m.hs.map hdV) _ _ _ _ = _
  unfold U0
  rw [C8 hx]
  simp only [a6Z hx, iV, p7, o8, p5, o9, o6, A8, p8, decide_true, decide_false, GB, GO, GN, GQ, beq_self_eq_true, X0, X1, j4]
  rw [C7 (C3 hx) (by omega)]) (fun t => by
  show U0 N m.st m.ab m.cls (m.ps.map tpV) m.r.k m.r.r.p m.r.r.c m.lo m.sk (m.code.map iV) (m.hs.map hdV) m.st m.ab m.cls (m.ps.map tpV) m.r.k m.r.r.p m.r.r.c m.lo m.sk (m.code.map iV) (m.hs.map hdV) _ _ _ _ = _
  unfold U0
  rw [C0]) N (by omega)
 have l2 : ∀ K1, U5 N m.st m.ab m.cls (m.ps.map tpV) m.r.k m.r.r.p m.r.r.c m.lo m.sk (m.code.map iV) (m.hs.map hdV) m.st m.ab m.cls (m.ps.map tpV) m.r.k m.r.r.p m.r.r.c m.lo m.sk (m.code.map iV) (m.hs.map hdV) N 0 (fun b => some b) K1 = K1 := fun K1 => V8 (fun t i => U5 N m.st m.ab m.cls (m.ps.map tpV) m.r.k m.r.r.p m.r.r.c m.lo m.sk (m.code.map iV) (m.hs.map hdV) m.st m.ab m.cls (m.ps.map tpV) m.r.k m.r.r.p m.r.r.c m.lo m.sk (m.code.map iV) (m.hs.map hdV) t i (fun b => some b) K1) K1 m.hs (fun t i x hx => by
  show V1 N m.st m.ab m.cls (m.ps.map tpV) m.r.k m.r.r.p m.r.r.c m.lo m.sk (m.code.map iV) (m.hs.map hdV) m.st m.ab m.cls (m.ps.map tpV) m.r.k m.r.r.p m.r.r.c m.lo m.sk (m.code.map iV) (m.hs.map hdV) _ _ _ _ = _
  unfold V1
  rw [C8 hx]
  simp only [a6Z hx, hdV, p7, o8, p5, o9, o6, A8, p8, decide_true, decide_false, GB, GO, GN, GQ, beq_self_eq_true, X0, X1, j4]
  rw [C7 (C3 hx) (by omega)]) (fun t => by
  show V1 N m.st m.ab m.cls (m.ps.map tpV) m.r.k m.r.r.p m.r.r.c m.lo m.sk (m.code.map iV) (m.hs.map hdV) m.st m.ab m.cls (m.ps.map tpV) m.r.k m.r.r.p m.r.r.c m.lo m.sk (m.code.map iV) (m.hs.map hdV) _ _ _ _ = _
  unfold V1
  rw [C0]) N (by omega)
 unfold a6m
 rw [l1, l2]
 simp only [a5Z N hN m.ps h1, decide_true, decide_false, GB, GO, GN, GQ, beq_self_eq_true, X0, X1, j4]
theorem c5a (hN : 1000 < N) (p : Pk) (hp : d8f p) : b1W N p.aid p.ma p.mi (p.ims.map imV) (p.cls.map clV) (p.mts.map mtV) (p.sts.map tpV) (p.aps.map apV) p.aid p.ma p.mi (p.ims.map imV) (p.cls.map clV) (p.mts.map mtV) (p.sts.map tpV) (p.aps.map apV) = some true := by
 obtain ⟨h1, ⟨h2, h3⟩, ⟨h4, h5⟩, ⟨h6, h7⟩, h8, h9, h10⟩ := hp
 have l1 : ∀ K1, a1a N p.aid p.ma p.mi (p.ims.map imV) (p.cls.map clV) (p.mts.map mtV) (p.sts.map tpV) (p.aps.map apV) p.aid p.ma p.mi (p.ims.map imV) (p.cls.map clV) (p.mts.map mtV) (p.sts.map tpV) (p.aps.map apV) N 0 (fun b => some b) K1 = K1 := fun K1 => V8 (fun t i => a1a N p.aid p.ma p.mi (p.ims.map imV) (p.cls.map clV) (p.mts.map mtV) (p.sts.map tpV) (p.aps.map apV) p.aid p.ma p.mi (p.ims.map imV) (p.cls.map clV) (p.mts.map mtV) (p.sts.map tpV) (p.aps.map apV) t i (fun b => some b) K1) K1 p.ims (fun t i x hx => by
  show a0T N p.aid p.ma p.mi (p.ims.map imV) (p.cls.map clV) (p.mts.map mtV) (p.sts.map tpV) (p.aps.map apV) p.aid p.ma p.mi (p.ims.map imV) (p.cls.map clV) (p.mts.map mtV) (p.sts.map tpV) (p.aps.map apV) _ _ _ _ = _
  unfold a0T
  rw [C8 hx]
  simp only [a6Z hx, imV, p7, o8, p5, o9, o6, A8, p8, decide_true, decide_false, GB, GO, GN, GQ, beq_self_eq_true, X0, X1, j4, a7B N hN x.aid (h3 x (Ga hx))]
  rw [C7 (C3 hx) (by omega)]) (fun t => by
  show a0T N p.aid p.ma p.mi (p.ims.map imV) (p.cls.map clV) (p.mts.map mtV) (p.sts.map tpV) (p.aps.map apV) p.aid p.ma p.mi (p.ims.map imV) (p.cls.map clV) (p.mts.map mtV) (p.sts.map tpV) (p.aps.map apV) _ _ _ _ = _
  unfold a0T
  rw [C0]) N (by omega)
 have l2 : ∀ K1, Y3 N p.aid p.ma p.mi (p.ims.map imV) (p.cls.map clV) (p.mts.map mtV) (p.sts.map tpV) (p.aps.map apV) p.aid p.ma p.mi (p.ims.map imV) (p.cls.map clV) (p.mts.map mtV) (p.sts.map tpV) (p.aps.map apV) N 0 (fun b => some b) K1 = K1 := fun K1 => V8 (fun t i => Y3 N p.aid p.ma p.mi (p.ims.map imV) (p.cls.map clV) (p.mts.map mtV) (p.sts.map tpV) (p.aps.map apV) p.aid p.ma p.mi (p.ims.map imV) (p.cls.map clV) (p.mts.map mtV) (p.sts.map tpV) (p.aps.map apV) t i (fun b => some b) K1) K1 p.cls (fun t i x hx => by
  show Y0 N p.aid p.ma p.mi (p.ims.map imV) (p.cls.map clV) (p.mts.map mtV) (p.sts.map tpV) (p.aps.map apV) p.aid p.ma p.mi (p.ims.map imV) (p.cls.map clV) (p.mts.map mtV) (p.sts.map tpV) (p.aps.map apV) _ _ _ _ = _
  unfold Y0
  rw [C8 hx]
  simp only [a6Z hx, clV, p7, o8, p5, o9, o6, A8, p8, decide_true, decide_false, GB, GO, GN, GQ, beq_self_eq_true, X0, X1, j4, c2t N hN x (h5 x (Ga hx))]
  rw [C7 (C3 hx) (by omega)]) (fun t => by
  show Y0 N p.aid p.ma p.mi (p.ims.map imV) (p.cls.map clV) (p.mts.map mtV) (p.sts.map tpV) (p.aps.map apV) p.aid p.ma p.mi (p.ims.map imV) (p.cls.map clV) (p.mts.map mtV) (p.sts.map tpV) (p.aps.map apV) _ _ _ _ = _
  unfold Y0
  rw [C0]) N (by omega)
 have l3 : ∀ K1, X8 N p.aid p.ma p.mi (p.ims.map imV) (p.cls.map clV) (p.mts.map mtV) (p.sts.map tpV) (p.aps.map apV) p.aid p.ma p.mi (p.ims.map imV) (p.cls.map clV) (p.mts.map mtV) (p.sts.map tpV) (p.aps.map apV) N 0 (fun b => some b) K1 = K1 := fun K1 => V8 (fun t i => X8 N p.aid p.ma p.mi (p.ims.map imV) (p.cls.map clV) (p.mts.map mtV) (p.sts.map tpV) (p.aps.map apV) p.aid p.ma p.mi (p.ims.map imV) (p.cls.map clV) (p.mts.map mtV) (p.sts.map tpV) (p.aps.map apV) t i (fun b => some b) K1) K1 p.mts (fun t i x hx => by
  show X5 N p.aid p.ma p.mi (p.ims.map imV) (p.cls.map clV) (p.mts.map mtV) (p.sts.map tpV) (p.aps.map apV) p.aid p.ma p.mi (p.ims.map imV) (p.cls.map clV) (p.mts.map mtV) (p.sts.map tpV) (p.aps.map apV) _ _ _ _ = _
  unfold X5
  rw [C8 hx]
  simp only [a6Z hx, mtV, p7, o8, p5, o9, o6, A8, p8, decide_true, decide_false, GB, GO, GN, GQ, beq_self_eq_true, X0, X1, j4, b9w N hN x (h7 x (Ga hx))]
  rw [C7 (C3 hx) (by omega)]) (fun t => by
  show X5 N p.aid p.ma p.mi (p.ims.map imV) (p.cls.map clV) (p.mts.map mtV) (p.sts.map tpV) (p.aps.map apV) p.aid p.ma p.mi (p.ims.map imV) (p.cls.map clV) (p.mts.map mtV) (p.sts.map tpV) (p.aps.map apV) _ _ _ _ = _
  unfold X5
  rw [C0]) N (by omega)
 have l4 : ∀ K1, Y9 N p.aid p.ma p.mi (p.ims.map imV) (p.cls.map clV) (p.mts.map mtV) (p.sts.map tpV) (p.aps.map apV) p.aid p.ma p.mi (p.ims.map imV) (p.cls.map clV) (p.mts.map mtV) (p.sts.map tpV) (p.aps.map apV) N 0 (fun b => some b) K1 = K1 := fun K1 => V8 (fun t i => Y9 N p.aid p.ma p.mi (p.ims.map imV) (p.cls.map clV) (p.mts.map mtV) (p.sts.map tpV) (p.aps.map apV) p.aid p.ma p.mi (p.ims.map imV) (p.cls.map clV) (p.mts.map mtV) (p.sts.map tpV) (p.aps.map apV) t i (fun b => some b) K1) K1 p.aps (fun t i x hx => by
  show Z2 N p.aid p.ma p.mi (p.ims.map imV) (p.cls.map clV) (p.mts.map mtV) (p.sts.map tpV) (p.aps.map apV) p.aid p.ma p.mi (p.ims.map imV) (p.cls.map clV) (p.mts.map mtV) (p.sts.map tpV) (p.aps.map apV) _ _ _ _ = _
  unfold Z2
  rw [C8 hx]
  simp only [a6Z hx, apV, p7, o8, p5, o9, o6, A8, p8, decide_true, decide_false, GB, GO, GN, GQ, beq_self_eq_true, X0, X1, j4, a7B N hN x.aid (h10 x (Ga hx))]
  rw [C7 (C3 hx) (by omega)]) (fun t => by
  show Z2 N p.aid p.ma p.mi (p.ims.map imV) (p.cls.map clV) (p.mts.map mtV) (p.sts.map tpV) (p.aps.map apV) p.aid p.ma p.mi (p.ims.map imV) (p.cls.map clV) (p.mts.map mtV) (p.sts.map tpV) (p.aps.map apV) _ _ _ _ = _
  unfold Z2
  rw [C0]) N (by omega)
 unfold b1W
 rw [l1, l2, l3, l4]
 simp only [a7B N hN p.aid h1, a5Z N hN p.sts h8, decide_true, decide_false, GB, GO, GN, GQ, beq_self_eq_true, X0, X1, j4]
end
end En
namespace En
open Go
theorem b0X : ∀ l : List In, (L5 l).length <= 87 * l.length
 | [] => by simp [L5]
 | i :: l => by
   have := b6z i
   have := b0X l
   simp [L5]; omega
section
variable (N : Nat)
theorem b4X (hN : 100000 < N) (l : List In) (hl : l.length <= 256) (h : N0 l = 0) : ∃ s, a4m N (iE l) = some s /\ s = L5 l /\ a2S N s = some (iE l, 0) := by
 have hlen := b0X l
 have he : c7t l = L5 l := by
  have : a2H l = (N2 l, 0) := by unfold a2H; rw [if_neg (by omega), if_pos h]
  unfold c7t
  rw [this]; rfl
 refine ⟨L5 l, by rw [d7e N (by omega) l (by omega) (by omega), he], rfl, ?_⟩
 rw [d1u N (by omega) _ (by omega) (by omega), b4k l [] N (by omega) (by simp; omega) h]
 rfl
def short : List In := [⟨1, -2, 0, 0⟩, ⟨50, 0, 0, 0⟩]
theorem c5n : L5 short = [112, 117, 115, 104, 32, 45, 50, 10, 116, 104, 114, 111, 119, 10] := by decide +kernel
theorem c3Q : N0 short = 0 := by decide +kernel
theorem b1p (hN : 100000 < N) : a8v N = some true := by
 obtain ⟨s, h1, h2, h3⟩ := b4X N hN short (by decide) c3Q
 rw [c5n] at h2
 subst h2
 unfold a8v
 rw [h3, o7]
 have e : iE short = [V.agg [.int .i64 1, .int .i64 (-2), .int .i64 0, .int .i64 0], V.agg [.int .i64 50, .int .i64 0, .int .i64 0, .int .i64 0]] := rfl
 rw [e] at h1 ⊢
 simp only [h1]
 rfl
end
end En
namespace En
open Go Go.RowKit
section
variable {E E' : Env} {g g' : G} {w w' : Gb}
theorem c2B {dead : List Pos} {r0 : List UInt8} {r1 r2 : Int} {r3 r4 r5 r6 r7 : List V} {v : FW} (hr : RepD E g w dead (.agg [.v (.bytes r0) .no, .v (.int .i64 r1) .no, .v (.int .i64 r2) .no, .v (.sl 58 r3) .no, .v (.sl 64 r4) .no, .v (.rowI 47 r5) .no, .v (.sl 44 r6) .no, .v (.sl 67 r7) .no]) v) :
 ∃ A0 n0 k0 A3 n3 k3 A4 n4 k4 A5 n5 k5 A6 n6 k6 A7 n7 k7, v = .agg #[.slice A0 n0 k0, .int .i64 r1, .int .i64 r2, .slice A3 n3 k3, .slice A4 n4 k4, .slice A5 n5 k5, .slice A6 n6 k6, .slice A7 n7 k7] := by
 obtain ⟨us, rfl, hus⟩ : ∃ us, v = .agg us /\ us.size = 8 := by cases hr with | agg ds us hn hr => exact ⟨us, rfl, hn⟩
 obtain ⟨v0, v1, v2, v3, v4, v5, v6, v7, rfl⟩ := c5I hus
 have sh : (∃ A n c, v0 = .slice A n c) /\ v1 = .int .i64 r1 /\ v2 = .int .i64 r2 /\ (∃ A n c, v3 = .slice A n c) /\ (∃ A n c, v4 = .slice A n c) /\ (∃ A n c, v5 = .slice A n c) /\ (∃ A n c, v6 = .slice A n c) /\ (∃ A n c, v7 = .slice A n c) := by
  cases hr with
  | agg ds us hn hr =>
    exact ⟨b3M (hr 0 _ rfl), a0f (hr 1 _ rfl), a0f (hr 2 _ rfl), a1N (hr 3 _ rfl), a1N (hr 4 _ rfl), d6L (hr 5 _ rfl), a1N (hr 6 _ rfl), a1N (hr 7 _ rfl)⟩
 obtain ⟨⟨A0, n0, k0, rfl⟩, rfl, rfl, ⟨A3, n3, k3, rfl⟩, ⟨A4, n4, k4, rfl⟩, ⟨A5, n5, k5, rfl⟩, ⟨A6, n6, k6, rfl⟩, ⟨A7, n7, k7, rfl⟩⟩ := sh
 exact ⟨A0, n0, k0, A3, n3, k3, A4, n4, k4, A5, n5, k5, A6, n6, k6, A7, n7, k7, rfl⟩
theorem c1s {dead : List Pos} {r0 : List UInt8} {r1 r2 : Int} {r3 r4 r5 r6 r7 : List V} {v : FW} (hr : RepD E g w dead (.agg [.v (.bytes r0) .no, .v (.int .i64 r1) .no, .v (.int .i64 r2) .no, .v (.sl 58 r3) .no, .v (.sl 64 r4) .no, .v (.rowI 47 r5) .no, .v (.sl 44 r6) .no, .v (.sl 67 r7) .no]) v) :
 RepD E g w dead (.agg [.v (.bytes r0) .no, .v (.int .i64 r1) .no, .v (.int .i64 r2) .no, .v (.sl 58 r3) .no, .v (.sl 64 r4) .no, .v (.sl 47 r5) .no, .v (.sl 44 r6) .no, .v (.sl 67 r7) .no]) v := by
 cases hr with
 | agg ds us hn hr =>
   refine .agg _ us hn fun k y hk => ?_
   rcases k with _ | _ | _ | _ | _ | _ | k
   . exact hr 0 y hk
   . exact hr 1 y hk
   . exact hr 2 y hk
   . exact hr 3 y hk
   . exact hr 4 y hk
   . simp at hk; subst hk
     have := hr 5 _ rfl
     generalize us.getD 5 undef = u5 at this ⊢
     cases this with
     | v x a u h ha => cases h with | rowI e xs A n c h hi => exact .v _ _ _ h trivial
   . exact hr (k + 6) y hk
theorem d0S (g : G) (n : Nat) : (over g.hide n).hide = over g.hide n := by
 unfold over G.hide
 simp only
 congr 1
 funext b
 by_cases h : b < n
 . simp only [if_pos h]
   cases g.Γ b <;> rfl
 . simp only [if_neg h]; rfl
set_option maxHeartbeats 1000000 in
theorem c4V {N : Nat} {y0 : List UInt8} {r0 : List UInt8} {r1 r2 : Int} {r3 r4 r5 r6 r7 : List V} {z0 : List UInt8} (h : a3u N y0 = some (r0, r1, r2, r3, r4, r5, r6, r7, z0)) (hc : a0K N r0 r1 r2 r3 r4 r5 r6 r7 = some 0) (hl : y0.length <= 2048) (hs : SzOK T g w) {u : FW} (hu : RepV g w (.bytes y0) u) :
 IE Tryz.prog 6 #[u] w fun e w' => ∃ v g' E', e = .returned (.tuple #[v, .int .i64 0]) /\ RepD E' g' w' [] (.agg [.v (.bytes r0) .no, .v (.int .i64 r1) .no, .v (.int .i64 r2) .no, .v (.sl 58 r3) .no, .v (.sl 64 r4) .no, .v (.rowI 47 r5) .no, .v (.sl 44 r6) .no, .v (.sl 67 r7) .no]) v /\ SzOK T g' w' /\ Tr 0 g.hide w g' w' := by
 obtain ⟨A, n, c, rfl, hn⟩ : ∃ A n c, u = .slice A n c /\ n = y0.length := by cases hu with | bytes xs A n c hn _ _ _ => exact ⟨A, n, c, rfl, hn.symm⟩
 have hn2 : n <= 2048 := by omega
 have hg1 : Grows w (w.alloc (.cells pkZ 29)) := Grows.alloc w _
 have hl2 := (N9 g w).trans (T8 (g := g.hide) hg1)
 have H := Gw (Ge h (Ge (hs.later hl2) (Ge (hu.later hl2) (Ge hg1 hc))))
 clear h hs hu hl2 hg1 hc hl hn
 go_enter Tryz.func6, Tryz.ntmps6
 go_wp2_with fail
 refine (d2U (w := w.alloc (.cells pkZ 29)) H.out.1 H.out.2.1 H.out.2.2.1).mono ?_
 rintro e w4 ⟨v, g4, E4, rfl, hr, hsk, htr⟩
 obtain ⟨A0, n0, k0, A3, n3, k3, A4, n4, k4, A5, n5, k5, A6, n6, k6, A7, n7, k7, rfl⟩ := c2B hr
 have q0 : w4.heap[w.heap.size]? = some (.cells pkZ 29 (0, 0)) := by
  rw [(htr.hid w.heap.size (by simp) (V9 _)).2]
  exact He w _
 have z0 : g4.Γ w.heap.size = .low 0 := by
  rw [(htr.hid w.heap.size (by simp) (V9 _)).1]
  show (if w.heap.size < w.heap.size then g.hide.Γ w.heap.size else .low 0).hid = _
  rw [if_neg (by omega)]; rfl
 have hlt : w.heap.size < w4.heap.size := G7 q0
 have hg5 : Grows w4 (w4.alloc (.cells #[.slice A0 n0 k0, .int .i64 r1, .int .i64 r2, .slice A3 n3 k3, .slice A4 n4 k4, .slice A5 n5 k5, .slice A6 n6 k6, .slice A7 n7 k7] 29)) := Grows.alloc w4 _
 have hl5 := T8 (g := g4) hg5
 have ht5 : Tr 0 g.hide w (over g4 w4.heap.size) _ := ((b8w (g := g.hide) H.out.2.2.2.1 0).trans (by rw [d0S] at htr; exact htr)).trans (b8w (g := g4) hg5 0)
 have hr5 := hr.far_ (E' := E4) (dead' := []) hl5 rfl
 have hs5 := hsk.later hl5
 have hq5 : (over g4 w4.heap.size).Γ w.heap.size = .low 0 := by
  show (if w.heap.size < w4.heap.size then g4.Γ w.heap.size else .low 0) = _
  rw [if_pos hlt]; exact z0
 have hp5 : (w4.alloc (.cells #[.slice A0 n0 k0, .int .i64 r1, .int .i64 r2, .slice A3 n3 k3, .slice A4 n4 k4, .slice A5 n5 k5, .slice A6 n6 k6, .slice A7 n7 k7] 29)).heap[w.heap.size]? = some (.cells pkZ 29 (0, 0)) := by
  rw [hg5.old _ hlt]; exact q0
 have H5 := Gw (Ge ht5 (Ge hr5 (Ge hs5 (Ge hq5 (Ge hp5 hlt)))))
 clear hr hsk htr q0 z0 hg5 hl5 ht5 hr5 hs5 hq5 hp5 hlt
 go_wp2_with fail
 refine (e1q N r0 r1 r2 r3 r4 r5 r6 r7 0 H.out.2.2.2.2 E4 _ _ [_] H5.out.2.2.1 ⟨rfl, fun k y hk => ?_⟩).mono ?_
 . rcases k with _ | k
   . simp at hk; subst hk
     exact c1s H5.out.2.1
   . simp at hk
 rintro e w6 ⟨us6, g6, rfl, hu6, ht6⟩
 obtain rfl : us6 = [.int .i64 0] := by
  have h7 := hu6 E4
  match us6, h7.1 with
  | [u], _ =>
    have h8 : u = .int .i64 0 := a0f (h7.2 0 _ rfl)
    rw [h8]
 obtain ⟨ht5, hr5, hs5, hq5, hp5, hlt⟩ := H5.out
 have e4N : w.heap.size < (w4.alloc (.cells #[.slice A0 n0 k0, .int .i64 r1, .int .i64 r2, .slice A3 n3 k3, .slice A4 n4 k4, .slice A5 n5 k5, .slice A6 n6 k6, .slice A7 n7 k7] 29)).heap.size := G7 hp5
 have q0 : w6.heap[w.heap.size]? = some (.cells pkZ 29 (0, 0)) := by rw [ht6.grows.old _ e4N]; exact hp5
 have q1 : w6.heap[w4.heap.size]? = some (.cells #[.slice A0 n0 k0, .int .i64 r1, .int .i64 r2, .slice A3 n3 k3, .slice A4 n4 k4, .slice A5 n5 k5, .slice A6 n6 k6, .slice A7 n7 k7] 29 (0, 0)) := by
  rw [ht6.grows.old _ (by simp)]; exact He w4 _
 have z0 : g6.Γ w.heap.size = .low 0 := by rw [ht6.old _ e4N]; exact hq5
 have y0 : (∀ o, ¬ s5 g6 w.heap.size o) /\ g6.Γ w.heap.size ≠ .imm := ⟨fun o h => by unfold s5 at h; rw [z0] at h; exact absurd h (Ir _), by rw [z0]; exact fun h => by cases h⟩
 have hw5 := ((((((((Low.refl g6 w.heap.size w6).set 0 (.slice A0 n0 k0) y0.1 y0.2 (FV _)).set 1 (.int .i64 r1) y0.1 y0.2 (FV _)).set 2 (.int .i64 r2) y0.1 y0.2 (FV _)).set 3 (.slice A3 n3 k3) y0.1 y0.2 (FV _)).set 4 (.slice A4 n4 k4) y0.1 y0.2 (FV _)).set 5 (.slice A5 n5 k5) y0.1 y0.2 (FV _)).set 6 (.slice A6 n6 k6) y0.1 y0.2 (FV _)).set 7 (.slice A7 n7 k7) y0.1 y0.2 (FV _)
 have HF := Gw (Ge hw5 (Ge ((hs5.later ht6.later).later hw5.later) (Ge (hw5.tr (ht5.trans (ht6.tr 0)) (FV _)) ((hr5.far_ (E' := E4) (dead' := []) (ht6.later.trans hw5.later) rfl)))))
 have c0 : ∀ j, w6.cell? ⟨w.heap.size, j, none⟩ = pkZ[j]? := fun j => Gz _ _ j _ _ _ q0
 have f0 : ∀ j, w6.frozen? ⟨w.heap.size, j, none⟩ = false := fun j => IA _ _ j _ _ q0
 have c1 : ∀ j, w6.cell? ⟨w4.heap.size, j, none⟩ = (#[.slice A0 n0 k0, .int .i64 r1, .int .i64 r2, .slice A3 n3 k3, .slice A4 n4 k4, .slice A5 n5 k5, .slice A6 n6 k6, .slice A7 n7 k7] : Array FW)[j]? := fun j => Gz _ _ j _ _ _ q1
 have d0 : w6.cell? ⟨w.heap.size, 0, none⟩ = some (.slice none 0 0) := c0 0
 have d1 : w6.cell? ⟨w.heap.size, 1, none⟩ = some (.int .i64 0) := c0 1
 have d2 : w6.cell? ⟨w.heap.size, 2, none⟩ = some (.int .i64 0) := c0 2
 have d3 : w6.cell? ⟨w.heap.size, 3, none⟩ = some (.slice none 0 0) := c0 3
 have d4 : w6.cell? ⟨w.heap.size, 4, none⟩ = some (.slice none 0 0) := c0 4
 have d5 : w6.cell? ⟨w.heap.size, 5, none⟩ = some (.slice none 0 0) := c0 5
 have d6 : w6.cell? ⟨w.heap.size, 6, none⟩ = some (.slice none 0 0) := c0 6
 have d7 : w6.cell? ⟨w.heap.size, 7, none⟩ = some (.slice none 0 0) := c0 7
 have e0 := f0 0
 have e1 := f0 1
 have e2 := f0 2
 have e3 := f0 3
 have e4 := f0 4
 have e5 := f0 5
 have e6 := f0 6
 have e7 := f0 7
 have b0 : w6.cell? ⟨w4.heap.size, 0, none⟩ = some (.slice A0 n0 k0) := c1 0
 have b1 : w6.cell? ⟨w4.heap.size, 1, none⟩ = some (.int .i64 r1) := c1 1
 have b2 : w6.cell? ⟨w4.heap.size, 2, none⟩ = some (.int .i64 r2) := c1 2
 have b3 : w6.cell? ⟨w4.heap.size, 3, none⟩ = some (.slice A3 n3 k3) := c1 3
 have b4 : w6.cell? ⟨w4.heap.size, 4, none⟩ = some (.slice A4 n4 k4) := c1 4
 have b5 : w6.cell? ⟨w4.heap.size, 5, none⟩ = some (.slice A5 n5 k5) := c1 5
 have b6 : w6.cell? ⟨w4.heap.size, 6, none⟩ = some (.slice A6 n6 k6) := c1 6
 have b7 : w6.cell? ⟨w4.heap.size, 7, none⟩ = some (.slice A7 n7 k7) := c1 7
 clear hu6 ht6 e4N q0 q1 z0 y0 hw5 c0 f0 c1 hr5 hs5 hq5 hp5 ht5 H5 hlt
 rw [show S0 [Ia .i64 0] = Ia .i64 0 from rfl]
 go_wp2_with fail
 refine bodyPost_ret (v := .tuple #[.agg #[.slice A0 n0 k0, .int .i64 r1, .int .i64 r2, .slice A3 n3 k3, .slice A4 n4 k4, .slice A5 n5 k5, .slice A6 n6 k6, .slice A7 n7 k7], .int .i64 0]) (by simp [results, Tryz.results6, go_sem, d0, d1, d2, d3, d4, d5, d6, d7]) rfl ⟨_, g6, E4, rfl, HF.out.2.2.2, HF.out.2.1, HF.out.2.2.1⟩
end
end En
namespace En
open Go
def V.isI : V -> Bool
 | .int .i64 _ => true
 | _ => false
def V.okRow (x : V) : Bool := Nat.ble x.cells.length 4 || (x.cells.take 4).any fun y => !y.isI
mutual
def V.good : V -> Bool
 | .bool _ => true
 | .int _ _ => true
 | .str _ => true
 | .bytes _ => true
 | .sl _ xs => goods xs && okRows xs
 | .agg cs => goods cs
 | _ => false
def goods : List V -> Bool
 | [] => true
 | x :: xs => x.good && goods xs
def okRows : List V -> Bool
 | [] => true
 | x :: xs => x.okRow && okRows xs
end
theorem a0U : ∀ {xs : List V}, goods xs = true -> ∀ x ∈ xs, x.good = true
 | x :: xs, h, y, hy => by
   simp only [goods, FS] at h
   rcases GG.1 hy with rfl | hy
   . exact h.1
   . exact a0U h.2 y hy
theorem b2s : ∀ {xs : List V}, okRows xs = true -> ∀ x ∈ xs, x.okRow = true
 | x :: xs, h, y, hy => by
   simp only [okRows, FS] at h
   rcases GG.1 hy with rfl | hy
   . exact h.1
   . exact b2s h.2 y hy
theorem b5D {x y : V} (h : x.good = true) (hy : y ∈ x.cells) : y.good = true := by
 cases x <;> simp only [V.cells, List.mem_singleton] at hy
 all_goals first | (subst hy; exact h) | skip
 rename_i cs
 exact a0U (by simpa [V.good] using h) y hy
section
variable {g : G} {w w' : Gb}
structure Twin (g : G) (w : Gb) (n : Nat) (A0 A1 : Option Addr) (c1 : Nat) : Prop where
 cap : n <= c1
 max : c1 <= maxLen
 cells : ∀ k, k < 4 * n -> ∃ b0 o0 b1 o1 m, A0 = some ⟨b0, o0, none⟩ /\ A1 = some ⟨b1, o1, none⟩ /\ w.cell? ⟨b0, o0 + k, none⟩ = some (.int .i64 m) /\ s5 g b1 (o1 + k) /\ w.cell? ⟨b1, o1 + k, none⟩ = some (.int .i64 m)
theorem d1b {n c0 c1 : Nat} {A0 A1 : Option Addr} (ht : Twin g w n A0 A1 c1) {y : V} (hy : y.good = true) (h : RepV g w y (.slice A0 n c0)) : RepV g w y (.slice A1 n c1) := by
 generalize hv : Hq A0 n c0 = v at h
 cases h with
 | bool b => cases hv
 | int k m h => cases hv
 | str s h => cases hv
 | agg cs us h1 h2 => cases hv
 | iface t x v h => cases hv
 | nilI => cases hv
 | mset ks b es clock hb hw hm => cases hv
 | nilM => cases hv
 | rowI e xs A n c h hi => cases hy
 | bytes xs A n' c hn hc hm h =>
   injection hv with e1 e2 e3
   subst e1; subst e2; subst e3
   refine .bytes xs A1 _ c1 hn ht.cap ht.max fun k x hx => ?_
   exfalso
   have hk : k < n := by have := (FN.1 hx).1; omega
   obtain ⟨b, off, e1, _, h3⟩ := h k x hx
   obtain ⟨b0, o0, b1, o1, m, e2, _, h4, _⟩ := ht.cells k (by omega)
   rw [e1] at e2
   injection e2 with e2; injection e2 with e3 e4
   subst e3; subst e4
   rw [h3] at h4
   injection h4 with h4; injection h4 with h4; cases h4
 | sl e xs A n' c us hn hc hm hs h hr =>
   injection hv with e1 e2 e3
   subst e1; subst e2; subst e3
   have hg := hy
   simp only [V.good, FS] at hg
   have hsz : ∀ x ∈ xs, x.cells.length = g.sz e := fun x hx => (U7 (hs x hx)).1
   have hlen : (xs.flatMap V.cells).length = n * g.sz e := by rw [a8T hsz, hn]
   have key : ∀ (k : Nat) z, k < 4 * n -> (xs.flatMap V.cells)[k]? = some z -> ∃ b0 o0 b1 o1 m, A0 = some ⟨b0, o0, none⟩ /\ A1 = some ⟨b1, o1, none⟩ /\ us k = .int .i64 m /\ s5 g b1 (o1 + k) /\ w.cell? ⟨b1, o1 + k, none⟩ = some (.int .i64 m) := by
    intro k z hk hz
    obtain ⟨b, off, e1, _, h3⟩ := h k z hz
    obtain ⟨b0, o0, b1, o1, m, e2, e5, h4, h5, h6⟩ := ht.cells k hk
    have e6 := e2
    rw [e1] at e2
    injection e2 with e2; injection e2 with e3 e4
    subst e3; subst e4
    rw [h3] at h4
    injection h4 with h4
    exact ⟨b, off, b1, o1, m, e6, e5, h4, h5, h6⟩
   have hle : n * g.sz e <= 4 * n := by
    rcases Hh 4 (g.sz e) with e8m | hsm
    . match xs, hn with
      | [], hn =>
        have : n = 0 := hn.symm
        rw [this]; simp
      | x :: r, hn =>
        exfalso
        have hx : x.okRow = true := b2s hg.2 x (IN ..)
        have hxl := hsz x (IN ..)
        unfold V.okRow at hx
        simp only [Bool.or_eq_true, Nat.ble_eq] at hx
        rcases hx with hx | hx
        . omega
        . rw [KA] at hx
          obtain ⟨y, hy1, hy2⟩ := hx
          obtain ⟨j, hj⟩ := Ic hy1
          rw [List.getElem?_take] at hj
          split at hj
          . rename_i hj4
            have hz : ((x :: r).flatMap V.cells)[j]? = some y := by
             rw [List.flatMap_cons, Gg (by have := (FN.1 hj).1; exact this)]
             exact hj
            have hn1 : 0 < n := by have : (x :: r).length = n := hn; simp at this; omega
            obtain ⟨_, _, _, _, m, _, _, hu, _⟩ := key j y (by omega) hz
            have hry := hr j y hz
            rw [hu] at hry
            generalize hvv : Ia FK m = vv at hry
            cases hry with
            | int k' m' h' => injection hvv with e1 e2; subst e1; cases hy2
            | _ => cases hvv
          . cases hj
    . calc n * g.sz e <= n * 4 := Nat.mul_le_mul_left _ hsm
       _ = 4 * n := LQ _ _
   refine .sl e xs A1 _ c1 us hn ht.cap ht.max hs (fun k z hz => ?_) hr
   have hk : k < 4 * n := by have := (FN.1 hz).1; omega
   obtain ⟨_, _, b1, o1, m, _, e5, hu, h5, h6⟩ := key k z hk hz
   exact ⟨b1, o1, e5, h5, by rw [hu]; exact h6⟩
theorem a8E {b o : Nat} {u0 u1 : FW} (hc : w.cell? ⟨b, o, none⟩ = some u0) (b' o' : Nat) : (w.setCell ⟨b, o, none⟩ u1).cell? ⟨b', o', none⟩ = if b' = b /\ o' = o then some u1 else w.cell? ⟨b', o', none⟩ := by
 split
 . rename_i h
   obtain ⟨rfl, rfl⟩ := h
   exact World.cell?_setCell_same _ _ _ hc
 . rename_i h
   exact World.cell?_setCell_other _ _ _ _ (fun e => h (by injection e with e1 e2 _; exact ⟨e1.symm, e2.symm⟩))
theorem RepV.put_same {b o n c0 : Nat} {A0 : Option Addr} {u1 : FW} (hc : w.cell? ⟨b, o, none⟩ = some (.slice A0 n c0))
 (c9s : ∀ y : V, y.good = true -> RepV g (w.setCell ⟨b, o, none⟩ u1) y (.slice A0 n c0) -> RepV g (w.setCell ⟨b, o, none⟩ u1) y u1) {x : V} {v : FW} (h : RepV g w x v) : x.good = true -> RepV g (w.setCell ⟨b, o, none⟩ u1) x v := by
 induction h with
 | bool b => exact fun _ => .bool b
 | int k n h => exact fun _ => .int k n h
 | str s h => exact fun _ => .str s h
 | bytes xs A n' c hn hc' hm h =>
   refine fun _ => .bytes xs A n' c hn hc' hm fun k x hx => ?_
   obtain ⟨b', off, e, h1, h2⟩ := h k x hx
   refine ⟨b', off, e, h1, ?_⟩
   rw [a8E hc, if_neg]
   . exact h2
   . rintro ⟨rfl, e3⟩
     rw [e3, hc] at h2
     injection h2 with h2; cases h2
 | sl e xs A n' c us hn hc' hm hs h hr ih =>
   intro hg
   simp only [V.good, FS] at hg
   have c4d : ∀ (k : Nat) y, (xs.flatMap V.cells)[k]? = some y -> y.good = true := by
    intro k y hk
    obtain ⟨z, hz, hy⟩ := Kw.1 (Ga hk)
    exact b5D (a0U hg.1 z hz) hy
   refine .sl e xs A n' c (fun k => if A = some ⟨b, o - k, none⟩ /\ k <= o then u1 else us k) hn hc' hm hs (fun k y hk => ?_) fun k y hk => ?_
   . obtain ⟨b', off, e1, h1, h2⟩ := h k y hk
     refine ⟨b', off, e1, h1, ?_⟩
     rw [a8E hc]
     by_cases hq : b' = b /\ off + k = o
     . rw [if_pos hq]
       obtain ⟨rfl, e3⟩ := hq
       show some u1 = some (if A = some ⟨b', o - k, none⟩ /\ k <= o then u1 else us k)
       rw [if_pos ⟨by rw [e1]; congr 2; omega, by omega⟩]
     . rw [if_neg hq]
       show w.cell? ⟨b', off + k, none⟩ = some (if A = some ⟨b, o - k, none⟩ /\ k <= o then u1 else us k)
       rw [if_neg]
       . exact h2
       . rintro ⟨e2, e3⟩
         rw [e1] at e2
         injection e2 with e2; injection e2 with e4 e5
         exact hq ⟨e4, by omega⟩
   . obtain ⟨b', off, e1, h1, h2⟩ := h k y hk
     show RepV g _ y (if A = some ⟨b, o - k, none⟩ /\ k <= o then u1 else us k)
     by_cases hq : A = some ⟨b, o - k, none⟩ /\ k <= o
     . rw [if_pos hq]
       obtain ⟨e2, e3⟩ := hq
       rw [e1] at e2
       injection e2 with e2; injection e2 with e4 e5
       subst e4
       rw [show off + k = o by omega, hc] at h2
       injection h2 with h2
       have := ih k y hk (c4d k y hk)
       rw [← h2] at this
       exact c9s y (c4d k y hk) this
     . rw [if_neg hq]; exact ih k y hk (c4d k y hk)
 | agg cs us hn hr ih =>
   intro hg
   refine .agg cs us hn fun k y hk => ih k y hk ?_
   exact a0U (by simpa [V.good] using hg) y (Ga hk)
 | iface t x v h ih => exact fun hg => by cases hg
 | nilI => exact fun hg => by cases hg
 | mset ks b es clock hb hw hm => exact fun hg => by cases hg
 | nilM => exact fun hg => by cases hg
 | rowI e xs A n c h hi ih => exact fun hg => by cases hg
theorem P3 {α : Type} (f : α -> V) (h : ∀ x, (f x).good = true) : ∀ l : List α, goods (l.map f) = true
 | [] => rfl
 | x :: l => by simp [goods, h x, P3 f h l]
theorem S2 {α : Type} (f : α -> V) (h : ∀ x, (f x).okRow = true) : ∀ l : List α, okRows (l.map f) = true
 | [] => rfl
 | x :: l => by simp [okRows, h x, S2 f h l]
theorem c7J (n : Int) : (nV n).good = true := rfl
theorem d5t (r : Rf) : (rfV r).good = true := rfl
theorem b3g (r : Tp) : (tpV r).good = true := rfl
theorem d3p (r : Im) : (imV r).good = true := rfl
theorem d3e (r : Ap) : (apV r).good = true := rfl
theorem d3i (r : Hd) : (hdV r).good = true := rfl
theorem e1i (r : In) : (iV r).good = true := rfl
theorem a8U {α : Type} (t : FP) (f : α -> V) (h : ∀ x, (f x).good = true) (h2 : ∀ x, (f x).okRow = true) (l : List α) : (V.sl t (l.map f)).good = true := by
 simp [V.good, P3 f h l, S2 f h2 l]
theorem d3x (x : Il) : (ilV x).good = true := by
 simp [ilV, V.good, goods, P3 nV c7J, S2 nV (fun _ => rfl)]
theorem d4I (c : Cl) : (clV c).good = true := by
 simp [clV, V.good, goods, P3 nV c7J, S2 nV (fun _ => rfl), P3 rfV d5t, S2 rfV (fun _ => rfl), P3 tpV b3g, S2 tpV (fun _ => rfl), P3 ilV d3x, S2 ilV (fun _ => rfl)]
theorem d5l (m : Mt) : (mtV m).good = true := by
 simp [mtV, V.good, goods, a3G, P3 iV e1i, S2 iV (fun _ => rfl), P3 hdV d3i, S2 hdV (fun _ => rfl), P3 tpV b3g, S2 tpV (fun _ => rfl)]
theorem c8x (p : Pk) : (V.bytes p.aid).good = true /\ (V.sl 58 (p.ims.map imV)).good = true /\ (V.sl 64 (p.cls.map clV)).good = true /\ (V.sl 47 (p.mts.map mtV)).good = true /\ (V.sl 44 (p.sts.map tpV)).good = true /\ (V.sl 67 (p.aps.map apV)).good = true :=
 ⟨rfl, a8U _ _ d3p (fun _ => rfl) _, a8U _ _ d4I (fun _ => rfl) _, a8U _ _ d5l (fun _ => rfl) _, a8U _ _ b3g (fun _ => rfl) _, a8U _ _ d3e (fun _ => rfl) _⟩
theorem b6A : ∀ (code : List In) (k : Nat), k < 4 * code.length -> ∃ m, ((iE code).flatMap V.cells)[k]? = some (.int .i64 m)
 | [], k, h => by simp at h
 | i :: r, k, h => by
   have e : (iE (i :: r)).flatMap V.cells = [.int .i64 i.op, .int .i64 i.a, .int .i64 i.b, .int .i64 i.c] ++ (iE r).flatMap V.cells := rfl
   rw [e]
   rcases k with _ | _ | _ | _ | k
   . exact ⟨_, rfl⟩
   . exact ⟨_, rfl⟩
   . exact ⟨_, rfl⟩
   . exact ⟨_, rfl⟩
   . obtain ⟨m, hm⟩ := b6A r k (by simp at h; omega)
     exact ⟨m, hm⟩
theorem d0I (code : List In) : (iE code).length = code.length := by rw [a3G, Gh]
theorem c8o {code : List In} {A : Option Addr} {n c : Nat} (h : RepV g w (.sl 54 (iE code)) (.slice A n c)) : n = code.length /\ n <= c /\ c <= maxLen /\ ∀ (k : Nat) m, ((iE code).flatMap V.cells)[k]? = some (.int .i64 m) -> ∃ b o, A = some ⟨b, o, none⟩ /\ s5 g b (o + k) /\ w.cell? ⟨b, o + k, none⟩ = some (.int .i64 m) := by
 cases h with
 | sl e xs A n c us hn hc hm hs h hr =>
   refine ⟨by rw [← hn, d0I], hc, hm, fun k m hk => ?_⟩
   obtain ⟨b, o, e1, h1, h2⟩ := h k _ hk
   have h3 := hr k _ hk
   generalize us k = u at h2 h3
   cases h3
   exact ⟨b, o, e1, h1, h2⟩
theorem d9O {code : List In} {A0 A1 : Option Addr} {n c0 n1 c1 : Nat} (h0 : RepV g w (.sl 54 (iE code)) (.slice A0 n c0)) (h1 : RepV g w (.sl 54 (iE code)) (.slice A1 n1 c1)) : n1 = n /\ Twin g w n A0 A1 c1 := by
 obtain ⟨e0, a1, a2, a3⟩ := c8o h0
 obtain ⟨e1, b1, b2, b3⟩ := c8o h1
 refine ⟨e1.trans e0.symm, by omega, b2, fun k hk => ?_⟩
 obtain ⟨m, hm⟩ := b6A code k (by omega)
 obtain ⟨p, o, q1, q2, q3⟩ := a3 k m hm
 obtain ⟨p', o', q1', q2', q3'⟩ := b3 k m hm
 exact ⟨p, o, p', o', m, q1, q1', q3, q2', q3'⟩
theorem Twin.put {b o n c0 c1 : Nat} {A0 A1 : Option Addr} {u1 : FW} (hc : w.cell? ⟨b, o, none⟩ = some (.slice A0 n c0)) (h : Twin g w n A0 A1 c1) : Twin g (w.setCell ⟨b, o, none⟩ u1) n A0 A1 c1 := by
 refine ⟨h.cap, h.max, fun k hk => ?_⟩
 obtain ⟨b0, o0, b1, o1, m, e0, e1, h1, h2, h3⟩ := h.cells k hk
 refine ⟨b0, o0, b1, o1, m, e0, e1, ?_, h2, ?_⟩
 . rw [a8E hc, if_neg]
   . exact h1
   . rintro ⟨rfl, e⟩
     rw [e, hc] at h1
     injection h1 with h1; cases h1
 . rw [a8E hc, if_neg]
   . exact h3
   . rintro ⟨rfl, e⟩
     rw [e, hc] at h3
     injection h3 with h3; cases h3
theorem RepV.put_code {b o n c0 n1 c1 : Nat} {A0 A1 : Option Addr} {code : List In} (hc : w.cell? ⟨b, o, none⟩ = some (.slice A0 n c0)) (h0 : RepV g w (.sl 54 (iE code)) (.slice A0 n c0)) (h1 : RepV g w (.sl 54 (iE code)) (.slice A1 n1 c1)) {x : V} {v : FW} (h : RepV g w x v) (hx : x.good = true) : RepV g (w.setCell ⟨b, o, none⟩ (.slice A1 n1 c1)) x v := by
 obtain ⟨rfl, ht⟩ := d9O h0 h1
 exact h.put_same hc (fun y hy h2 => d1b (ht.put hc) hy h2) hx
end
end En
namespace En
open Go Go.RowKit
def pkD (p : Pk) : D := .agg [.v (.bytes p.aid) .no, .v (.int .i64 p.ma) .no, .v (.int .i64 p.mi) .no, .v (.sl 58 (p.ims.map imV)) .no, .v (.sl 64 (p.cls.map clV)) .no, .v (.sl 47 (p.mts.map mtV)) .no, .v (.sl 44 (p.sts.map tpV)) .no, .v (.sl 67 (p.aps.map apV)) .no]
section
variable {E E' : Env} {g g' : G} {w w' : Gb} {p : Pk}
theorem b6U {dead : List Pos} {v : FW} (hr : RepD E g w dead (pkD p) v) :
 ∃ A0 n0 k0 A3 n3 k3 A4 n4 k4 A5 n5 k5 A6 n6 k6 A7 n7 k7, v = .agg #[.slice A0 n0 k0, .int .i64 p.ma, .int .i64 p.mi, .slice A3 n3 k3, .slice A4 n4 k4, .slice A5 n5 k5, .slice A6 n6 k6, .slice A7 n7 k7] := by
 obtain ⟨us, rfl, hus⟩ : ∃ us, v = .agg us /\ us.size = 8 := by unfold pkD at hr; cases hr with | agg ds us hn hr => exact ⟨us, rfl, hn⟩
 obtain ⟨v0, v1, v2, v3, v4, v5, v6, v7, rfl⟩ := c5I hus
 have sh : (∃ A n c, v0 = .slice A n c) /\ v1 = .int .i64 p.ma /\ v2 = .int .i64 p.mi /\ (∃ A n c, v3 = .slice A n c) /\ (∃ A n c, v4 = .slice A n c) /\ (∃ A n c, v5 = .slice A n c) /\ (∃ A n c, v6 = .slice A n c) /\ (∃ A n c, v7 = .slice A n c) := by
  unfold pkD at hr
  cases hr with
  | agg ds us hn hr =>
    exact ⟨b3M (hr 0 _ rfl), a0f (hr 1 _ rfl), a0f (hr 2 _ rfl), a1N (hr 3 _ rfl), a1N (hr 4 _ rfl), a1N (hr 5 _ rfl), a1N (hr 6 _ rfl), a1N (hr 7 _ rfl)⟩
 obtain ⟨⟨A0, n0, k0, rfl⟩, rfl, rfl, ⟨A3, n3, k3, rfl⟩, ⟨A4, n4, k4, rfl⟩, ⟨A5, n5, k5, rfl⟩, ⟨A6, n6, k6, rfl⟩, ⟨A7, n7, k7, rfl⟩⟩ := sh
 exact ⟨A0, n0, k0, A3, n3, k3, A4, n4, k4, A5, n5, k5, A6, n6, k6, A7, n7, k7, rfl⟩
theorem a3V {us : List FW} {d : D} (h : RepDs E g w [] [d] us) : ∃ u, us = [u] /\ RepD E g w [] d u := by
 match us, h.1 with
 | [u], _ => exact ⟨u, rfl, h.2 0 _ rfl⟩
theorem b9x {us : List FW} {d e : D} (h : RepDs E g w [] [d, e] us) : ∃ u v, us = [u, v] /\ RepD E g w [] d u /\ RepD E g w [] e v := by
 match us, h.1 with
 | [u, v], _ => exact ⟨u, v, rfl, h.2 0 _ rfl, h.2 1 _ rfl⟩
theorem b3W {d : D} {u : FW} (h : RepD E g w [] d u) : RepDs E g w [] [d] [u] := ⟨rfl, fun k y hk => by
 rcases k with _ | k
 . simp at hk; subst hk; exact h
 . simp at hk⟩
theorem d5b {d e : D} {u v : FW} (h : RepD E g w [] d u) (h' : RepD E g w [] e v) : RepDs E g w [] [d, e] [u, v] := ⟨rfl, fun k y hk => by
 rcases k with _ | _ | k
 . simp at hk; subst hk; exact h
 . simp at hk; subst hk; exact h'
 . simp at hk⟩
theorem e2O : RepDs E g w [] [] [] := ⟨rfl, fun k y hk => by simp at hk⟩
theorem b7T {b : Bool} {a : Att} {v : FW} {dead : List Pos} (h : RepD E g w dead (.v (.bool b) a) v) : v = .bool b := by
 cases h with | v x a v h ha => cases h; rfl
theorem a1R (h : Grows w w') : Below w.heap.size w w' := ⟨h.os, h.tape, h.output, h.size, h.old⟩
set_option maxHeartbeats 1000000 in
theorem d9m {N : Nat} (hN : 100000 < N) {e : Int} (he : e ≠ 0) (h : Z3 N p.aid p.ma p.mi (p.ims.map imV) (p.cls.map clV) (p.mts.map mtV) (p.sts.map tpV) (p.aps.map apV) = some ([], e)) (hs : SzOK T g w) {v : FW} (hv : RepD E g w [] (pkD p) v) :
 IE Tryz.prog 3 #[v] w fun e w' => e = .returned (.bool true) /\ Below w.heap.size w w' := by
 obtain ⟨A0, n0, k0, A3, n3, k3, A4, n4, k4, A5, n5, k5, A6, n6, k6, A7, n7, k7, rfl⟩ := b6U hv
 have hg1 : Grows w (w.alloc (.cells #[.slice A0 n0 k0, .int .i64 p.ma, .int .i64 p.mi, .slice A3 n3 k3, .slice A4 n4 k4, .slice A5 n5 k5, .slice A6 n6 k6, .slice A7 n7 k7] 29)) := Grows.alloc w _
 have hl1 := T8 (g := g) hg1
 have H := Gw (Ge h (Ge (hs.later hl1) (Ge (hv.far_ (E' := E) (dead' := []) hl1 rfl) (Ge hg1 hN))))
 clear h hs hv hg1 hl1 hN
 go_enter Tryz.func3, Tryz.ntmps3
 go_wp2_with fail
 refine (b0G N _ _ _ _ _ _ _ _ _ _ H.out.1 E _ _ [_] H.out.2.1 (b3W H.out.2.2.1)).mono ?_
 rintro e w2 ⟨us, g2, rfl, hu, ht⟩
 obtain ⟨bv, ev, rfl, hb, hev⟩ := b9x (hu E)
 obtain rfl := a0f hev
 rw [show S0 [bv, Ia .i64 e] = .tuple #[bv, .int .i64 e] from rfl]
 have he' : ¬ e = 0 := he
 have HB := Gw (Ge (H.out.2.2.2.1.trans ht.grows) (H.out.2.1.later ht.later))
 clear hu hb hev ht
 go_wp2_with fail
 refine (c3z N true (b1p N H.out.2.2.2.2) E g2 _ [] HB.out.2 e2O).mono ?_
 rintro e3 w3 ⟨us3, g3, rfl, hu3, ht3⟩
 obtain ⟨sv, rfl, hsv⟩ := a3V (hu3 E)
 obtain rfl := b7T hsv
 rw [show S0 [KB true] = .bool true from rfl]
 have HB3 := Gw (a1R (HB.out.1.trans ht3.grows))
 clear hu3 hsv ht3
 go_wp2_with fail
 go_ret
 exact ⟨rfl, HB3.out⟩
end
end En
namespace En
open Go Go.RowKit
section
variable {E E' : Env} {g g' : G} {w w' w0 : Gb} {p : Pk}
theorem b3m {mts : List Mt} {A : Option Addr} {n c : Nat} (h : RepV g w (.sl 47 (mts.map mtV)) (.slice A n c)) : n = mts.length /\ n <= maxLen /\ ∀ (k : Nat) m, mts[k]? = some m -> ∃ b off A0 n0 c0, A = some ⟨b, off, none⟩ /\ w.cell? ⟨b, off + (k * 11 + 9), none⟩ = some (.slice A0 n0 c0) /\ RepV g w (.sl 54 (iE m.code)) (.slice A0 n0 c0) := by
 cases h with
 | sl e xs A n c us hn hc hm hs h hr =>
   refine ⟨by rw [← hn, Gh], IK hc hm, fun k m hk => ?_⟩
   have hsz : ∀ x ∈ mts.map mtV, x.cells.length = 11 := by
    intro x hx
    obtain ⟨m, _, rfl⟩ := IQ.1 hx
    rfl
   have hx : (mts.map mtV)[k]? = some (mtV m) := by rw [Gm, hk]; rfl
   have hf := a6t hsz (k := 9) (y := V.sl 54 (iE m.code)) hx rfl
   obtain ⟨b, off, e1, h1, h2⟩ := h _ _ hf
   have h3 := hr _ _ hf
   generalize us (k * 11 + 9) = u at h2 h3
   obtain ⟨A0, n0, c0, rfl⟩ : ∃ A0 n0 c0, u = .slice A0 n0 c0 := by cases h3; exact ⟨_, _, _, rfl⟩
   exact ⟨b, off, A0, n0, c0, e1, h2, h3⟩
def e6n (g : G) (w : Gb) (B0 Bq : Nat) (A5 : Option Addr) (ms : List Mt) : Prop := ms = [] ∨ ∃ bm cur, A5 = some ⟨bm, 0, none⟩ /\ g.Γ bm = .imm /\ w.heap[bm]? = some (.cells cur 47 (0, 0)) /\ B0 < bm /\ bm ≠ Bq /\ bm ∉ a0G
structure LawI (w0 : Gb) (p : Pk) (E : Env) (bv : FW) (pcs qcs : Array FW) (Bq : Nat) (A5 : Option Addr) (g : G) (w : Gb) : Prop where
 sk : SzOK T g w
 below : Below w0.heap.size w0 w
 hp : w.heap[w0.heap.size]? = some (.cells pcs 29 (0, 0))
 hq : w.heap[Bq]? = some (.cells qcs 29 (0, 0))
 lp : g.Γ w0.heap.size = .low 0
 lq : g.Γ Bq = .low 0
 rp : RepD E g w [] (pkD p) (.agg pcs)
 rq : RepD E g w [] (pkD p) (.agg qcs)
 rb : RepV g w (.bytes (wPk p)) bv
 row : e6n g w w0.heap.size Bq A5 p.mts
theorem LawI.pure {bv : FW} {pcs qcs : Array FW} {Bq : Nat} {A5 : Option Addr} (h : LawI w0 p E bv pcs qcs Bq A5 g w) (ht : PureTr g w g' w') : LawI w0 p E bv pcs qcs Bq A5 g' w' := by
 have h1 := G7 h.hp
 have h2 := G7 h.hq
 refine ⟨h.sk.later ht.later, h.below.trans ((a1R ht.grows).mono h.below.size), by rw [ht.grows.old _ h1]; exact h.hp, by rw [ht.grows.old _ h2]; exact h.hq, by rw [ht.old _ h1]; exact h.lp, by rw [ht.old _ h2]; exact h.lq, h.rp.far_ ht.later rfl, h.rq.far_ ht.later rfl, h.rb.later ht.later, ?_⟩
 rcases h.row with h0 | ⟨bm, cur, e, a, b, c⟩
 . exact .inl h0
 . have h3 := G7 b
   exact .inr ⟨bm, cur, e, by rw [ht.old _ h3]; exact a, by rw [ht.grows.old _ h3]; exact b, c⟩
theorem c7l {b o n c0 n1 c1 : Nat} {A0 A1 : Option Addr} {code : List In} (hc : w.cell? ⟨b, o, none⟩ = some (.slice A0 n c0)) (h0 : RepV g w (.sl 54 (iE code)) (.slice A0 n c0)) (h1 : RepV g w (.sl 54 (iE code)) (.slice A1 n1 c1)) {v : FW} (h : RepD E g w [] (pkD p) v) : RepD E g (w.setCell ⟨b, o, none⟩ (.slice A1 n1 c1)) [] (pkD p) v := by
 obtain ⟨q0, q3, q4, q5, q6, q7⟩ := c8x p
 have put : ∀ {x : V} {u : FW}, x.good = true -> RepD E g w [] (.v x .no) u -> RepD E g (w.setCell ⟨b, o, none⟩ (.slice A1 n1 c1)) [] (.v x .no) u := fun hg hd => by
  cases hd with | v x a u hu ha => exact .v _ _ _ (RepV.put_code hc h0 h1 hu hg) trivial
 unfold pkD at h ⊢
 cases h with
 | agg ds us hn hr =>
   refine .agg _ us hn fun k y hk => ?_
   rcases k with _ | _ | _ | _ | _ | _ | _ | _ | k
   . simp at hk; subst hk; exact put q0 (hr 0 _ rfl)
   . simp at hk; subst hk; exact put rfl (hr 1 _ rfl)
   . simp at hk; subst hk; exact put rfl (hr 2 _ rfl)
   . simp at hk; subst hk; exact put q3 (hr 3 _ rfl)
   . simp at hk; subst hk; exact put q4 (hr 4 _ rfl)
   . simp at hk; subst hk; exact put q5 (hr 5 _ rfl)
   . simp at hk; subst hk; exact put q6 (hr 6 _ rfl)
   . simp at hk; subst hk; exact put q7 (hr 7 _ rfl)
   . simp at hk
theorem LawI.put {bv : FW} {pcs qcs : Array FW} {Bq bm o n c0 n1 c1 : Nat} {A0 A1 : Option Addr} {code : List In} (h : LawI w0 p E bv pcs qcs Bq (some ⟨bm, 0, none⟩) g w) (hm : p.mts ≠ []) (hc : w.cell? ⟨bm, o, none⟩ = some (.slice A0 n c0)) (h0 : RepV g w (.sl 54 (iE code)) (.slice A0 n c0)) (h1 : RepV g w (.sl 54 (iE code)) (.slice A1 n1 c1)) :
 LawI w0 p E bv pcs qcs Bq (some ⟨bm, 0, none⟩) g (w.setCell ⟨bm, o, none⟩ (.slice A1 n1 c1)) := by
 rcases h.row with hz | ⟨bm', cur, e, a, b, c1', c2, c3⟩
 . exact absurd hz hm
 . injection e with e; injection e with e _; subst e
   have other : ∀ b, b ≠ bm -> (w.setCell ⟨bm, o, none⟩ (.slice A1 n1 c1)).heap[b]? = w.heap[b]? := fun b hb => heap_setCell_other w ⟨bm, o, none⟩ b _ hb
   refine ⟨⟨h.sk.eq, fun b hb => ?_⟩, h.below.setCell (by show w0.heap.size <= bm; omega) _, by rw [other _ (by omega)]; exact h.hp, by rw [other _ (fun e => c2 e.symm)]; exact h.hq, h.lp, h.lq, c7l hc h0 h1 h.rp, c7l hc h0 h1 h.rq, RepV.put_code hc h0 h1 h.rb rfl, .inr ⟨bm, _, rfl, a, heap_setCell_same w bm o cur _ _ b, c1', c2, c3⟩⟩
   obtain ⟨s1, x, s2, s3⟩ := h.sk.gl b hb
   exact ⟨s1, x, by rw [other b (fun e => c3 (e ▸ hb))]; exact s2, s3⟩
end
end En
namespace En
open Go Go.RowKit
theorem b9W {k : IntKind} {zs : List Int} {b : Bool} (h : (b1c k zs)[0]? = some (.bool b)) : False := by
 unfold b1c at h
 match zs with
 | [] => simp at h
 | z :: r => simp at h
section
variable {E E' : Env} {g g' : G} {w w' w0 : Gb} {p : Pk}
theorem e0j {mts : List Mt} {A : Option Addr} {n c : Nat} (hs : SzOK T g w) (h : RepV g w (.rowI 47 (mts.map mtV)) (.slice A n c)) : mts = [] ∨ ∃ bm cur, A = some ⟨bm, 0, none⟩ /\ g.Γ bm = .imm /\ w.heap[bm]? = some (.cells cur 47 (0, 0)) /\ bm ∉ a0G := by
 cases h with
 | rowI e xs A n c h hi =>
   rcases hi with h0 | ⟨b, cur, rfl, h1, h2⟩
   . exact .inl (List.map_eq_nil_iff.1 h0)
   . match mts with
     | [] => exact .inl rfl
     | m :: r =>
       refine .inr ⟨b, cur, rfl, h1, h2, fun hb => ?_⟩
       obtain ⟨_, x, hx, vs, t, f, rfl, g1, g2, g3, g4⟩ := hs.gl b hb
       rw [h2] at hx
       injection hx with hx
       injection hx with hx _ _
       subst hx
       have hc : cur[0]? = some (.bool m.st) := by
        cases h with
        | sl e xs A n c us hn hc hm hs h hr =>
          have h3 : (((m :: r).map mtV).flatMap V.cells)[0]? = some (.bool m.st) := rfl
          obtain ⟨b', off, e1, h4, h5⟩ := h 0 _ h3
          injection e1 with e1; injection e1 with e1 e2
          subst e1; subst e2
          have h6 := hr 0 _ h3
          generalize us 0 = u at h5 h6
          cases h6
          rw [Gz w b (0 + 0) _ _ _ h2] at h5
          exact h5
       simp only [a0G, GG, List.not_mem_nil, or_false] at hb
       rcases hb with hb | hb | hb | hb
       . rw [g1 hb] at hc; exact b9W hc
       . obtain ⟨z, hz⟩ := g2 hb; rw [hz] at hc; cases hc
       . rw [g3 hb] at hc; exact b9W hc
       . rw [g4 hb] at hc; exact b9W hc
theorem b7O {dead : List Pos} {us : Array FW} {u : FW} (h : RepD E g w dead (pkD p) (.agg us)) (hu : us.getD 5 undef = u) : RepV g w (.sl 47 (p.mts.map mtV)) u := by
 unfold pkD at h
 cases h with
 | agg ds us hn hr =>
   have := hr 5 _ rfl
   rw [hu] at this
   cases this with | v x a u h ha => exact h
structure LawG (N : Nat) (p : Pk) (E : Env) (hb : List UInt8) (g : G) (w : Gb) : Prop where
 hN : 100000 < N
 kp : KPk p
 enc : Z3 N p.aid p.ma p.mi (p.ims.map imV) (p.cls.map clV) (p.mts.map mtV) (p.sts.map tpV) (p.aps.map apV) = some (wPk p, 0)
 chk : a0K N p.aid p.ma p.mi (p.ims.map imV) (p.cls.map clV) (p.mts.map mtV) (p.sts.map tpV) (p.aps.map apV) = some 0
 h1 : H8 Tryz.prog T 11 [.v (.bytes (wPk p)) .no] [.v (.bytes hb) .no]
 h2 : H8 Tryz.prog T 12 [.v (.bytes (wPk p)) .no] [.v (.bytes hb) .no]
 hl : hb.length <= 900
 sk : SzOK T g w
 glob : ∀ b, b < w.heap.size -> g.Γ b = .imm -> b ∈ a0G
 perm : ∀ b, b < w.heap.size -> g.Γ b = .imm ∨ ∃ n, g.Γ b = .low n
theorem c9v {N : Nat} {hb : List UInt8} (hG : LawG N p E hb g w) {g2 g4 : G} {w2 w4 : Gb} {E4 : Env} {bv : FW} {pcs : Array FW} (hp2 : w2.heap[w.heap.size]? = some (.cells pcs 29 (0, 0))) (hl2 : g2.Γ w.heap.size = .low 0) (ho2 : ∀ b, b < w.heap.size -> g2.Γ b = g.Γ b) (hbv : RepV g2 w2 (.bytes (wPk p)) bv) (hgr : Grows w w2) (hrp : RepD E g2 w2 [] (pkD p) (.agg pcs))
 {A0 : Option Addr} {n0 k0 : Nat} {A3 : Option Addr} {n3 k3 : Nat} {A4 : Option Addr} {n4 k4 : Nat} {A5 : Option Addr} {n5 k5 : Nat} {A6 : Option Addr} {n6 k6 : Nat} {A7 : Option Addr} {n7 k7 : Nat}
 (hq : RepD E4 g4 w4 [] (.agg [.v (.bytes p.aid) .no, .v (.int .i64 p.ma) .no, .v (.int .i64 p.mi) .no, .v (.sl 58 (p.ims.map imV)) .no, .v (.sl 64 (p.cls.map clV)) .no, .v (.rowI 47 (p.mts.map mtV)) .no, .v (.sl 44 (p.sts.map tpV)) .no, .v (.sl 67 (p.aps.map apV)) .no]) (.agg #[.slice A0 n0 k0, .int .i64 p.ma, .int .i64 p.mi, .slice A3 n3 k3, .slice A4 n4 k4, .slice A5 n5 k5, .slice A6 n6 k6, .slice A7 n7 k7]))
 (hs4 : SzOK T g4 w4) (ht4 : Tr 0 g2.hide w2 g4 w4) :
 LawI w p E bv pcs #[.slice A0 n0 k0, .int .i64 p.ma, .int .i64 p.mi, .slice A3 n3 k3, .slice A4 n4 k4, .slice A5 n5 k5, .slice A6 n6 k6, .slice A7 n7 k7] w4.heap.size A5 (over g4 w4.heap.size) (w4.alloc (.cells #[.slice A0 n0 k0, .int .i64 p.ma, .int .i64 p.mi, .slice A3 n3 k3, .slice A4 n4 k4, .slice A5 n5 k5, .slice A6 n6 k6, .slice A7 n7 k7] 29)) /\ w4.heap[w.heap.size]? = some (.cells pcs 29 (0, 0)) := by
 have hg5 : Grows w4 (w4.alloc (.cells #[.slice A0 n0 k0, .int .i64 p.ma, .int .i64 p.mi, .slice A3 n3 k3, .slice A4 n4 k4, .slice A5 n5 k5, .slice A6 n6 k6, .slice A7 n7 k7] 29)) := Grows.alloc w4 _
 have hl5 := T8 (g := g4) hg5
 have b0I := G7 hp2
 obtain ⟨z1, z2⟩ := ht4.hid w.heap.size b0I (V9 _)
 have hl4 : g4.Γ w.heap.size = .low 0 := by rw [z1]; show (g2.Γ w.heap.size).hid = _; rw [hl2]; rfl
 have hp4 : w4.heap[w.heap.size]? = some (.cells pcs 29 (0, 0)) := by rw [z2]; exact hp2
 have e6X := G7 hp4
 have e6Y : Later g2 w2 g4 w4 := (N9 g2 w2).trans ht4.later
 have hb4 : Below w.heap.size w w4 := (a1R hgr).trans (Below.mono ⟨ht4.os, ht4.tape, ht4.output, ht4.size, fun b hb => (ht4.hid b hb (V9 _)).2⟩ hgr.size)
 have h5 : RepV g4 w4 (.rowI 47 (p.mts.map mtV)) (.slice A5 n5 k5) := by
  cases hq with
  | agg ds us hn hr =>
    have := hr 5 _ rfl
    cases this with | v x a u h ha => exact h
 refine ⟨⟨hs4.later hl5, hb4.trans ((a1R hg5).mono hb4.size), by rw [hg5.old _ e6X]; exact hp4, He w4 _, (if_pos e6X).trans hl4, if_neg (by omega), (hrp.far_ (E' := E) (dead' := []) e6Y rfl).far_ (E' := E) (dead' := []) hl5 rfl, (c1s hq).far_ (E' := E) (dead' := []) hl5 rfl, (hbv.later e6Y).later hl5, ?_⟩, hp4⟩
 rcases e0j hs4 h5 with h0 | ⟨bm, cur, e, q1, q2, q3⟩
 . exact .inl h0
 . have hbm := G7 q2
   refine .inr ⟨bm, cur, e, (if_pos hbm).trans q1, by rw [hg5.old _ hbm]; exact q2, ?_, by omega, q3⟩
   rcases Nat.lt_trichotomy bm w.heap.size with hlt | heq | hgt
   . exfalso
     have hb2 : bm < w2.heap.size := Nat.lt_of_lt_of_le hlt hgr.size
     have := (ht4.hid bm hb2 (V9 _)).1
     rw [q1] at this
     have h7 : (g2.Γ bm).hid = .imm := this.symm
     rw [ho2 bm hlt] at h7
     rcases hG.perm bm hlt with h8 | ⟨n, h8⟩
     . exact q3 (hG.glob bm hlt h8)
     . rw [h8] at h7; cases h7
   . subst heq; rw [hl4] at q1; cases q1
   . exact hgt
set_option maxHeartbeats 4000000 in
theorem e4g {N : Nat} {hb : List UInt8} (hG : LawG N p E hb g w) {v : FW} (hv : RepD E g w [] (pkD p) v) :
 IE Tryz.prog 3 #[v] w fun e w' => e = .returned (.bool true) /\ Below w.heap.size w w' := by
 obtain ⟨A0, n0, k0, A3, n3, k3, A4, n4, k4, A5, n5, k5, A6, n6, k6, A7, n7, k7, rfl⟩ := b6U hv
 have hg1 : Grows w (w.alloc (.cells #[.slice A0 n0 k0, .int .i64 p.ma, .int .i64 p.mi, .slice A3 n3 k3, .slice A4 n4 k4, .slice A5 n5 k5, .slice A6 n6 k6, .slice A7 n7 k7] 29)) := Grows.alloc w _
 have hl1 := T8 (g := g) hg1
 have e6Z := hv.far_ (E' := E) (dead' := []) hl1 rfl
 have e7a := hG.sk.later hl1
 have H := Gw (Ge hG (Ge e7a (Ge e6Z hg1)))
 clear hG hv hg1 hl1 e6Z e7a
 go_enter Tryz.func3, Tryz.ntmps3
 go_wp2_with fail
 refine (b0G N _ _ _ _ _ _ _ _ _ _ H.out.1.enc E _ _ [_] H.out.2.1 (b3W H.out.2.2.1)).mono ?_
 rintro e w2 ⟨us, g2, rfl, hu, ht⟩
 obtain ⟨bv, ev, rfl, hb2, hev⟩ := b9x (hu E)
 obtain rfl := a0f hev
 rw [show S0 [bv, Ia .i64 0] = .tuple #[bv, .int .i64 0] from rfl]
 have hp2 : w2.heap[w.heap.size]? = some (.cells #[.slice A0 n0 k0, .int .i64 p.ma, .int .i64 p.mi, .slice A3 n3 k3, .slice A4 n4 k4, .slice A5 n5 k5, .slice A6 n6 k6, .slice A7 n7 k7] 29 (0, 0)) := by
  rw [ht.grows.old _ (by simp)]; exact He w _
 have hl2 : g2.Γ w.heap.size = .low 0 := by rw [ht.old _ (by simp)]; exact if_neg (by omega)
 have ho2 : ∀ b, b < w.heap.size -> g2.Γ b = g.Γ b := fun b hb => by rw [ht.old b (by simp; omega)]; exact if_pos hb
 have hbv : RepV g2 w2 (.bytes (wPk p)) bv := by cases hb2 with | v x a u h ha => exact h
 have HB := Gw (Ge hp2 (Ge hl2 (Ge ho2 (Ge hbv (Ge (H.out.2.2.2.trans ht.grows) (Ge (H.out.2.1.later ht.later) (H.out.2.2.1.far_ (E' := E) (dead' := []) ht.later rfl)))))))
 clear hp2 hl2 ho2 hbv hu hb2 hev ht
 go_wp2_with fail
 refine (c4V (d3b N (by have := H.out.1.hN; omega) H.out.1.kp.1) H.out.1.chk H.out.1.kp.2.2 HB.out.2.2.2.2.2.1 HB.out.2.2.2.1).mono ?_
 rintro e w4 ⟨qv, g4, E4, rfl, hq, hs4, ht4⟩
 obtain ⟨B0, m0, l0, B3, m3, l3, B4, m4, l4, B5, m5, l5, B6, m6, l6, B7, m7, l7, rfl⟩ := c2B hq
 obtain ⟨hI, hp4⟩ := c9v H.out.1 HB.out.1 HB.out.2.1 HB.out.2.2.1 HB.out.2.2.2.1 HB.out.2.2.2.2.1 HB.out.2.2.2.2.2.2 hq hs4 ht4
 have HI := Gw hI
 have hlt : w.heap.size < w4.heap.size := G7 hp4
 have c0 := fun j => Gz _ _ j _ _ _ hp4
 have d0 : w4.cell? ⟨w.heap.size, 0, none⟩ = some (.slice A0 n0 k0) := c0 0
 have d1 : w4.cell? ⟨w.heap.size, 1, none⟩ = some (.int .i64 p.ma) := c0 1
 have d2 : w4.cell? ⟨w.heap.size, 2, none⟩ = some (.int .i64 p.mi) := c0 2
 have d3 : w4.cell? ⟨w.heap.size, 3, none⟩ = some (.slice A3 n3 k3) := c0 3
 have d4 : w4.cell? ⟨w.heap.size, 4, none⟩ = some (.slice A4 n4 k4) := c0 4
 have d5 : w4.cell? ⟨w.heap.size, 5, none⟩ = some (.slice A5 n5 k5) := c0 5
 have d6 : w4.cell? ⟨w.heap.size, 6, none⟩ = some (.slice A6 n6 k6) := c0 6
 have d7 : w4.cell? ⟨w.heap.size, 7, none⟩ = some (.slice A7 n7 k7) := c0 7
 clear hI hq hs4 ht4 hp4 c0
 go_wp2_with fail
 refine (e0m N _ _ _ _ _ _ _ _ _ _ _ _ _ _ _ _ _ (c5a N (by have := H.out.1.hN; omega) p H.out.1.kp.2.1) E _ _ [_, _] HI.out.sk (d5b HI.out.rp HI.out.rq)).mono ?_
 rintro e w6 ⟨us6, g6, rfl, hu6, ht6⟩
 obtain ⟨sv, rfl, hsv⟩ := a3V (hu6 E)
 obtain rfl := b7T hsv
 rw [show S0 [KB true] = .bool true from rfl]
 have HI6 := Gw (HI.out.pure ht6)
 clear hu6 hsv ht6 d0 d1 d2 d3 d4 d5 d6 d7 HI
 go_wp2_with fail
 go_loopg [7] p.mts.length (fun m i wr => ∃ (k : Nat) (gr : G), k <= p.mts.length /\ m = p.mts.length - k /\ i = .int .i64 (k : Int) /\ LawI w p E bv #[.slice A0 n0 k0, .int .i64 p.ma, .int .i64 p.mi, .slice A3 n3 k3, .slice A4 n4 k4, .slice A5 n5 k5, .slice A6 n6 k6, .slice A7 n7 k7] #[.slice B0 m0 l0, .int .i64 p.ma, .int .i64 p.mi, .slice B3 m3 l3, .slice B4 m4 l4, .slice B5 m5 l5, .slice B6 m6 l6, .slice B7 m7 l7] w4.heap.size B5 gr wr)
 case atStart => exact ⟨0, g6, Hp _, rfl, rfl, HI6.out⟩
 case round =>
  obtain ⟨k, gr, hk, hm, rfl, hI⟩ := hrel
  have hI2 := hI
  have dq : wr.cell? ⟨w4.heap.size, 5, none⟩ = some (.slice B5 m5 l5) := Gz _ _ 5 _ _ _ hI.hq
  have dp : wr.cell? ⟨w.heap.size, 5, none⟩ = some (.slice A5 n5 k5) := Gz _ _ 5 _ _ _ hI.hp
  have hrq : RepV gr wr (.sl 47 (p.mts.map mtV)) (.slice B5 m5 l5) := b7O hI.rq rfl
  have hrp : RepV gr wr (.sl 47 (p.mts.map mtV)) (.slice A5 n5 k5) := b7O hI.rp rfl
  obtain ⟨e1, e2, e3⟩ := b3m hrq
  obtain ⟨f1, f2, f3⟩ := b3m hrp
  have hml : p.mts.length <= 1000 := IK H.out.1.kp.2.1.2.2.2.1.1 (by decide)
  by_cases b0I : k < p.mts.length
  . obtain ⟨mt, hmt⟩ : ∃ mt, p.mts[k]? = some mt := ⟨_, FQ b0I⟩
    obtain ⟨bp, op, Ap, np, cp, rfl, hcp, e7b⟩ := f3 k mt hmt
    have hcode : mt.code.length <= 256 /\ N0 mt.code = 0 := by
     have := (H.out.1.kp.1.2.2.2.2.2.1.2 mt (Ga hmt))
     exact ⟨this.2.2.2.2.2.1.1, this.2.2.2.2.2.1.2.1⟩
    obtain ⟨s, hs1, _, hs2⟩ := b4X N H.out.1.hN mt.code hcode.1 hcode.2
    have hk1 : k < m5 := by omega
    have hk2 : k < n5 := by omega
    have hn5 : n5 <= 1000 := by omega
    have hm5 : m5 <= 1000 := by omega
    have HR := Gw (Ge hI2 (Ge hs1 (Ge hs2 (Ge e7b (Ge e3 (Ge hmt (Ge hm hk)))))))
    clear hI hI2 hs1 hs2 e7b e3 f3 hmt hm hk hrq hrp hcode e1 e2 f1 f2 hml
    have e8e : wr.cell? ⟨bp, op + k * 11 + 9, none⟩ = some (.slice Ap np cp) := by rw [Ht]; exact hcp
    clear hcp
    go_wp2_with fail
    refine (e1S N _ _ HR.out.2.1 E gr wr [_] HR.out.1.sk (b3W (.v _ _ _ HR.out.2.2.2.1 trivial))).mono ?_
    rintro e w7 ⟨us7, g7, rfl, hu7, ht7⟩
    obtain ⟨tv, rfl, htv⟩ := a3V (hu7 E)
    rw [show S0 [tv] = tv from rfl]
    have H7 := Gw (Ge (HR.out.1.pure ht7) htv)
    clear hu7 htv ht7
    go_wp2_with fail
    refine (d5a N _ _ _ HR.out.2.2.1 E g7 w7 [_] H7.out.1.sk (b3W H7.out.2)).mono ?_
    rintro e w8 ⟨us8, g8, rfl, hu8, ht8⟩
    obtain ⟨lv, fv, rfl, hlv, hfv⟩ := b9x (hu8 E)
    obtain rfl := a0f hfv
    obtain ⟨Al, nl, cl, rfl⟩ := a1N hlv
    rw [show S0 [Hq Al nl cl, Ia .i64 0] = .tuple #[.slice Al nl cl, .int .i64 0] from rfl]
    have hI8 := H7.out.1.pure ht8
    have dq8 : w8.cell? ⟨w4.heap.size, 5, none⟩ = some (.slice B5 m5 l5) := Gz _ _ 5 _ _ _ hI8.hq
    have e8 := (b3m (b7O hI8.rq rfl)).2.2
    obtain ⟨bm', om', Aq, nq, cq, q1, hcq, e7c⟩ := e8 k mt HR.out.2.2.2.2.2.1
    have hne : p.mts ≠ [] := fun h0 => by rw [h0] at b0I; exact absurd b0I (Ir _)
    rcases hI8.row with h0 | ⟨bm, cur, q2, q3, q4, _⟩
    . exact absurd h0 hne
    . rw [q2] at q1
      injection q1 with q1; injection q1 with q5 q6
      subst q5; subst q6
      subst q2
      have e8f : w8.cell? ⟨bm, k * 11 + 9, none⟩ = some (.slice Aq nq cq) := by rw [show k * 11 + 9 = 0 + (k * 11 + 9) by omega]; exact hcq
      have hfq : w8.frozen? ⟨bm, k * 11 + 9, none⟩ = false := IA _ _ _ _ _ q4
      have hrl : RepV g8 w8 (.sl 54 (iE mt.code)) (.slice Al nl cl) := by cases hlv with | v x a u h ha => exact h
      have HP := Gw (hI8.put hne e8f e7c hrl)
      clear hu8 hlv hfv ht8 hI8 e8 hcq e7c q3 q4 hrl hne e8e dq dp
      have hmk : p.mts.length - (k + 1) < gk := by have := HR.out.2.2.2.2.2.2.1; omega
      go_wp2_with fail
      go_roundg (p.mts.length - (k + 1))
      case measure => exact hmk
      case rel => exact ⟨k + 1, g8, b0I, rfl, by go_num, HP.out⟩
  . have hkn : ¬ (k < m5) := by omega
    have c0 := fun j => Gz _ _ j _ _ _ hI.hq
    have b0 : wr.cell? ⟨w4.heap.size, 0, none⟩ = some (.slice B0 m0 l0) := c0 0
    have b1 : wr.cell? ⟨w4.heap.size, 1, none⟩ = some (.int .i64 p.ma) := c0 1
    have b2 : wr.cell? ⟨w4.heap.size, 2, none⟩ = some (.int .i64 p.mi) := c0 2
    have b3 : wr.cell? ⟨w4.heap.size, 3, none⟩ = some (.slice B3 m3 l3) := c0 3
    have b4 : wr.cell? ⟨w4.heap.size, 4, none⟩ = some (.slice B4 m4 l4) := c0 4
    have b6 : wr.cell? ⟨w4.heap.size, 6, none⟩ = some (.slice B6 m6 l6) := c0 6
    have b7 : wr.cell? ⟨w4.heap.size, 7, none⟩ = some (.slice B7 m7 l7) := c0 7
    have HR := Gw hI2
    have hm5 : m5 <= 1000 := by omega
    clear hI hI2 c0 e1 e2 e3 f1 f2 f3 hrq hrp hm hml hk b0I
    go_wp2_with fail
    refine (b0G N _ _ _ _ _ _ _ _ _ _ H.out.1.enc E gr wr [_] HR.out.sk (b3W HR.out.rq)).mono ?_
    rintro e w9 ⟨us9, g9, rfl, hu9, ht9⟩
    obtain ⟨cv, ev, rfl, hc9, hev⟩ := b9x (hu9 E)
    obtain rfl := a0f hev
    rw [show S0 [cv, Ia .i64 0] = .tuple #[cv, .int .i64 0] from rfl]
    have H9 := Gw (Ge (HR.out.pure ht9) hc9)
    clear hu9 hc9 hev ht9 b0 b1 b2 b3 b4 b6 b7 dq dp
    go_wp2_with fail
    have e7d := a3L N (wPk p) (by have := H.out.1.kp.2.2; have := H.out.1.hN; omega) (by have := H.out.1.kp.2.2; omega)
    refine (b5Z N _ _ _ e7d E g9 w9 [_, _] H9.out.1.sk (d5b (.v _ _ _ H9.out.1.rb trivial) H9.out.2)).mono ?_
    rintro e wa ⟨usa, ga, rfl, hua, hta⟩
    obtain ⟨za, rfl, hza⟩ := a3V (hua E)
    obtain rfl := a0f hza
    rw [show S0 [Ia .i64 0] = .int .i64 0 from rfl]
    have HA := Gw (Ge (H9.out.1.pure hta) (H9.out.2.far_ (E' := E) (dead' := []) hta.later rfl))
    clear hua hza hta e7d
    go_wp2_with fail
    refine (H.out.1.h1 E ga wa [_] HA.out.1.sk (b3W (.v _ _ _ HA.out.1.rb trivial))).mono ?_
    rintro e wb ⟨usb, gb, rfl, hub, htb⟩
    obtain ⟨hv1, rfl, hh1⟩ := a3V (hub E)
    rw [show S0 [hv1] = hv1 from rfl]
    have HB1 := Gw (Ge (HA.out.1.pure htb) (Ge (HA.out.2.far_ (E' := E) (dead' := []) htb.later rfl) hh1))
    clear hub hh1 htb
    go_wp2_with fail
    refine (H.out.1.h2 E gb wb [_] HB1.out.1.sk (b3W HB1.out.2.1)).mono ?_
    rintro e wc ⟨usc, gc, rfl, huc, htc⟩
    obtain ⟨hv2, rfl, hh2⟩ := a3V (huc E)
    rw [show S0 [hv2] = hv2 from rfl]
    have HC := Gw (Ge (HB1.out.1.pure htc) (Ge (HB1.out.2.2.far_ (E' := E) (dead' := []) htc.later rfl) hh2))
    clear huc hh2 htc
    go_wp2_with fail
    have e2Z := a3L N hb (by have := H.out.1.hl; have := H.out.1.hN; omega) (by have := H.out.1.hl; omega)
    refine (b5Z N _ _ _ e2Z E gc wc [_, _] HC.out.1.sk (d5b HC.out.2.1 HC.out.2.2)).mono ?_
    rintro e wd ⟨usd, gd, rfl, hud, htd⟩
    obtain ⟨zd, rfl, hzd⟩ := a3V (hud E)
    obtain rfl := a0f hzd
    rw [show S0 [Ia .i64 0] = .int .i64 0 from rfl]
    have HD := Gw (HC.out.1.pure htd)
    clear hud hzd htd e2Z
    go_wp2_with fail
    refine (c3z N true (b1p N H.out.1.hN) E gd wd [] HD.out.sk e2O).mono ?_
    rintro e we ⟨use, ge, rfl, hue, hte⟩
    obtain ⟨sv, rfl, hsv⟩ := a3V (hue E)
    obtain rfl := b7T hsv
    rw [show S0 [KB true] = .bool true from rfl]
    have HE := Gw (HD.out.pure hte)
    clear hue hsv hte
    go_wp2_with fail
    go_ret
    exact ⟨rfl, HE.out.below⟩
end
end En
namespace En
open Go Go.RowKit
def a8q (T : FP -> Option Ty) : G := { Γ := fun _ => .imm, J := fun _ _ => 0, sz := U4 T }
theorem b3T (T : FP -> Option Ty) (b o : Nat) : s5 (a8q T) b o := trivial
def b1u (row : Bool) (cs : List V) : V := match row with | true => .agg cs | false => cs.headD .nilI
def b9U (F : FP -> List V -> Prop) : List Ks -> List V -> Prop
 | [], xs => xs = []
 | f :: fs, xs => ∃ a r, xs = a ++ r /\ F f.type a /\ b9U F fs r
def Fits (T : FP -> Option Ty) : Nat -> FP -> List V -> Prop
 | 0, _, _ => False
 | n + 1, t, xs => match T t with
   | none => False
   | some ty => match ty.desc with
     | .bool => ∃ b, xs = [.bool b]
     | .int k => ∃ i, xs = [.int k i] /\ k.min <= i /\ i <= k.max
     | .string => ∃ s, xs = [.str s] /\ s.length <= maxLen
     | .slice e => match ty.cks with
       | [.bytes _] => ∃ s, xs = [.bytes s] /\ s.length <= maxLen
       | [.slc e'] => e' = e /\ ∃ ys, xs = [.sl e ys] /\ ys.length <= maxLen /\ ∀ y ∈ ys, ∃ te cs, T e = some te /\ y = b1u te.row cs /\ Fits T n e cs
       | _ => False
     | .struct fs => b9U (Fits T n) fs.toList xs
     | _ => False
def readable (T : FP -> Option Ty) (t : FP) : Bool :=
 match T t with
 | none => false
 | some ty => match ty.desc with
   | .bool => true
   | .int _ => true
   | .string => true
   | .slice e => (match T e with
     | none => false
     | some te => (match ty.cks with
       | [.bytes _] => (match te.desc with | .int .u8 => FY te.size 1 | _ => false)
       | [.slc e'] => FY e' e && Nat.ble 1 te.size && (match te.row with | true => true | false => FY te.size 1)
       | _ => false))
   | .struct fs => a0O T ty.size 0 fs.toList && fs.toList.all (fun f => match T f.type with | some _ => true | none => false)
   | _ => false
def b2g (T : FP -> Option Ty) (l : List FP) : Bool :=
 l.all fun t => readable T t && (match T t with
  | none => false
  | some ty => match ty.desc with
    | .slice e => l.any (FY e)
    | .struct fs => fs.toList.all fun f => l.any (FY f.type)
    | _ => true)
section
variable {H : Type} {enc : FP × FW -> H} {P : Gt} {T : FP -> Option Ty} {w : Gb} {base : Nat} {spare : Nat -> Bool} {held : Bool}
structure RepC (T : FP -> Option Ty) (w : Gb) (xs : List V) (cs : List FW) : Prop where
 len : xs.length = cs.length
 one : ∀ x ∈ xs, x.one = true
 rep : ∀ (k : Nat) y, xs[k]? = some y -> RepV (a8q T) w y (cs.getD k undef)
theorem RepC.single {x : V} {v : FW} (h1 : x.one = true) (h : RepV (a8q T) w x v) : RepC T w [x] [v] :=
 ⟨rfl, fun y hy => by simp at hy; subst hy; exact h1, fun k y hk => by
  rcases k with _ | k
  . simp at hk; subst hk; simpa using h
  . simp at hk⟩
theorem RepC.append {xs ys : List V} {cs ds : List FW} (h : RepC T w xs cs) (k : RepC T w ys ds) : RepC T w (xs ++ ys) (cs ++ ds) := by
 refine ⟨by simp [h.len, k.len], fun x hx => ?_, fun i y hy => ?_⟩
 . rcases List.mem_append.1 hx with hx | hx
   . exact h.one x hx
   . exact k.one x hx
 . rcases Hh i xs.length with hl | hl
   . rw [Gg hl] at hy
     have := h.rep i y hy
     rw [FU, Gg (by rw [← h.len]; exact hl), ← FU]
     exact this
   . rw [Gj hl] at hy
     have := k.rep _ y hy
     rw [FU, Gj (by rw [← h.len]; exact hl), ← h.len, ← FU]
     exact this
theorem a7r (hT : D7 P T) {t : FP} {ty : Ty} (h : T t = some ty) : P.cellsOf t = ty.size := by
 obtain ⟨i, h1, _, h2, _⟩ := (hT t ty h).info
 simp [Program.cellsOf, h1, h2]
theorem a8e {t : FP} {ty : Ty} (h : T t = some ty) : U4 T t = ty.size := by unfold U4; rw [h]
theorem b5t (b off i : Nat) : (⟨b, off, none⟩ : Addr).add i = ⟨b, off + i, none⟩ := by
 unfold Addr.add
 by_cases h0 : i = 0
 . subst h0; rfl
 . rw [if_neg h0]
theorem c1M {a : Addr} {n k : Nat} {cs : List FW} (h : w.cells? base (a.add (0 * n)) k = some cs) (hk : 0 < k) : a.spot = none := by
 obtain ⟨_, hl, h5⟩ := Kk h
 have h6 := h5 0 hk
 rw [FQ (by omega)] at h6
 have := World.cell?_spot h6
 simpa [Addr.add] using this
theorem b4u {row : Bool} {cs : List V} (ho : ∀ x ∈ cs, x.one = true) (h : row = false -> cs.length = 1) : (b1u row cs).cells = cs := by
 cases row with
 | true => rfl
 | false =>
   have := h rfl
   match cs, this with
   | [x], _ =>
     have := ho x (by simp)
     show V.cells x = [x]
     cases x <;> first | rfl | cases this
theorem d9V {row : Bool} {cs : List V} {n : Nat} (hl : cs.length = n) (ho : ∀ x ∈ cs, x.one = true) (h : row = false -> cs.length = 1) : b2i n (b1u row cs) = true := by
 unfold b2i
 rw [b4u ho h]
 simp only [FS, beq_iff_eq, Hf]
 exact ⟨hl, ho⟩
theorem a6x {α : Type} {n : Nat} : ∀ (l : List (List α)) (i j : Nat) (c : List α), (∀ c ∈ l, c.length = n) -> l[i]? = some c -> j < n -> l.flatten[i * n + j]? = c[j]?
 | [], i, j, c, _, h, _ => by simp at h
 | d :: l, 0, j, c, hl, h, hj => by
   simp at h; subst h
   have := hl d (by simp)
   rw [Kl, Nat.zero_mul, Nat.zero_add, Gg (by omega)]
 | d :: l, i + 1, j, c, hl, h, hj => by
   have hd := hl d (by simp)
   rw [Kl, LR, Gj (by omega)]
   rw [show i * n + n + j - d.length = i * n + j by omega]
   exact a6x l i j c (fun c hc => hl c (by simp [hc])) (by simpa using h) hj
theorem b6y {α : Type} {n : Nat} : ∀ (l : List (List α)), (∀ c ∈ l, c.length = n) -> l.flatten.length = l.length * n
 | [], _ => by simp
 | d :: l, h => by
   rw [Kl, List.length_append, h d (by simp), b6y l fun c hc => h c (by simp [hc]), List.length_cons, LR]; omega
theorem a4G {α : Type} {p : Nat -> α -> Prop} : ∀ (n : Nat), (∀ i, i < n -> ∃ a, p i a) -> ∃ l : List α, l.length = n /\ ∀ (i : Nat) a, l[i]? = some a -> p i a
 | 0, _ => ⟨[], rfl, fun i a h => by simp at h⟩
 | n + 1, h => by
   obtain ⟨l, h1, h2⟩ := a4G n fun i hi => h i (by omega)
   obtain ⟨a, ha⟩ := h n (by omega)
   refine ⟨l ++ [a], by simp [h1], fun i b hb => ?_⟩
   rcases Hh i l.length with hl | hl
   . rw [Gg hl] at hb; exact h2 i b hb
   . rw [Gj hl] at hb
     have : i = n := by
      have := (FN.1 hb).1
      simp at this; omega
     subst this
     rw [h1] at hb
     simp at hb
     subst hb; exact ha
theorem b3K (hT : D7 P T) {l : List FP} (hl : b2g T l = true) : ∀ (fuel : Nat) (t : FP) (cs : List FW) (x : LS H × List Ld), t ∈ l -> LF enc P w base spare held fuel t cs = some x ->
 ∃ xs, RepC T w xs cs /\ Fits T fuel t xs /\ ∀ ty, T t = some ty -> cs.length = ty.size
 | 0, t, cs, x, _, h => by simp [LF] at h
 | n + 1, t, cs, x, hm, h => by
   have hcl := Hf.1 hl t hm
   simp only [FS] at hcl
   obtain ⟨hre, b7K⟩ := hcl
   unfold Fits
   unfold readable at hre
   cases hTt : T t with
   | none => rw [hTt] at hre; simp at hre
   | some ty =>
   rw [hTt] at hre b7K
   simp only at hre b7K ⊢
   have hd := (hT t ty hTt).desc
   have h1c : ty.row = false -> ty.size = 1 := (hT t ty hTt).one
   cases C9 : ty.desc <;> rw [C9] at hre b7K hd <;> simp only [Bool.false_eq_true] at hre b7K ⊢
   . obtain ⟨b, rfl, _⟩ := DataW.trod_bool hd h
     exact ⟨[.bool b], .single rfl (.bool b), ⟨b, rfl⟩, fun ty' e => by cases e; rw [h1c (by simp [Ty.row, C9])]; rfl⟩
   . rename_i k
     obtain ⟨i, rfl, _, hwf⟩ := Kc hd h
     have hb : k.min <= i /\ i <= k.max := by simpa [Lit.wf] using hwf
     exact ⟨[.int k i], .single rfl (.int k i hb), ⟨i, rfl, hb⟩, fun ty' e => by cases e; rw [h1c (by simp [Ty.row, C9])]; rfl⟩
   . obtain ⟨s, rfl, _, hs⟩ := DataW.trod_string hd h
     have e : s = ⟨s.data.toList.toArray⟩ := by cases s; simp
     have hsl : s.data.toList.length = s.size := by cases s; rfl
     refine ⟨[.str s.data.toList], .single rfl ?_, ⟨_, rfl, by rw [hsl]; exact hs⟩, fun ty' e => by cases e; rw [h1c (by simp [Ty.row, C9])]; rfl⟩
     have := RepV.str (g := a8q T) (w := w) s.data.toList (by rw [hsl]; unfold maxLen at hs; omega)
     rwa [← e] at this
   . rename_i e
     cases hTe : T e with
     | none => rw [hTe] at hre; simp at hre
     | some te =>
     rw [hTe] at hre
     simp only at hre
     have hsz := a7r hT hTe
     have e2i : e ∈ l := by
      obtain ⟨z, hz, hb⟩ := KA.1 b7K
      have := FM hb
      subst this; exact hz
     have a4y : ∀ ty', some ty = some ty' -> ∀ v : FW, [v].length = ty'.size := fun ty' e v => by cases e; rw [h1c (by simp [Ty.row, C9])]; rfl
     split at hre
     . rename_i e0 c7g
       split at hre
       . rename_i hte
         have e2n := FM hre
         rw [e2n] at hsz
         have hde := (hT e te hTe).desc
         rw [hte] at hde
         rcases Mb hd h with ⟨rfl, _⟩ | ⟨a, len, cap, elems, rest, m, e1, rfl, _, hb, hlc, hcm, hel, Q7, _, _⟩
         . exact ⟨[.bytes []], .single rfl (.bytes [] none 0 0 rfl (FV _) (by simp) (fun k x hx => by simp at hx)), ⟨[], rfl, by simp⟩, fun ty' e => a4y ty' e _⟩
         . have key : ∀ i, i < len -> ∃ b : UInt8, ∃ bb off, a = ⟨bb, off, none⟩ /\ w.cell? ⟨bb, off + i, none⟩ = some (.int .u8 (b.toNat : Int)) := by
            intro i hi
            have h2 := Q7 i hi
            rw [FQ (by rw [hel]; exact hi), II] at h2
            obtain ⟨cs, h3, h4⟩ := h2
            obtain ⟨z, rfl, _, hwf⟩ := Kc hde h4
            rw [hsz, Nat.mul_one] at h3
            obtain ⟨_, _, h5⟩ := Kk h3
            have h6 := h5 0 (by omega)
            simp at h6
            have hzr : 0 <= z /\ z <= 255 := by simpa [Lit.wf, IntKind.min, IntKind.max, IntKind.signed, IntKind.bits] using hwf
            have d7Y : a.spot = none := by
             have h2 := Q7 0 (by omega)
             rw [FQ (by omega), II] at h2
             obtain ⟨cs, h3, _⟩ := h2
             exact c1M h3 (by omega)
            obtain ⟨bb, off, sp⟩ := a
            simp only at d7Y
            subst d7Y
            refine ⟨UInt8.ofNat z.toNat, bb, off, rfl, ?_⟩
            rw [b5t] at h6
            have hz2 : (off + i + 0) = off + i := rfl
            rw [show ((UInt8.ofNat z.toNat).toNat : Int) = z by rw [UInt8.toNat_ofNat', Nat.mod_eq_of_lt (by omega)]; omega]
            simpa [Addr.add] using h6
           obtain ⟨bs, b1, b2⟩ := a4G len key
           refine ⟨[.bytes bs], .single rfl (.bytes bs (some a) len cap b1 hlc hcm fun k x hx => ?_), ⟨bs, rfl, by omega⟩, fun ty' e => a4y ty' e _⟩
           obtain ⟨bb, off, c1, c2⟩ := b2 k x hx
           exact ⟨bb, off, by rw [c1], b3T T _ _, c2⟩
       . cases hre
     . rename_i e0 c7g
       simp only [FS] at hre
       obtain ⟨⟨he0, e2n⟩, N7⟩ := hre
       have he0 := FM he0
       have e2n := Nat.le_of_ble_eq_true e2n
       have b1r : te.row = false -> te.size = 1 := (hT e te hTe).one
       have e8g : (a8q T).sz e = te.size := a8e hTe
       rcases Mb hd h with ⟨rfl, _⟩ | ⟨a, len, cap, elems, rest, m, e1, rfl, _, hb, hlc, hcm, hel, Q7, _, _⟩
       . exact ⟨[.sl e []], .single rfl (.sl e [] none 0 0 (fun _ => undef) rfl (FV _) (by simp) (by simp) (fun k y hy => by simp at hy) (fun k y hy => by simp at hy)), ⟨he0, [], rfl, by simp, by simp⟩, fun ty' e => a4y ty' e _⟩
       . obtain rfl : n = m := by omega
         have key : ∀ i, i < len -> ∃ p : List V × List FW, RepC T w p.1 p.2 /\ Fits T n e p.1 /\ p.2.length = te.size /\ ∃ bb off, a = ⟨bb, off, none⟩ /\ ∀ j, j < te.size -> w.cell? ⟨bb, off + (i * te.size + j), none⟩ = some (p.2.getD j undef) := by
          intro i hi
          have h2 := Q7 i hi
          rw [FQ (by rw [hel]; exact hi), II] at h2
          obtain ⟨cs, h3, h4⟩ := h2
          obtain ⟨xs, c1, c2, c3⟩ := b3K hT hl n e cs _ e2i h4
          have c3 := c3 te hTe
          rw [hsz] at h3
          obtain ⟨_, _, h5⟩ := Kk h3
          have d7Y : a.spot = none := by
           have h2 := Q7 0 (by omega)
           rw [FQ (by omega), II] at h2
           obtain ⟨cs, h3, _⟩ := h2
           exact c1M h3 (by omega)
          obtain ⟨bb, off, sp⟩ := a
          simp only at d7Y
          subst d7Y
          refine ⟨(xs, cs), c1, c2, c3, bb, off, rfl, fun j hj => ?_⟩
          have h7 := h5 j hj
          rw [b5t, b5t, Ht] at h7
          rw [h7, FU]
          show cs[j]? = some (cs[j]?.getD undef)
          rw [FQ (by omega)]; rfl
         obtain ⟨ps, b1, b2⟩ := a4G len key
         have hxl : ∀ p ∈ ps, p.1.length = te.size /\ ∀ x ∈ p.1, x.one = true := by
          intro p hp
          obtain ⟨i, hi⟩ := Ic hp
          obtain ⟨c1, _, c3, _⟩ := b2 i p hi
          exact ⟨by rw [c1.len, c3], c1.one⟩
         have b5G : ∀ p ∈ ps, (b1u te.row p.1).cells = p.1 := fun p hp => b4u (hxl p hp).2 fun hr => by rw [(hxl p hp).1, b1r hr]
         have e7e : (ps.map fun p => b1u te.row p.1).flatMap V.cells = (ps.map (·.1)).flatten := by
          rw [List.flatMap_def, List.map_map]
          congr 1
          exact List.map_congr_left fun p hp => b5G p hp
         have b1x : ∀ c ∈ ps.map (·.1), c.length = te.size := fun c hc => by
          obtain ⟨p, hp, rfl⟩ := IQ.1 hc
          exact (hxl p hp).1
         have e3a : ∀ (k : Nat) (y : V), ((ps.map fun p => b1u te.row p.1).flatMap V.cells)[k]? = some y -> ∃ i j p, k = i * te.size + j /\ j < te.size /\ ps[i]? = some p /\ p.1[j]? = some y := by
          intro k y hk
          rw [e7e] at hk
          have hk1 := (FN.1 hk).1
          rw [b6y _ b1x, Gh, b1] at hk1
          have c0t : 0 < te.size := by omega
          have hi : k / te.size < len := (Nat.div_lt_iff_lt_mul c0t).2 hk1
          have hj : k % te.size < te.size := Nat.mod_lt _ c0t
          have hkk : k = k / te.size * te.size + k % te.size := by rw [LQ]; exact (Nat.div_add_mod k te.size).symm
          have hp : ps[k / te.size]? = some (ps[k / te.size]'(by omega)) := FQ (by omega)
          refine ⟨k / te.size, k % te.size, _, hkk, hj, hp, ?_⟩
          rw [hkk] at hk
          rw [a6x _ _ _ _ b1x (by rw [Gm, hp]; rfl) hj] at hk
          exact hk
         refine ⟨[.sl e (ps.map fun p => b1u te.row p.1)], .single rfl (.sl e _ (some a) len cap (fun k => ((ps.map (·.2)).flatten).getD k undef) (by simp [b1]) hlc hcm (fun x hx => ?_) (fun k y hk => ?_) (fun k y hk => ?_)), ⟨he0, _, rfl, by simp [b1]; omega, fun y hy => ?_⟩, fun ty' e => a4y ty' e _⟩
         . obtain ⟨p, hp, rfl⟩ := IQ.1 hx
           rw [e8g]
           exact d9V (hxl p hp).1 (hxl p hp).2 fun hr => by rw [(hxl p hp).1, b1r hr]
         . obtain ⟨i, j, p, rfl, hj, hp, hy⟩ := e3a k y hk
           obtain ⟨_, _, c3, bb, off, c4, c5⟩ := b2 i p hp
           refine ⟨bb, off, by rw [c4], b3T T _ _, ?_⟩
           rw [c5 j hj]
           have : (ps.map (·.2)).flatten[i * te.size + j]? = p.2[j]? := a6x _ _ _ _ (fun c hc => by
            obtain ⟨q, hq, rfl⟩ := IQ.1 hc
            obtain ⟨i', hi'⟩ := Ic hq
            exact (b2 i' q hi').2.2.1) (by rw [Gm, hp]; rfl) hj
           rw [FU, FU, this]
         . obtain ⟨i, j, p, rfl, hj, hp, hy⟩ := e3a k y hk
           obtain ⟨c1, _, c3, _⟩ := b2 i p hp
           have : (ps.map (·.2)).flatten[i * te.size + j]? = p.2[j]? := a6x _ _ _ _ (fun c hc => by
            obtain ⟨q, hq, rfl⟩ := IQ.1 hc
            obtain ⟨i', hi'⟩ := Ic hq
            exact (b2 i' q hi').2.2.1) (by rw [Gm, hp]; rfl) hj
           have := c1.rep j y hy
           rw [FU] at this ⊢
           rwa [‹(ps.map (·.2)).flatten[i * te.size + j]? = p.2[j]?›]
         . obtain ⟨p, hp, rfl⟩ := IQ.1 hy
           obtain ⟨i, hi⟩ := Ic hp
           exact ⟨te, p.1, rfl, rfl, (b2 i p hi).2.1⟩
     . cases hre
   . rename_i fs
     simp only [FS] at hre
     obtain ⟨hco, hfa⟩ := hre
     obtain ⟨ys, m, e1, _, hlen, _, hg⟩ := DataW.trod_struct hd h
     obtain rfl : n = m := by omega
     rw [a7r hT hTt] at hlen
     have main : ∀ (l' : List Ks) (i off : Nat), fs.toList.drop i = l' -> a0O T ty.size off l' = true -> off <= ty.size -> ∃ xs, RepC T w xs (cs.drop off) /\ b9U (Fits T n) l' xs := by
      intro l'
      induction l' with
      | nil =>
        intro i off hdr hc ho
        have := FM hc
        refine ⟨[], ⟨by simp; omega, by simp, by simp⟩, rfl⟩
      | cons f l' ih =>
        intro i off hdr hc ho
        simp only [a0O, FS] at hc
        obtain ⟨hc1, hc2⟩ := hc
        have hc1 := FM hc1
        have hfi : fs.toList[i]? = some f := by
         have : (fs.toList.drop i)[0]? = some f := by rw [hdr]; rfl
         simpa using this
        have hfm : f ∈ fs.toList := Ga hfi
        have h1 := Hf.1 hfa f hfm
        have hfl : f.type ∈ l := by
         have := Hf.1 b7K f hfm
         obtain ⟨z, hz, hb⟩ := KA.1 this
         have := FM hb
         rw [this]; exact hz
        cases hTf : T f.type with
        | none => rw [hTf] at h1; simp at h1
        | some tf =>
        have h2 := hg i f (by simpa using hfi)
        rw [a7r hT hTf, hc1] at h2
        have hle : off + tf.size <= ty.size := by
         have : ∀ (l' : List Ks) (off : Nat), a0O T ty.size off l' = true -> off <= ty.size := by
          intro l'
          induction l' with
          | nil => intro off hc; have := FM hc; omega
          | cons f l' ih => intro off hc; simp only [a0O, FS] at hc; have := ih _ hc.2; omega
         have := this l' _ hc2
         rw [a8e hTf] at this
         exact this
        have hys : i < ys.length := by
         cases hyi : ys[i]? with
         | none =>
           have e8h : i < fs.size := by
            have := (FN.1 hfi).1
            simpa using this
           have : ys.length = fs.size := by assumption
           rw [this]; exact e8h
         | some y => exact (FN.1 hyi).1
        rw [FQ hys] at h2
        obtain ⟨xs, c1, c2, _⟩ := b3K hT hl n f.type _ _ hfl h2
        obtain ⟨rs, d1, d2⟩ := ih (i + 1) (off + U4 T f.type) (by rw [List.drop_add_one_eq_tail_drop, hdr]; rfl) hc2 (by rw [a8e hTf]; exact hle)
        refine ⟨xs ++ rs, ?_, xs, rs, rfl, c2, d2⟩
        have := c1.append d1
        rw [a8e hTf, ← List.drop_drop, List.take_append_drop] at this
        exact this
     obtain ⟨xs, c1, c2⟩ := main fs.toList 0 0 rfl hco (Hp _)
     exact ⟨xs, by simpa using c1, c2, fun ty' e => by cases e; exact hlen⟩
theorem e0Z (hT : D7 P T) {l : List FP} (hl : b2g T l = true) {t : FP} (ht : t ∈ l) {v : FW} {d : LS H} {ps : List Ld} (N7 : ∀ ty, T t = some ty -> (ty.row = true -> ∃ cs, v = .agg cs) /\ (ty.row = false -> v.cells = #[v]))
 (hd : OW enc P w base spare held t v d ps) : ∃ n x, Fits T n t (V.cells x) /\ RepV (a8q T) w x v /\ ∀ ty, T t = some ty -> x = b1u ty.row (V.cells x) := by
 obtain ⟨fuel, hf⟩ := hd
 obtain ⟨xs, h1, h2, h3⟩ := b3K hT hl fuel t _ _ ht hf
 cases hTt : T t with
 | none => cases fuel <;> simp [Fits, hTt] at h2
 | some ty =>
 have h3 := h3 ty hTt
 obtain ⟨r1, r2⟩ := N7 ty hTt
 cases hr : ty.row with
 | true =>
   obtain ⟨cs, rfl⟩ := r1 hr
   refine ⟨fuel, .agg xs, h2, .agg xs cs (by rw [h1.len]; rfl) fun k y hk => ?_, fun ty' e => by cases e; rw [hr]; rfl⟩
   have := h1.rep k y hk
   simpa [Value.cells, FU, Array.getD_eq_getD_getElem?] using this
 | false =>
   have hv := r2 hr
   rw [hv] at h1 h3
   have hl1 := h1.len
   simp at hl1
   match xs, hl1 with
   | [x], _ =>
     have ho := h1.one x (by simp)
     have hc : V.cells x = [x] := by cases x <;> first | rfl | cases ho
     exact ⟨fuel, x, by rw [hc]; exact h2, by simpa using h1.rep 0 x rfl, fun ty' e => by cases e; rw [hr, hc]; rfl⟩
end
end En
namespace En
open Go Go.RowKit Go.WideShapes
theorem own : ownKnob Tryz.prog.godebug = none := by kernel_rfl
theorem laidOut : laidOutB Tryz.prog = true := by kernel_rfl
section
variable {P : Gt} {T : FP -> Option Ty} {f : FuncId} {w : Gb}
def b7y : Env := { d := 0, dom := fun _ _ => False }
def d6N (w : Gb) : Prop := ∀ b ∈ a0G, ∃ x, w.heap[b]? = some x /\ e2T b x
theorem d8D {cs : List V} {u : FW} (h : RepV (a8q T) w (.agg cs) u) : RepD b7y (a8q T) w [] (.agg (cs.map vD)) u := by
 cases h with
 | agg cs us hn hr =>
   refine .agg _ us (by simpa using hn) fun k y hk => ?_
   rw [Gm, Option.map_eq_some_iff] at hk
   obtain ⟨z, hz, rfl⟩ := hk
   exact .v _ _ _ (hr k z hz) trivial
variable {H : Type} {enc : FP × FW -> H} {base : Nat} {spare : Nat -> Bool} {held : Bool} {r : Reach} {b0 : Nat} {t : FP} {v : FW} {d : LS H} {ps : List Ld} {l : List FP}
theorem e4m (hT : D7 P T) {desc : TypeDesc} (ht : P.underlying t = some desc) {ty : Ty} (h : T t = some ty) : ty.desc = desc := by
 have := (hT t ty h).desc
 rw [ht] at this
 injection this with this
 exact this.symm
theorem c4w (hT : D7 P T) (hl : b2g T l = true) (hm : t ∈ l) {fs : Array Ks} (ht : P.underlying t = some (.struct fs)) (hv : LU P w r b0 t v) (hd : OW enc P w base spare held t v d ps) :
 ∃ n cs, Fits T n t cs /\ RepV (a8q T) w (.agg cs) v := by
 obtain ⟨cs, rfl, _⟩ := okWide_struct ht hv
 obtain ⟨n, x, h1, h2, h3⟩ := e0Z hT hl hm (fun ty hty => ⟨fun _ => ⟨cs, rfl⟩, fun hr => (by rw [Ty.row, e4m hT ht hty] at hr; cases hr)⟩) hd
 cases h2 with
 | agg ys us a b => exact ⟨n, ys, h1, .agg ys _ a b⟩
theorem fits_int {k : IntKind} {ty : Ty} (h : T t = some ty) (hd : ty.desc = .int k) {n : Nat} {xs : List V} (hf : Fits T n t xs) : ∃ i, xs = [.int k i] /\ k.min <= i /\ i <= k.max := by
 cases n with
 | zero => cases hf
 | succ n => unfold Fits at hf; rw [h] at hf; simp only [hd] at hf; exact hf
theorem fits_bool {ty : Ty} (h : T t = some ty) (hd : ty.desc = .bool) {n : Nat} {xs : List V} (hf : Fits T n t xs) : ∃ b, xs = [.bool b] := by
 cases n with
 | zero => cases hf
 | succ n => unfold Fits at hf; rw [h] at hf; simp only [hd] at hf; exact hf
theorem a7i {e e' : FP} {ty : Ty} (h : T t = some ty) (hd : ty.desc = .slice e) (hc : ty.cks = [.bytes e']) {n : Nat} {xs : List V} (hf : Fits T n t xs) : ∃ s, xs = [.bytes s] /\ s.length <= maxLen := by
 cases n with
 | zero => cases hf
 | succ n => unfold Fits at hf; rw [h] at hf; simp only [hd, hc] at hf; exact hf
theorem c6S {e e' : FP} {ty te : Ty} (h : T t = some ty) (hd : ty.desc = .slice e) (hc : ty.cks = [.slc e']) (he : T e = some te) {n : Nat} {xs : List V} (hf : Fits T n t xs) :
 ∃ m ys, n = m + 1 /\ xs = [.sl e ys] /\ ys.length <= maxLen /\ ∀ y ∈ ys, ∃ cs, y = b1u te.row cs /\ Fits T m e cs := by
 cases n with
 | zero => cases hf
 | succ n =>
   unfold Fits at hf; rw [h] at hf; simp only [hd, hc] at hf
   obtain ⟨rfl, ys, h1, h2, h3⟩ := hf
   refine ⟨n, ys, rfl, h1, h2, fun y hy => ?_⟩
   obtain ⟨te', cs, h4, h5, h6⟩ := h3 y hy
   rw [he] at h4
   injection h4 with h4
   subst h4
   exact ⟨cs, h5, h6⟩
theorem K7 {fs : Array Ks} {ty : Ty} (h : T t = some ty) (hd : ty.desc = .struct fs) {n : Nat} {xs : List V} (hf : Fits T n t xs) : ∃ m, n = m + 1 /\ b9U (Fits T m) fs.toList xs := by
 cases n with
 | zero => cases hf
 | succ n => unfold Fits at hf; rw [h] at hf; simp only [hd] at hf; exact ⟨n, rfl, hf⟩
end
end En
namespace En
open Go Go.RowKit
section
variable (N : Nat) {E E' : Env} {g g' : G} {w w' : Gb} {p : Pk}
theorem d2c (hN : 100000 < N) {x : List UInt8} (hx : x.length <= 5000) : H8 Tryz.prog T 11 [.v (.bytes x) .no] [.v (.bytes (a5N N x)) .no] := by
 have H := d9S N hN hx
 intro E g w us hsz hus
 have hl := hus.1
 match us, hl with
 | [u], _ =>
 have hc := H E g w [u] hsz hus
 have HH := Gw hc
 clear hc H hus hsz hl hx hN
 go_enter Tryz.func11, Tryz.ntmps11
 go_wp2_with fail
 refine HH.out.mono ?_
 rintro e w' ⟨us', g', rfl, h1, h2⟩
 obtain ⟨v, rfl, _⟩ := a3V (h1 E)
 rw [show S0 [v] = v from rfl]
 have HB := Gw (Ge h1 h2)
 clear h1 h2
 go_wp2_with fail
 go_ret
 exact ⟨[v], g', rfl, HB.out.1, HB.out.2⟩
theorem d0D (hN : 100 < N) (x : List UInt8) : (a5N N x).length = 16 := by
 obtain ⟨m, h1, _⟩ := a3T x
 unfold a5N
 rw [h1, show 8 * m / 8 = m by omega]
 exact c2h N hN m _ _ h1 rfl
theorem d5w (hN : 100000 < N) (hm : ∀ x ∈ p.ims, x.aid.length <= 9223372036854775807) (hm2 : ∀ x ∈ p.aps, x.aid.length <= 9223372036854775807) (hs : SzOK T g w) (glob : ∀ b, b < w.heap.size -> g.Γ b = .imm -> b ∈ a0G) (perm : ∀ b, b < w.heap.size -> g.Γ b = .imm ∨ ∃ n, g.Γ b = .low n) {v : FW} (hv : RepD E g w [] (pkD p) v) :
 IE Tryz.prog 3 #[v] w fun e w' => e = .returned (.bool true) /\ Below w.heap.size w w' := by
 obtain ⟨e, h1, h2⟩ := c4L N (by omega) p hm hm2
 rcases h2 with ⟨he, h2⟩ | ⟨rfl, hk, h2⟩
 . exact d9m hN he h2 hs hv
 . have hl : (wPk p).length <= 5000 := IK hk.2.2 (by decide)
   exact e4g ⟨hN, hk, h2, h1, d2c N hN hl, d8b N _ _ (d7b N hl hN), by rw [d0D N (by omega)]; decide, hs, glob, perm⟩ hv
theorem RepV.weak (hst : ∀ b o v, s5 g b o -> w.cell? ⟨b, o, none⟩ = some v -> s5 g' b o) (hsz : g'.sz = g.sz) {x : V} {v : FW} (h : RepV g w x v) : x.good = true -> RepV g' w x v := by
 induction h with
 | bool b => exact fun _ => .bool b
 | int k n h => exact fun _ => .int k n h
 | str s h => exact fun _ => .str s h
 | bytes xs A n c hn hc hm h =>
   refine fun _ => .bytes xs A n c hn hc hm fun k x hx => ?_
   obtain ⟨b, off, e, h1, h2⟩ := h k x hx
   exact ⟨b, off, e, hst _ _ _ h1 h2, h2⟩
 | sl e xs A n c us hn hc hm hs h hr ih =>
   intro hg
   simp only [V.good, FS] at hg
   refine .sl e xs A n c us hn hc hm (by rw [hsz]; exact hs) (fun k x hx => ?_) fun k y hk => ?_
   . obtain ⟨b, off, e, h1, h2⟩ := h k x hx
     exact ⟨b, off, e, hst _ _ _ h1 h2, h2⟩
   . obtain ⟨z, hz, hy⟩ := Kw.1 (Ga hk)
     exact ih k y hk (b5D (a0U hg.1 z hz) hy)
 | agg cs us hn hr ih =>
   intro hg
   exact .agg cs us hn fun k y hk => ih k y hk (a0U (by simpa [V.good] using hg) y (Ga hk))
 | iface t x v h ih => intro hg; cases hg
 | nilI => intro hg; cases hg
 | mset ks b es clock hb hw hm => intro hg; cases hg
 | nilM => intro hg; cases hg
 | rowI e xs A n c h hi ih => intro hg; cases hg
def d4b (w : Gb) : G := { a8q T with Γ := fun b => if b ∈ a0G then .imm else .low (match w.heap[b]? with | some (.cells cs _ _) => cs.size | _ => 0) }
theorem d8d : ∀ b o v, s5 (a8q T) b o -> w.cell? ⟨b, o, none⟩ = some v -> s5 (d4b w) b o := by
 intro b o v _ hc
 unfold s5 d4b
 simp only
 by_cases hb : b ∈ a0G
 . rw [if_pos hb]; trivial
 . rw [if_neg hb]
   unfold Ke at hc
   simp only at hc
   split at hc
   . rename_i cs t f hh
     simp only [hh]
     exact (Array.getElem?_eq_some_iff.1 hc).1
   . cases hc
theorem e0u (h : d6N w) : SzOK T (d4b w) w := ⟨rfl, fun b hb => ⟨if_pos hb, h b hb⟩⟩
theorem d9H (hm : ∀ x ∈ p.ims, x.aid.length <= 9223372036854775807) (hm2 : ∀ x ∈ p.aps, x.aid.length <= 9223372036854775807) (hgl : d6N w) {v : FW} (hv : RepD b7y (a8q T) w [] (pkD p) v) :
 IE Tryz.prog 3 #[v] w fun e w' => e = .returned (.bool true) /\ Below w.heap.size w w' := by
 refine d5w (E := b7y) (g := d4b w) 200000 (by decide) hm hm2 (e0u hgl) (fun b _ hb => ?_) (fun b _ => ?_) ?_
 . by_cases hg : b ∈ a0G
   . exact hg
   . have : Perm.low _ = Perm.imm := (if_neg hg).symm.trans hb
     cases this
 . by_cases hg : b ∈ a0G
   . exact .inl (if_pos hg)
   . exact .inr ⟨_, if_neg hg⟩
 . obtain ⟨q0, q3, q4, q5, q6, q7⟩ := c8x p
   have put : ∀ {x : V} {u : FW}, x.good = true -> RepD b7y (a8q T) w [] (.v x .no) u -> RepD b7y (d4b w) w [] (.v x .no) u := fun hg hd => by
    cases hd with | v x a u hu ha => exact .v _ _ _ (RepV.weak d8d rfl hu hg) trivial
   unfold pkD at hv ⊢
   cases hv with
   | agg ds us hn hr =>
     refine .agg _ us hn fun k y hk => ?_
     rcases k with _ | _ | _ | _ | _ | _ | _ | _ | k
     . simp at hk; subst hk; exact put q0 (hr 0 _ rfl)
     . simp at hk; subst hk; exact put rfl (hr 1 _ rfl)
     . simp at hk; subst hk; exact put rfl (hr 2 _ rfl)
     . simp at hk; subst hk; exact put q3 (hr 3 _ rfl)
     . simp at hk; subst hk; exact put q4 (hr 4 _ rfl)
     . simp at hk; subst hk; exact put q5 (hr 5 _ rfl)
     . simp at hk; subst hk; exact put q6 (hr 6 _ rfl)
     . simp at hk; subst hk; exact put q7 (hr 7 _ rfl)
     . simp at hk
end
end En
namespace En
open Go Go.RowKit
theorem e2r {n : Nat} (h : n <= maxLen) : n <= 9223372036854775807 := by unfold maxLen at h; omega
theorem T_I : T 3 = some ty3 := by kernel_rfl
theorem e4E : T 4 = some ty4 := by kernel_rfl
theorem e3U : T 22 = some e5g := by kernel_rfl
theorem e5a : T 42 = some e5Z := by kernel_rfl
theorem e5G : T 44 = some e6u := by kernel_rfl
theorem e5h : T 58 = some e5M := by kernel_rfl
theorem e5i : T 105 = some e2z := by kernel_rfl
theorem e6k : T 64 = some e5p := by kernel_rfl
theorem e6f : T 107 = some e2D := by kernel_rfl
theorem e5e : T 47 = some e6j := by kernel_rfl
theorem e5B : T 67 = some e6w := by kernel_rfl
theorem e5z : T 54 = some e5H := by kernel_rfl
theorem e7g : T 29 = some e6i := by kernel_rfl
theorem e7r : T 61 = some e5V := by kernel_rfl
theorem e5R : T 60 = some e5r := by kernel_rfl
theorem e5c : T 26 = some e5O := by kernel_rfl
theorem e5b : T 23 = some e5s := by kernel_rfl
theorem e5L : T 62 = some e5x := by kernel_rfl
theorem e6b : T 24 = some e4Q := by kernel_rfl
theorem e6o : T 45 = some e6e := by kernel_rfl
theorem e6r : T 25 = some e5U := by kernel_rfl
theorem e5J : T 27 = some e5S := by kernel_rfl
theorem e4P : T 37 = some e6h := by kernel_rfl
theorem d5L {α : Type} {enc : α -> V} {P : α -> Prop} {row : Bool} {e : FP} (n : Nat) (f : ∀ cs, Fits T n e cs -> ∃ a : α, b1u row cs = enc a /\ P a) : ∀ (ys : List V), (∀ y ∈ ys, ∃ cs, y = b1u row cs /\ Fits T n e cs) -> ∃ l : List α, ys = l.map enc /\ ∀ x ∈ l, P x
 | [], _ => ⟨[], rfl, fun x hx => by simp at hx⟩
 | y :: ys, h => by
   obtain ⟨l, h1, h2⟩ := d5L n f ys fun z hz => h z (List.mem_cons_of_mem _ hz)
   obtain ⟨cs, rfl, hc⟩ := h y (by simp)
   obtain ⟨a, ha, hp⟩ := f cs hc
   refine ⟨a :: l, by rw [h1, ha]; rfl, fun x hx => ?_⟩
   rcases GG.1 hx with rfl | hx
   . exact hp
   . exact h2 x hx
theorem b8G {n : Nat} {cs : List V} (h : Fits T n 42 cs) : ∃ r : Rf, cs = [.int .i64 r.p, .int .i64 r.c] := by
 obtain ⟨m, rfl, a, r1, rfl, ha, b, r2, rfl, hb, rfl⟩ := K7 e5a rfl h
 obtain ⟨p, rfl, _⟩ := fits_int T_I rfl ha
 obtain ⟨c, rfl, _⟩ := fits_int T_I rfl hb
 exact ⟨⟨p, c⟩, rfl⟩
theorem d2m {n : Nat} {cs : List V} (h : Fits T n 44 cs) : ∃ t : Tp, cs = [.int .i64 t.k, .int .i64 t.r.p, .int .i64 t.r.c] := by
 obtain ⟨m, rfl, a, r1, rfl, ha, b, r2, rfl, hb, rfl⟩ := K7 e5G rfl h
 obtain ⟨k, rfl, _⟩ := fits_int T_I rfl ha
 obtain ⟨r, rfl⟩ := b8G hb
 exact ⟨⟨k, r⟩, rfl⟩
theorem e4p {n : Nat} {cs : List V} (h : Fits T n 58 cs) : ∃ x : Im, cs = [.bytes x.aid, .int .i64 x.ma, .int .i64 x.mi] /\ x.aid.length <= 9223372036854775807 := by
 obtain ⟨m, rfl, a, r1, rfl, ha, b, r2, rfl, hb, c, r3, rfl, hc, rfl⟩ := K7 e5h rfl h
 obtain ⟨s, rfl, hs⟩ := a7i e3U rfl rfl ha
 obtain ⟨p, rfl, _⟩ := fits_int T_I rfl hb
 obtain ⟨q, rfl, _⟩ := fits_int T_I rfl hc
 exact ⟨⟨s, p, q⟩, rfl, e2r hs⟩
theorem e4o {n : Nat} {cs : List V} (h : Fits T n 67 cs) : ∃ x : Ap, cs = [.bytes x.aid, .int .i64 x.cl, .int .i64 x.ins] /\ x.aid.length <= 9223372036854775807 := by
 obtain ⟨m, rfl, a, r1, rfl, ha, b, r2, rfl, hb, c, r3, rfl, hc, rfl⟩ := K7 e5B rfl h
 obtain ⟨s, rfl, hs⟩ := a7i e3U rfl rfl ha
 obtain ⟨p, rfl, _⟩ := fits_int T_I rfl hb
 obtain ⟨q, rfl, _⟩ := fits_int T_I rfl hc
 exact ⟨⟨s, p, q⟩, rfl, e2r hs⟩
theorem e4D {n : Nat} {cs : List V} (h : Fits T n 107 cs) : ∃ x : Hd, cs = [.int .i64 x.f, .int .i64 x.t, .int .i64 x.g, .int .i64 x.w] := by
 obtain ⟨m, rfl, a, r1, rfl, ha, b, r2, rfl, hb, c, r3, rfl, hc, d, r4, rfl, hd, rfl⟩ := K7 e6f rfl h
 obtain ⟨p, rfl, _⟩ := fits_int T_I rfl ha
 obtain ⟨q, rfl, _⟩ := fits_int T_I rfl hb
 obtain ⟨s, rfl, _⟩ := fits_int T_I rfl hc
 obtain ⟨v, rfl, _⟩ := fits_int T_I rfl hd
 exact ⟨⟨p, q, s, v⟩, rfl⟩
theorem e3v {n : Nat} {cs : List V} (h : Fits T n 54 cs) : ∃ i : In, cs = [.int .i64 i.op, .int .i64 i.a, .int .i64 i.b, .int .i64 i.c] := by
 obtain ⟨m, rfl, a, r1, rfl, ha, b, r2, rfl, hb, c, r3, rfl, hc, d, r4, rfl, hd, rfl⟩ := K7 e5z rfl h
 obtain ⟨p, rfl, _⟩ := fits_int T_I rfl ha
 obtain ⟨q, rfl, _⟩ := fits_int T_I rfl hb
 obtain ⟨s, rfl, _⟩ := fits_int T_I rfl hc
 obtain ⟨v, rfl, _⟩ := fits_int T_I rfl hd
 exact ⟨⟨p, q, s, v⟩, rfl⟩
theorem a2j {α : Type} {enc : α -> V} {P : α -> Prop} {t e e' : FP} {ty te : Ty} (h : T t = some ty) (hd : ty.desc = .slice e) (hc : ty.cks = [.slc e']) (he : T e = some te) {n : Nat} {xs : List V} (hf : Fits T n t xs) (f : ∀ m cs, Fits T m e cs -> ∃ a : α, b1u te.row cs = enc a /\ P a) : ∃ l : List α, xs = [.sl e (l.map enc)] /\ ∀ x ∈ l, P x := by
 obtain ⟨m, ys, rfl, rfl, k1, k2⟩ := c6S h hd hc he hf
 obtain ⟨l, rfl, h2⟩ := d5L m (f m) ys k2
 exact ⟨l, rfl, h2⟩
theorem c3O {n : Nat} {xs : List V} (h : Fits T n 61 xs) : ∃ l : List Int, xs = [.sl 3 (l.map nV)] := by
 obtain ⟨l, h1, _⟩ := a2j (enc := nV) (P := fun _ => True) e7r rfl rfl T_I h fun m cs hc => by
  obtain ⟨i, rfl, _⟩ := fits_int T_I rfl hc
  exact ⟨i, rfl, trivial⟩
 exact ⟨l, h1⟩
theorem d2v {n : Nat} {xs : List V} (h : Fits T n 60 xs) : ∃ l : List Rf, xs = [.sl 42 (l.map rfV)] := by
 obtain ⟨l, h1, _⟩ := a2j (enc := rfV) (P := fun _ => True) e5R rfl rfl e5a h fun m cs hc => by
  obtain ⟨r, rfl⟩ := b8G hc
  exact ⟨r, rfl, trivial⟩
 exact ⟨l, h1⟩
theorem b8m {n : Nat} {xs : List V} (h : Fits T n 26 xs) : ∃ l : List Tp, xs = [.sl 44 (l.map tpV)] := by
 obtain ⟨l, h1, _⟩ := a2j (enc := tpV) (P := fun _ => True) e5c rfl rfl e5G h fun m cs hc => by
  obtain ⟨r, rfl⟩ := d2m hc
  exact ⟨r, rfl, trivial⟩
 exact ⟨l, h1⟩
theorem d9e {n : Nat} {xs : List V} (h : Fits T n 45 xs) : ∃ l : List Hd, xs = [.sl 107 (l.map hdV)] := by
 obtain ⟨l, h1, _⟩ := a2j (enc := hdV) (P := fun _ => True) e6o rfl rfl e6f h fun m cs hc => by
  obtain ⟨r, rfl⟩ := e4D hc
  exact ⟨r, rfl, trivial⟩
 exact ⟨l, h1⟩
theorem e0R {n : Nat} {xs : List V} (h : Fits T n 37 xs) : ∃ l : List In, xs = [.sl 54 (iE l)] := by
 obtain ⟨l, h1, _⟩ := a2j (enc := iV) (P := fun _ => True) e4P rfl rfl e5z h fun m cs hc => by
  obtain ⟨r, rfl⟩ := e3v hc
  exact ⟨r, rfl, trivial⟩
 exact ⟨l, by rw [h1, a3G]⟩
theorem e0T {n : Nat} {xs : List V} (h : Fits T n 62 xs) : ∃ l : List Il, xs = [.sl 105 (l.map ilV)] := by
 obtain ⟨l, h1, _⟩ := a2j (enc := ilV) (P := fun _ => True) e5L rfl rfl e5i h fun m cs hc => by
  obtain ⟨m', rfl, a, r1, rfl, ha, b, r2, rfl, hb, rfl⟩ := K7 e5i rfl hc
  obtain ⟨r, rfl⟩ := b8G ha
  obtain ⟨s, rfl⟩ := c3O hb
  exact ⟨⟨r, s⟩, rfl, trivial⟩
 exact ⟨l, h1⟩
theorem d8T {n : Nat} {xs : List V} (h : Fits T n 24 xs) : ∃ l : List Cl, xs = [.sl 64 (l.map clV)] := by
 obtain ⟨l, h1, _⟩ := a2j (enc := clV) (P := fun _ => True) e6b rfl rfl e6k h fun m cs hc => by
  obtain ⟨m', rfl, a1, r1, rfl, h1, a2, r2, rfl, h2, a3, r3, rfl, h3, a4, r4, rfl, h4, a5, r5, rfl, h5, a6, r6, rfl, h6, rfl⟩ := K7 e6k rfl hc
  obtain ⟨v1, rfl⟩ := b8G h1
  obtain ⟨v2, rfl⟩ := fits_bool e4E rfl h2
  obtain ⟨v3, rfl⟩ := d2v h3
  obtain ⟨v4, rfl⟩ := b8m h4
  obtain ⟨v5, rfl⟩ := c3O h5
  obtain ⟨v6, rfl⟩ := e0T h6
  exact ⟨⟨v1, v2, v3, v4, v5, v6⟩, rfl, trivial⟩
 exact ⟨l, h1⟩
theorem e1P {n : Nat} {xs : List V} (h : Fits T n 25 xs) : ∃ l : List Mt, xs = [.sl 47 (l.map mtV)] := by
 obtain ⟨l, h1, _⟩ := a2j (enc := mtV) (P := fun _ => True) e6r rfl rfl e5e h fun m cs hc => by
  obtain ⟨m', rfl, a1, r1, rfl, h1, a2, r2, rfl, h2, a3, r3, rfl, h3, a4, r4, rfl, h4, a5, r5, rfl, h5, a6, r6, rfl, h6, a7, r7, rfl, h7, a8, r8, rfl, h8, a9, r9, rfl, h9, rfl⟩ := K7 e5e rfl hc
  obtain ⟨v1, rfl⟩ := fits_bool e4E rfl h1
  obtain ⟨v2, rfl⟩ := fits_bool e4E rfl h2
  obtain ⟨v3, rfl, _⟩ := fits_int T_I rfl h3
  obtain ⟨v4, rfl⟩ := b8m h4
  obtain ⟨v5, rfl⟩ := d2m h5
  obtain ⟨v6, rfl, _⟩ := fits_int T_I rfl h6
  obtain ⟨v7, rfl, _⟩ := fits_int T_I rfl h7
  obtain ⟨v8, rfl⟩ := e0R h8
  obtain ⟨v9, rfl⟩ := d9e h9
  exact ⟨⟨v1, v2, v3, v4, v5, v6, v7, v8, v9⟩, rfl, trivial⟩
 exact ⟨l, h1⟩
theorem d8E {n : Nat} {xs : List V} (h : Fits T n 23 xs) : ∃ l : List Im, xs = [.sl 58 (l.map imV)] /\ ∀ x ∈ l, x.aid.length <= 9223372036854775807 :=
 a2j (enc := imV) e5b rfl rfl e5h h fun m cs hc => by
  obtain ⟨r, rfl, hr⟩ := e4p hc
  exact ⟨r, rfl, hr⟩
theorem e0x {n : Nat} {xs : List V} (h : Fits T n 27 xs) : ∃ l : List Ap, xs = [.sl 67 (l.map apV)] /\ ∀ x ∈ l, x.aid.length <= 9223372036854775807 :=
 a2j (enc := apV) e5J rfl rfl e5B h fun m cs hc => by
  obtain ⟨r, rfl, hr⟩ := e4o hc
  exact ⟨r, rfl, hr⟩
def pkC (p : Pk) : List V := [.bytes p.aid, .int .i64 p.ma, .int .i64 p.mi, .sl 58 (p.ims.map imV), .sl 64 (p.cls.map clV), .sl 47 (p.mts.map mtV), .sl 44 (p.sts.map tpV), .sl 67 (p.aps.map apV)]
theorem e3x {n : Nat} {cs : List V} (h : Fits T n 29 cs) : ∃ p : Pk, cs = pkC p /\ (∀ x ∈ p.ims, x.aid.length <= 9223372036854775807) /\ ∀ x ∈ p.aps, x.aid.length <= 9223372036854775807 := by
 obtain ⟨m', rfl, a1, r1, rfl, h1, a2, r2, rfl, h2, a3, r3, rfl, h3, a4, r4, rfl, h4, a5, r5, rfl, h5, a6, r6, rfl, h6, a7, r7, rfl, h7, a8, r8, rfl, h8, rfl⟩ := K7 e7g rfl h
 obtain ⟨v1, rfl, _⟩ := a7i e3U rfl rfl h1
 obtain ⟨v2, rfl, _⟩ := fits_int T_I rfl h2
 obtain ⟨v3, rfl, _⟩ := fits_int T_I rfl h3
 obtain ⟨v4, rfl, q4⟩ := d8E h4
 obtain ⟨v5, rfl⟩ := d8T h5
 obtain ⟨v6, rfl⟩ := e1P h6
 obtain ⟨v7, rfl⟩ := b8m h7
 obtain ⟨v8, rfl, q8⟩ := e0x h8
 exact ⟨⟨v1, v2, v3, v4, v5, v6, v7, v8⟩, rfl, q4, q8⟩
def e4J : List FP := [29, 3, 22, 4, 5, 42, 44, 58, 105, 64, 107, 47, 67, 54, 61, 60, 26, 23, 62, 24, 45, 25, 27, 37]
theorem d1y : b2g T e4J = true := by kernel_rfl
end En
namespace En
open Go Go.Joins Go.ChangeShapes Go.WideShapes Go.ChangeAt Go.RowKit Go.Deep
theorem b9q {P : Gt} {w : Gb} {n : String} {d : LS Unit} : ∀ {l : List (String × LS Unit)} {ps : List Ld}, DataW.LaidVars P w l ps -> (n, d) ∈ l ->
 ∃ g t cs fuel p, P.globalNamed n = some g /\ (P.globals[g]?).map (·.type) = some t /\ w.var? P n = some cs /\ LF (fun _ => ()) P w 0 (fun _ => true) false fuel t cs.toList = some (d, p)
 | [], ps, _, hm => by cases hm
 | (m, e) :: l, ps, h, hm => by
   obtain ⟨g, t, cs, fuel, p, q, h1, h2, h3, h4, h5, _⟩ := h
   rcases GG.1 hm with hm | hm
   . injection hm with a b
     subst a b
     exact ⟨g, t, cs, fuel, p, h1, h2, h3, h4⟩
   . exact b9q h5 hm
theorem d3Z {P : Gt} {w : Gb} {name : String} {k : IntKind} {zs : List Int} {l : List (String × LS Unit)} {g : Nat} {t e : FP} {n : Nat}
 (hg : P.globalNamed name = some g) (hty : (P.globals[g]?).map (·.type) = some t) (ht : P.underlying t = some (.array n e)) (he : P.underlying e = some (.int k)) (hce : P.cellsOf e = 1) (hct : P.cellsOf t = n)
 (h : laidMet P l w) (hm : (name, Km k zs) ∈ l) : ∃ y f, w.heap[g]? = some (.cells (b1c k zs) y f) := by
 obtain ⟨ps, hl, _⟩ := h
 obtain ⟨g', t', cs, fuel, p, h1, h2, h3, h4⟩ := b9q hl hm
 obtain rfl := It (hg.symm.trans h1)
 obtain rfl := It (hty.symm.trans h2)
 have hc := Lib.cells_of_tab ht he hce hct h4
 unfold LC at h3
 rw [hg, GU] at h3
 split at h3
 . rename_i cs' y f hh
   injection h3 with h3
   subst h3
   refine ⟨y, f, ?_⟩
   rw [hh]
   have : cs' = b1c k zs := by
    unfold b1c
    rw [← hc]
   rw [this]
 . cases h3
theorem b9f {H : Type} {enc : FP × FW -> H} {P : Gt} {w : Gb} {base : Nat} {sp : Nat -> Bool} {held : Bool} {fuel : Nat} {t : FP} {f0 f1 : Ks} {a b : Int} {cs : List FW} {p : List Ld}
 (ht : P.underlying t = some (.struct #[f0, f1])) (h0 : P.underlying f0.type = some (.int .i64)) (h1 : P.underlying f1.type = some (.int .i64)) (c0 : P.cellsOf f0.type = 1) (c1 : P.cellsOf f1.type = 1) (o0 : f0.offset = 0) (o1 : f1.offset = 1) (ct : P.cellsOf t = 2)
 (h : LF enc P w base sp held fuel t cs = some (.agg [.lit (.int .i64 a), .lit (.int .i64 b)], p)) : cs = [.int .i64 a, .int .i64 b] := by
 obtain ⟨y0, y1, n, hx, hl, q0, q1⟩ := Go.ChangeShapes.trod_struct2 ht h
 injection hx with hx _
 injection hx with hx
 injection hx with e0 hx
 injection hx with e1 _
 obtain ⟨m0, k0, rfl, _⟩ := Kc h0 q0
 obtain ⟨m1, k1, rfl, _⟩ := Kc h1 q1
 simp only [DataW.lit.injEq, Lit.int.injEq, true_and] at e0 e1
 subst e0; subst e1
 rw [o0, c0] at k0
 rw [o1, c1] at k1
 match cs, hl.trans ct with
 | [u, v], _ =>
   simp at k0 k1
   rw [k0, k1]
theorem c3C {P : Gt} {w : Gb} {name : String} {a b : Int} {l : List (String × LS Unit)} {g : Nat} {t : FP} {f0 f1 : Ks}
 (hg : P.globalNamed name = some g) (hty : (P.globals[g]?).map (·.type) = some t) (ht : P.underlying t = some (.struct #[f0, f1])) (h0 : P.underlying f0.type = some (.int .i64)) (h1 : P.underlying f1.type = some (.int .i64)) (c0 : P.cellsOf f0.type = 1) (c1 : P.cellsOf f1.type = 1) (o0 : f0.offset = 0) (o1 : f1.offset = 1) (ct : P.cellsOf t = 2)
 (h : laidMet P l w) (hm : (name, .agg [.lit (.int .i64 a), .lit (.int .i64 b)]) ∈ l) : ∃ y f, w.heap[g]? = some (.cells #[.int .i64 a, .int .i64 b] y f) := by
 obtain ⟨ps, hl, _⟩ := h
 obtain ⟨g', t', cs, fuel, p, h1', h2, h3, h4⟩ := b9q hl hm
 obtain rfl := It (hg.symm.trans h1')
 obtain rfl := It (hty.symm.trans h2)
 have hc := b9f ht h0 h1 c0 c1 o0 o1 ct h4
 unfold LC at h3
 rw [hg, GU] at h3
 split at h3
 . rename_i cs' y f hh
   injection h3 with h3
   subst h3
   refine ⟨y, f, ?_⟩
   rw [hh]
   have : cs' = #[.int .i64 a, .int .i64 b] := by
    obtain ⟨l⟩ := cs'
    simp at hc
    rw [hc]
   rw [this]
 . cases h3
theorem c5L : Rows.laid_strings_asciiSpace (H := Unit) = Km .u8 Jr := by kernel_rfl
theorem d4r : Rows.laid_internal_strconv_uint64pow10 (H := Unit) = Km .u64 KD := by kernel_rfl
theorem d6k : Rows.laid_smartcard_loadfile_object (H := Unit) = .agg [.lit (.int .i64 255), .lit (.int .i64 0)] := by kernel_rfl
theorem d2i {w : Gb} (h : laidMetH Tryz.prog Rows.topTextRow.laid w) (hs : w.ShapedOpen Tryz.prog) : d6N w := by
 have h : laidMet Tryz.prog Rows.topTextRow.laid w := h
 have ms : ("strings.asciiSpace", Km (H := Unit) .u8 Jr) ∈ Rows.topTextRow.laid := by
  rw [← c5L]
  simp [Rows.topTextRow]
 have mp : ("internal/strconv.uint64pow10", Km (H := Unit) .u64 KD) ∈ Rows.topTextRow.laid := by
  rw [← d4r]
  simp [Rows.topTextRow]
 have mo : ("smartcard/loadfile.object", (DataW.agg [.lit (.int .i64 255), .lit (.int .i64 0)] : LS Unit)) ∈ Rows.topTextRow.laid := by
  rw [← d6k]
  simp [Rows.topTextRow]
 obtain ⟨y3, f3, s3⟩ := c3C (g := 1) (t := 42) (f0 := ⟨ "Package", 3, 0, false, "", "", 0⟩) (f1 := ⟨ "Class", 3, 1, false, "", "", 8⟩) (by kernel_rfl) (by kernel_rfl) (by kernel_rfl) (by kernel_rfl) (by kernel_rfl) (by kernel_rfl) (by kernel_rfl) (by kernel_rfl) (by kernel_rfl) (by kernel_rfl) h mo
 obtain ⟨y1, f1, s1⟩ := d3Z (g := 0) (t := (Tryz.prog.globals[0]?).map (·.type) |>.getD 0) (e := 5) (n := 256) (by kernel_rfl) (by kernel_rfl) (by kernel_rfl) (by kernel_rfl) (by kernel_rfl) (by kernel_rfl) h ms
 obtain ⟨y2, f2, s2⟩ := d3Z (g := 4) (t := (Tryz.prog.globals[4]?).map (·.type) |>.getD 0) (e := (match Tryz.prog.underlying ((Tryz.prog.globals[4]?).map (·.type) |>.getD 0) with | some (.array _ e) => e | _ => 0)) (n := 20) (by kernel_rfl) (by kernel_rfl) (by kernel_rfl) (by kernel_rfl) (by kernel_rfl) (by kernel_rfl) h mp
 obtain ⟨m, hm⟩ := cell_of_shapedOpen_int (P := Tryz.prog) (g := 2) (t := 3) (zero := #[.int .i64 0]) hs (of_decide_eq_true (by kernel_rfl)) (by kernel_rfl) rfl (by kernel_rfl) (by kernel_rfl) Tryz.underlying3
 have hm : w.cell? ⟨2, 0, none⟩ = some (.int .i64 m) := hm
 intro b hb
 have hb : b = 0 ∨ b = 2 ∨ b = 4 ∨ b = 1 := by simpa [a0G] using hb
 rcases hb with rfl | rfl | rfl | rfl
 . exact ⟨_, s1, _, _, _, rfl, fun _ => rfl, fun e => absurd e (by decide), fun e => absurd e (by decide), fun e => absurd e (by decide)⟩
 . unfold Ke at hm
   simp only at hm
   split at hm
   . rename_i vs t f hh
     exact ⟨_, hh, vs, t, f, rfl, fun e => absurd e (by decide), fun _ => ⟨m, by simpa using hm⟩, fun e => absurd e (by decide), fun e => absurd e (by decide)⟩
   . cases hm
 . exact ⟨_, s2, _, _, _, rfl, fun e => absurd e (by decide), fun e => absurd e (by decide), fun _ => rfl, fun e => absurd e (by decide)⟩
 . exact ⟨_, s3, _, _, _, rfl, fun e => absurd e (by decide), fun e => absurd e (by decide), fun e => absurd e (by decide), fun _ => rfl⟩
theorem c3q {H : Type} {enc : FP × FW -> H} {a : Assume} {C : Checked} {os : Os} {f : FuncId} {fn : Func} {s : ChangeSpec} {conds : List PathCond} {apart fresh handsOn again : Bool} {l : List (String × LS Unit)}
 (own : ownKnob C.prog.godebug = none) (started : os.Started) (noInit : C.prog.inits.idxOf? f = none) (hfn : C.prog.funcs[f]? = some fn)
 (witness : ∃ (w : Gb) (tape : Tape) (i : Input), w.os = os /\ (w.forCall tape i).Shaped C.prog /\ i.vars = [] /\ Input.okWide C.prog (w.forCall tape i) .any w.heap.size f i /\
  ((s.pre enc C.prog fn conds apart (w.forCall tape i).memory i.args /\ laidMetH C.prog l (w.forCall tape i).memory) /\ sizedMet enc C.prog fn (OpenSpec.ofChange s) apart (w.forCall tape i).memory i.args) /\ a.holds C.prog (lone (Frame.enter C.prog f i.args .normal) [] (w.forCall tape i)))
 (contract : ∀ (W : Gb) (base : Nat) (args : Array FW) (ds gs : List (LS H)) (before : List Ld),
  (∀ (j : Nat) t v, fn.params[j]? = some t -> args[j]? = some v -> LU C.prog W .any base t v) ->
  DataW.Whole enc C.prog fn.params.toList s.vars apart W args.toList ds gs before -> laidMetH C.prog l W -> W.ShapedOpen C.prog ->
  IE C.prog f args W fun e W' => ∃ v, e = .returned v /\ s.post enc C.prog fn apart fresh handsOn again W args v W') :
 ReturnsInHanded a C os f .any (fun w args => (s.pre enc C.prog fn conds apart w args /\ laidMetH C.prog l w) /\ sizedMet enc C.prog fn (OpenSpec.ofChange s) apart w args) (s.post enc C.prog fn apart fresh handsOn again) := by
 refine returnsInHanded_of_calls own started noInit witness fun w tape i _ hsh _ hok e8i _ => ?_
 obtain ⟨_, _, _, fn', hfn', _, _, _, _, d1Y⟩ := hok
 obtain rfl : fn' = fn := It (hfn'.symm.trans hfn)
 obtain ⟨⟨⟨ds, gs, before, hw, _⟩, hl⟩, _⟩ := e8i
 refine (contract (w.forCall tape i) w.heap.size i.args ds gs before d1Y (DataW.Whole.of_heap (by rfl) hw) (hl.of_heap (by rfl)) hsh).mono fun e W' ⟨v, he, hp⟩ => ?_
 subst he
 exact ChangeSpec.post_blind hp
theorem door_met (os : Os) (args : Array FW) : laidMetH Tryz.prog Rows.topTextRow.laid ((Lx Tryz.prog os Rows.topTextRow.laid).forCall (fun _ _ => 0) ⟨#[], args, []⟩).memory := by
 rw [MakeChecks.laidMetH_plain _ _ _ (by kernel_rfl)]
 exact laidMet_laidAll _ (by kernel_rfl) (by kernel_rfl)
theorem door_shaped (os : Os) (args : Array FW) : ((Lx Tryz.prog os Rows.topTextRow.laid).forCall (fun _ _ => 0) ⟨#[], args, []⟩).Shaped Tryz.prog :=
 World.shaped_of_ZipB (by kernel_rfl) (by kernel_rfl)
end En
end
end Go.Proofs.YtkoilndpfifapaaGreatDoor
