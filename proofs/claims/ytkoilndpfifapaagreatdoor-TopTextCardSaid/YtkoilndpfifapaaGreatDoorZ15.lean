/- Texts. -/
import Derived.Test.YtkoilndpfifapaaGreatDoorZ14
import Derived.ProofKit
import Derived.OpenShut
import Derived.ChangeOld
import Derived.ShutString
import Derived.Lib.SmallJoins
import Derived.Test.YtkoilndpfifapaaGreatDoorCards
import Derived.Test.YtkoilndpfifapaaGreatDoorTie
import Derived.Lib.LaidTab
import Derived.LaidMore
import Derived.Handed
import Derived.WideShapes
import Derived.Lay
import Derived.ChangeSame

set_option linter.unusedSimpArgs false
set_option linter.unusedVariables false
set_option linter.unusedSectionVars false
open And renaming intro → Gf
open Bool renaming and_true → GC, and_self → GP, not_true → GO, not_false → GR, and_eq_true → FT
open Eq renaming trans → Gs
open Go renaming World → Gc, Value → FX, Calls → IF, heap_alloc_new → Hf, cell_of_row → GA, frozen_of_row → IB, TypeId → FP, Field → Kt, Program → Gu, DataW → LU, MemPlace → Le
open Go.DataW renaming trod → LG, trod_int → Kd, trod_slice → Mc, Trod → OX
open Go.IntKind renaming i64 → FK
open Go.Lib renaming hid → Gx, tabData → Kn, asciiSpaceTab → Js, pow10Tab → KE
open Go.Value renaming int → Ib, slice → Hr, bool → KC, okWide → LV
open Go.World renaming cells?_some → Kl, cell? → Kf, var? → LD, laidAll → Ly
open List renaming getElem?_eq_some_iff → FN, mem_of_getElem? → Gb, mem_cons → GH, mem_cons_self → IP, any_eq_true → KB, getElem?_of_mem → Ie, getElem?_append_left → Gh, mem_flatMap → Kx, length_map → Gi, mem_map → IR, getElem?_map → Gn, getElem?_eq_getElem → FQ, getD_eq_getElem?_getD → FV, getElem?_append_right → Gk, all_eq_true → Hg, flatten_cons → Km
open Nat renaming not_lt_zero → Is, le_refl → FW, lt_or_ge → Hi, mul_comm → LR, le_trans → IL, zero_le → Hq, add_assoc → Hu, beq → FZ, succ_mul → LS, eq_of_beq_eq_true → FM
open Option renaming bind_eq_some_iff → IJ, bind_some → GV
open Option.some renaming inj → Iu
namespace Go.Proofs.YtkoilndpfifapaaGreatDoor
noncomputable section
namespace En
open Go Go.Proofs
set_option maxRecDepth 100000
set_option maxHeartbeats 8000000
def U7 {R : Type} (N : Nat) (w l1 : LB) (Lq : Int -> Option R) (K0 : Int -> Option R) (K1 : Option R) (d : Int) : Option R := br (decide (d < (w.length : Int))) (br (decide (d < (l1.length : Int))) (br (decide (0 <= d) && decide (d < (w.length : Int))) (at? w d.toNat fun u0 => br (decide (0 <= d) && decide (d < (l1.length : Int))) (at? l1 d.toNat fun u1 => br (decide ((u0.toNat : Int) < (u1.toNat : Int))) (K0 (-1)) (br (decide (0 <= d) && decide (d < (w.length : Int))) (at? w d.toNat fun u2 => br (decide (0 <= d) && decide (d < (l1.length : Int))) (at? l1 d.toNat fun u3 => br (decide ((u3.toNat : Int) < (u2.toNat : Int))) (K0 1) (Lq (FK.wrap (d + 1)))) none) none)) none) none) K1) K1
def U2 {R : Type} (N : Nat) (w l1 : LB) : Nat -> Int -> (Int -> Option R) -> (Option R) -> Option R | 0, _, _, _ => none | t + 1, d, K0, K1 => U7 N w l1 (fun d => U2 N w l1 t d K0 K1) K0 K1 d
def a5m {R : Type} (N : Nat) (ds : List D) (m : Mem) (K : Ex -> List D -> Mem -> Option R) : Option R :=
 match ds, m with
 | [(.v (.bytes w) .no), (.v (.bytes l1) .no), (.v (.int .i64 d) .no)], [[]] => U2 N w l1 N d (fun a2 => K .ret [(.v (.bytes w) .no), (.v (.bytes l1) .no), (.v (.int .i64 a2) .no)] [[]]) (K (.exit 0) [(.v (.bytes w) .no), (.v (.bytes l1) .no), .any] [[]])
 | _, _ => none
def a0Q (N : Nat) (f x1 : LB) : Option (Int) := U2 N f x1 N 0 (fun j => some j) (br (decide ((f.length : Int) < (x1.length : Int))) (some (-1)) (br (decide ((x1.length : Int) < (f.length : Int))) (some 1) (some 0)))
def b4F (N : Nat) : Cx := cl [] [] [⟨2, [0, 1, 5], [0, 1, 4], a5m N⟩]
theorem b9B (N : Nat) : p9 (b4F N) 46 (s4 Tryz.f10 0) := by
 refine j7 (rid := 2) (by kernel_rfl) rfl rfl fun R ds m K r h => ?_
 change a5m N ds m K = _ at h
 unfold a5m at h
 split at h
 . rename_i w l1 d
   exact ⟨N, Gs (lpI (fun (e : (Int -> Option R) × (Option R)) L (s : Int) => U7 N w l1 (fun d => L d) e.1 e.2 s) (fun e t s => U2 N w l1 t s e.1 e.2) (fun s => [(.v (.bytes w) .no), (.v (.bytes l1) .no), (.v (.int .i64 s) .no)]) (fun s => [[]]) (fun _ _ => rfl) (fun _ _ _ => rfl) (e := (_, _)) (fun L s => by kernel_rfl) N d) h⟩
 . cases h
def b7b (N : Nat) : Ent := pE 10 (.v .y (.v .y .z)) (.v fI .z) (a0Q N)
theorem b7h (N : Nat) : POK Tryz.prog T 10 (.v .y (.v .y .z)) (.v fI .z) (a0Q N) := pok (cx := b4F N) fo (D4 trivial trivial) (j6 (k := 1) (by kernel_rfl) ⟨trivial, b9B N⟩) Tryz.func10 (by kernel_rfl) rfl fun h => by kernel_rfl
theorem c4r (N : Nat) : EO (b7b N) := a1i (gz Tryz.func10 (by kernel_rfl)) rfl (b7h N)
theorem b6b (N : Nat) (f x1 : LB) (r0 : Int) (h : a0Q N f x1 = some r0) : PRT 10 [dY f, dY x1] [dI r0] := b7h N (f, x1, ()) r0 h
def a6u (N : Nat) (f x1 : LB) : Option (Bool) := j3 (a0Q N f x1) fun j => some (decide (j = 0))
def c8a (N : Nat) : Ent := pE 16 (.v .y (.v .y .z)) (.v .b .z) (a6u N)
theorem d1Q (N : Nat) : EO (c8a N) := pk0 (cx := cz [b7b N] []) (A9 ⟨c4r N, trivial⟩ trivial) Tryz.func16 (by kernel_rfl) fun h => by kernel_rfl
def a2s {R : Type} (N : Nat) (Aa Ab : List V) (Lq : Int -> Option R) (K0 : Bool -> Option R) (K1 : Option R) (d : Int) : Option R := br (decide (d < (Aa.length : Int))) (br (decide (0 <= d) && decide (d < (Aa.length : Int))) (at? Aa d.toNat fun f => V.unInt FK f fun u => br (decide (0 <= d) && decide (d < (Ab.length : Int))) (at? Ab d.toNat fun x2 => V.unInt FK x2 fun i => br (!decide (u = i)) (K0 false) (Lq (FK.wrap (d + 1)))) none) none) K1
def a2K {R : Type} (N : Nat) (Aa Ab : List V) : Nat -> Int -> (Bool -> Option R) -> (Option R) -> Option R | 0, _, _, _ => none | t + 1, d, K0, K1 => a2s N Aa Ab (fun d => a2K N Aa Ab t d K0 K1) K0 K1 d
def b2G {R : Type} (N : Nat) (ds : List D) (m : Mem) (K : Ex -> List D -> Mem -> Option R) : Option R :=
 match ds, m with
 | [(.v (.sl 3 Aa) .no), (.v (.sl 3 Ab) .no), (.v (.int .i64 d) .no)], [[]] => a2K N Aa Ab N d (fun a0 => K .ret [(.v (.bool a0) .no)] [[]]) (K (.exit 0) [.any] [[]])
 | _, _ => none
def b3p (N : Nat) (f x1 : List V) : Option (Bool) := br (!decide ((f.length : Int) = (x1.length : Int))) (some false) (a2K N f x1 N 0 (fun b0 => some b0) (some true))
def c7t (N : Nat) : Cx := cl [] [] [⟨4, [0, 1, 5], [4], b2G N⟩]
theorem c9h (N : Nat) : p9 (c7t N) 26 (s4 Tryz.f38 0) := by
 refine j7 (rid := 4) (by kernel_rfl) rfl rfl fun R ds m K r h => ?_
 change b2G N ds m K = _ at h
 unfold b2G at h
 split at h
 . rename_i Aa Ab d
   exact ⟨N, Gs (lpI (fun (e : (Bool -> Option R) × (Option R)) L (s : Int) => a2s N Aa Ab (fun d => L d) e.1 e.2 s) (fun e t s => a2K N Aa Ab t s e.1 e.2) (fun s => [(.v (.sl 3 Aa) .no), (.v (.sl 3 Ab) .no), (.v (.int .i64 s) .no)]) (fun s => [[]]) (fun _ _ => rfl) (fun _ _ _ => rfl) (e := (_, _)) (fun L s => by kernel_rfl) N d) h⟩
 . cases h
def d6r (N : Nat) : Ent := pE 38 (.v (.l 3) (.v (.l 3) .z)) (.v .b .z) (b3p N)
theorem d8A (N : Nat) : EO (d6r N) := pk (cx := c7t N) (D4 trivial trivial) Tryz.func38 (j6 (k := 1) (by kernel_rfl) ⟨trivial, c9h N⟩) (by kernel_rfl) fun h => by kernel_rfl
def Z2 {R : Type} (N : Nat) (Aa Ab : List V) (Lq : Int -> Option R) (K0 : Bool -> Option R) (K1 : Option R) (d : Int) : Option R := br (decide (d < (Aa.length : Int))) (br (decide (0 <= d) && decide (d < (Aa.length : Int))) (at? Aa d.toNat fun f => f.unAgg fun l1 => e9 l1 fun x2 l3 => V.unInt FK x2 fun x => e9 l3 fun x5 l6 => V.unInt FK x5 fun n7 => e9 l6 fun x8 l9 => V.unInt FK x8 fun na => D2 l9 (br (decide (0 <= d) && decide (d < (Ab.length : Int))) (at? Ab d.toNat fun xb => xb.unAgg fun Ax => e9 Ax fun xd AL => V.unInt FK xd fun nf => e9 AL fun xg lh => V.unInt FK xg fun ni => e9 lh fun xj lk => V.unInt FK xj fun Aw => D2 lk (br (!(decide (x = nf) && (decide (n7 = ni) && (decide (na = Aw) && true) && true))) (K0 false) (Lq (FK.wrap (d + 1))))) none)) none) K1
def Z4 {R : Type} (N : Nat) (Aa Ab : List V) : Nat -> Int -> (Bool -> Option R) -> (Option R) -> Option R | 0, _, _, _ => none | t + 1, d, K0, K1 => Z2 N Aa Ab (fun d => Z4 N Aa Ab t d K0 K1) K0 K1 d
def a7q {R : Type} (N : Nat) (ds : List D) (m : Mem) (K : Ex -> List D -> Mem -> Option R) : Option R :=
 match ds, m with
 | [(.v (.sl 44 Aa) .no), (.v (.sl 44 Ab) .no), (.v (.int .i64 d) .no)], [[]] => Z4 N Aa Ab N d (fun a0 => K .ret [(.v (.bool a0) .no)] [[]]) (K (.exit 0) [.any] [[]])
 | _, _ => none
def a3w (N : Nat) (f x1 : List V) : Option (Bool) := br (!decide ((f.length : Int) = (x1.length : Int))) (some false) (Z4 N f x1 N 0 (fun b0 => some b0) (some true))
def b7m (N : Nat) : Cx := cl [] [] [⟨4, [0, 1, 5], [4], a7q N⟩]
theorem c3G (N : Nat) : p9 (b7m N) 26 (s4 Tryz.f17 0) := by
 refine j7 (rid := 4) (by kernel_rfl) rfl rfl fun R ds m K r h => ?_
 change a7q N ds m K = _ at h
 unfold a7q at h
 split at h
 . rename_i Aa Ab d
   exact ⟨N, Gs (lpI (fun (e : (Bool -> Option R) × (Option R)) L (s : Int) => Z2 N Aa Ab (fun d => L d) e.1 e.2 s) (fun e t s => Z4 N Aa Ab t s e.1 e.2) (fun s => [(.v (.sl 44 Aa) .no), (.v (.sl 44 Ab) .no), (.v (.int .i64 s) .no)]) (fun s => [[]]) (fun _ _ => rfl) (fun _ _ _ => rfl) (e := (_, _)) (fun L s => by kernel_rfl) N d) h⟩
 . cases h
def a8H (N : Nat) : Ent := pE 17 (.v (.l 44) (.v (.l 44) .z)) (.v .b .z) (a3w N)
theorem b0p (N : Nat) : EO (a8H N) := pk (cx := b7m N) (D4 trivial trivial) Tryz.func17 (j6 (k := 1) (by kernel_rfl) ⟨trivial, c3G N⟩) (by kernel_rfl) fun h => by kernel_rfl
def Z5 {R : Type} (N : Nat) (u d : Int) (b3 : Bool) (Ah Aj Ac Ad : List V) (n8 n9 : Int) (AA : Bool) (Au An Ao Ak : List V) (Lq : Int -> Option R) (K0 : Bool -> Option R) (K1 : Option R) (j : Int) : Option R := br (decide (j < (Ah.length : Int))) (br (decide (0 <= j) && decide (j < (Ah.length : Int))) (at? Ah j.toNat fun f => f.unAgg fun l1 => e9 l1 fun x2 l3 => V.unInt FK x2 fun x => e9 l3 fun x5 l6 => V.unInt FK x5 fun n7 => D2 l6 (br (decide (0 <= j) && decide (j < (Au.length : Int))) (at? Au j.toNat fun x8 => x8.unAgg fun l9 => e9 l9 fun xa Ay => V.unInt FK xa fun nc => e9 Ay fun xd AL => V.unInt FK xd fun nf => D2 AL (br (!(decide (x = nc) && (decide (n7 = nf) && true))) (K0 false) (Lq (FK.wrap (j + 1))))) none)) none) K1
def X9 {R : Type} (N : Nat) (u d : Int) (b3 : Bool) (Ah Aj Ac Ad : List V) (n8 n9 : Int) (AA : Bool) (Au An Ao Ak : List V) : Nat -> Int -> (Bool -> Option R) -> (Option R) -> Option R | 0, _, _, _ => none | t + 1, j, K0, K1 => Z5 N u d b3 Ah Aj Ac Ad n8 n9 AA Au An Ao Ak (fun j => X9 N u d b3 Ah Aj Ac Ad n8 n9 AA Au An Ao Ak t j K0 K1) K0 K1 j
def a7v {R : Type} (N : Nat) (ds : List D) (m : Mem) (K : Ex -> List D -> Mem -> Option R) : Option R :=
 match ds, m with
 | [(.ptr 0 2 0), (.ptr 0 3 0), (.v (.int .i64 j) .no)], [[(2, ⟨64, [(.v (.int .i64 u) .no), (.v (.int .i64 d) .no), (.v (.bool b3) .no), (.v (.sl 42 Ah) .no), (.v (.sl 44 Aj) .no), (.v (.sl 3 Ac) .no), (.v (.sl 105 Ad) .no)]⟩), (3, ⟨64, [(.v (.int .i64 n8) .no), (.v (.int .i64 n9) .no), (.v (.bool AA) .no), (.v (.sl 42 Au) .no), (.v (.sl 44 An) .no), (.v (.sl 3 Ao) .no), (.v (.sl 105 Ak) .no)]⟩)]] => X9 N u d b3 Ah Aj Ac Ad n8 n9 AA Au An Ao Ak N j (fun a0 => K .ret [(.ptr 0 2 0), (.ptr 0 3 0), (.v (.bool a0) .no)] (c9s u d b3 Ah Aj Ac Ad n8 n9 AA Au An Ao Ak)) (K (.exit 0) [(.ptr 0 2 0), (.ptr 0 3 0), .any] (c9s u d b3 Ah Aj Ac Ad n8 n9 AA Au An Ao Ak))
 | _, _ => none
def X5 {R : Type} (N : Nat) (u d : Int) (b3 : Bool) (Ah Aj Ac Ad : List V) (n8 n9 : Int) (AA : Bool) (Au An Ao Ak : List V) (Lq : Int -> Option R) (K0 : Bool -> Option R) (K1 : Option R) (j : Int) : Option R := br (decide (j < (Ad.length : Int))) (br (decide (0 <= j) && decide (j < (Ad.length : Int))) (at? Ad j.toNat fun f => f.unAgg fun l1 => e9 l1 fun x2 l3 => V.unInt FK x2 fun x => e9 l3 fun x5 l6 => V.unInt FK x5 fun n7 => e9 l6 fun x8 l9 => V.unSl 3 x8 fun la => D2 l9 (br (decide (0 <= j) && decide (j < (Ak.length : Int))) (at? Ak j.toNat fun xb => xb.unAgg fun Ax => e9 Ax fun xd AL => V.unInt FK xd fun nf => e9 AL fun xg lh => V.unInt FK xg fun ni => e9 lh fun xj lk => V.unSl 3 xj fun ll => D2 lk (br (!(decide (x = nf) && (decide (n7 = ni) && true))) (K0 false) (br (decide (0 <= j) && decide (j < (Ad.length : Int))) (at? Ad j.toNat fun xm => xm.unAgg fun ln => e9 ln fun xo AX => V.unInt FK xo fun AK => e9 AX fun xr Ba => V.unInt FK xr fun nt => e9 Ba fun xu AT => V.unSl 3 xu fun Bl => D2 AT (br (decide (0 <= j) && decide (j < (Ak.length : Int))) (at? Ak j.toNat fun xx => xx.unAgg fun ly => e9 ly fun xz Bd => V.unInt FK xz fun FJ => e9 Bd fun BM AY => V.unInt FK BM fun CP => e9 AY fun BN AZ => V.unSl 3 BN fun CM => D2 AZ (j3 (b3p N Bl CM) fun EK => br (!EK) (K0 false) (Lq (FK.wrap (j + 1))))) none)) none))) none)) none) K1
def Y0 {R : Type} (N : Nat) (u d : Int) (b3 : Bool) (Ah Aj Ac Ad : List V) (n8 n9 : Int) (AA : Bool) (Au An Ao Ak : List V) : Nat -> Int -> (Bool -> Option R) -> (Option R) -> Option R | 0, _, _, _ => none | t + 1, j, K0, K1 => X5 N u d b3 Ah Aj Ac Ad n8 n9 AA Au An Ao Ak (fun j => Y0 N u d b3 Ah Aj Ac Ad n8 n9 AA Au An Ao Ak t j K0 K1) K0 K1 j
def a7G {R : Type} (N : Nat) (ds : List D) (m : Mem) (K : Ex -> List D -> Mem -> Option R) : Option R :=
 match ds, m with
 | [(.ptr 0 2 0), (.ptr 0 3 0), (.v (.int .i64 j) .no)], [[(2, ⟨64, [(.v (.int .i64 u) .no), (.v (.int .i64 d) .no), (.v (.bool b3) .no), (.v (.sl 42 Ah) .no), (.v (.sl 44 Aj) .no), (.v (.sl 3 Ac) .no), (.v (.sl 105 Ad) .no)]⟩), (3, ⟨64, [(.v (.int .i64 n8) .no), (.v (.int .i64 n9) .no), (.v (.bool AA) .no), (.v (.sl 42 Au) .no), (.v (.sl 44 An) .no), (.v (.sl 3 Ao) .no), (.v (.sl 105 Ak) .no)]⟩)]] => Y0 N u d b3 Ah Aj Ac Ad n8 n9 AA Au An Ao Ak N j (fun a0 => K .ret [(.ptr 0 2 0), (.ptr 0 3 0), (.v (.bool a0) .no)] (c9s u d b3 Ah Aj Ac Ad n8 n9 AA Au An Ao Ak)) (K (.exit 2) [(.ptr 0 2 0), (.ptr 0 3 0), .any] (c9s u d b3 Ah Aj Ac Ad n8 n9 AA Au An Ao Ak))
 | _, _ => none
def a8c (N : Nat) (f x1 : Int) (x2 : Bool) (x3 x4 x5 x6 : List V) (x7 x8 : Int) (x9 : Bool) (xa xb xc xd : List V) : Option (Bool) := br (!(decide (f = x7) && (decide (x1 = x8) && true))) (some false) (br (!x2 == x9) (some false) (br (!decide ((x3.length : Int) = (xa.length : Int))) (some false) (j3 (a3w N x4 xb) fun b0 => br (!b0) (some false) (j3 (b3p N x5 xc) fun b1 => br (!b1) (some false) (br (!decide ((x6.length : Int) = (xd.length : Int))) (some false) (X9 N f x1 x2 x3 x4 x5 x6 x7 x8 x9 xa xb xc xd N 0 (fun b2 => some b2) (Y0 N f x1 x2 x3 x4 x5 x6 x7 x8 x9 xa xb xc xd N 0 (fun b3 => some b3) (some true))))))))
def b0a (N : Nat) : Cx := cl [a8H N, d6r N] [] [⟨4, [2, 3, 5], [2, 3, 4], a7v N⟩, ⟨9, [2, 3, 6], [2, 3, 4], a7G N⟩]
theorem c1m (N : Nat) : p9 (b0a N) 107 (s4 Tryz.f18 0) := by
 refine j7 (rid := 4) (by kernel_rfl) rfl rfl fun R ds m K r h => ?_
 change a7v N ds m K = _ at h
 unfold a7v at h
 split at h
 . rename_i j u d b3 Ah Aj Ac Ad n8 n9 AA Au An Ao Ak
   exact ⟨N, Gs (lpI (fun (e : (Bool -> Option R) × (Option R)) L (s : Int) => Z5 N u d b3 Ah Aj Ac Ad n8 n9 AA Au An Ao Ak (fun j => L j) e.1 e.2 s) (fun e t s => X9 N u d b3 Ah Aj Ac Ad n8 n9 AA Au An Ao Ak t s e.1 e.2) (fun s => [(.ptr 0 2 0), (.ptr 0 3 0), (.v (.int .i64 s) .no)]) (fun s => c9s u d b3 Ah Aj Ac Ad n8 n9 AA Au An Ao Ak) (fun _ _ => rfl) (fun _ _ _ => rfl) (e := (_, _)) (fun L s => by kernel_rfl) N j) h⟩
 . cases h
theorem c2l (N : Nat) : p9 (b0a N) 107 (s4 Tryz.f18 1) := by
 refine j7 (rid := 9) (by kernel_rfl) rfl rfl fun R ds m K r h => ?_
 change a7G N ds m K = _ at h
 unfold a7G at h
 split at h
 . rename_i j u d b3 Ah Aj Ac Ad n8 n9 AA Au An Ao Ak
   exact ⟨N, Gs (lpI (fun (e : (Bool -> Option R) × (Option R)) L (s : Int) => X5 N u d b3 Ah Aj Ac Ad n8 n9 AA Au An Ao Ak (fun j => L j) e.1 e.2 s) (fun e t s => Y0 N u d b3 Ah Aj Ac Ad n8 n9 AA Au An Ao Ak t s e.1 e.2) (fun s => [(.ptr 0 2 0), (.ptr 0 3 0), (.v (.int .i64 s) .no)]) (fun s => c9s u d b3 Ah Aj Ac Ad n8 n9 AA Au An Ao Ak) (fun _ _ => rfl) (fun _ _ _ => rfl) (e := (_, _)) (fun L s => by kernel_rfl) N j) h⟩
 . cases h
def c2X (N : Nat) : Ent := pE 18 e6D (.v .b .z) (a8c N)
theorem d0P (N : Nat) : EO (c2X N) := pk (cx := b0a N) (D4 ⟨b0p N, d8A N, trivial⟩ trivial) Tryz.func18 (j6 (k := 2) (by kernel_rfl) ⟨⟨trivial, c1m N⟩, c2l N⟩) (by kernel_rfl) fun h => by kernel_rfl
def V2 {R : Type} (N : Nat) (b1 b2 : Bool) (i : Int) (Ah : List V) (O n6 n7 n8 n9 : Int) (Ag Au : List V) (bc bd : Bool) (Af : Int) (Am : List V) (ng nh ni nj nk : Int) (Az AG : List V) (Lq : Int -> Option R) (K0 : Bool -> Option R) (K1 : Option R) (j : Int) : Option R := br (decide (j < (Ag.length : Int))) (br (decide (0 <= j) && decide (j < (Ag.length : Int))) (at? Ag j.toNat fun f => f.unAgg fun l1 => e9 l1 fun x2 l3 => V.unInt FK x2 fun x => e9 l3 fun x5 l6 => V.unInt FK x5 fun n7 => e9 l6 fun x8 l9 => V.unInt FK x8 fun na => e9 l9 fun xb Ax => V.unInt FK xb fun nd => D2 Ax (br (decide (0 <= j) && decide (j < (Az.length : Int))) (at? Az j.toNat fun xe => xe.unAgg fun AC => e9 AC fun xg lh => V.unInt FK xg fun ni => e9 lh fun xj lk => V.unInt FK xj fun Aw => e9 lk fun xm ln => V.unInt FK xm fun AD => e9 ln fun xp AS => V.unInt FK xp fun nr => D2 AS (br (!(decide (x = ni) && (decide (n7 = Aw) && (decide (na = AD) && (decide (nd = nr) && true))))) (K0 false) (Lq (FK.wrap (j + 1))))) none)) none) K1
def V1 {R : Type} (N : Nat) (b1 b2 : Bool) (i : Int) (Ah : List V) (O n6 n7 n8 n9 : Int) (Ag Au : List V) (bc bd : Bool) (Af : Int) (Am : List V) (ng nh ni nj nk : Int) (Az AG : List V) : Nat -> Int -> (Bool -> Option R) -> (Option R) -> Option R | 0, _, _, _ => none | t + 1, j, K0, K1 => V2 N b1 b2 i Ah O n6 n7 n8 n9 Ag Au bc bd Af Am ng nh ni nj nk Az AG (fun j => V1 N b1 b2 i Ah O n6 n7 n8 n9 Ag Au bc bd Af Am ng nh ni nj nk Az AG t j K0 K1) K0 K1 j
def a5N {R : Type} (N : Nat) (ds : List D) (m : Mem) (K : Ex -> List D -> Mem -> Option R) : Option R :=
 match ds, m with
 | [(.ptr 0 2 0), (.ptr 0 3 0), (.v (.int .i64 j) .no)], [[(2, ⟨47, [(.v (.bool b1) .no), (.v (.bool b2) .no), (.v (.int .i64 i) .no), (.v (.sl 44 Ah) .no), (.v (.int .i64 O) .no), (.v (.int .i64 n6) .no), (.v (.int .i64 n7) .no), (.v (.int .i64 n8) .no), (.v (.int .i64 n9) .no), (.v (.sl 54 Ag) .no), (.v (.sl 107 Au) .no)]⟩), (3, ⟨47, [(.v (.bool bc) .no), (.v (.bool bd) .no), (.v (.int .i64 Af) .no), (.v (.sl 44 Am) .no), (.v (.int .i64 ng) .no), (.v (.int .i64 nh) .no), (.v (.int .i64 ni) .no), (.v (.int .i64 nj) .no), (.v (.int .i64 nk) .no), (.v (.sl 54 Az) .no), (.v (.sl 107 AG) .no)]⟩)]] => V1 N b1 b2 i Ah O n6 n7 n8 n9 Ag Au bc bd Af Am ng nh ni nj nk Az AG N j (fun a0 => K .ret [(.ptr 0 2 0), (.ptr 0 3 0), (.v (.bool a0) .no)] (d0w b1 b2 i Ah O n6 n7 n8 n9 Ag Au bc bd Af Am ng nh ni nj nk Az AG)) (K (.exit 0) [(.ptr 0 2 0), (.ptr 0 3 0), .any] (d0w b1 b2 i Ah O n6 n7 n8 n9 Ag Au bc bd Af Am ng nh ni nj nk Az AG))
 | _, _ => none
def U4 {R : Type} (N : Nat) (b1 b2 : Bool) (i : Int) (Ah : List V) (O n6 n7 n8 n9 : Int) (Ag Au : List V) (bc bd : Bool) (Af : Int) (Am : List V) (ng nh ni nj nk : Int) (Az AG : List V) (Lq : Int -> Option R) (K0 : Bool -> Option R) (K1 : Option R) (j : Int) : Option R := br (decide (j < (Au.length : Int))) (br (decide (0 <= j) && decide (j < (Au.length : Int))) (at? Au j.toNat fun f => f.unAgg fun l1 => e9 l1 fun x2 l3 => V.unInt FK x2 fun x => e9 l3 fun x5 l6 => V.unInt FK x5 fun n7 => e9 l6 fun x8 l9 => V.unInt FK x8 fun na => e9 l9 fun xb Ax => V.unInt FK xb fun nd => D2 Ax (br (decide (0 <= j) && decide (j < (AG.length : Int))) (at? AG j.toNat fun xe => xe.unAgg fun AC => e9 AC fun xg lh => V.unInt FK xg fun ni => e9 lh fun xj lk => V.unInt FK xj fun Aw => e9 lk fun xm ln => V.unInt FK xm fun AD => e9 ln fun xp AS => V.unInt FK xp fun nr => D2 AS (br (!(decide (x = ni) && (decide (n7 = Aw) && (decide (na = AD) && (decide (nd = nr) && true))))) (K0 false) (Lq (FK.wrap (j + 1))))) none)) none) K1
def U1 {R : Type} (N : Nat) (b1 b2 : Bool) (i : Int) (Ah : List V) (O n6 n7 n8 n9 : Int) (Ag Au : List V) (bc bd : Bool) (Af : Int) (Am : List V) (ng nh ni nj nk : Int) (Az AG : List V) : Nat -> Int -> (Bool -> Option R) -> (Option R) -> Option R | 0, _, _, _ => none | t + 1, j, K0, K1 => U4 N b1 b2 i Ah O n6 n7 n8 n9 Ag Au bc bd Af Am ng nh ni nj nk Az AG (fun j => U1 N b1 b2 i Ah O n6 n7 n8 n9 Ag Au bc bd Af Am ng nh ni nj nk Az AG t j K0 K1) K0 K1 j
def a4D {R : Type} (N : Nat) (ds : List D) (m : Mem) (K : Ex -> List D -> Mem -> Option R) : Option R :=
 match ds, m with
 | [(.ptr 0 2 0), (.ptr 0 3 0), (.v (.int .i64 j) .no)], [[(2, ⟨47, [(.v (.bool b1) .no), (.v (.bool b2) .no), (.v (.int .i64 i) .no), (.v (.sl 44 Ah) .no), (.v (.int .i64 O) .no), (.v (.int .i64 n6) .no), (.v (.int .i64 n7) .no), (.v (.int .i64 n8) .no), (.v (.int .i64 n9) .no), (.v (.sl 54 Ag) .no), (.v (.sl 107 Au) .no)]⟩), (3, ⟨47, [(.v (.bool bc) .no), (.v (.bool bd) .no), (.v (.int .i64 Af) .no), (.v (.sl 44 Am) .no), (.v (.int .i64 ng) .no), (.v (.int .i64 nh) .no), (.v (.int .i64 ni) .no), (.v (.int .i64 nj) .no), (.v (.int .i64 nk) .no), (.v (.sl 54 Az) .no), (.v (.sl 107 AG) .no)]⟩)]] => U1 N b1 b2 i Ah O n6 n7 n8 n9 Ag Au bc bd Af Am ng nh ni nj nk Az AG N j (fun a0 => K .ret [(.ptr 0 2 0), (.ptr 0 3 0), (.v (.bool a0) .no)] (d0w b1 b2 i Ah O n6 n7 n8 n9 Ag Au bc bd Af Am ng nh ni nj nk Az AG)) (K (.exit 2) [(.ptr 0 2 0), (.ptr 0 3 0), .any] (d0w b1 b2 i Ah O n6 n7 n8 n9 Ag Au bc bd Af Am ng nh ni nj nk Az AG))
 | _, _ => none
def a6n (N : Nat) (f x1 : Bool) (x2 : Int) (x3 : List V) (x4 x5 x6 x7 x8 : Int) (x9 xa : List V) (xb xc : Bool) (xd : Int) (xe : List V) (xf xg xh xi xj : Int) (xk xl : List V) : Option (Bool) := br (!f == xb) (some false) (br (!x1 == xc) (some false) (br (!decide (x2 = xd)) (some false) (j3 (a3w N x3 xe) fun b0 => br (!b0) (some false) (br (!(decide (x4 = xf) && (decide (x5 = xg) && (decide (x6 = xh) && true) && true))) (some false) (br (!decide (x7 = xi)) (some false) (br (!decide (x8 = xj)) (some false) (br (!decide ((x9.length : Int) = (xk.length : Int))) (some false) (br (!decide ((xa.length : Int) = (xl.length : Int))) (some false) (V1 N f x1 x2 x3 x4 x5 x6 x7 x8 x9 xa xb xc xd xe xf xg xh xi xj xk xl N 0 (fun b1 => some b1) (U1 N f x1 x2 x3 x4 x5 x6 x7 x8 x9 xa xb xc xd xe xf xg xh xi xj xk xl N 0 (fun b2 => some b2) (some true)))))))))))
def a7P (N : Nat) : Cx := cl [a8H N] [] [⟨4, [2, 3, 5], [2, 3, 4], a5N N⟩, ⟨9, [2, 3, 6], [2, 3, 4], a4D N⟩]
theorem b8q (N : Nat) : p9 (a7P N) 109 (s4 Tryz.f19 0) := by
 refine j7 (rid := 4) (by kernel_rfl) rfl rfl fun R ds m K r h => ?_
 change a5N N ds m K = _ at h
 unfold a5N at h
 split at h
 . rename_i j b1 b2 i Ah O n6 n7 n8 n9 Ag Au bc bd Af Am ng nh ni nj nk Az AG
   exact ⟨N, Gs (lpI (fun (e : (Bool -> Option R) × (Option R)) L (s : Int) => V2 N b1 b2 i Ah O n6 n7 n8 n9 Ag Au bc bd Af Am ng nh ni nj nk Az AG (fun j => L j) e.1 e.2 s) (fun e t s => V1 N b1 b2 i Ah O n6 n7 n8 n9 Ag Au bc bd Af Am ng nh ni nj nk Az AG t s e.1 e.2) (fun s => [(.ptr 0 2 0), (.ptr 0 3 0), (.v (.int .i64 s) .no)]) (fun s => d0w b1 b2 i Ah O n6 n7 n8 n9 Ag Au bc bd Af Am ng nh ni nj nk Az AG) (fun _ _ => rfl) (fun _ _ _ => rfl) (e := (_, _)) (fun L s => by kernel_rfl) N j) h⟩
 . cases h
theorem b7K (N : Nat) : p9 (a7P N) 109 (s4 Tryz.f19 1) := by
 refine j7 (rid := 9) (by kernel_rfl) rfl rfl fun R ds m K r h => ?_
 change a4D N ds m K = _ at h
 unfold a4D at h
 split at h
 . rename_i j b1 b2 i Ah O n6 n7 n8 n9 Ag Au bc bd Af Am ng nh ni nj nk Az AG
   exact ⟨N, Gs (lpI (fun (e : (Bool -> Option R) × (Option R)) L (s : Int) => U4 N b1 b2 i Ah O n6 n7 n8 n9 Ag Au bc bd Af Am ng nh ni nj nk Az AG (fun j => L j) e.1 e.2 s) (fun e t s => U1 N b1 b2 i Ah O n6 n7 n8 n9 Ag Au bc bd Af Am ng nh ni nj nk Az AG t s e.1 e.2) (fun s => [(.ptr 0 2 0), (.ptr 0 3 0), (.v (.int .i64 s) .no)]) (fun s => d0w b1 b2 i Ah O n6 n7 n8 n9 Ag Au bc bd Af Am ng nh ni nj nk Az AG) (fun _ _ => rfl) (fun _ _ _ => rfl) (e := (_, _)) (fun L s => by kernel_rfl) N j) h⟩
 . cases h
def b6e (N : Nat) : Ent := pE 19 e6S (.v .b .z) (a6n N)
theorem c5d (N : Nat) : EO (b6e N) := pk (cx := a7P N) (D4 ⟨b0p N, trivial⟩ trivial) Tryz.func19 (j6 (k := 2) (by kernel_rfl) ⟨⟨trivial, b8q N⟩, b7K N⟩) (by kernel_rfl) fun h => by kernel_rfl
def a1d {R : Type} (N : Nat) (l1 : LB) (d i : Int) (Ah Aj Ac Ad Ae : List V) (l9 : LB) (na nb : Int) (An Ao Ak Am Ar : List V) (Lq : Int -> Option R) (K0 : Bool -> Option R) (K1 : Option R) (j : Int) : Option R := br (decide (j < (Ah.length : Int))) (br (decide (0 <= j) && decide (j < (Ah.length : Int))) (at? Ah j.toNat fun f => f.unAgg fun l1 => e9 l1 fun x2 l3 => x2.unBytes fun l4 => e9 l3 fun x5 l6 => V.unInt FK x5 fun n7 => e9 l6 fun x8 l9 => V.unInt FK x8 fun na => D2 l9 (br (decide (0 <= j) && decide (j < (An.length : Int))) (at? An j.toNat fun xb => xb.unAgg fun Ax => e9 Ax fun xd AL => xd.unBytes fun AC => e9 AL fun xg lh => V.unInt FK xg fun ni => e9 lh fun xj lk => V.unInt FK xj fun Aw => D2 lk (j3 (a6u N l4 AC) fun CC => br (!CC) (K0 false) (br (!decide (n7 = ni)) (K0 false) (br (!decide (na = Aw)) (K0 false) (Lq (FK.wrap (j + 1))))))) none)) none) K1
def a0Z {R : Type} (N : Nat) (l1 : LB) (d i : Int) (Ah Aj Ac Ad Ae : List V) (l9 : LB) (na nb : Int) (An Ao Ak Am Ar : List V) : Nat -> Int -> (Bool -> Option R) -> (Option R) -> Option R | 0, _, _, _ => none | t + 1, j, K0, K1 => a1d N l1 d i Ah Aj Ac Ad Ae l9 na nb An Ao Ak Am Ar (fun j => a0Z N l1 d i Ah Aj Ac Ad Ae l9 na nb An Ao Ak Am Ar t j K0 K1) K0 K1 j
def a9M {R : Type} (N : Nat) (ds : List D) (m : Mem) (K : Ex -> List D -> Mem -> Option R) : Option R :=
 match ds, m with
 | [(.ptr 0 2 0), (.ptr 0 3 0), (.v (.int .i64 j) .no), .any, .any], [[(2, ⟨29, [(.v (.bytes l1) .no), (.v (.int .i64 d) .no), (.v (.int .i64 i) .no), (.v (.sl 58 Ah) .no), (.v (.sl 64 Aj) .no), (.v (.sl 47 Ac) .no), (.v (.sl 44 Ad) .no), (.v (.sl 67 Ae) .no)]⟩), (3, ⟨29, [(.v (.bytes l9) .no), (.v (.int .i64 na) .no), (.v (.int .i64 nb) .no), (.v (.sl 58 An) .no), (.v (.sl 64 Ao) .no), (.v (.sl 47 Ak) .no), (.v (.sl 44 Am) .no), (.v (.sl 67 Ar) .no)]⟩)]] => a0Z N l1 d i Ah Aj Ac Ad Ae l9 na nb An Ao Ak Am Ar N j (fun a0 => K .ret [(.ptr 0 2 0), (.ptr 0 3 0), (.v (.bool a0) .no), .any, .any] (b1r l1 d i Ah Aj Ac Ad Ae l9 na nb An Ao Ak Am Ar)) (K (.exit 0) [(.ptr 0 2 0), (.ptr 0 3 0), .any, .any, .any] (b1r l1 d i Ah Aj Ac Ad Ae l9 na nb An Ao Ak Am Ar))
 | _, _ => none
def a0g {R : Type} (N : Nat) (l1 : LB) (d i : Int) (Ah Aj Ac Ad Ae : List V) (l9 : LB) (na nb : Int) (An Ao Ak Am Ar : List V) (Lq : Int -> Option R) (K0 : Bool -> Option R) (K1 : Option R) (j : Int) : Option R := br (decide (j < (Aj.length : Int))) (br (decide (0 <= j) && decide (j < (Aj.length : Int))) (at? Aj j.toNat fun f => f.unAgg fun l1 => e9 l1 fun x2 l3 => V.unInt FK x2 fun x => e9 l3 fun x5 l6 => V.unInt FK x5 fun n7 => e9 l6 fun x8 l9 => x8.unBool fun AA => e9 l9 fun xb Ax => V.unSl 42 xb fun ld => e9 Ax fun xe AC => V.unSl 44 xe fun lg => e9 AC fun xh AO => V.unSl 3 xh fun lj => e9 AO fun xk ll => V.unSl 105 xk fun AP => D2 ll (br (decide (0 <= j) && decide (j < (Ao.length : Int))) (at? Ao j.toNat fun xn => xn.unAgg fun Bc => e9 Bc fun xp AS => V.unInt FK xp fun nr => e9 AS fun EL Bk => V.unInt FK EL fun nu => e9 Bk fun xv Bl => xv.unBool fun EM => e9 Bl fun xy Bm => V.unSl 42 xy fun Bd => e9 Bm fun CD BC => V.unSl 44 CD fun AY => e9 BC fun BG Bh => V.unSl 3 BG fun AZ => e9 Bh fun BH Bn => V.unSl 105 BH fun AU => D2 Bn (j3 (a8c N x n7 AA ld lg lj AP nr nu EM Bd AY AZ AU) fun EN => br (!EN) (K0 false) (Lq (FK.wrap (j + 1))))) none)) none) K1
def Z6 {R : Type} (N : Nat) (l1 : LB) (d i : Int) (Ah Aj Ac Ad Ae : List V) (l9 : LB) (na nb : Int) (An Ao Ak Am Ar : List V) : Nat -> Int -> (Bool -> Option R) -> (Option R) -> Option R | 0, _, _, _ => none | t + 1, j, K0, K1 => a0g N l1 d i Ah Aj Ac Ad Ae l9 na nb An Ao Ak Am Ar (fun j => Z6 N l1 d i Ah Aj Ac Ad Ae l9 na nb An Ao Ak Am Ar t j K0 K1) K0 K1 j
def a7h {R : Type} (N : Nat) (ds : List D) (m : Mem) (K : Ex -> List D -> Mem -> Option R) : Option R :=
 match ds, m with
 | [(.ptr 0 2 0), (.ptr 0 3 0), .any, .any, (.v (.int .i64 j) .no), .any, .any], [[(2, ⟨29, [(.v (.bytes l1) .no), (.v (.int .i64 d) .no), (.v (.int .i64 i) .no), (.v (.sl 58 Ah) .no), (.v (.sl 64 Aj) .no), (.v (.sl 47 Ac) .no), (.v (.sl 44 Ad) .no), (.v (.sl 67 Ae) .no)]⟩), (3, ⟨29, [(.v (.bytes l9) .no), (.v (.int .i64 na) .no), (.v (.int .i64 nb) .no), (.v (.sl 58 An) .no), (.v (.sl 64 Ao) .no), (.v (.sl 47 Ak) .no), (.v (.sl 44 Am) .no), (.v (.sl 67 Ar) .no)]⟩)]] => Z6 N l1 d i Ah Aj Ac Ad Ae l9 na nb An Ao Ak Am Ar N j (fun a0 => K .ret [(.ptr 0 2 0), (.ptr 0 3 0), (.v (.bool a0) .no), .any, .any, .any, .any] (b1r l1 d i Ah Aj Ac Ad Ae l9 na nb An Ao Ak Am Ar)) (K (.exit 2) [(.ptr 0 2 0), (.ptr 0 3 0), .any, .any, .any, .any, .any] (b1r l1 d i Ah Aj Ac Ad Ae l9 na nb An Ao Ak Am Ar))
 | _, _ => none
def a0c {R : Type} (N : Nat) (l1 : LB) (d i : Int) (Ah Aj Ac Ad Ae : List V) (l9 : LB) (na nb : Int) (An Ao Ak Am Ar : List V) (Lq : Int -> Option R) (K0 : Bool -> Option R) (K1 : Option R) (j : Int) : Option R := br (decide (j < (Ac.length : Int))) (br (decide (0 <= j) && decide (j < (Ac.length : Int))) (at? Ac j.toNat fun f => f.unAgg fun l1 => e9 l1 fun x2 l3 => x2.unBool fun b4 => e9 l3 fun x5 l6 => x5.unBool fun b7 => e9 l6 fun x8 l9 => V.unInt FK x8 fun na => e9 l9 fun xb Ax => V.unSl 44 xb fun ld => e9 Ax fun xe AC => V.unInt FK xe fun ng => e9 AC fun xh AO => V.unInt FK xh fun nj => e9 AO fun xk ll => V.unInt FK xk fun AB => e9 ll fun xn Bc => V.unInt FK xn fun AE => e9 Bc fun xq lr => V.unInt FK xq fun ns => e9 lr fun Bz lu => V.unSl 54 Bz fun AT => e9 lu fun xw lx => V.unSl 107 xw fun ly => D2 lx (br (decide (0 <= j) && decide (j < (Ak.length : Int))) (at? Ak j.toNat fun xz => xz.unAgg fun Bd => e9 Bd fun CD BC => CD.unBool fun BX => e9 BC fun BG Bh => BG.unBool fun BY => e9 Bh fun BH Bn => V.unInt FK BH fun EO => e9 Bn fun EP BV => V.unSl 44 EP fun Bi => e9 BV fun ER BW => V.unInt FK ER fun ES => e9 BW fun Cv BF => V.unInt FK Cv fun ET => e9 BF fun Cw Bj => V.unInt FK Cw fun EU => e9 Bj fun BJ BD => V.unInt FK BJ fun CN => e9 BD fun BK BL => V.unInt FK BK fun EV => e9 BL fun Cy Cz => V.unSl 54 Cy fun Cr => e9 Cz fun CA CB => V.unSl 107 CA fun Cs => D2 CB (j3 (a6n N b4 b7 na ld ng nj AB AE ns AT ly BX BY EO Bi ES ET EU CN EV Cr Cs) fun EW => br (!EW) (K0 false) (Lq (FK.wrap (j + 1))))) none)) none) K1
def Y6 {R : Type} (N : Nat) (l1 : LB) (d i : Int) (Ah Aj Ac Ad Ae : List V) (l9 : LB) (na nb : Int) (An Ao Ak Am Ar : List V) : Nat -> Int -> (Bool -> Option R) -> (Option R) -> Option R | 0, _, _, _ => none | t + 1, j, K0, K1 => a0c N l1 d i Ah Aj Ac Ad Ae l9 na nb An Ao Ak Am Ar (fun j => Y6 N l1 d i Ah Aj Ac Ad Ae l9 na nb An Ao Ak Am Ar t j K0 K1) K0 K1 j
def a7E {R : Type} (N : Nat) (ds : List D) (m : Mem) (K : Ex -> List D -> Mem -> Option R) : Option R :=
 match ds, m with
 | [(.ptr 0 2 0), (.ptr 0 3 0), .any, .any, (.v (.int .i64 j) .no), .any, .any], [[(2, ⟨29, [(.v (.bytes l1) .no), (.v (.int .i64 d) .no), (.v (.int .i64 i) .no), (.v (.sl 58 Ah) .no), (.v (.sl 64 Aj) .no), (.v (.sl 47 Ac) .no), (.v (.sl 44 Ad) .no), (.v (.sl 67 Ae) .no)]⟩), (3, ⟨29, [(.v (.bytes l9) .no), (.v (.int .i64 na) .no), (.v (.int .i64 nb) .no), (.v (.sl 58 An) .no), (.v (.sl 64 Ao) .no), (.v (.sl 47 Ak) .no), (.v (.sl 44 Am) .no), (.v (.sl 67 Ar) .no)]⟩)]] => Y6 N l1 d i Ah Aj Ac Ad Ae l9 na nb An Ao Ak Am Ar N j (fun a0 => K .ret [(.ptr 0 2 0), (.ptr 0 3 0), (.v (.bool a0) .no), .any, .any, .any, .any] (b1r l1 d i Ah Aj Ac Ad Ae l9 na nb An Ao Ak Am Ar)) (K (.exit 4) [(.ptr 0 2 0), (.ptr 0 3 0), .any, .any, .any, .any, .any] (b1r l1 d i Ah Aj Ac Ad Ae l9 na nb An Ao Ak Am Ar))
 | _, _ => none
def a0d {R : Type} (N : Nat) (l1 : LB) (d i : Int) (Ah Aj Ac Ad Ae : List V) (l9 : LB) (na nb : Int) (An Ao Ak Am Ar : List V) (Lq : Int -> Option R) (K0 : Bool -> Option R) (K1 : Option R) (j : Int) : Option R := br (decide (j < (Ae.length : Int))) (br (decide (0 <= j) && decide (j < (Ae.length : Int))) (at? Ae j.toNat fun f => f.unAgg fun l1 => e9 l1 fun x2 l3 => x2.unBytes fun l4 => e9 l3 fun x5 l6 => V.unInt FK x5 fun n7 => e9 l6 fun x8 l9 => V.unInt FK x8 fun na => D2 l9 (br (decide (0 <= j) && decide (j < (Ar.length : Int))) (at? Ar j.toNat fun xb => xb.unAgg fun Ax => e9 Ax fun xd AL => xd.unBytes fun AC => e9 AL fun xg lh => V.unInt FK xg fun ni => e9 lh fun xj lk => V.unInt FK xj fun Aw => D2 lk (j3 (a6u N l4 AC) fun CC => br (!CC) (K0 false) (br (!decide (n7 = ni)) (K0 false) (br (!decide (na = Aw)) (K0 false) (Lq (FK.wrap (j + 1))))))) none)) none) K1
def Z9 {R : Type} (N : Nat) (l1 : LB) (d i : Int) (Ah Aj Ac Ad Ae : List V) (l9 : LB) (na nb : Int) (An Ao Ak Am Ar : List V) : Nat -> Int -> (Bool -> Option R) -> (Option R) -> Option R | 0, _, _, _ => none | t + 1, j, K0, K1 => a0d N l1 d i Ah Aj Ac Ad Ae l9 na nb An Ao Ak Am Ar (fun j => Z9 N l1 d i Ah Aj Ac Ad Ae l9 na nb An Ao Ak Am Ar t j K0 K1) K0 K1 j
def a7z {R : Type} (N : Nat) (ds : List D) (m : Mem) (K : Ex -> List D -> Mem -> Option R) : Option R :=
 match ds, m with
 | [(.ptr 0 2 0), (.ptr 0 3 0), .any, .any, (.v (.int .i64 j) .no)], [[(2, ⟨29, [(.v (.bytes l1) .no), (.v (.int .i64 d) .no), (.v (.int .i64 i) .no), (.v (.sl 58 Ah) .no), (.v (.sl 64 Aj) .no), (.v (.sl 47 Ac) .no), (.v (.sl 44 Ad) .no), (.v (.sl 67 Ae) .no)]⟩), (3, ⟨29, [(.v (.bytes l9) .no), (.v (.int .i64 na) .no), (.v (.int .i64 nb) .no), (.v (.sl 58 An) .no), (.v (.sl 64 Ao) .no), (.v (.sl 47 Ak) .no), (.v (.sl 44 Am) .no), (.v (.sl 67 Ar) .no)]⟩)]] => Z9 N l1 d i Ah Aj Ac Ad Ae l9 na nb An Ao Ak Am Ar N j (fun a0 => K .ret [(.ptr 0 2 0), (.ptr 0 3 0), (.v (.bool a0) .no), .any, .any] (b1r l1 d i Ah Aj Ac Ad Ae l9 na nb An Ao Ak Am Ar)) (K (.exit 6) [(.ptr 0 2 0), (.ptr 0 3 0), .any, .any, .any] (b1r l1 d i Ah Aj Ac Ad Ae l9 na nb An Ao Ak Am Ar))
 | _, _ => none
def b1F (N : Nat) (f : LB) (x1 x2 : Int) (x3 x4 x5 x6 x7 : List V) (x8 : LB) (x9 xa : Int) (xb xc xd xe xf : List V) : Option (Bool) := j3 (a6u N f x8) fun b0 => br (!b0) (some false) (br (!decide (x1 = x9)) (some false) (br (!decide (x2 = xa)) (some false) (br (!decide ((x3.length : Int) = (xb.length : Int))) (some false) (br (!decide ((x4.length : Int) = (xc.length : Int))) (some false) (br (!decide ((x5.length : Int) = (xd.length : Int))) (some false) (j3 (a3w N x6 xe) fun b1 => br (!b1) (some false) (br (!decide ((x7.length : Int) = (xf.length : Int))) (some false) (a0Z N f x1 x2 x3 x4 x5 x6 x7 x8 x9 xa xb xc xd xe xf N 0 (fun b2 => some b2) (Z6 N f x1 x2 x3 x4 x5 x6 x7 x8 x9 xa xb xc xd xe xf N 0 (fun b3 => some b3) (Y6 N f x1 x2 x3 x4 x5 x6 x7 x8 x9 xa xb xc xd xe xf N 0 (fun b4 => some b4) (Z9 N f x1 x2 x3 x4 x5 x6 x7 x8 x9 xa xb xc xd xe xf N 0 (fun b5 => some b5) (some true))))))))))))
def a4P (N : Nat) : Cx := cl [c8a N, a8H N, c2X N, b6e N] [] [⟨4, [2, 3, 5, 11, 12], [2, 3, 4, 11, 12], a9M N⟩, ⟨10, [2, 3, 6, 7, 8, 11, 12], [2, 3, 4, 6, 7, 11, 12], a7h N⟩, ⟨15, [2, 3, 6, 7, 9, 11, 12], [2, 3, 4, 6, 7, 11, 12], a7E N⟩, ⟨20, [2, 3, 6, 7, 10], [2, 3, 4, 6, 7], a7z N⟩] true
theorem c4D (N : Nat) : p9 (a4P N) 189 (s4 Tryz.f7 0) := by
 refine j7 (rid := 4) (by kernel_rfl) rfl rfl fun R ds m K r h => ?_
 change a9M N ds m K = _ at h
 unfold a9M at h
 split at h
 . rename_i j l1 d i Ah Aj Ac Ad Ae l9 na nb An Ao Ak Am Ar
   exact ⟨N, Gs (lpI (fun (e : (Bool -> Option R) × (Option R)) L (s : Int) => a1d N l1 d i Ah Aj Ac Ad Ae l9 na nb An Ao Ak Am Ar (fun j => L j) e.1 e.2 s) (fun e t s => a0Z N l1 d i Ah Aj Ac Ad Ae l9 na nb An Ao Ak Am Ar t s e.1 e.2) (fun s => [(.ptr 0 2 0), (.ptr 0 3 0), (.v (.int .i64 s) .no), .any, .any]) (fun s => b1r l1 d i Ah Aj Ac Ad Ae l9 na nb An Ao Ak Am Ar) (fun _ _ => rfl) (fun _ _ _ => rfl) (e := (_, _)) (fun L s => by kernel_rfl) N j) h⟩
 . cases h
theorem c0K (N : Nat) : p9 (a4P N) 189 (s4 Tryz.f7 1) := by
 refine j7 (rid := 10) (by kernel_rfl) rfl rfl fun R ds m K r h => ?_
 change a7h N ds m K = _ at h
 unfold a7h at h
 split at h
 . rename_i j l1 d i Ah Aj Ac Ad Ae l9 na nb An Ao Ak Am Ar
   exact ⟨N, Gs (lpI (fun (e : (Bool -> Option R) × (Option R)) L (s : Int) => a0g N l1 d i Ah Aj Ac Ad Ae l9 na nb An Ao Ak Am Ar (fun j => L j) e.1 e.2 s) (fun e t s => Z6 N l1 d i Ah Aj Ac Ad Ae l9 na nb An Ao Ak Am Ar t s e.1 e.2) (fun s => [(.ptr 0 2 0), (.ptr 0 3 0), .any, .any, (.v (.int .i64 s) .no), .any, .any]) (fun s => b1r l1 d i Ah Aj Ac Ad Ae l9 na nb An Ao Ak Am Ar) (fun _ _ => rfl) (fun _ _ _ => rfl) (e := (_, _)) (fun L s => by kernel_rfl) N j) h⟩
 . cases h
theorem c1O (N : Nat) : p9 (a4P N) 189 (s4 Tryz.f7 2) := by
 refine j7 (rid := 15) (by kernel_rfl) rfl rfl fun R ds m K r h => ?_
 change a7E N ds m K = _ at h
 unfold a7E at h
 split at h
 . rename_i j l1 d i Ah Aj Ac Ad Ae l9 na nb An Ao Ak Am Ar
   exact ⟨N, Gs (lpI (fun (e : (Bool -> Option R) × (Option R)) L (s : Int) => a0c N l1 d i Ah Aj Ac Ad Ae l9 na nb An Ao Ak Am Ar (fun j => L j) e.1 e.2 s) (fun e t s => Y6 N l1 d i Ah Aj Ac Ad Ae l9 na nb An Ao Ak Am Ar t s e.1 e.2) (fun s => [(.ptr 0 2 0), (.ptr 0 3 0), .any, .any, (.v (.int .i64 s) .no), .any, .any]) (fun s => b1r l1 d i Ah Aj Ac Ad Ae l9 na nb An Ao Ak Am Ar) (fun _ _ => rfl) (fun _ _ _ => rfl) (e := (_, _)) (fun L s => by kernel_rfl) N j) h⟩
 . cases h
theorem c2U (N : Nat) : p9 (a4P N) 189 (s4 Tryz.f7 3) := by
 refine j7 (rid := 20) (by kernel_rfl) rfl rfl fun R ds m K r h => ?_
 change a7z N ds m K = _ at h
 unfold a7z at h
 split at h
 . rename_i j l1 d i Ah Aj Ac Ad Ae l9 na nb An Ao Ak Am Ar
   exact ⟨N, Gs (lpI (fun (e : (Bool -> Option R) × (Option R)) L (s : Int) => a0d N l1 d i Ah Aj Ac Ad Ae l9 na nb An Ao Ak Am Ar (fun j => L j) e.1 e.2 s) (fun e t s => Z9 N l1 d i Ah Aj Ac Ad Ae l9 na nb An Ao Ak Am Ar t s e.1 e.2) (fun s => [(.ptr 0 2 0), (.ptr 0 3 0), .any, .any, (.v (.int .i64 s) .no)]) (fun s => b1r l1 d i Ah Aj Ac Ad Ae l9 na nb An Ao Ak Am Ar) (fun _ _ => rfl) (fun _ _ _ => rfl) (e := (_, _)) (fun L s => by kernel_rfl) N j) h⟩
 . cases h
theorem d9Y (N : Nat) : POK Tryz.prog T 7 e6h (.v .b .z) (b1F N) := pok (cx := a4P N) fo (D4 ⟨d1Q N, b0p N, d0P N, c5d N, trivial⟩ trivial) (j6 (k := 4) (by kernel_rfl) ⟨⟨⟨⟨trivial, c4D N⟩, c0K N⟩, c1O N⟩, c2U N⟩) Tryz.func7 (by kernel_rfl) rfl fun h => by kernel_rfl
theorem d8n (N : Nat) (f : LB) (x1 x2 : Int) (x3 x4 x5 x6 x7 : List V) (x8 : LB) (x9 xa : Int) (xb xc xd xe xf : List V) (r0 : Bool) (h : b1F N f x1 x2 x3 x4 x5 x6 x7 x8 x9 xa xb xc xd xe xf = some r0) : PRT 7 [g0a f x1 x2 x3 x4 x5 x6 x7, g0a x8 x9 xa xb xc xd xe xf] [dB r0] := d9Y N (f, x1, x2, x3, x4, x5, x6, x7, x8, x9, xa, xb, xc, xd, xe, xf, ()) r0 h
def a8k (N : Nat)  : Option (Bool) := s7 (a2T N ([112, 117, 115, 104, 32, 45, 50, 10, 116, 104, 114, 111, 119, 10] : LB)) fun w u => br (decide (u = 0)) (br (decide ((w.length : Int) = 2)) (br (decide (0 < (w.length : Int))) (at? w 0 fun x2 => x2.unAgg fun l3 => e9 l3 fun x4 l5 => V.unInt FK x4 fun n6 => e9 l5 fun x7 l8 => V.unInt FK x7 fun n9 => e9 l8 fun xa Ay => V.unInt FK xa fun nc => e9 Ay fun xd AL => V.unInt FK xd fun nf => D2 AL (br (decide (n6 = 1) && (decide (n9 = -2) && (decide (nc = 0) && (decide (nf = 0) && true)))) (j3 (a3L N w) fun lg => some (decide (lg = ([112, 117, 115, 104, 32, 45, 50, 10, 116, 104, 114, 111, 119, 10] : LB)))) (some false))) none) (some false)) (some false)
def c9H (N : Nat) : Cx := cz [c1E N, c7U N] []
theorem d3s (N : Nat) : POK Tryz.prog T 5 .z (.v .b .z) (a8k N) := pok (cx := c9H N) fo (A9 ⟨c9T N, d2I N, trivial⟩ trivial) (lz (by kernel_rfl)) Tryz.func5 (by kernel_rfl) rfl fun h => by kernel_rfl
theorem c3p (N : Nat)  (r0 : Bool) (h : a8k N  = some r0) : PRT 5 [] [dB r0] := d3s N () r0 h
end En

namespace En
open Go
theorem X2 {R : Type} (X Y : Option R) : br false X Y = Y := id rfl
theorem X0 {R : Type} (X Y : Option R) : br true X Y = X := id rfl
theorem V6 {α R : Type} (S : Nat -> Int -> Option R) (K : Option R) (l : List α)
 (M2 : ∀ (t i : Nat) (x : α), l[i]? = some x -> S (t + 1) i = S t ((i + 1 : Nat) : Int))
 (a9k : ∀ t : Nat, S (t + 1) (l.length : Int) = K) (t : Nat) (ht : l.length < t) : S t 0 = K := by
 have := R3 (fun t i (_ : List UInt8) => S t i) (fun _ => K) l (fun _ => []) 0 (fun t i x out hx _ => by rw [M2 t i x hx]) (fun t _ => a9k t) t [] ht (by rw [show l.flatMap (fun _ => ([] : List UInt8)) = [] by induction l <;> simp_all]; decide)
 exact this
theorem a6X {α R : Type} {enc : α -> V} {l : List α} {i : Nat} {x : α} (h : l[i]? = some x) (K : V -> Option R) :
 br (decide (0 <= (i : Int)) && decide ((i : Int) < ((l.map enc).length : Int))) (at? (l.map enc) (i : Int).toNat K) none = K (enc x) := by
 have := C8 (enc := enc) h K none
 have hi : i < l.length := (FN.1 h).1
 rw [j5, if_pos (by simp; omega)] at this
 exact this
theorem e1C {R : Type} {l : List UInt8} {i : Nat} {x : UInt8} (h : l[i]? = some x) (K : UInt8 -> Option R) : at? l (i : Int).toNat K = K x := by
 rw [Int.toNat_natCast]
 unfold at?
 rw [h]
section
variable (N : Nat)
theorem a3Y (b : List UInt8) (hN : b.length < N) (hb : b.length <= 9000000000000000000) : a0Q N b b = some 0 := by
 have L : ∀ K1, U2 N b b N 0 (fun n => some n) K1 = K1 := fun K1 => V6 (fun t i => U2 N b b t i (fun n0 => some n0) K1) K1 b (fun t i x hx => by
  show U7 N b b _ _ _ _ = _
  unfold U7
  simp only [e1C hx, Int.lt_irrefl, decide_eq_true (show (0 : Int) <= i by omega), decide_eq_true (show (i : Int) < (b.length : Int) by have := C3 hx; omega), decide_true, decide_false, GC, GP, GO, GR, beq_self_eq_true, X2, X0, j4]
  rw [C7 (C3 hx) (by omega)]) (fun t => by
  show U7 N b b _ _ _ _ = _
  unfold U7
  simp only [Int.lt_irrefl, decide_true, decide_false, GC, GP, GO, GR, beq_self_eq_true, X2, X0, j4]) N (by omega)
 unfold a0Q
 rw [L]
 simp only [Int.lt_irrefl, decide_true, decide_false, GC, GP, GO, GR, beq_self_eq_true, X2, X0, j4]
theorem a7e (hN : 1000 < N) (b : List UInt8) (hb : b.length <= 900) : a6u N b b = some true := by
 unfold a6u
 rw [a3Y N b (by omega) (by omega)]
 rfl
theorem b6x (hN : 1000 < N) (l : List Int) (hl : l.length <= 900) : b3p N (l.map nV) (l.map nV) = some true := by
 have h : ∀ K1, a2K N (l.map nV) (l.map nV) N 0 (fun b => some b) K1 = K1 := fun K1 => V6 (fun t i => a2K N (l.map nV) (l.map nV) t i (fun b => some b) K1) K1 l (fun t i x hx => by
  show a2s N (l.map nV) (l.map nV) _ _ _ _ = _
  unfold a2s
  rw [C8 hx]
  simp only [a6X hx, nV, p8, o9, p5, o8, o6, A8, p7, decide_true, decide_false, GC, GP, GO, GR, beq_self_eq_true, X2, X0, j4]
  rw [C7 (C3 hx) (by omega)]) (fun t => by
  show a2s N (l.map nV) (l.map nV) _ _ _ _ = _
  unfold a2s
  rw [C0]) N (by omega)
 unfold b3p
 rw [h]
 simp only [decide_true, decide_false, GC, GP, GO, GR, beq_self_eq_true, X2, X0, j4]
theorem a4Z (hN : 1000 < N) (l : List Tp) (hl : l.length <= 900) : a3w N (l.map tpV) (l.map tpV) = some true := by
 have h : ∀ K1, Z4 N (l.map tpV) (l.map tpV) N 0 (fun b => some b) K1 = K1 := fun K1 => V6 (fun t i => Z4 N (l.map tpV) (l.map tpV) t i (fun b => some b) K1) K1 l (fun t i x hx => by
  show Z2 N (l.map tpV) (l.map tpV) _ _ _ _ = _
  unfold Z2
  rw [C8 hx]
  simp only [a6X hx, tpV, p8, o9, p5, o8, o6, A8, p7, decide_true, decide_false, GC, GP, GO, GR, beq_self_eq_true, X2, X0, j4]
  rw [C7 (C3 hx) (by omega)]) (fun t => by
  show Z2 N (l.map tpV) (l.map tpV) _ _ _ _ = _
  unfold Z2
  rw [C0]) N (by omega)
 unfold a3w
 rw [h]
 simp only [decide_true, decide_false, GC, GP, GO, GR, beq_self_eq_true, X2, X0, j4]
theorem c2c (hN : 1000 < N) (c : Cl) (hc : d2A c) : a8c N c.sup.p c.sup.c c.itf (c.ext.map rfV) (c.fs.map tpV) (c.vs.map nV) (c.is.map ilV) c.sup.p c.sup.c c.itf (c.ext.map rfV) (c.fs.map tpV) (c.vs.map nV) (c.is.map ilV) = some true := by
 obtain ⟨h1, h2, h3, h4, h5⟩ := hc
 have l1 : ∀ K1, X9 N c.sup.p c.sup.c c.itf (c.ext.map rfV) (c.fs.map tpV) (c.vs.map nV) (c.is.map ilV) c.sup.p c.sup.c c.itf (c.ext.map rfV) (c.fs.map tpV) (c.vs.map nV) (c.is.map ilV) N 0 (fun b => some b) K1 = K1 := fun K1 => V6 (fun t i => X9 N c.sup.p c.sup.c c.itf (c.ext.map rfV) (c.fs.map tpV) (c.vs.map nV) (c.is.map ilV) c.sup.p c.sup.c c.itf (c.ext.map rfV) (c.fs.map tpV) (c.vs.map nV) (c.is.map ilV) t i (fun b => some b) K1) K1 c.ext (fun t i x hx => by
  show Z5 N c.sup.p c.sup.c c.itf (c.ext.map rfV) (c.fs.map tpV) (c.vs.map nV) (c.is.map ilV) c.sup.p c.sup.c c.itf (c.ext.map rfV) (c.fs.map tpV) (c.vs.map nV) (c.is.map ilV) _ _ _ _ = _
  unfold Z5
  rw [C8 hx]
  simp only [a6X hx, rfV, p8, o9, p5, o8, o6, A8, p7, decide_true, decide_false, GC, GP, GO, GR, beq_self_eq_true, X2, X0, j4]
  rw [C7 (C3 hx) (by omega)]) (fun t => by
  show Z5 N c.sup.p c.sup.c c.itf (c.ext.map rfV) (c.fs.map tpV) (c.vs.map nV) (c.is.map ilV) c.sup.p c.sup.c c.itf (c.ext.map rfV) (c.fs.map tpV) (c.vs.map nV) (c.is.map ilV) _ _ _ _ = _
  unfold Z5
  rw [C0]) N (by omega)
 have l2 : ∀ K1, Y0 N c.sup.p c.sup.c c.itf (c.ext.map rfV) (c.fs.map tpV) (c.vs.map nV) (c.is.map ilV) c.sup.p c.sup.c c.itf (c.ext.map rfV) (c.fs.map tpV) (c.vs.map nV) (c.is.map ilV) N 0 (fun b => some b) K1 = K1 := fun K1 => V6 (fun t i => Y0 N c.sup.p c.sup.c c.itf (c.ext.map rfV) (c.fs.map tpV) (c.vs.map nV) (c.is.map ilV) c.sup.p c.sup.c c.itf (c.ext.map rfV) (c.fs.map tpV) (c.vs.map nV) (c.is.map ilV) t i (fun b => some b) K1) K1 c.is (fun t i x hx => by
  show X5 N c.sup.p c.sup.c c.itf (c.ext.map rfV) (c.fs.map tpV) (c.vs.map nV) (c.is.map ilV) c.sup.p c.sup.c c.itf (c.ext.map rfV) (c.fs.map tpV) (c.vs.map nV) (c.is.map ilV) _ _ _ _ = _
  unfold X5
  rw [C8 hx]
  simp only [a6X hx, ilV, p8, o9, p5, o8, o6, A8, p7, decide_true, decide_false, GC, GP, GO, GR, beq_self_eq_true, X2, X0, j4, b6x N hN x.ms (h5 x (Gb hx))]
  rw [C7 (C3 hx) (by omega)]) (fun t => by
  show X5 N c.sup.p c.sup.c c.itf (c.ext.map rfV) (c.fs.map tpV) (c.vs.map nV) (c.is.map ilV) c.sup.p c.sup.c c.itf (c.ext.map rfV) (c.fs.map tpV) (c.vs.map nV) (c.is.map ilV) _ _ _ _ = _
  unfold X5
  rw [C0]) N (by omega)
 unfold a8c
 rw [l1, l2]
 simp only [a4Z N hN c.fs h2, b6x N hN c.vs h3, decide_true, decide_false, GC, GP, GO, GR, beq_self_eq_true, X2, X0, j4]
theorem b9N (hN : 1000 < N) (m : Mt) (hm : d6y m) : a6n N m.st m.ab m.cls (m.ps.map tpV) m.r.k m.r.r.p m.r.r.c m.lo m.sk (iE m.code) (m.hs.map hdV) m.st m.ab m.cls (m.ps.map tpV) m.r.k m.r.r.p m.r.r.c m.lo m.sk (iE m.code) (m.hs.map hdV) = some true := by
 obtain ⟨h1, h2, h3⟩ := hm
 rw [a3I]
 have l1 : ∀ K1, V1 N m.st m.ab m.cls (m.ps.map tpV) m.r.k m.r.r.p m.r.r.c m.lo m.sk (m.code.map iV) (m.hs.map hdV) m.st m.ab m.cls (m.ps.map tpV) m.r.k m.r.r.p m.r.r.c m.lo m.sk (m.code.map iV) (m.hs.map hdV) N 0 (fun b => some b) K1 = K1 := fun K1 => V6 (fun t i => V1 N m.st m.ab m.cls (m.ps.map tpV) m.r.k m.r.r.p m.r.r.c m.lo m.sk (m.code.map iV) (m.hs.map hdV) m.st m.ab m.cls (m.ps.map tpV) m.r.k m.r.r.p m.r.r.c m.lo m.sk (m.code.map iV) (m.hs.map hdV) t i (fun b => some b) K1) K1 m.code (fun t i x hx => by
  show V2 N m.st m.ab m.cls (m.ps.map tpV) m.r.k m.r.r.p m.r.r.c m.lo m.sk (m.code.map iV) (m.hs.map hdV) m.st m.ab m.cls (m.ps.map tpV) m.r.k m.r.r.p m.r.r.c m.lo m.sk (m.code.map iV) (m.hs.map hdV) _ _ _ _ = _
  unfold V2
  rw [C8 hx]
  simp only [a6X hx, iV, p8, o9, p5, o8, o6, A8, p7, decide_true, decide_false, GC, GP, GO, GR, beq_self_eq_true, X2, X0, j4]
  rw [C7 (C3 hx) (by omega)]) (fun t => by
  show V2 N m.st m.ab m.cls (m.ps.map tpV) m.r.k m.r.r.p m.r.r.c m.lo m.sk (m.code.map iV) (m.hs.map hdV) m.st m.ab m.cls (m.ps.map tpV) m.r.k m.r.r.p m.r.r.c m.lo m.sk (m.code.map iV) (m.hs.map hdV) _ _ _ _ = _
  unfold V2
  rw [C0]) N (by omega)
 have l2 : ∀ K1, U1 N m.st m.ab m.cls (m.ps.map tpV) m.r.k m.r.r.p m.r.r.c m.lo m.sk (m.code.map iV) (m.hs.map hdV) m.st m.ab m.cls (m.ps.map tpV) m.r.k m.r.r.p m.r.r.c m.lo m.sk (m.code.map iV) (m.hs.map hdV) N 0 (fun b => some b) K1 = K1 := fun K1 => V6 (fun t i => U1 N m.st m.ab m.cls (m.ps.map tpV) m.r.k m.r.r.p m.r.r.c m.lo m.sk (m.code.map iV) (m.hs.map hdV) m.st m.ab m.cls (m.ps.map tpV) m.r.k m.r.r.p m.r.r.c m.lo m.sk (m.code.map iV) (m.hs.map hdV) t i (fun b => some b) K1) K1 m.hs (fun t i x hx => by
  show U4 N m.st m.ab m.cls (m.ps.map tpV) m.r.k m.r.r.p m.r.r.c m.lo m.sk (m.code.map iV) (m.hs.map hdV) m.st m.ab m.cls (m.ps.map tpV) m.r.k m.r.r.p m.r.r.c m.lo m.sk (m.code.map iV) (m.hs.map hdV) _ _ _ _ = _
  unfold U4
  rw [C8 hx]
  simp only [a6X hx, hdV, p8, o9, p5, o8, o6, A8, p7, decide_true, decide_false, GC, GP, GO, GR, beq_self_eq_true, X2, X0, j4]
  rw [C7 (C3 hx) (by omega)]) (fun t => by
  show U4 N m.st m.ab m.cls (m.ps.map tpV) m.r.k m.r.r.p m.r.r.c m.lo m.sk (m.code.map iV) (m.hs.map hdV) m.st m.ab m.cls (m.ps.map tpV) m.r.k m.r.r.p m.r.r.c m.lo m.sk (m.code.map iV) (m.hs.map hdV) _ _ _ _ = _
  unfold U4
  rw [C0]) N (by omega)
 unfold a6n
 rw [l1, l2]
 simp only [a4Z N hN m.ps h1, decide_true, decide_false, GC, GP, GO, GR, beq_self_eq_true, X2, X0, j4]
theorem c5m (hN : 1000 < N) (p : Pk) (hp : d7T p) : b1F N p.aid p.ma p.mi (p.ims.map imV) (p.cls.map clV) (p.mts.map mtV) (p.sts.map tpV) (p.aps.map apV) p.aid p.ma p.mi (p.ims.map imV) (p.cls.map clV) (p.mts.map mtV) (p.sts.map tpV) (p.aps.map apV) = some true := by
 obtain ⟨h1, ⟨h2, h3⟩, ⟨h4, h5⟩, ⟨h6, h7⟩, h8, h9, h10⟩ := hp
 have l1 : ∀ K1, a0Z N p.aid p.ma p.mi (p.ims.map imV) (p.cls.map clV) (p.mts.map mtV) (p.sts.map tpV) (p.aps.map apV) p.aid p.ma p.mi (p.ims.map imV) (p.cls.map clV) (p.mts.map mtV) (p.sts.map tpV) (p.aps.map apV) N 0 (fun b => some b) K1 = K1 := fun K1 => V6 (fun t i => a0Z N p.aid p.ma p.mi (p.ims.map imV) (p.cls.map clV) (p.mts.map mtV) (p.sts.map tpV) (p.aps.map apV) p.aid p.ma p.mi (p.ims.map imV) (p.cls.map clV) (p.mts.map mtV) (p.sts.map tpV) (p.aps.map apV) t i (fun b => some b) K1) K1 p.ims (fun t i x hx => by
  show a1d N p.aid p.ma p.mi (p.ims.map imV) (p.cls.map clV) (p.mts.map mtV) (p.sts.map tpV) (p.aps.map apV) p.aid p.ma p.mi (p.ims.map imV) (p.cls.map clV) (p.mts.map mtV) (p.sts.map tpV) (p.aps.map apV) _ _ _ _ = _
  unfold a1d
  rw [C8 hx]
  simp only [a6X hx, imV, p8, o9, p5, o8, o6, A8, p7, decide_true, decide_false, GC, GP, GO, GR, beq_self_eq_true, X2, X0, j4, a7e N hN x.aid (h3 x (Gb hx))]
  rw [C7 (C3 hx) (by omega)]) (fun t => by
  show a1d N p.aid p.ma p.mi (p.ims.map imV) (p.cls.map clV) (p.mts.map mtV) (p.sts.map tpV) (p.aps.map apV) p.aid p.ma p.mi (p.ims.map imV) (p.cls.map clV) (p.mts.map mtV) (p.sts.map tpV) (p.aps.map apV) _ _ _ _ = _
  unfold a1d
  rw [C0]) N (by omega)
 have l2 : ∀ K1, Z6 N p.aid p.ma p.mi (p.ims.map imV) (p.cls.map clV) (p.mts.map mtV) (p.sts.map tpV) (p.aps.map apV) p.aid p.ma p.mi (p.ims.map imV) (p.cls.map clV) (p.mts.map mtV) (p.sts.map tpV) (p.aps.map apV) N 0 (fun b => some b) K1 = K1 := fun K1 => V6 (fun t i => Z6 N p.aid p.ma p.mi (p.ims.map imV) (p.cls.map clV) (p.mts.map mtV) (p.sts.map tpV) (p.aps.map apV) p.aid p.ma p.mi (p.ims.map imV) (p.cls.map clV) (p.mts.map mtV) (p.sts.map tpV) (p.aps.map apV) t i (fun b => some b) K1) K1 p.cls (fun t i x hx => by
  show a0g N p.aid p.ma p.mi (p.ims.map imV) (p.cls.map clV) (p.mts.map mtV) (p.sts.map tpV) (p.aps.map apV) p.aid p.ma p.mi (p.ims.map imV) (p.cls.map clV) (p.mts.map mtV) (p.sts.map tpV) (p.aps.map apV) _ _ _ _ = _
  unfold a0g
  rw [C8 hx]
  simp only [a6X hx, clV, p8, o9, p5, o8, o6, A8, p7, decide_true, decide_false, GC, GP, GO, GR, beq_self_eq_true, X2, X0, j4, c2c N hN x (h5 x (Gb hx))]
  rw [C7 (C3 hx) (by omega)]) (fun t => by
  show a0g N p.aid p.ma p.mi (p.ims.map imV) (p.cls.map clV) (p.mts.map mtV) (p.sts.map tpV) (p.aps.map apV) p.aid p.ma p.mi (p.ims.map imV) (p.cls.map clV) (p.mts.map mtV) (p.sts.map tpV) (p.aps.map apV) _ _ _ _ = _
  unfold a0g
  rw [C0]) N (by omega)
 have l3 : ∀ K1, Y6 N p.aid p.ma p.mi (p.ims.map imV) (p.cls.map clV) (p.mts.map mtV) (p.sts.map tpV) (p.aps.map apV) p.aid p.ma p.mi (p.ims.map imV) (p.cls.map clV) (p.mts.map mtV) (p.sts.map tpV) (p.aps.map apV) N 0 (fun b => some b) K1 = K1 := fun K1 => V6 (fun t i => Y6 N p.aid p.ma p.mi (p.ims.map imV) (p.cls.map clV) (p.mts.map mtV) (p.sts.map tpV) (p.aps.map apV) p.aid p.ma p.mi (p.ims.map imV) (p.cls.map clV) (p.mts.map mtV) (p.sts.map tpV) (p.aps.map apV) t i (fun b => some b) K1) K1 p.mts (fun t i x hx => by
  show a0c N p.aid p.ma p.mi (p.ims.map imV) (p.cls.map clV) (p.mts.map mtV) (p.sts.map tpV) (p.aps.map apV) p.aid p.ma p.mi (p.ims.map imV) (p.cls.map clV) (p.mts.map mtV) (p.sts.map tpV) (p.aps.map apV) _ _ _ _ = _
  unfold a0c
  rw [C8 hx]
  simp only [a6X hx, mtV, p8, o9, p5, o8, o6, A8, p7, decide_true, decide_false, GC, GP, GO, GR, beq_self_eq_true, X2, X0, j4, b9N N hN x (h7 x (Gb hx))]
  rw [C7 (C3 hx) (by omega)]) (fun t => by
  show a0c N p.aid p.ma p.mi (p.ims.map imV) (p.cls.map clV) (p.mts.map mtV) (p.sts.map tpV) (p.aps.map apV) p.aid p.ma p.mi (p.ims.map imV) (p.cls.map clV) (p.mts.map mtV) (p.sts.map tpV) (p.aps.map apV) _ _ _ _ = _
  unfold a0c
  rw [C0]) N (by omega)
 have l4 : ∀ K1, Z9 N p.aid p.ma p.mi (p.ims.map imV) (p.cls.map clV) (p.mts.map mtV) (p.sts.map tpV) (p.aps.map apV) p.aid p.ma p.mi (p.ims.map imV) (p.cls.map clV) (p.mts.map mtV) (p.sts.map tpV) (p.aps.map apV) N 0 (fun b => some b) K1 = K1 := fun K1 => V6 (fun t i => Z9 N p.aid p.ma p.mi (p.ims.map imV) (p.cls.map clV) (p.mts.map mtV) (p.sts.map tpV) (p.aps.map apV) p.aid p.ma p.mi (p.ims.map imV) (p.cls.map clV) (p.mts.map mtV) (p.sts.map tpV) (p.aps.map apV) t i (fun b => some b) K1) K1 p.aps (fun t i x hx => by
  show a0d N p.aid p.ma p.mi (p.ims.map imV) (p.cls.map clV) (p.mts.map mtV) (p.sts.map tpV) (p.aps.map apV) p.aid p.ma p.mi (p.ims.map imV) (p.cls.map clV) (p.mts.map mtV) (p.sts.map tpV) (p.aps.map apV) _ _ _ _ = _
  unfold a0d
  rw [C8 hx]
  simp only [a6X hx, apV, p8, o9, p5, o8, o6, A8, p7, decide_true, decide_false, GC, GP, GO, GR, beq_self_eq_true, X2, X0, j4, a7e N hN x.aid (h10 x (Gb hx))]
  rw [C7 (C3 hx) (by omega)]) (fun t => by
  show a0d N p.aid p.ma p.mi (p.ims.map imV) (p.cls.map clV) (p.mts.map mtV) (p.sts.map tpV) (p.aps.map apV) p.aid p.ma p.mi (p.ims.map imV) (p.cls.map clV) (p.mts.map mtV) (p.sts.map tpV) (p.aps.map apV) _ _ _ _ = _
  unfold a0d
  rw [C0]) N (by omega)
 unfold b1F
 rw [l1, l2, l3, l4]
 simp only [a7e N hN p.aid h1, a4Z N hN p.sts h8, decide_true, decide_false, GC, GP, GO, GR, beq_self_eq_true, X2, X0, j4]
end
end En
namespace En
open Go
theorem b1i : ∀ l : List In, (L5 l).length <= 87 * l.length
 | [] => by simp [L5]
 | i :: l => by
   have := b6l i
   have := b1i l
   simp [L5]; omega
section
variable (N : Nat)
theorem b3W (hN : 100000 < N) (l : List In) (hl : l.length <= 256) (h : M7 l = 0) : ∃ s, a3L N (iE l) = some s /\ s = L5 l /\ a2T N s = some (iE l, 0) := by
 have hlen := b1i l
 have he : c8v l = L5 l := by
  have : a3s l = (N3 l, 0) := by unfold a3s; rw [if_neg (by omega), if_pos h]
  unfold c8v
  rw [this]; rfl
 refine ⟨L5 l, by rw [d5v N (by omega) l (by omega) (by omega), he], rfl, ?_⟩
 rw [c9C N (by omega) _ (by omega) (by omega), b3O l [] N (by omega) (by simp; omega) h]
 rfl
def short : List In := [⟨1, -2, 0, 0⟩, ⟨50, 0, 0, 0⟩]
theorem c4B : L5 short = [112, 117, 115, 104, 32, 45, 50, 10, 116, 104, 114, 111, 119, 10] := by decide +kernel
theorem c1c : M7 short = 0 := by decide +kernel
theorem b0L (hN : 100000 < N) : a8k N = some true := by
 obtain ⟨s, h1, h2, h3⟩ := b3W N hN short (by decide) c1c
 rw [c4B] at h2
 subst h2
 unfold a8k
 rw [h3, o7]
 have e : iE short = [V.agg [.int .i64 1, .int .i64 (-2), .int .i64 0, .int .i64 0], V.agg [.int .i64 50, .int .i64 0, .int .i64 0, .int .i64 0]] := rfl
 rw [e] at h1 ⊢
 simp only [h1]
 rfl
end
end En
namespace En
open Go Go.RowKit
section
variable {E E' : Env} {g g' : G} {w w' : Gc}
theorem c3b {dead : List Pos} {r0 : List UInt8} {r1 r2 : Int} {r3 r4 r5 r6 r7 : List V} {v : FX} (hr : RepD E g w dead (.agg [.v (.bytes r0) .no, .v (.int .i64 r1) .no, .v (.int .i64 r2) .no, .v (.sl 58 r3) .no, .v (.sl 64 r4) .no, .v (.rowI 47 r5) .no, .v (.sl 44 r6) .no, .v (.sl 67 r7) .no]) v) :
 ∃ A0 n0 k0 A3 n3 k3 A4 n4 k4 A5 n5 k5 A6 n6 k6 A7 n7 k7, v = .agg #[.slice A0 n0 k0, .int .i64 r1, .int .i64 r2, .slice A3 n3 k3, .slice A4 n4 k4, .slice A5 n5 k5, .slice A6 n6 k6, .slice A7 n7 k7] := by
 obtain ⟨us, rfl, hus⟩ : ∃ us, v = .agg us /\ us.size = 8 := by cases hr with | agg ds us hn hr => exact ⟨us, rfl, hn⟩
 obtain ⟨v0, v1, v2, v3, v4, v5, v6, v7, rfl⟩ := c6x hus
 have sh : (∃ A n c, v0 = .slice A n c) /\ v1 = .int .i64 r1 /\ v2 = .int .i64 r2 /\ (∃ A n c, v3 = .slice A n c) /\ (∃ A n c, v4 = .slice A n c) /\ (∃ A n c, v5 = .slice A n c) /\ (∃ A n c, v6 = .slice A n c) /\ (∃ A n c, v7 = .slice A n c) := by
  cases hr with
  | agg ds us hn hr =>
    exact ⟨b4J (hr 0 _ rfl), Y2 (hr 1 _ rfl), Y2 (hr 2 _ rfl), a1T (hr 3 _ rfl), a1T (hr 4 _ rfl), d5y (hr 5 _ rfl), a1T (hr 6 _ rfl), a1T (hr 7 _ rfl)⟩
 obtain ⟨⟨A0, n0, k0, rfl⟩, rfl, rfl, ⟨A3, n3, k3, rfl⟩, ⟨A4, n4, k4, rfl⟩, ⟨A5, n5, k5, rfl⟩, ⟨A6, n6, k6, rfl⟩, ⟨A7, n7, k7, rfl⟩⟩ := sh
 exact ⟨A0, n0, k0, A3, n3, k3, A4, n4, k4, A5, n5, k5, A6, n6, k6, A7, n7, k7, rfl⟩
theorem c1t {dead : List Pos} {r0 : List UInt8} {r1 r2 : Int} {r3 r4 r5 r6 r7 : List V} {v : FX} (hr : RepD E g w dead (.agg [.v (.bytes r0) .no, .v (.int .i64 r1) .no, .v (.int .i64 r2) .no, .v (.sl 58 r3) .no, .v (.sl 64 r4) .no, .v (.rowI 47 r5) .no, .v (.sl 44 r6) .no, .v (.sl 67 r7) .no]) v) :
 RepD E g w dead (.agg [.v (.bytes r0) .no, .v (.int .i64 r1) .no, .v (.int .i64 r2) .no, .v (.sl 58 r3) .no, .v (.sl 64 r4) .no, .v (.sl 47 r5) .no, .v (.sl 44 r6) .no, .v (.sl 67 r7) .no]) v := by
 cases hr with
 | agg ds us hn hr =>
   refine .agg _ us hn fun k y hk => ?_
   rcases k with _ | _ | _ | _ | _ | _ | k
   . exact hr 0 y hk
   . exact hr 1 y hk
   . exact hr 2 y hk
   . exact hr 3 y hk
   . exact hr 4 y hk
   . simp at hk; subst hk
     have := hr 5 _ rfl
     generalize us.getD 5 undef = u5 at this ⊢
     cases this with
     | v x a u h ha => cases h with | rowI e xs A n c h hi => exact .v _ _ _ h trivial
   . exact hr (k + 6) y hk
theorem d0f (g : G) (n : Nat) : (over g.hide n).hide = over g.hide n := by
 unfold over G.hide
 simp only
 congr 1
 funext b
 by_cases h : b < n
 . simp only [if_pos h]
   cases g.Γ b <;> rfl
 . simp only [if_neg h]; rfl
set_option maxHeartbeats 1000000 in
theorem c5t {N : Nat} {y0 : List UInt8} {r0 : List UInt8} {r1 r2 : Int} {r3 r4 r5 r6 r7 : List V} {z0 : List UInt8} (h : a2B N y0 = some (r0, r1, r2, r3, r4, r5, r6, r7, z0)) (hc : a0M N r0 r1 r2 r3 r4 r5 r6 r7 = some 0) (hl : y0.length <= 2048) (hs : SzOK T g w) {u : FX} (hu : RepV g w (.bytes y0) u) :
 IF Tryz.prog 6 #[u] w fun e w' => ∃ v g' E', e = .returned (.tuple #[v, .int .i64 0]) /\ RepD E' g' w' [] (.agg [.v (.bytes r0) .no, .v (.int .i64 r1) .no, .v (.int .i64 r2) .no, .v (.sl 58 r3) .no, .v (.sl 64 r4) .no, .v (.rowI 47 r5) .no, .v (.sl 44 r6) .no, .v (.sl 67 r7) .no]) v /\ SzOK T g' w' /\ Tr 0 g.hide w g' w' := by
 obtain ⟨A, n, c, rfl, hn⟩ : ∃ A n c, u = .slice A n c /\ n = y0.length := by cases hu with | bytes xs A n c hn _ _ _ => exact ⟨A, n, c, rfl, hn.symm⟩
 have hn2 : n <= 2048 := by omega
 have hg1 : Grows w (w.alloc (.cells pkZ 29)) := Grows.alloc w _
 have hl2 := (O1 g w).trans (T7 (g := g.hide) hg1)
 have H := Gx (Gf h (Gf (hs.later hl2) (Gf (hu.later hl2) (Gf hg1 hc))))
 clear h hs hu hl2 hg1 hc hl hn
 go_enter Tryz.func6, Tryz.ntmps6
 go_wp2_with fail
 refine (d6K (w := w.alloc (.cells pkZ 29)) H.out.1 H.out.2.1 H.out.2.2.1).mono ?_
 rintro e w4 ⟨v, g4, E4, rfl, hr, hsk, htr⟩
 obtain ⟨A0, n0, k0, A3, n3, k3, A4, n4, k4, A5, n5, k5, A6, n6, k6, A7, n7, k7, rfl⟩ := c3b hr
 have q0 : w4.heap[w.heap.size]? = some (.cells pkZ 29 (0, 0)) := by
  rw [(htr.hid w.heap.size (by simp) (W1 _)).2]
  exact Hf w _
 have z0 : g4.Γ w.heap.size = .low 0 := by
  rw [(htr.hid w.heap.size (by simp) (W1 _)).1]
  show (if w.heap.size < w.heap.size then g.hide.Γ w.heap.size else .low 0).hid = _
  rw [if_neg (by omega)]; rfl
 have hlt : w.heap.size < w4.heap.size := G7 q0
 have hg5 : Grows w4 (w4.alloc (.cells #[.slice A0 n0 k0, .int .i64 r1, .int .i64 r2, .slice A3 n3 k3, .slice A4 n4 k4, .slice A5 n5 k5, .slice A6 n6 k6, .slice A7 n7 k7] 29)) := Grows.alloc w4 _
 have hl5 := T7 (g := g4) hg5
 have ht5 : Tr 0 g.hide w (over g4 w4.heap.size) _ := ((b9Q (g := g.hide) H.out.2.2.2.1 0).trans (by rw [d0f] at htr; exact htr)).trans (b9Q (g := g4) hg5 0)
 have hr5 := hr.far_ (E' := E4) (dead' := []) hl5 rfl
 have hs5 := hsk.later hl5
 have hq5 : (over g4 w4.heap.size).Γ w.heap.size = .low 0 := by
  show (if w.heap.size < w4.heap.size then g4.Γ w.heap.size else .low 0) = _
  rw [if_pos hlt]; exact z0
 have hp5 : (w4.alloc (.cells #[.slice A0 n0 k0, .int .i64 r1, .int .i64 r2, .slice A3 n3 k3, .slice A4 n4 k4, .slice A5 n5 k5, .slice A6 n6 k6, .slice A7 n7 k7] 29)).heap[w.heap.size]? = some (.cells pkZ 29 (0, 0)) := by
  rw [hg5.old _ hlt]; exact q0
 have H5 := Gx (Gf ht5 (Gf hr5 (Gf hs5 (Gf hq5 (Gf hp5 hlt)))))
 clear hr hsk htr q0 z0 hg5 hl5 ht5 hr5 hs5 hq5 hp5 hlt
 go_wp2_with fail
 refine (e0t N r0 r1 r2 r3 r4 r5 r6 r7 0 H.out.2.2.2.2 E4 _ _ [_] H5.out.2.2.1 ⟨rfl, fun k y hk => ?_⟩).mono ?_
 . rcases k with _ | k
   . simp at hk; subst hk
     exact c1t H5.out.2.1
   . simp at hk
 rintro e w6 ⟨us6, g6, rfl, hu6, ht6⟩
 obtain rfl : us6 = [.int .i64 0] := by
  have h7 := hu6 E4
  match us6, h7.1 with
  | [u], _ =>
    have h8 : u = .int .i64 0 := Y2 (h7.2 0 _ rfl)
    rw [h8]
 obtain ⟨ht5, hr5, hs5, hq5, hp5, hlt⟩ := H5.out
 have e3j : w.heap.size < (w4.alloc (.cells #[.slice A0 n0 k0, .int .i64 r1, .int .i64 r2, .slice A3 n3 k3, .slice A4 n4 k4, .slice A5 n5 k5, .slice A6 n6 k6, .slice A7 n7 k7] 29)).heap.size := G7 hp5
 have q0 : w6.heap[w.heap.size]? = some (.cells pkZ 29 (0, 0)) := by rw [ht6.grows.old _ e3j]; exact hp5
 have q1 : w6.heap[w4.heap.size]? = some (.cells #[.slice A0 n0 k0, .int .i64 r1, .int .i64 r2, .slice A3 n3 k3, .slice A4 n4 k4, .slice A5 n5 k5, .slice A6 n6 k6, .slice A7 n7 k7] 29 (0, 0)) := by
  rw [ht6.grows.old _ (by simp)]; exact Hf w4 _
 have z0 : g6.Γ w.heap.size = .low 0 := by rw [ht6.old _ e3j]; exact hq5
 have y0 : (∀ o, ¬ s5 g6 w.heap.size o) /\ g6.Γ w.heap.size ≠ .imm := ⟨fun o h => by unfold s5 at h; rw [z0] at h; exact absurd h (Is _), by rw [z0]; exact fun h => by cases h⟩
 have hw5 := ((((((((Low.refl g6 w.heap.size w6).set 0 (.slice A0 n0 k0) y0.1 y0.2 (FW _)).set 1 (.int .i64 r1) y0.1 y0.2 (FW _)).set 2 (.int .i64 r2) y0.1 y0.2 (FW _)).set 3 (.slice A3 n3 k3) y0.1 y0.2 (FW _)).set 4 (.slice A4 n4 k4) y0.1 y0.2 (FW _)).set 5 (.slice A5 n5 k5) y0.1 y0.2 (FW _)).set 6 (.slice A6 n6 k6) y0.1 y0.2 (FW _)).set 7 (.slice A7 n7 k7) y0.1 y0.2 (FW _)
 have HF := Gx (Gf hw5 (Gf ((hs5.later ht6.later).later hw5.later) (Gf (hw5.tr (ht5.trans (ht6.tr 0)) (FW _)) ((hr5.far_ (E' := E4) (dead' := []) (ht6.later.trans hw5.later) rfl)))))
 have c0 : ∀ j, w6.cell? ⟨w.heap.size, j, none⟩ = pkZ[j]? := fun j => GA _ _ j _ _ _ q0
 have f0 : ∀ j, w6.frozen? ⟨w.heap.size, j, none⟩ = false := fun j => IB _ _ j _ _ q0
 have c1 : ∀ j, w6.cell? ⟨w4.heap.size, j, none⟩ = (#[.slice A0 n0 k0, .int .i64 r1, .int .i64 r2, .slice A3 n3 k3, .slice A4 n4 k4, .slice A5 n5 k5, .slice A6 n6 k6, .slice A7 n7 k7] : Array FX)[j]? := fun j => GA _ _ j _ _ _ q1
 have d0 : w6.cell? ⟨w.heap.size, 0, none⟩ = some (.slice none 0 0) := c0 0
 have d1 : w6.cell? ⟨w.heap.size, 1, none⟩ = some (.int .i64 0) := c0 1
 have d2 : w6.cell? ⟨w.heap.size, 2, none⟩ = some (.int .i64 0) := c0 2
 have d3 : w6.cell? ⟨w.heap.size, 3, none⟩ = some (.slice none 0 0) := c0 3
 have d4 : w6.cell? ⟨w.heap.size, 4, none⟩ = some (.slice none 0 0) := c0 4
 have d5 : w6.cell? ⟨w.heap.size, 5, none⟩ = some (.slice none 0 0) := c0 5
 have d6 : w6.cell? ⟨w.heap.size, 6, none⟩ = some (.slice none 0 0) := c0 6
 have d7 : w6.cell? ⟨w.heap.size, 7, none⟩ = some (.slice none 0 0) := c0 7
 have e0 := f0 0
 have e1 := f0 1
 have e2 := f0 2
 have e3 := f0 3
 have e4 := f0 4
 have e5 := f0 5
 have e6 := f0 6
 have e7 := f0 7
 have b0 : w6.cell? ⟨w4.heap.size, 0, none⟩ = some (.slice A0 n0 k0) := c1 0
 have b1 : w6.cell? ⟨w4.heap.size, 1, none⟩ = some (.int .i64 r1) := c1 1
 have b2 : w6.cell? ⟨w4.heap.size, 2, none⟩ = some (.int .i64 r2) := c1 2
 have b3 : w6.cell? ⟨w4.heap.size, 3, none⟩ = some (.slice A3 n3 k3) := c1 3
 have b4 : w6.cell? ⟨w4.heap.size, 4, none⟩ = some (.slice A4 n4 k4) := c1 4
 have b5 : w6.cell? ⟨w4.heap.size, 5, none⟩ = some (.slice A5 n5 k5) := c1 5
 have b6 : w6.cell? ⟨w4.heap.size, 6, none⟩ = some (.slice A6 n6 k6) := c1 6
 have b7 : w6.cell? ⟨w4.heap.size, 7, none⟩ = some (.slice A7 n7 k7) := c1 7
 clear hu6 ht6 e3j q0 q1 z0 y0 hw5 c0 f0 c1 hr5 hs5 hq5 hp5 ht5 H5 hlt
 rw [show S0 [Ib .i64 0] = Ib .i64 0 from rfl]
 go_wp2_with fail
 refine bodyPost_ret (v := .tuple #[.agg #[.slice A0 n0 k0, .int .i64 r1, .int .i64 r2, .slice A3 n3 k3, .slice A4 n4 k4, .slice A5 n5 k5, .slice A6 n6 k6, .slice A7 n7 k7], .int .i64 0]) (by simp [results, Tryz.results6, go_sem, d0, d1, d2, d3, d4, d5, d6, d7]) rfl ⟨_, g6, E4, rfl, HF.out.2.2.2, HF.out.2.1, HF.out.2.2.1⟩
end
end En
namespace En
open Go
def V.isI : V -> Bool
 | .int .i64 _ => true
 | _ => false
def V.okRow (x : V) : Bool := Nat.ble x.cells.length 4 || (x.cells.take 4).any fun y => !y.isI
mutual
def V.good : V -> Bool
 | .bool _ => true
 | .int _ _ => true
 | .str _ => true
 | .bytes _ => true
 | .sl _ xs => goods xs && okRows xs
 | .agg cs => goods cs
 | _ => false
def goods : List V -> Bool
 | [] => true
 | x :: xs => x.good && goods xs
def okRows : List V -> Bool
 | [] => true
 | x :: xs => x.okRow && okRows xs
end
theorem a0S : ∀ {xs : List V}, goods xs = true -> ∀ x ∈ xs, x.good = true
 | x :: xs, h, y, hy => by
   simp only [goods, FT] at h
   rcases GH.1 hy with rfl | hy
   . exact h.1
   . exact a0S h.2 y hy
theorem b2q : ∀ {xs : List V}, okRows xs = true -> ∀ x ∈ xs, x.okRow = true
 | x :: xs, h, y, hy => by
   simp only [okRows, FT] at h
   rcases GH.1 hy with rfl | hy
   . exact h.1
   . exact b2q h.2 y hy
theorem b2J {x y : V} (h : x.good = true) (hy : y ∈ x.cells) : y.good = true := by
 cases x <;> simp only [V.cells, List.mem_singleton] at hy
 all_goals first | (subst hy; exact h) | skip
 rename_i cs
 exact a0S (by simpa [V.good] using h) y hy
section
variable {g : G} {w w' : Gc}
structure Twin (g : G) (w : Gc) (n : Nat) (A0 A1 : Option Addr) (c1 : Nat) : Prop where
 cap : n <= c1
 max : c1 <= maxLen
 cells : ∀ k, k < 4 * n -> ∃ b0 o0 b1 o1 m, A0 = some ⟨b0, o0, none⟩ /\ A1 = some ⟨b1, o1, none⟩ /\ w.cell? ⟨b0, o0 + k, none⟩ = some (.int .i64 m) /\ s5 g b1 (o1 + k) /\ w.cell? ⟨b1, o1 + k, none⟩ = some (.int .i64 m)
theorem d0F {n c0 c1 : Nat} {A0 A1 : Option Addr} (ht : Twin g w n A0 A1 c1) {y : V} (hy : y.good = true) (h : RepV g w y (.slice A0 n c0)) : RepV g w y (.slice A1 n c1) := by
 generalize hv : Hr A0 n c0 = v at h
 cases h with
 | bool b => cases hv
 | int k m h => cases hv
 | str s h => cases hv
 | agg cs us h1 h2 => cases hv
 | iface t x v h => cases hv
 | nilI => cases hv
 | mset ks b es clock hb hw hm => cases hv
 | nilM => cases hv
 | rowI e xs A n c h hi => cases hy
 | bytes xs A n' c hn hc hm h =>
   injection hv with e1 e2 e3
   subst e1; subst e2; subst e3
   refine .bytes xs A1 _ c1 hn ht.cap ht.max fun k x hx => ?_
   exfalso
   have hk : k < n := by have := (FN.1 hx).1; omega
   obtain ⟨b, off, e1, _, h3⟩ := h k x hx
   obtain ⟨b0, o0, b1, o1, m, e2, _, h4, _⟩ := ht.cells k (by omega)
   rw [e1] at e2
   injection e2 with e2; injection e2 with e3 e4
   subst e3; subst e4
   rw [h3] at h4
   injection h4 with h4; injection h4 with h4; cases h4
 | sl e xs A n' c us hn hc hm hs h hr =>
   injection hv with e1 e2 e3
   subst e1; subst e2; subst e3
   have hg := hy
   simp only [V.good, FT] at hg
   have hsz : ∀ x ∈ xs, x.cells.length = g.sz e := fun x hx => (U9 (hs x hx)).1
   have hlen : (xs.flatMap V.cells).length = n * g.sz e := by rw [a8l hsz, hn]
   have key : ∀ (k : Nat) z, k < 4 * n -> (xs.flatMap V.cells)[k]? = some z -> ∃ b0 o0 b1 o1 m, A0 = some ⟨b0, o0, none⟩ /\ A1 = some ⟨b1, o1, none⟩ /\ us k = .int .i64 m /\ s5 g b1 (o1 + k) /\ w.cell? ⟨b1, o1 + k, none⟩ = some (.int .i64 m) := by
    intro k z hk hz
    obtain ⟨b, off, e1, _, h3⟩ := h k z hz
    obtain ⟨b0, o0, b1, o1, m, e2, e5, h4, h5, h6⟩ := ht.cells k hk
    have e6 := e2
    rw [e1] at e2
    injection e2 with e2; injection e2 with e3 e4
    subst e3; subst e4
    rw [h3] at h4
    injection h4 with h4
    exact ⟨b, off, b1, o1, m, e6, e5, h4, h5, h6⟩
   have hle : n * g.sz e <= 4 * n := by
    rcases Hi 4 (g.sz e) with e7n | hsm
    . match xs, hn with
      | [], hn =>
        have : n = 0 := hn.symm
        rw [this]; simp
      | x :: r, hn =>
        exfalso
        have hx : x.okRow = true := b2q hg.2 x (IP ..)
        have hxl := hsz x (IP ..)
        unfold V.okRow at hx
        simp only [Bool.or_eq_true, Nat.ble_eq] at hx
        rcases hx with hx | hx
        . omega
        . rw [KB] at hx
          obtain ⟨y, hy1, hy2⟩ := hx
          obtain ⟨j, hj⟩ := Ie hy1
          rw [List.getElem?_take] at hj
          split at hj
          . rename_i hj4
            have hz : ((x :: r).flatMap V.cells)[j]? = some y := by
             rw [List.flatMap_cons, Gh (by have := (FN.1 hj).1; exact this)]
             exact hj
            have hn1 : 0 < n := by have : (x :: r).length = n := hn; simp at this; omega
            obtain ⟨_, _, _, _, m, _, _, hu, _⟩ := key j y (by omega) hz
            have hry := hr j y hz
            rw [hu] at hry
            generalize hvv : Ib FK m = vv at hry
            cases hry with
            | int k' m' h' => injection hvv with e1 e2; subst e1; cases hy2
            | _ => cases hvv
          . cases hj
    . calc n * g.sz e <= n * 4 := Nat.mul_le_mul_left _ hsm
       _ = 4 * n := LR _ _
   refine .sl e xs A1 _ c1 us hn ht.cap ht.max hs (fun k z hz => ?_) hr
   have hk : k < 4 * n := by have := (FN.1 hz).1; omega
   obtain ⟨_, _, b1, o1, m, _, e5, hu, h5, h6⟩ := key k z hk hz
   exact ⟨b1, o1, e5, h5, by rw [hu]; exact h6⟩
theorem a8a {b o : Nat} {u0 u1 : FX} (hc : w.cell? ⟨b, o, none⟩ = some u0) (b' o' : Nat) : (w.setCell ⟨b, o, none⟩ u1).cell? ⟨b', o', none⟩ = if b' = b /\ o' = o then some u1 else w.cell? ⟨b', o', none⟩ := by
 split
 . rename_i h
   obtain ⟨rfl, rfl⟩ := h
   exact World.cell?_setCell_same _ _ _ hc
 . rename_i h
   exact World.cell?_setCell_other _ _ _ _ (fun e => h (by injection e with e1 e2 _; exact ⟨e1.symm, e2.symm⟩))
theorem RepV.put_same {b o n c0 : Nat} {A0 : Option Addr} {u1 : FX} (hc : w.cell? ⟨b, o, none⟩ = some (.slice A0 n c0))
 (c8Y : ∀ y : V, y.good = true -> RepV g (w.setCell ⟨b, o, none⟩ u1) y (.slice A0 n c0) -> RepV g (w.setCell ⟨b, o, none⟩ u1) y u1) {x : V} {v : FX} (h : RepV g w x v) : x.good = true -> RepV g (w.setCell ⟨b, o, none⟩ u1) x v := by
 induction h with
 | bool b => exact fun _ => .bool b
 | int k n h => exact fun _ => .int k n h
 | str s h => exact fun _ => .str s h
 | bytes xs A n' c hn hc' hm h =>
   refine fun _ => .bytes xs A n' c hn hc' hm fun k x hx => ?_
   obtain ⟨b', off, e, h1, h2⟩ := h k x hx
   refine ⟨b', off, e, h1, ?_⟩
   rw [a8a hc, if_neg]
   . exact h2
   . rintro ⟨rfl, e3⟩
     rw [e3, hc] at h2
     injection h2 with h2; cases h2
 | sl e xs A n' c us hn hc' hm hs h hr ih =>
   intro hg
   simp only [V.good, FT] at hg
   have c3P : ∀ (k : Nat) y, (xs.flatMap V.cells)[k]? = some y -> y.good = true := by
    intro k y hk
    obtain ⟨z, hz, hy⟩ := Kx.1 (Gb hk)
    exact b2J (a0S hg.1 z hz) hy
   refine .sl e xs A n' c (fun k => if A = some ⟨b, o - k, none⟩ /\ k <= o then u1 else us k) hn hc' hm hs (fun k y hk => ?_) fun k y hk => ?_
   . obtain ⟨b', off, e1, h1, h2⟩ := h k y hk
     refine ⟨b', off, e1, h1, ?_⟩
     rw [a8a hc]
     by_cases hq : b' = b /\ off + k = o
     . rw [if_pos hq]
       obtain ⟨rfl, e3⟩ := hq
       show some u1 = some (if A = some ⟨b', o - k, none⟩ /\ k <= o then u1 else us k)
       rw [if_pos ⟨by rw [e1]; congr 2; omega, by omega⟩]
     . rw [if_neg hq]
       show w.cell? ⟨b', off + k, none⟩ = some (if A = some ⟨b, o - k, none⟩ /\ k <= o then u1 else us k)
       rw [if_neg]
       . exact h2
       . rintro ⟨e2, e3⟩
         rw [e1] at e2
         injection e2 with e2; injection e2 with e4 e5
         exact hq ⟨e4, by omega⟩
   . obtain ⟨b', off, e1, h1, h2⟩ := h k y hk
     show RepV g _ y (if A = some ⟨b, o - k, none⟩ /\ k <= o then u1 else us k)
     by_cases hq : A = some ⟨b, o - k, none⟩ /\ k <= o
     . rw [if_pos hq]
       obtain ⟨e2, e3⟩ := hq
       rw [e1] at e2
       injection e2 with e2; injection e2 with e4 e5
       subst e4
       rw [show off + k = o by omega, hc] at h2
       injection h2 with h2
       have := ih k y hk (c3P k y hk)
       rw [← h2] at this
       exact c8Y y (c3P k y hk) this
     . rw [if_neg hq]; exact ih k y hk (c3P k y hk)
 | agg cs us hn hr ih =>
   intro hg
   refine .agg cs us hn fun k y hk => ih k y hk ?_
   exact a0S (by simpa [V.good] using hg) y (Gb hk)
 | iface t x v h ih => exact fun hg => by cases hg
 | nilI => exact fun hg => by cases hg
 | mset ks b es clock hb hw hm => exact fun hg => by cases hg
 | nilM => exact fun hg => by cases hg
 | rowI e xs A n c h hi ih => exact fun hg => by cases hg
theorem P3 {α : Type} (f : α -> V) (h : ∀ x, (f x).good = true) : ∀ l : List α, goods (l.map f) = true
 | [] => rfl
 | x :: l => by simp [goods, h x, P3 f h l]
theorem S2 {α : Type} (f : α -> V) (h : ∀ x, (f x).okRow = true) : ∀ l : List α, okRows (l.map f) = true
 | [] => rfl
 | x :: l => by simp [okRows, h x, S2 f h l]
theorem c8d (n : Int) : (nV n).good = true := rfl
theorem d6a (r : Rf) : (rfV r).good = true := rfl
theorem b4m (r : Tp) : (tpV r).good = true := rfl
theorem d6l (r : Im) : (imV r).good = true := rfl
theorem d1E (r : Ap) : (apV r).good = true := rfl
theorem d4g (r : Hd) : (hdV r).good = true := rfl
theorem d9Q (r : In) : (iV r).good = true := rfl
theorem a8m {α : Type} (t : FP) (f : α -> V) (h : ∀ x, (f x).good = true) (h2 : ∀ x, (f x).okRow = true) (l : List α) : (V.sl t (l.map f)).good = true := by
 simp [V.good, P3 f h l, S2 f h2 l]
theorem d4l (x : Il) : (ilV x).good = true := by
 simp [ilV, V.good, goods, P3 nV c8d, S2 nV (fun _ => rfl)]
theorem d5w (c : Cl) : (clV c).good = true := by
 simp [clV, V.good, goods, P3 nV c8d, S2 nV (fun _ => rfl), P3 rfV d6a, S2 rfV (fun _ => rfl), P3 tpV b4m, S2 tpV (fun _ => rfl), P3 ilV d4l, S2 ilV (fun _ => rfl)]
theorem d2j (m : Mt) : (mtV m).good = true := by
 simp [mtV, V.good, goods, a3I, P3 iV d9Q, S2 iV (fun _ => rfl), P3 hdV d4g, S2 hdV (fun _ => rfl), P3 tpV b4m, S2 tpV (fun _ => rfl)]
theorem c7B (p : Pk) : (V.bytes p.aid).good = true /\ (V.sl 58 (p.ims.map imV)).good = true /\ (V.sl 64 (p.cls.map clV)).good = true /\ (V.sl 47 (p.mts.map mtV)).good = true /\ (V.sl 44 (p.sts.map tpV)).good = true /\ (V.sl 67 (p.aps.map apV)).good = true :=
 ⟨rfl, a8m _ _ d6l (fun _ => rfl) _, a8m _ _ d5w (fun _ => rfl) _, a8m _ _ d2j (fun _ => rfl) _, a8m _ _ b4m (fun _ => rfl) _, a8m _ _ d1E (fun _ => rfl) _⟩
theorem b7g : ∀ (code : List In) (k : Nat), k < 4 * code.length -> ∃ m, ((iE code).flatMap V.cells)[k]? = some (.int .i64 m)
 | [], k, h => by simp at h
 | i :: r, k, h => by
   have e : (iE (i :: r)).flatMap V.cells = [.int .i64 i.op, .int .i64 i.a, .int .i64 i.b, .int .i64 i.c] ++ (iE r).flatMap V.cells := rfl
   rw [e]
   rcases k with _ | _ | _ | _ | k
   . exact ⟨_, rfl⟩
   . exact ⟨_, rfl⟩
   . exact ⟨_, rfl⟩
   . exact ⟨_, rfl⟩
   . obtain ⟨m, hm⟩ := b7g r k (by simp at h; omega)
     exact ⟨m, hm⟩
theorem c9B (code : List In) : (iE code).length = code.length := by rw [a3I, Gi]
theorem c8q {code : List In} {A : Option Addr} {n c : Nat} (h : RepV g w (.sl 54 (iE code)) (.slice A n c)) : n = code.length /\ n <= c /\ c <= maxLen /\ ∀ (k : Nat) m, ((iE code).flatMap V.cells)[k]? = some (.int .i64 m) -> ∃ b o, A = some ⟨b, o, none⟩ /\ s5 g b (o + k) /\ w.cell? ⟨b, o + k, none⟩ = some (.int .i64 m) := by
 cases h with
 | sl e xs A n c us hn hc hm hs h hr =>
   refine ⟨by rw [← hn, c9B], hc, hm, fun k m hk => ?_⟩
   obtain ⟨b, o, e1, h1, h2⟩ := h k _ hk
   have h3 := hr k _ hk
   generalize us k = u at h2 h3
   cases h3
   exact ⟨b, o, e1, h1, h2⟩
theorem d9r {code : List In} {A0 A1 : Option Addr} {n c0 n1 c1 : Nat} (h0 : RepV g w (.sl 54 (iE code)) (.slice A0 n c0)) (h1 : RepV g w (.sl 54 (iE code)) (.slice A1 n1 c1)) : n1 = n /\ Twin g w n A0 A1 c1 := by
 obtain ⟨e0, a1, a2, a3⟩ := c8q h0
 obtain ⟨e1, b1, b2, b3⟩ := c8q h1
 refine ⟨e1.trans e0.symm, by omega, b2, fun k hk => ?_⟩
 obtain ⟨m, hm⟩ := b7g code k (by omega)
 obtain ⟨p, o, q1, q2, q3⟩ := a3 k m hm
 obtain ⟨p', o', q1', q2', q3'⟩ := b3 k m hm
 exact ⟨p, o, p', o', m, q1, q1', q3, q2', q3'⟩
theorem Twin.put {b o n c0 c1 : Nat} {A0 A1 : Option Addr} {u1 : FX} (hc : w.cell? ⟨b, o, none⟩ = some (.slice A0 n c0)) (h : Twin g w n A0 A1 c1) : Twin g (w.setCell ⟨b, o, none⟩ u1) n A0 A1 c1 := by
 refine ⟨h.cap, h.max, fun k hk => ?_⟩
 obtain ⟨b0, o0, b1, o1, m, e0, e1, h1, h2, h3⟩ := h.cells k hk
 refine ⟨b0, o0, b1, o1, m, e0, e1, ?_, h2, ?_⟩
 . rw [a8a hc, if_neg]
   . exact h1
   . rintro ⟨rfl, e⟩
     rw [e, hc] at h1
     injection h1 with h1; cases h1
 . rw [a8a hc, if_neg]
   . exact h3
   . rintro ⟨rfl, e⟩
     rw [e, hc] at h3
     injection h3 with h3; cases h3
theorem RepV.put_code {b o n c0 n1 c1 : Nat} {A0 A1 : Option Addr} {code : List In} (hc : w.cell? ⟨b, o, none⟩ = some (.slice A0 n c0)) (h0 : RepV g w (.sl 54 (iE code)) (.slice A0 n c0)) (h1 : RepV g w (.sl 54 (iE code)) (.slice A1 n1 c1)) {x : V} {v : FX} (h : RepV g w x v) (hx : x.good = true) : RepV g (w.setCell ⟨b, o, none⟩ (.slice A1 n1 c1)) x v := by
 obtain ⟨rfl, ht⟩ := d9r h0 h1
 exact h.put_same hc (fun y hy h2 => d0F (ht.put hc) hy h2) hx
end
end En
namespace En
open Go Go.RowKit
def pkD (p : Pk) : D := .agg [.v (.bytes p.aid) .no, .v (.int .i64 p.ma) .no, .v (.int .i64 p.mi) .no, .v (.sl 58 (p.ims.map imV)) .no, .v (.sl 64 (p.cls.map clV)) .no, .v (.sl 47 (p.mts.map mtV)) .no, .v (.sl 44 (p.sts.map tpV)) .no, .v (.sl 67 (p.aps.map apV)) .no]
section
variable {E E' : Env} {g g' : G} {w w' : Gc} {p : Pk}
theorem b7l {dead : List Pos} {v : FX} (hr : RepD E g w dead (pkD p) v) :
 ∃ A0 n0 k0 A3 n3 k3 A4 n4 k4 A5 n5 k5 A6 n6 k6 A7 n7 k7, v = .agg #[.slice A0 n0 k0, .int .i64 p.ma, .int .i64 p.mi, .slice A3 n3 k3, .slice A4 n4 k4, .slice A5 n5 k5, .slice A6 n6 k6, .slice A7 n7 k7] := by
 obtain ⟨us, rfl, hus⟩ : ∃ us, v = .agg us /\ us.size = 8 := by unfold pkD at hr; cases hr with | agg ds us hn hr => exact ⟨us, rfl, hn⟩
 obtain ⟨v0, v1, v2, v3, v4, v5, v6, v7, rfl⟩ := c6x hus
 have sh : (∃ A n c, v0 = .slice A n c) /\ v1 = .int .i64 p.ma /\ v2 = .int .i64 p.mi /\ (∃ A n c, v3 = .slice A n c) /\ (∃ A n c, v4 = .slice A n c) /\ (∃ A n c, v5 = .slice A n c) /\ (∃ A n c, v6 = .slice A n c) /\ (∃ A n c, v7 = .slice A n c) := by
  unfold pkD at hr
  cases hr with
  | agg ds us hn hr =>
    exact ⟨b4J (hr 0 _ rfl), Y2 (hr 1 _ rfl), Y2 (hr 2 _ rfl), a1T (hr 3 _ rfl), a1T (hr 4 _ rfl), a1T (hr 5 _ rfl), a1T (hr 6 _ rfl), a1T (hr 7 _ rfl)⟩
 obtain ⟨⟨A0, n0, k0, rfl⟩, rfl, rfl, ⟨A3, n3, k3, rfl⟩, ⟨A4, n4, k4, rfl⟩, ⟨A5, n5, k5, rfl⟩, ⟨A6, n6, k6, rfl⟩, ⟨A7, n7, k7, rfl⟩⟩ := sh
 exact ⟨A0, n0, k0, A3, n3, k3, A4, n4, k4, A5, n5, k5, A6, n6, k6, A7, n7, k7, rfl⟩
theorem a4r {us : List FX} {d : D} (h : RepDs E g w [] [d] us) : ∃ u, us = [u] /\ RepD E g w [] d u := by
 match us, h.1 with
 | [u], _ => exact ⟨u, rfl, h.2 0 _ rfl⟩
theorem b9C {us : List FX} {d e : D} (h : RepDs E g w [] [d, e] us) : ∃ u v, us = [u, v] /\ RepD E g w [] d u /\ RepD E g w [] e v := by
 match us, h.1 with
 | [u, v], _ => exact ⟨u, v, rfl, h.2 0 _ rfl, h.2 1 _ rfl⟩
theorem b2A {d : D} {u : FX} (h : RepD E g w [] d u) : RepDs E g w [] [d] [u] := ⟨rfl, fun k y hk => by
 rcases k with _ | k
 . simp at hk; subst hk; exact h
 . simp at hk⟩
theorem d2Y {d e : D} {u v : FX} (h : RepD E g w [] d u) (h' : RepD E g w [] e v) : RepDs E g w [] [d, e] [u, v] := ⟨rfl, fun k y hk => by
 rcases k with _ | _ | k
 . simp at hk; subst hk; exact h
 . simp at hk; subst hk; exact h'
 . simp at hk⟩
theorem e1m : RepDs E g w [] [] [] := ⟨rfl, fun k y hk => by simp at hk⟩
theorem b8V {b : Bool} {a : Att} {v : FX} {dead : List Pos} (h : RepD E g w dead (.v (.bool b) a) v) : v = .bool b := by
 cases h with | v x a v h ha => cases h; rfl
theorem a1W (h : Grows w w') : Below w.heap.size w w' := ⟨h.os, h.tape, h.output, h.size, h.old⟩
set_option maxHeartbeats 1000000 in
theorem e0E {N : Nat} (hN : 100000 < N) {e : Int} (he : e ≠ 0) (h : Y5 N p.aid p.ma p.mi (p.ims.map imV) (p.cls.map clV) (p.mts.map mtV) (p.sts.map tpV) (p.aps.map apV) = some ([], e)) (hs : SzOK T g w) {v : FX} (hv : RepD E g w [] (pkD p) v) :
 IF Tryz.prog 3 #[v] w fun e w' => e = .returned (.bool true) /\ Below w.heap.size w w' := by
 obtain ⟨A0, n0, k0, A3, n3, k3, A4, n4, k4, A5, n5, k5, A6, n6, k6, A7, n7, k7, rfl⟩ := b7l hv
 have hg1 : Grows w (w.alloc (.cells #[.slice A0 n0 k0, .int .i64 p.ma, .int .i64 p.mi, .slice A3 n3 k3, .slice A4 n4 k4, .slice A5 n5 k5, .slice A6 n6 k6, .slice A7 n7 k7] 29)) := Grows.alloc w _
 have hl1 := T7 (g := g) hg1
 have H := Gx (Gf h (Gf (hs.later hl1) (Gf (hv.far_ (E' := E) (dead' := []) hl1 rfl) (Gf hg1 hN))))
 clear h hs hv hg1 hl1 hN
 go_enter Tryz.func3, Tryz.ntmps3
 go_wp2_with fail
 refine (a9G N _ _ _ _ _ _ _ _ _ _ H.out.1 E _ _ [_] H.out.2.1 (b2A H.out.2.2.1)).mono ?_
 rintro e w2 ⟨us, g2, rfl, hu, ht⟩
 obtain ⟨bv, ev, rfl, hb, hev⟩ := b9C (hu E)
 obtain rfl := Y2 hev
 rw [show S0 [bv, Ib .i64 e] = .tuple #[bv, .int .i64 e] from rfl]
 have he' : ¬ e = 0 := he
 have HB := Gx (Gf (H.out.2.2.2.1.trans ht.grows) (H.out.2.1.later ht.later))
 clear hu hb hev ht
 go_wp2_with fail
 refine (c3p N true (b0L N H.out.2.2.2.2) E g2 _ [] HB.out.2 e1m).mono ?_
 rintro e3 w3 ⟨us3, g3, rfl, hu3, ht3⟩
 obtain ⟨sv, rfl, hsv⟩ := a4r (hu3 E)
 obtain rfl := b8V hsv
 rw [show S0 [KC true] = .bool true from rfl]
 have HB3 := Gx (a1W (HB.out.1.trans ht3.grows))
 clear hu3 hsv ht3
 go_wp2_with fail
 go_ret
 exact ⟨rfl, HB3.out⟩
end
end En
namespace En
open Go Go.RowKit
section
variable {E E' : Env} {g g' : G} {w w' w0 : Gc} {p : Pk}
theorem b5u {mts : List Mt} {A : Option Addr} {n c : Nat} (h : RepV g w (.sl 47 (mts.map mtV)) (.slice A n c)) : n = mts.length /\ n <= maxLen /\ ∀ (k : Nat) m, mts[k]? = some m -> ∃ b off A0 n0 c0, A = some ⟨b, off, none⟩ /\ w.cell? ⟨b, off + (k * 11 + 9), none⟩ = some (.slice A0 n0 c0) /\ RepV g w (.sl 54 (iE m.code)) (.slice A0 n0 c0) := by
 cases h with
 | sl e xs A n c us hn hc hm hs h hr =>
   refine ⟨by rw [← hn, Gi], IL hc hm, fun k m hk => ?_⟩
   have hsz : ∀ x ∈ mts.map mtV, x.cells.length = 11 := by
    intro x hx
    obtain ⟨m, _, rfl⟩ := IR.1 hx
    rfl
   have hx : (mts.map mtV)[k]? = some (mtV m) := by rw [Gn, hk]; rfl
   have hf := a6z hsz (k := 9) (y := V.sl 54 (iE m.code)) hx rfl
   obtain ⟨b, off, e1, h1, h2⟩ := h _ _ hf
   have h3 := hr _ _ hf
   generalize us (k * 11 + 9) = u at h2 h3
   obtain ⟨A0, n0, c0, rfl⟩ : ∃ A0 n0 c0, u = .slice A0 n0 c0 := by cases h3; exact ⟨_, _, _, rfl⟩
   exact ⟨b, off, A0, n0, c0, e1, h2, h3⟩
def e4X (g : G) (w : Gc) (B0 Bq : Nat) (A5 : Option Addr) (ms : List Mt) : Prop := ms = [] ∨ ∃ bm cur, A5 = some ⟨bm, 0, none⟩ /\ g.Γ bm = .imm /\ w.heap[bm]? = some (.cells cur 47 (0, 0)) /\ B0 < bm /\ bm ≠ Bq /\ bm ∉ a0I
structure LawI (w0 : Gc) (p : Pk) (E : Env) (bv : FX) (pcs qcs : Array FX) (Bq : Nat) (A5 : Option Addr) (g : G) (w : Gc) : Prop where
 sk : SzOK T g w
 below : Below w0.heap.size w0 w
 hp : w.heap[w0.heap.size]? = some (.cells pcs 29 (0, 0))
 hq : w.heap[Bq]? = some (.cells qcs 29 (0, 0))
 lp : g.Γ w0.heap.size = .low 0
 lq : g.Γ Bq = .low 0
 rp : RepD E g w [] (pkD p) (.agg pcs)
 rq : RepD E g w [] (pkD p) (.agg qcs)
 rb : RepV g w (.bytes (wPk p)) bv
 row : e4X g w w0.heap.size Bq A5 p.mts
theorem LawI.pure {bv : FX} {pcs qcs : Array FX} {Bq : Nat} {A5 : Option Addr} (h : LawI w0 p E bv pcs qcs Bq A5 g w) (ht : PureTr g w g' w') : LawI w0 p E bv pcs qcs Bq A5 g' w' := by
 have h1 := G7 h.hp
 have h2 := G7 h.hq
 refine ⟨h.sk.later ht.later, h.below.trans ((a1W ht.grows).mono h.below.size), by rw [ht.grows.old _ h1]; exact h.hp, by rw [ht.grows.old _ h2]; exact h.hq, by rw [ht.old _ h1]; exact h.lp, by rw [ht.old _ h2]; exact h.lq, h.rp.far_ ht.later rfl, h.rq.far_ ht.later rfl, h.rb.later ht.later, ?_⟩
 rcases h.row with h0 | ⟨bm, cur, e, a, b, c⟩
 . exact .inl h0
 . have h3 := G7 b
   exact .inr ⟨bm, cur, e, by rw [ht.old _ h3]; exact a, by rw [ht.grows.old _ h3]; exact b, c⟩
theorem c8w {b o n c0 n1 c1 : Nat} {A0 A1 : Option Addr} {code : List In} (hc : w.cell? ⟨b, o, none⟩ = some (.slice A0 n c0)) (h0 : RepV g w (.sl 54 (iE code)) (.slice A0 n c0)) (h1 : RepV g w (.sl 54 (iE code)) (.slice A1 n1 c1)) {v : FX} (h : RepD E g w [] (pkD p) v) : RepD E g (w.setCell ⟨b, o, none⟩ (.slice A1 n1 c1)) [] (pkD p) v := by
 obtain ⟨q0, q3, q4, q5, q6, q7⟩ := c7B p
 have put : ∀ {x : V} {u : FX}, x.good = true -> RepD E g w [] (.v x .no) u -> RepD E g (w.setCell ⟨b, o, none⟩ (.slice A1 n1 c1)) [] (.v x .no) u := fun hg hd => by
  cases hd with | v x a u hu ha => exact .v _ _ _ (RepV.put_code hc h0 h1 hu hg) trivial
 unfold pkD at h ⊢
 cases h with
 | agg ds us hn hr =>
   refine .agg _ us hn fun k y hk => ?_
   rcases k with _ | _ | _ | _ | _ | _ | _ | _ | k
   . simp at hk; subst hk; exact put q0 (hr 0 _ rfl)
   . simp at hk; subst hk; exact put rfl (hr 1 _ rfl)
   . simp at hk; subst hk; exact put rfl (hr 2 _ rfl)
   . simp at hk; subst hk; exact put q3 (hr 3 _ rfl)
   . simp at hk; subst hk; exact put q4 (hr 4 _ rfl)
   . simp at hk; subst hk; exact put q5 (hr 5 _ rfl)
   . simp at hk; subst hk; exact put q6 (hr 6 _ rfl)
   . simp at hk; subst hk; exact put q7 (hr 7 _ rfl)
   . simp at hk
theorem LawI.put {bv : FX} {pcs qcs : Array FX} {Bq bm o n c0 n1 c1 : Nat} {A0 A1 : Option Addr} {code : List In} (h : LawI w0 p E bv pcs qcs Bq (some ⟨bm, 0, none⟩) g w) (hm : p.mts ≠ []) (hc : w.cell? ⟨bm, o, none⟩ = some (.slice A0 n c0)) (h0 : RepV g w (.sl 54 (iE code)) (.slice A0 n c0)) (h1 : RepV g w (.sl 54 (iE code)) (.slice A1 n1 c1)) :
 LawI w0 p E bv pcs qcs Bq (some ⟨bm, 0, none⟩) g (w.setCell ⟨bm, o, none⟩ (.slice A1 n1 c1)) := by
 rcases h.row with hz | ⟨bm', cur, e, a, b, c1', c2, c3⟩
 . exact absurd hz hm
 . injection e with e; injection e with e _; subst e
   have other : ∀ b, b ≠ bm -> (w.setCell ⟨bm, o, none⟩ (.slice A1 n1 c1)).heap[b]? = w.heap[b]? := fun b hb => heap_setCell_other w ⟨bm, o, none⟩ b _ hb
   refine ⟨⟨h.sk.eq, fun b hb => ?_⟩, h.below.setCell (by show w0.heap.size <= bm; omega) _, by rw [other _ (by omega)]; exact h.hp, by rw [other _ (fun e => c2 e.symm)]; exact h.hq, h.lp, h.lq, c8w hc h0 h1 h.rp, c8w hc h0 h1 h.rq, RepV.put_code hc h0 h1 h.rb rfl, .inr ⟨bm, _, rfl, a, heap_setCell_same w bm o cur _ _ b, c1', c2, c3⟩⟩
   obtain ⟨s1, x, s2, s3⟩ := h.sk.gl b hb
   exact ⟨s1, x, by rw [other b (fun e => c3 (e ▸ hb))]; exact s2, s3⟩
end
end En
namespace En
open Go Go.RowKit
theorem b9V {k : IntKind} {zs : List Int} {b : Bool} (h : (b1e k zs)[0]? = some (.bool b)) : False := by
 unfold b1e at h
 match zs with
 | [] => simp at h
 | z :: r => simp at h
section
variable {E E' : Env} {g g' : G} {w w' w0 : Gc} {p : Pk}
theorem d9O {mts : List Mt} {A : Option Addr} {n c : Nat} (hs : SzOK T g w) (h : RepV g w (.rowI 47 (mts.map mtV)) (.slice A n c)) : mts = [] ∨ ∃ bm cur, A = some ⟨bm, 0, none⟩ /\ g.Γ bm = .imm /\ w.heap[bm]? = some (.cells cur 47 (0, 0)) /\ bm ∉ a0I := by
 cases h with
 | rowI e xs A n c h hi =>
   rcases hi with h0 | ⟨b, cur, rfl, h1, h2⟩
   . exact .inl (List.map_eq_nil_iff.1 h0)
   . match mts with
     | [] => exact .inl rfl
     | m :: r =>
       refine .inr ⟨b, cur, rfl, h1, h2, fun hb => ?_⟩
       obtain ⟨_, x, hx, vs, t, f, rfl, g1, g2, g3, g4⟩ := hs.gl b hb
       rw [h2] at hx
       injection hx with hx
       injection hx with hx _ _
       subst hx
       have hc : cur[0]? = some (.bool m.st) := by
        cases h with
        | sl e xs A n c us hn hc hm hs h hr =>
          have h3 : (((m :: r).map mtV).flatMap V.cells)[0]? = some (.bool m.st) := rfl
          obtain ⟨b', off, e1, h4, h5⟩ := h 0 _ h3
          injection e1 with e1; injection e1 with e1 e2
          subst e1; subst e2
          have h6 := hr 0 _ h3
          generalize us 0 = u at h5 h6
          cases h6
          rw [GA w b (0 + 0) _ _ _ h2] at h5
          exact h5
       simp only [a0I, GH, List.not_mem_nil, or_false] at hb
       rcases hb with hb | hb | hb | hb
       . rw [g1 hb] at hc; exact b9V hc
       . obtain ⟨z, hz⟩ := g2 hb; rw [hz] at hc; cases hc
       . rw [g3 hb] at hc; exact b9V hc
       . rw [g4 hb] at hc; exact b9V hc
theorem b8Y {dead : List Pos} {us : Array FX} {u : FX} (h : RepD E g w dead (pkD p) (.agg us)) (hu : us.getD 5 undef = u) : RepV g w (.sl 47 (p.mts.map mtV)) u := by
 unfold pkD at h
 cases h with
 | agg ds us hn hr =>
   have := hr 5 _ rfl
   rw [hu] at this
   cases this with | v x a u h ha => exact h
structure LawG (N : Nat) (p : Pk) (E : Env) (hb : List UInt8) (g : G) (w : Gc) : Prop where
 hN : 100000 < N
 kp : KPk p
 enc : Y5 N p.aid p.ma p.mi (p.ims.map imV) (p.cls.map clV) (p.mts.map mtV) (p.sts.map tpV) (p.aps.map apV) = some (wPk p, 0)
 chk : a0M N p.aid p.ma p.mi (p.ims.map imV) (p.cls.map clV) (p.mts.map mtV) (p.sts.map tpV) (p.aps.map apV) = some 0
 h1 : H8 Tryz.prog T 11 [.v (.bytes (wPk p)) .no] [.v (.bytes hb) .no]
 h2 : H8 Tryz.prog T 12 [.v (.bytes (wPk p)) .no] [.v (.bytes hb) .no]
 hl : hb.length <= 900
 sk : SzOK T g w
 glob : ∀ b, b < w.heap.size -> g.Γ b = .imm -> b ∈ a0I
 perm : ∀ b, b < w.heap.size -> g.Γ b = .imm ∨ ∃ n, g.Γ b = .low n
theorem d0S {N : Nat} {hb : List UInt8} (hG : LawG N p E hb g w) {g2 g4 : G} {w2 w4 : Gc} {E4 : Env} {bv : FX} {pcs : Array FX} (hp2 : w2.heap[w.heap.size]? = some (.cells pcs 29 (0, 0))) (hl2 : g2.Γ w.heap.size = .low 0) (ho2 : ∀ b, b < w.heap.size -> g2.Γ b = g.Γ b) (hbv : RepV g2 w2 (.bytes (wPk p)) bv) (hgr : Grows w w2) (hrp : RepD E g2 w2 [] (pkD p) (.agg pcs))
 {A0 : Option Addr} {n0 k0 : Nat} {A3 : Option Addr} {n3 k3 : Nat} {A4 : Option Addr} {n4 k4 : Nat} {A5 : Option Addr} {n5 k5 : Nat} {A6 : Option Addr} {n6 k6 : Nat} {A7 : Option Addr} {n7 k7 : Nat}
 (hq : RepD E4 g4 w4 [] (.agg [.v (.bytes p.aid) .no, .v (.int .i64 p.ma) .no, .v (.int .i64 p.mi) .no, .v (.sl 58 (p.ims.map imV)) .no, .v (.sl 64 (p.cls.map clV)) .no, .v (.rowI 47 (p.mts.map mtV)) .no, .v (.sl 44 (p.sts.map tpV)) .no, .v (.sl 67 (p.aps.map apV)) .no]) (.agg #[.slice A0 n0 k0, .int .i64 p.ma, .int .i64 p.mi, .slice A3 n3 k3, .slice A4 n4 k4, .slice A5 n5 k5, .slice A6 n6 k6, .slice A7 n7 k7]))
 (hs4 : SzOK T g4 w4) (ht4 : Tr 0 g2.hide w2 g4 w4) :
 LawI w p E bv pcs #[.slice A0 n0 k0, .int .i64 p.ma, .int .i64 p.mi, .slice A3 n3 k3, .slice A4 n4 k4, .slice A5 n5 k5, .slice A6 n6 k6, .slice A7 n7 k7] w4.heap.size A5 (over g4 w4.heap.size) (w4.alloc (.cells #[.slice A0 n0 k0, .int .i64 p.ma, .int .i64 p.mi, .slice A3 n3 k3, .slice A4 n4 k4, .slice A5 n5 k5, .slice A6 n6 k6, .slice A7 n7 k7] 29)) /\ w4.heap[w.heap.size]? = some (.cells pcs 29 (0, 0)) := by
 have hg5 : Grows w4 (w4.alloc (.cells #[.slice A0 n0 k0, .int .i64 p.ma, .int .i64 p.mi, .slice A3 n3 k3, .slice A4 n4 k4, .slice A5 n5 k5, .slice A6 n6 k6, .slice A7 n7 k7] 29)) := Grows.alloc w4 _
 have hl5 := T7 (g := g4) hg5
 have b0G := G7 hp2
 obtain ⟨z1, z2⟩ := ht4.hid w.heap.size b0G (W1 _)
 have hl4 : g4.Γ w.heap.size = .low 0 := by rw [z1]; show (g2.Γ w.heap.size).hid = _; rw [hl2]; rfl
 have hp4 : w4.heap[w.heap.size]? = some (.cells pcs 29 (0, 0)) := by rw [z2]; exact hp2
 have e5X := G7 hp4
 have e5Y : Later g2 w2 g4 w4 := (O1 g2 w2).trans ht4.later
 have hb4 : Below w.heap.size w w4 := (a1W hgr).trans (Below.mono ⟨ht4.os, ht4.tape, ht4.output, ht4.size, fun b hb => (ht4.hid b hb (W1 _)).2⟩ hgr.size)
 have h5 : RepV g4 w4 (.rowI 47 (p.mts.map mtV)) (.slice A5 n5 k5) := by
  cases hq with
  | agg ds us hn hr =>
    have := hr 5 _ rfl
    cases this with | v x a u h ha => exact h
 refine ⟨⟨hs4.later hl5, hb4.trans ((a1W hg5).mono hb4.size), by rw [hg5.old _ e5X]; exact hp4, Hf w4 _, (if_pos e5X).trans hl4, if_neg (by omega), (hrp.far_ (E' := E) (dead' := []) e5Y rfl).far_ (E' := E) (dead' := []) hl5 rfl, (c1t hq).far_ (E' := E) (dead' := []) hl5 rfl, (hbv.later e5Y).later hl5, ?_⟩, hp4⟩
 rcases d9O hs4 h5 with h0 | ⟨bm, cur, e, q1, q2, q3⟩
 . exact .inl h0
 . have hbm := G7 q2
   refine .inr ⟨bm, cur, e, (if_pos hbm).trans q1, by rw [hg5.old _ hbm]; exact q2, ?_, by omega, q3⟩
   rcases Nat.lt_trichotomy bm w.heap.size with hlt | heq | hgt
   . exfalso
     have hb2 : bm < w2.heap.size := Nat.lt_of_lt_of_le hlt hgr.size
     have := (ht4.hid bm hb2 (W1 _)).1
     rw [q1] at this
     have h7 : (g2.Γ bm).hid = .imm := this.symm
     rw [ho2 bm hlt] at h7
     rcases hG.perm bm hlt with h8 | ⟨n, h8⟩
     . exact q3 (hG.glob bm hlt h8)
     . rw [h8] at h7; cases h7
   . subst heq; rw [hl4] at q1; cases q1
   . exact hgt
set_option maxHeartbeats 4000000 in
theorem e2O {N : Nat} {hb : List UInt8} (hG : LawG N p E hb g w) {v : FX} (hv : RepD E g w [] (pkD p) v) :
 IF Tryz.prog 3 #[v] w fun e w' => e = .returned (.bool true) /\ Below w.heap.size w w' := by
 obtain ⟨A0, n0, k0, A3, n3, k3, A4, n4, k4, A5, n5, k5, A6, n6, k6, A7, n7, k7, rfl⟩ := b7l hv
 have hg1 : Grows w (w.alloc (.cells #[.slice A0 n0 k0, .int .i64 p.ma, .int .i64 p.mi, .slice A3 n3 k3, .slice A4 n4 k4, .slice A5 n5 k5, .slice A6 n6 k6, .slice A7 n7 k7] 29)) := Grows.alloc w _
 have hl1 := T7 (g := g) hg1
 have e5Z := hv.far_ (E' := E) (dead' := []) hl1 rfl
 have e6a := hG.sk.later hl1
 have H := Gx (Gf hG (Gf e6a (Gf e5Z hg1)))
 clear hG hv hg1 hl1 e5Z e6a
 go_enter Tryz.func3, Tryz.ntmps3
 go_wp2_with fail
 refine (a9G N _ _ _ _ _ _ _ _ _ _ H.out.1.enc E _ _ [_] H.out.2.1 (b2A H.out.2.2.1)).mono ?_
 rintro e w2 ⟨us, g2, rfl, hu, ht⟩
 obtain ⟨bv, ev, rfl, hb2, hev⟩ := b9C (hu E)
 obtain rfl := Y2 hev
 rw [show S0 [bv, Ib .i64 0] = .tuple #[bv, .int .i64 0] from rfl]
 have hp2 : w2.heap[w.heap.size]? = some (.cells #[.slice A0 n0 k0, .int .i64 p.ma, .int .i64 p.mi, .slice A3 n3 k3, .slice A4 n4 k4, .slice A5 n5 k5, .slice A6 n6 k6, .slice A7 n7 k7] 29 (0, 0)) := by
  rw [ht.grows.old _ (by simp)]; exact Hf w _
 have hl2 : g2.Γ w.heap.size = .low 0 := by rw [ht.old _ (by simp)]; exact if_neg (by omega)
 have ho2 : ∀ b, b < w.heap.size -> g2.Γ b = g.Γ b := fun b hb => by rw [ht.old b (by simp; omega)]; exact if_pos hb
 have hbv : RepV g2 w2 (.bytes (wPk p)) bv := by cases hb2 with | v x a u h ha => exact h
 have HB := Gx (Gf hp2 (Gf hl2 (Gf ho2 (Gf hbv (Gf (H.out.2.2.2.trans ht.grows) (Gf (H.out.2.1.later ht.later) (H.out.2.2.1.far_ (E' := E) (dead' := []) ht.later rfl)))))))
 clear hp2 hl2 ho2 hbv hu hb2 hev ht
 go_wp2_with fail
 refine (c5t (d6b N (by have := H.out.1.hN; omega) H.out.1.kp.1) H.out.1.chk H.out.1.kp.2.2 HB.out.2.2.2.2.2.1 HB.out.2.2.2.1).mono ?_
 rintro e w4 ⟨qv, g4, E4, rfl, hq, hs4, ht4⟩
 obtain ⟨B0, m0, l0, B3, m3, l3, B4, m4, l4, B5, m5, l5, B6, m6, l6, B7, m7, l7, rfl⟩ := c3b hq
 obtain ⟨hI, hp4⟩ := d0S H.out.1 HB.out.1 HB.out.2.1 HB.out.2.2.1 HB.out.2.2.2.1 HB.out.2.2.2.2.1 HB.out.2.2.2.2.2.2 hq hs4 ht4
 have HI := Gx hI
 have hlt : w.heap.size < w4.heap.size := G7 hp4
 have c0 := fun j => GA _ _ j _ _ _ hp4
 have d0 : w4.cell? ⟨w.heap.size, 0, none⟩ = some (.slice A0 n0 k0) := c0 0
 have d1 : w4.cell? ⟨w.heap.size, 1, none⟩ = some (.int .i64 p.ma) := c0 1
 have d2 : w4.cell? ⟨w.heap.size, 2, none⟩ = some (.int .i64 p.mi) := c0 2
 have d3 : w4.cell? ⟨w.heap.size, 3, none⟩ = some (.slice A3 n3 k3) := c0 3
 have d4 : w4.cell? ⟨w.heap.size, 4, none⟩ = some (.slice A4 n4 k4) := c0 4
 have d5 : w4.cell? ⟨w.heap.size, 5, none⟩ = some (.slice A5 n5 k5) := c0 5
 have d6 : w4.cell? ⟨w.heap.size, 6, none⟩ = some (.slice A6 n6 k6) := c0 6
 have d7 : w4.cell? ⟨w.heap.size, 7, none⟩ = some (.slice A7 n7 k7) := c0 7
 clear hI hq hs4 ht4 hp4 c0
 go_wp2_with fail
 refine (d8n N _ _ _ _ _ _ _ _ _ _ _ _ _ _ _ _ _ (c5m N (by have := H.out.1.hN; omega) p H.out.1.kp.2.1) E _ _ [_, _] HI.out.sk (d2Y HI.out.rp HI.out.rq)).mono ?_
 rintro e w6 ⟨us6, g6, rfl, hu6, ht6⟩
 obtain ⟨sv, rfl, hsv⟩ := a4r (hu6 E)
 obtain rfl := b8V hsv
 rw [show S0 [KC true] = .bool true from rfl]
 have HI6 := Gx (HI.out.pure ht6)
 clear hu6 hsv ht6 d0 d1 d2 d3 d4 d5 d6 d7 HI
 go_wp2_with fail
 go_loopg [7] p.mts.length (fun m i wr => ∃ (k : Nat) (gr : G), k <= p.mts.length /\ m = p.mts.length - k /\ i = .int .i64 (k : Int) /\ LawI w p E bv #[.slice A0 n0 k0, .int .i64 p.ma, .int .i64 p.mi, .slice A3 n3 k3, .slice A4 n4 k4, .slice A5 n5 k5, .slice A6 n6 k6, .slice A7 n7 k7] #[.slice B0 m0 l0, .int .i64 p.ma, .int .i64 p.mi, .slice B3 m3 l3, .slice B4 m4 l4, .slice B5 m5 l5, .slice B6 m6 l6, .slice B7 m7 l7] w4.heap.size B5 gr wr)
 case atStart => exact ⟨0, g6, Hq _, rfl, rfl, HI6.out⟩
 case round =>
  obtain ⟨k, gr, hk, hm, rfl, hI⟩ := hrel
  have hI2 := hI
  have dq : wr.cell? ⟨w4.heap.size, 5, none⟩ = some (.slice B5 m5 l5) := GA _ _ 5 _ _ _ hI.hq
  have dp : wr.cell? ⟨w.heap.size, 5, none⟩ = some (.slice A5 n5 k5) := GA _ _ 5 _ _ _ hI.hp
  have hrq : RepV gr wr (.sl 47 (p.mts.map mtV)) (.slice B5 m5 l5) := b8Y hI.rq rfl
  have hrp : RepV gr wr (.sl 47 (p.mts.map mtV)) (.slice A5 n5 k5) := b8Y hI.rp rfl
  obtain ⟨e1, e2, e3⟩ := b5u hrq
  obtain ⟨f1, f2, f3⟩ := b5u hrp
  have hml : p.mts.length <= 1000 := IL H.out.1.kp.2.1.2.2.2.1.1 (by decide)
  by_cases b0G : k < p.mts.length
  . obtain ⟨mt, hmt⟩ : ∃ mt, p.mts[k]? = some mt := ⟨_, FQ b0G⟩
    obtain ⟨bp, op, Ap, np, cp, rfl, hcp, e6b⟩ := f3 k mt hmt
    have hcode : mt.code.length <= 256 /\ M7 mt.code = 0 := by
     have := (H.out.1.kp.1.2.2.2.2.2.1.2 mt (Gb hmt))
     exact ⟨this.2.2.2.2.2.1.1, this.2.2.2.2.2.1.2.1⟩
    obtain ⟨s, hs1, _, hs2⟩ := b3W N H.out.1.hN mt.code hcode.1 hcode.2
    have hk1 : k < m5 := by omega
    have hk2 : k < n5 := by omega
    have hn5 : n5 <= 1000 := by omega
    have hm5 : m5 <= 1000 := by omega
    have HR := Gx (Gf hI2 (Gf hs1 (Gf hs2 (Gf e6b (Gf e3 (Gf hmt (Gf hm hk)))))))
    clear hI hI2 hs1 hs2 e6b e3 f3 hmt hm hk hrq hrp hcode e1 e2 f1 f2 hml
    have e7f : wr.cell? ⟨bp, op + k * 11 + 9, none⟩ = some (.slice Ap np cp) := by rw [Hu]; exact hcp
    clear hcp
    go_wp2_with fail
    refine (e0y N _ _ HR.out.2.1 E gr wr [_] HR.out.1.sk (b2A (.v _ _ _ HR.out.2.2.2.1 trivial))).mono ?_
    rintro e w7 ⟨us7, g7, rfl, hu7, ht7⟩
    obtain ⟨tv, rfl, htv⟩ := a4r (hu7 E)
    rw [show S0 [tv] = tv from rfl]
    have H7 := Gx (Gf (HR.out.1.pure ht7) htv)
    clear hu7 htv ht7
    go_wp2_with fail
    refine (d3u N _ _ _ HR.out.2.2.1 E g7 w7 [_] H7.out.1.sk (b2A H7.out.2)).mono ?_
    rintro e w8 ⟨us8, g8, rfl, hu8, ht8⟩
    obtain ⟨lv, fv, rfl, hlv, hfv⟩ := b9C (hu8 E)
    obtain rfl := Y2 hfv
    obtain ⟨Al, nl, cl, rfl⟩ := a1T hlv
    rw [show S0 [Hr Al nl cl, Ib .i64 0] = .tuple #[.slice Al nl cl, .int .i64 0] from rfl]
    have hI8 := H7.out.1.pure ht8
    have dq8 : w8.cell? ⟨w4.heap.size, 5, none⟩ = some (.slice B5 m5 l5) := GA _ _ 5 _ _ _ hI8.hq
    have e8 := (b5u (b8Y hI8.rq rfl)).2.2
    obtain ⟨bm', om', Aq, nq, cq, q1, hcq, e6c⟩ := e8 k mt HR.out.2.2.2.2.2.1
    have hne : p.mts ≠ [] := fun h0 => by rw [h0] at b0G; exact absurd b0G (Is _)
    rcases hI8.row with h0 | ⟨bm, cur, q2, q3, q4, _⟩
    . exact absurd h0 hne
    . rw [q2] at q1
      injection q1 with q1; injection q1 with q5 q6
      subst q5; subst q6
      subst q2
      have e7g : w8.cell? ⟨bm, k * 11 + 9, none⟩ = some (.slice Aq nq cq) := by rw [show k * 11 + 9 = 0 + (k * 11 + 9) by omega]; exact hcq
      have hfq : w8.frozen? ⟨bm, k * 11 + 9, none⟩ = false := IB _ _ _ _ _ q4
      have hrl : RepV g8 w8 (.sl 54 (iE mt.code)) (.slice Al nl cl) := by cases hlv with | v x a u h ha => exact h
      have HP := Gx (hI8.put hne e7g e6c hrl)
      clear hu8 hlv hfv ht8 hI8 e8 hcq e6c q3 q4 hrl hne e7f dq dp
      have hmk : p.mts.length - (k + 1) < gk := by have := HR.out.2.2.2.2.2.2.1; omega
      go_wp2_with fail
      go_roundg (p.mts.length - (k + 1))
      case measure => exact hmk
      case rel => exact ⟨k + 1, g8, b0G, rfl, by go_num, HP.out⟩
  . have hkn : ¬ (k < m5) := by omega
    have c0 := fun j => GA _ _ j _ _ _ hI.hq
    have b0 : wr.cell? ⟨w4.heap.size, 0, none⟩ = some (.slice B0 m0 l0) := c0 0
    have b1 : wr.cell? ⟨w4.heap.size, 1, none⟩ = some (.int .i64 p.ma) := c0 1
    have b2 : wr.cell? ⟨w4.heap.size, 2, none⟩ = some (.int .i64 p.mi) := c0 2
    have b3 : wr.cell? ⟨w4.heap.size, 3, none⟩ = some (.slice B3 m3 l3) := c0 3
    have b4 : wr.cell? ⟨w4.heap.size, 4, none⟩ = some (.slice B4 m4 l4) := c0 4
    have b6 : wr.cell? ⟨w4.heap.size, 6, none⟩ = some (.slice B6 m6 l6) := c0 6
    have b7 : wr.cell? ⟨w4.heap.size, 7, none⟩ = some (.slice B7 m7 l7) := c0 7
    have HR := Gx hI2
    have hm5 : m5 <= 1000 := by omega
    clear hI hI2 c0 e1 e2 e3 f1 f2 f3 hrq hrp hm hml hk b0G
    go_wp2_with fail
    refine (a9G N _ _ _ _ _ _ _ _ _ _ H.out.1.enc E gr wr [_] HR.out.sk (b2A HR.out.rq)).mono ?_
    rintro e w9 ⟨us9, g9, rfl, hu9, ht9⟩
    obtain ⟨cv, ev, rfl, hc9, hev⟩ := b9C (hu9 E)
    obtain rfl := Y2 hev
    rw [show S0 [cv, Ib .i64 0] = .tuple #[cv, .int .i64 0] from rfl]
    have H9 := Gx (Gf (HR.out.pure ht9) hc9)
    clear hu9 hc9 hev ht9 b0 b1 b2 b3 b4 b6 b7 dq dp
    go_wp2_with fail
    have e6d := a3Y N (wPk p) (by have := H.out.1.kp.2.2; have := H.out.1.hN; omega) (by have := H.out.1.kp.2.2; omega)
    refine (b6b N _ _ _ e6d E g9 w9 [_, _] H9.out.1.sk (d2Y (.v _ _ _ H9.out.1.rb trivial) H9.out.2)).mono ?_
    rintro e wa ⟨usa, ga, rfl, hua, hta⟩
    obtain ⟨za, rfl, hza⟩ := a4r (hua E)
    obtain rfl := Y2 hza
    rw [show S0 [Ib .i64 0] = .int .i64 0 from rfl]
    have HA := Gx (Gf (H9.out.1.pure hta) (H9.out.2.far_ (E' := E) (dead' := []) hta.later rfl))
    clear hua hza hta e6d
    go_wp2_with fail
    refine (H.out.1.h1 E ga wa [_] HA.out.1.sk (b2A (.v _ _ _ HA.out.1.rb trivial))).mono ?_
    rintro e wb ⟨usb, gb, rfl, hub, htb⟩
    obtain ⟨hv1, rfl, hh1⟩ := a4r (hub E)
    rw [show S0 [hv1] = hv1 from rfl]
    have HB1 := Gx (Gf (HA.out.1.pure htb) (Gf (HA.out.2.far_ (E' := E) (dead' := []) htb.later rfl) hh1))
    clear hub hh1 htb
    go_wp2_with fail
    refine (H.out.1.h2 E gb wb [_] HB1.out.1.sk (b2A HB1.out.2.1)).mono ?_
    rintro e wc ⟨usc, gc, rfl, huc, htc⟩
    obtain ⟨hv2, rfl, hh2⟩ := a4r (huc E)
    rw [show S0 [hv2] = hv2 from rfl]
    have HC := Gx (Gf (HB1.out.1.pure htc) (Gf (HB1.out.2.2.far_ (E' := E) (dead' := []) htc.later rfl) hh2))
    clear huc hh2 htc
    go_wp2_with fail
    have e1x := a3Y N hb (by have := H.out.1.hl; have := H.out.1.hN; omega) (by have := H.out.1.hl; omega)
    refine (b6b N _ _ _ e1x E gc wc [_, _] HC.out.1.sk (d2Y HC.out.2.1 HC.out.2.2)).mono ?_
    rintro e wd ⟨usd, gd, rfl, hud, htd⟩
    obtain ⟨zd, rfl, hzd⟩ := a4r (hud E)
    obtain rfl := Y2 hzd
    rw [show S0 [Ib .i64 0] = .int .i64 0 from rfl]
    have HD := Gx (HC.out.1.pure htd)
    clear hud hzd htd e1x
    go_wp2_with fail
    refine (c3p N true (b0L N H.out.1.hN) E gd wd [] HD.out.sk e1m).mono ?_
    rintro e we ⟨use, ge, rfl, hue, hte⟩
    obtain ⟨sv, rfl, hsv⟩ := a4r (hue E)
    obtain rfl := b8V hsv
    rw [show S0 [KC true] = .bool true from rfl]
    have HE := Gx (HD.out.pure hte)
    clear hue hsv hte
    go_wp2_with fail
    go_ret
    exact ⟨rfl, HE.out.below⟩
end
end En
namespace En
open Go Go.RowKit
def a8n (T : FP -> Option Ty) : G := { Γ := fun _ => .imm, J := fun _ _ => 0, sz := U5 T }
theorem b2O (T : FP -> Option Ty) (b o : Nat) : s5 (a8n T) b o := trivial
def b1q (row : Bool) (cs : List V) : V := match row with | true => .agg cs | false => cs.headD .nilI
def c0j (F : FP -> List V -> Prop) : List Kt -> List V -> Prop
 | [], xs => xs = []
 | f :: fs, xs => ∃ a r, xs = a ++ r /\ F f.type a /\ c0j F fs r
def Fits (T : FP -> Option Ty) : Nat -> FP -> List V -> Prop
 | 0, _, _ => False
 | n + 1, t, xs => match T t with
   | none => False
   | some ty => match ty.desc with
     | .bool => ∃ b, xs = [.bool b]
     | .int k => ∃ i, xs = [.int k i] /\ k.min <= i /\ i <= k.max
     | .string => ∃ s, xs = [.str s] /\ s.length <= maxLen
     | .slice e => match ty.cks with
       | [.bytes _] => ∃ s, xs = [.bytes s] /\ s.length <= maxLen
       | [.slc e'] => e' = e /\ ∃ ys, xs = [.sl e ys] /\ ys.length <= maxLen /\ ∀ y ∈ ys, ∃ te cs, T e = some te /\ y = b1q te.row cs /\ Fits T n e cs
       | _ => False
     | .struct fs => c0j (Fits T n) fs.toList xs
     | _ => False
def readable (T : FP -> Option Ty) (t : FP) : Bool :=
 match T t with
 | none => false
 | some ty => match ty.desc with
   | .bool => true
   | .int _ => true
   | .string => true
   | .slice e => (match T e with
     | none => false
     | some te => (match ty.cks with
       | [.bytes _] => (match te.desc with | .int .u8 => FZ te.size 1 | _ => false)
       | [.slc e'] => FZ e' e && Nat.ble 1 te.size && (match te.row with | true => true | false => FZ te.size 1)
       | _ => false))
   | .struct fs => a0P T ty.size 0 fs.toList && fs.toList.all (fun f => match T f.type with | some _ => true | none => false)
   | _ => false
def b1B (T : FP -> Option Ty) (l : List FP) : Bool :=
 l.all fun t => readable T t && (match T t with
  | none => false
  | some ty => match ty.desc with
    | .slice e => l.any (FZ e)
    | .struct fs => fs.toList.all fun f => l.any (FZ f.type)
    | _ => true)
section
variable {H : Type} {enc : FP × FX -> H} {P : Gu} {T : FP -> Option Ty} {w : Gc} {base : Nat} {spare : Nat -> Bool} {held : Bool}
structure RepC (T : FP -> Option Ty) (w : Gc) (xs : List V) (cs : List FX) : Prop where
 len : xs.length = cs.length
 one : ∀ x ∈ xs, x.one = true
 rep : ∀ (k : Nat) y, xs[k]? = some y -> RepV (a8n T) w y (cs.getD k undef)
theorem RepC.single {x : V} {v : FX} (h1 : x.one = true) (h : RepV (a8n T) w x v) : RepC T w [x] [v] :=
 ⟨rfl, fun y hy => by simp at hy; subst hy; exact h1, fun k y hk => by
  rcases k with _ | k
  . simp at hk; subst hk; simpa using h
  . simp at hk⟩
theorem RepC.append {xs ys : List V} {cs ds : List FX} (h : RepC T w xs cs) (k : RepC T w ys ds) : RepC T w (xs ++ ys) (cs ++ ds) := by
 refine ⟨by simp [h.len, k.len], fun x hx => ?_, fun i y hy => ?_⟩
 . rcases List.mem_append.1 hx with hx | hx
   . exact h.one x hx
   . exact k.one x hx
 . rcases Hi i xs.length with hl | hl
   . rw [Gh hl] at hy
     have := h.rep i y hy
     rw [FV, Gh (by rw [← h.len]; exact hl), ← FV]
     exact this
   . rw [Gk hl] at hy
     have := k.rep _ y hy
     rw [FV, Gk (by rw [← h.len]; exact hl), ← h.len, ← FV]
     exact this
theorem a7l (hT : D7 P T) {t : FP} {ty : Ty} (h : T t = some ty) : P.cellsOf t = ty.size := by
 obtain ⟨i, h1, _, h2, _⟩ := (hT t ty h).info
 simp [Program.cellsOf, h1, h2]
theorem a8p {t : FP} {ty : Ty} (h : T t = some ty) : U5 T t = ty.size := by unfold U5; rw [h]
theorem b5l (b off i : Nat) : (⟨b, off, none⟩ : Addr).add i = ⟨b, off + i, none⟩ := by
 unfold Addr.add
 by_cases h0 : i = 0
 . subst h0; rfl
 . rw [if_neg h0]
theorem c0w {a : Addr} {n k : Nat} {cs : List FX} (h : w.cells? base (a.add (0 * n)) k = some cs) (hk : 0 < k) : a.spot = none := by
 obtain ⟨_, hl, h5⟩ := Kl h
 have h6 := h5 0 hk
 rw [FQ (by omega)] at h6
 have := World.cell?_spot h6
 simpa [Addr.add] using this
theorem b3u {row : Bool} {cs : List V} (ho : ∀ x ∈ cs, x.one = true) (h : row = false -> cs.length = 1) : (b1q row cs).cells = cs := by
 cases row with
 | true => rfl
 | false =>
   have := h rfl
   match cs, this with
   | [x], _ =>
     have := ho x (by simp)
     show V.cells x = [x]
     cases x <;> first | rfl | cases this
theorem d9I {row : Bool} {cs : List V} {n : Nat} (hl : cs.length = n) (ho : ∀ x ∈ cs, x.one = true) (h : row = false -> cs.length = 1) : b4a n (b1q row cs) = true := by
 unfold b4a
 rw [b3u ho h]
 simp only [FT, beq_iff_eq, Hg]
 exact ⟨hl, ho⟩
theorem a6k {α : Type} {n : Nat} : ∀ (l : List (List α)) (i j : Nat) (c : List α), (∀ c ∈ l, c.length = n) -> l[i]? = some c -> j < n -> l.flatten[i * n + j]? = c[j]?
 | [], i, j, c, _, h, _ => by simp at h
 | d :: l, 0, j, c, hl, h, hj => by
   simp at h; subst h
   have := hl d (by simp)
   rw [Km, Nat.zero_mul, Nat.zero_add, Gh (by omega)]
 | d :: l, i + 1, j, c, hl, h, hj => by
   have hd := hl d (by simp)
   rw [Km, LS, Gk (by omega)]
   rw [show i * n + n + j - d.length = i * n + j by omega]
   exact a6k l i j c (fun c hc => hl c (by simp [hc])) (by simpa using h) hj
theorem b7r {α : Type} {n : Nat} : ∀ (l : List (List α)), (∀ c ∈ l, c.length = n) -> l.flatten.length = l.length * n
 | [], _ => by simp
 | d :: l, h => by
   rw [Km, List.length_append, h d (by simp), b7r l fun c hc => h c (by simp [hc]), List.length_cons, LS]; omega
theorem a5g {α : Type} {p : Nat -> α -> Prop} : ∀ (n : Nat), (∀ i, i < n -> ∃ a, p i a) -> ∃ l : List α, l.length = n /\ ∀ (i : Nat) a, l[i]? = some a -> p i a
 | 0, _ => ⟨[], rfl, fun i a h => by simp at h⟩
 | n + 1, h => by
   obtain ⟨l, h1, h2⟩ := a5g n fun i hi => h i (by omega)
   obtain ⟨a, ha⟩ := h n (by omega)
   refine ⟨l ++ [a], by simp [h1], fun i b hb => ?_⟩
   rcases Hi i l.length with hl | hl
   . rw [Gh hl] at hb; exact h2 i b hb
   . rw [Gk hl] at hb
     have : i = n := by
      have := (FN.1 hb).1
      simp at this; omega
     subst this
     rw [h1] at hb
     simp at hb
     subst hb; exact ha
theorem b3Z (hT : D7 P T) {l : List FP} (hl : b1B T l = true) : ∀ (fuel : Nat) (t : FP) (cs : List FX) (x : LU H × List Le), t ∈ l -> LG enc P w base spare held fuel t cs = some x ->
 ∃ xs, RepC T w xs cs /\ Fits T fuel t xs /\ ∀ ty, T t = some ty -> cs.length = ty.size
 | 0, t, cs, x, _, h => by simp [LG] at h
 | n + 1, t, cs, x, hm, h => by
   have hcl := Hg.1 hl t hm
   simp only [FT] at hcl
   obtain ⟨hre, b7E⟩ := hcl
   unfold Fits
   unfold readable at hre
   cases hTt : T t with
   | none => rw [hTt] at hre; simp at hre
   | some ty =>
   rw [hTt] at hre b7E
   simp only at hre b7E ⊢
   have hd := (hT t ty hTt).desc
   have h1c : ty.row = false -> ty.size = 1 := (hT t ty hTt).one
   cases C9 : ty.desc <;> rw [C9] at hre b7E hd <;> simp only [Bool.false_eq_true] at hre b7E ⊢
   . obtain ⟨b, rfl, _⟩ := DataW.trod_bool hd h
     exact ⟨[.bool b], .single rfl (.bool b), ⟨b, rfl⟩, fun ty' e => by cases e; rw [h1c (by simp [Ty.row, C9])]; rfl⟩
   . rename_i k
     obtain ⟨i, rfl, _, hwf⟩ := Kd hd h
     have hb : k.min <= i /\ i <= k.max := by simpa [Lit.wf] using hwf
     exact ⟨[.int k i], .single rfl (.int k i hb), ⟨i, rfl, hb⟩, fun ty' e => by cases e; rw [h1c (by simp [Ty.row, C9])]; rfl⟩
   . obtain ⟨s, rfl, _, hs⟩ := DataW.trod_string hd h
     have e : s = ⟨s.data.toList.toArray⟩ := by cases s; simp
     have hsl : s.data.toList.length = s.size := by cases s; rfl
     refine ⟨[.str s.data.toList], .single rfl ?_, ⟨_, rfl, by rw [hsl]; exact hs⟩, fun ty' e => by cases e; rw [h1c (by simp [Ty.row, C9])]; rfl⟩
     have := RepV.str (g := a8n T) (w := w) s.data.toList (by rw [hsl]; unfold maxLen at hs; omega)
     rwa [← e] at this
   . rename_i e
     cases hTe : T e with
     | none => rw [hTe] at hre; simp at hre
     | some te =>
     rw [hTe] at hre
     simp only at hre
     have hsz := a7l hT hTe
     have e0G : e ∈ l := by
      obtain ⟨z, hz, hb⟩ := KB.1 b7E
      have := FM hb
      subst this; exact hz
     have a4x : ∀ ty', some ty = some ty' -> ∀ v : FX, [v].length = ty'.size := fun ty' e v => by cases e; rw [h1c (by simp [Ty.row, C9])]; rfl
     split at hre
     . rename_i e0 c6M
       split at hre
       . rename_i hte
         have e0L := FM hre
         rw [e0L] at hsz
         have hde := (hT e te hTe).desc
         rw [hte] at hde
         rcases Mc hd h with ⟨rfl, _⟩ | ⟨a, len, cap, elems, rest, m, e1, rfl, _, hb, hlc, hcm, hel, Q7, _, _⟩
         . exact ⟨[.bytes []], .single rfl (.bytes [] none 0 0 rfl (FW _) (by simp) (fun k x hx => by simp at hx)), ⟨[], rfl, by simp⟩, fun ty' e => a4x ty' e _⟩
         . have key : ∀ i, i < len -> ∃ b : UInt8, ∃ bb off, a = ⟨bb, off, none⟩ /\ w.cell? ⟨bb, off + i, none⟩ = some (.int .u8 (b.toNat : Int)) := by
            intro i hi
            have h2 := Q7 i hi
            rw [FQ (by rw [hel]; exact hi), IJ] at h2
            obtain ⟨cs, h3, h4⟩ := h2
            obtain ⟨z, rfl, _, hwf⟩ := Kd hde h4
            rw [hsz, Nat.mul_one] at h3
            obtain ⟨_, _, h5⟩ := Kl h3
            have h6 := h5 0 (by omega)
            simp at h6
            have hzr : 0 <= z /\ z <= 255 := by simpa [Lit.wf, IntKind.min, IntKind.max, IntKind.signed, IntKind.bits] using hwf
            have d7f : a.spot = none := by
             have h2 := Q7 0 (by omega)
             rw [FQ (by omega), IJ] at h2
             obtain ⟨cs, h3, _⟩ := h2
             exact c0w h3 (by omega)
            obtain ⟨bb, off, sp⟩ := a
            simp only at d7f
            subst d7f
            refine ⟨UInt8.ofNat z.toNat, bb, off, rfl, ?_⟩
            rw [b5l] at h6
            have hz2 : (off + i + 0) = off + i := rfl
            rw [show ((UInt8.ofNat z.toNat).toNat : Int) = z by rw [UInt8.toNat_ofNat', Nat.mod_eq_of_lt (by omega)]; omega]
            simpa [Addr.add] using h6
           obtain ⟨bs, b1, b2⟩ := a5g len key
           refine ⟨[.bytes bs], .single rfl (.bytes bs (some a) len cap b1 hlc hcm fun k x hx => ?_), ⟨bs, rfl, by omega⟩, fun ty' e => a4x ty' e _⟩
           obtain ⟨bb, off, c1, c2⟩ := b2 k x hx
           exact ⟨bb, off, by rw [c1], b2O T _ _, c2⟩
       . cases hre
     . rename_i e0 c6M
       simp only [FT] at hre
       obtain ⟨⟨he0, e0L⟩, N7⟩ := hre
       have he0 := FM he0
       have e0L := Nat.le_of_ble_eq_true e0L
       have b1n : te.row = false -> te.size = 1 := (hT e te hTe).one
       have e7h : (a8n T).sz e = te.size := a8p hTe
       rcases Mc hd h with ⟨rfl, _⟩ | ⟨a, len, cap, elems, rest, m, e1, rfl, _, hb, hlc, hcm, hel, Q7, _, _⟩
       . exact ⟨[.sl e []], .single rfl (.sl e [] none 0 0 (fun _ => undef) rfl (FW _) (by simp) (by simp) (fun k y hy => by simp at hy) (fun k y hy => by simp at hy)), ⟨he0, [], rfl, by simp, by simp⟩, fun ty' e => a4x ty' e _⟩
       . obtain rfl : n = m := by omega
         have key : ∀ i, i < len -> ∃ p : List V × List FX, RepC T w p.1 p.2 /\ Fits T n e p.1 /\ p.2.length = te.size /\ ∃ bb off, a = ⟨bb, off, none⟩ /\ ∀ j, j < te.size -> w.cell? ⟨bb, off + (i * te.size + j), none⟩ = some (p.2.getD j undef) := by
          intro i hi
          have h2 := Q7 i hi
          rw [FQ (by rw [hel]; exact hi), IJ] at h2
          obtain ⟨cs, h3, h4⟩ := h2
          obtain ⟨xs, c1, c2, c3⟩ := b3Z hT hl n e cs _ e0G h4
          have c3 := c3 te hTe
          rw [hsz] at h3
          obtain ⟨_, _, h5⟩ := Kl h3
          have d7f : a.spot = none := by
           have h2 := Q7 0 (by omega)
           rw [FQ (by omega), IJ] at h2
           obtain ⟨cs, h3, _⟩ := h2
           exact c0w h3 (by omega)
          obtain ⟨bb, off, sp⟩ := a
          simp only at d7f
          subst d7f
          refine ⟨(xs, cs), c1, c2, c3, bb, off, rfl, fun j hj => ?_⟩
          have h7 := h5 j hj
          rw [b5l, b5l, Hu] at h7
          rw [h7, FV]
          show cs[j]? = some (cs[j]?.getD undef)
          rw [FQ (by omega)]; rfl
         obtain ⟨ps, b1, b2⟩ := a5g len key
         have hxl : ∀ p ∈ ps, p.1.length = te.size /\ ∀ x ∈ p.1, x.one = true := by
          intro p hp
          obtain ⟨i, hi⟩ := Ie hp
          obtain ⟨c1, _, c3, _⟩ := b2 i p hi
          exact ⟨by rw [c1.len, c3], c1.one⟩
         have b5C : ∀ p ∈ ps, (b1q te.row p.1).cells = p.1 := fun p hp => b3u (hxl p hp).2 fun hr => by rw [(hxl p hp).1, b1n hr]
         have e6e : (ps.map fun p => b1q te.row p.1).flatMap V.cells = (ps.map (·.1)).flatten := by
          rw [List.flatMap_def, List.map_map]
          congr 1
          exact List.map_congr_left fun p hp => b5C p hp
         have b1u : ∀ c ∈ ps.map (·.1), c.length = te.size := fun c hc => by
          obtain ⟨p, hp, rfl⟩ := IR.1 hc
          exact (hxl p hp).1
         have e1y : ∀ (k : Nat) (y : V), ((ps.map fun p => b1q te.row p.1).flatMap V.cells)[k]? = some y -> ∃ i j p, k = i * te.size + j /\ j < te.size /\ ps[i]? = some p /\ p.1[j]? = some y := by
          intro k y hk
          rw [e6e] at hk
          have hk1 := (FN.1 hk).1
          rw [b7r _ b1u, Gi, b1] at hk1
          have c0n : 0 < te.size := by omega
          have hi : k / te.size < len := (Nat.div_lt_iff_lt_mul c0n).2 hk1
          have hj : k % te.size < te.size := Nat.mod_lt _ c0n
          have hkk : k = k / te.size * te.size + k % te.size := by rw [LR]; exact (Nat.div_add_mod k te.size).symm
          have hp : ps[k / te.size]? = some (ps[k / te.size]'(by omega)) := FQ (by omega)
          refine ⟨k / te.size, k % te.size, _, hkk, hj, hp, ?_⟩
          rw [hkk] at hk
          rw [a6k _ _ _ _ b1u (by rw [Gn, hp]; rfl) hj] at hk
          exact hk
         refine ⟨[.sl e (ps.map fun p => b1q te.row p.1)], .single rfl (.sl e _ (some a) len cap (fun k => ((ps.map (·.2)).flatten).getD k undef) (by simp [b1]) hlc hcm (fun x hx => ?_) (fun k y hk => ?_) (fun k y hk => ?_)), ⟨he0, _, rfl, by simp [b1]; omega, fun y hy => ?_⟩, fun ty' e => a4x ty' e _⟩
         . obtain ⟨p, hp, rfl⟩ := IR.1 hx
           rw [e7h]
           exact d9I (hxl p hp).1 (hxl p hp).2 fun hr => by rw [(hxl p hp).1, b1n hr]
         . obtain ⟨i, j, p, rfl, hj, hp, hy⟩ := e1y k y hk
           obtain ⟨_, _, c3, bb, off, c4, c5⟩ := b2 i p hp
           refine ⟨bb, off, by rw [c4], b2O T _ _, ?_⟩
           rw [c5 j hj]
           have : (ps.map (·.2)).flatten[i * te.size + j]? = p.2[j]? := a6k _ _ _ _ (fun c hc => by
            obtain ⟨q, hq, rfl⟩ := IR.1 hc
            obtain ⟨i', hi'⟩ := Ie hq
            exact (b2 i' q hi').2.2.1) (by rw [Gn, hp]; rfl) hj
           rw [FV, FV, this]
         . obtain ⟨i, j, p, rfl, hj, hp, hy⟩ := e1y k y hk
           obtain ⟨c1, _, c3, _⟩ := b2 i p hp
           have : (ps.map (·.2)).flatten[i * te.size + j]? = p.2[j]? := a6k _ _ _ _ (fun c hc => by
            obtain ⟨q, hq, rfl⟩ := IR.1 hc
            obtain ⟨i', hi'⟩ := Ie hq
            exact (b2 i' q hi').2.2.1) (by rw [Gn, hp]; rfl) hj
           have := c1.rep j y hy
           rw [FV] at this ⊢
           rwa [‹(ps.map (·.2)).flatten[i * te.size + j]? = p.2[j]?›]
         . obtain ⟨p, hp, rfl⟩ := IR.1 hy
           obtain ⟨i, hi⟩ := Ie hp
           exact ⟨te, p.1, rfl, rfl, (b2 i p hi).2.1⟩
     . cases hre
   . rename_i fs
     simp only [FT] at hre
     obtain ⟨hco, hfa⟩ := hre
     obtain ⟨ys, m, e1, _, hlen, _, hg⟩ := DataW.trod_struct hd h
     obtain rfl : n = m := by omega
     rw [a7l hT hTt] at hlen
     have main : ∀ (l' : List Kt) (i off : Nat), fs.toList.drop i = l' -> a0P T ty.size off l' = true -> off <= ty.size -> ∃ xs, RepC T w xs (cs.drop off) /\ c0j (Fits T n) l' xs := by
      intro l'
      induction l' with
      | nil =>
        intro i off hdr hc ho
        have := FM hc
        refine ⟨[], ⟨by simp; omega, by simp, by simp⟩, rfl⟩
      | cons f l' ih =>
        intro i off hdr hc ho
        simp only [a0P, FT] at hc
        obtain ⟨hc1, hc2⟩ := hc
        have hc1 := FM hc1
        have hfi : fs.toList[i]? = some f := by
         have : (fs.toList.drop i)[0]? = some f := by rw [hdr]; rfl
         simpa using this
        have hfm : f ∈ fs.toList := Gb hfi
        have h1 := Hg.1 hfa f hfm
        have hfl : f.type ∈ l := by
         have := Hg.1 b7E f hfm
         obtain ⟨z, hz, hb⟩ := KB.1 this
         have := FM hb
         rw [this]; exact hz
        cases hTf : T f.type with
        | none => rw [hTf] at h1; simp at h1
        | some tf =>
        have h2 := hg i f (by simpa using hfi)
        rw [a7l hT hTf, hc1] at h2
        have hle : off + tf.size <= ty.size := by
         have : ∀ (l' : List Kt) (off : Nat), a0P T ty.size off l' = true -> off <= ty.size := by
          intro l'
          induction l' with
          | nil => intro off hc; have := FM hc; omega
          | cons f l' ih => intro off hc; simp only [a0P, FT] at hc; have := ih _ hc.2; omega
         have := this l' _ hc2
         rw [a8p hTf] at this
         exact this
        have hys : i < ys.length := by
         cases hyi : ys[i]? with
         | none =>
           have e7i : i < fs.size := by
            have := (FN.1 hfi).1
            simpa using this
           have : ys.length = fs.size := by assumption
           rw [this]; exact e7i
         | some y => exact (FN.1 hyi).1
        rw [FQ hys] at h2
        obtain ⟨xs, c1, c2, _⟩ := b3Z hT hl n f.type _ _ hfl h2
        obtain ⟨rs, d1, d2⟩ := ih (i + 1) (off + U5 T f.type) (by rw [List.drop_add_one_eq_tail_drop, hdr]; rfl) hc2 (by rw [a8p hTf]; exact hle)
        refine ⟨xs ++ rs, ?_, xs, rs, rfl, c2, d2⟩
        have := c1.append d1
        rw [a8p hTf, ← List.drop_drop, List.take_append_drop] at this
        exact this
     obtain ⟨xs, c1, c2⟩ := main fs.toList 0 0 rfl hco (Hq _)
     exact ⟨xs, by simpa using c1, c2, fun ty' e => by cases e; exact hlen⟩
theorem d7n (hT : D7 P T) {l : List FP} (hl : b1B T l = true) {t : FP} (ht : t ∈ l) {v : FX} {d : LU H} {ps : List Le} (N7 : ∀ ty, T t = some ty -> (ty.row = true -> ∃ cs, v = .agg cs) /\ (ty.row = false -> v.cells = #[v]))
 (hd : OX enc P w base spare held t v d ps) : ∃ n x, Fits T n t (V.cells x) /\ RepV (a8n T) w x v /\ ∀ ty, T t = some ty -> x = b1q ty.row (V.cells x) := by
 obtain ⟨fuel, hf⟩ := hd
 obtain ⟨xs, h1, h2, h3⟩ := b3Z hT hl fuel t _ _ ht hf
 cases hTt : T t with
 | none => cases fuel <;> simp [Fits, hTt] at h2
 | some ty =>
 have h3 := h3 ty hTt
 obtain ⟨r1, r2⟩ := N7 ty hTt
 cases hr : ty.row with
 | true =>
   obtain ⟨cs, rfl⟩ := r1 hr
   refine ⟨fuel, .agg xs, h2, .agg xs cs (by rw [h1.len]; rfl) fun k y hk => ?_, fun ty' e => by cases e; rw [hr]; rfl⟩
   have := h1.rep k y hk
   simpa [Value.cells, FV, Array.getD_eq_getD_getElem?] using this
 | false =>
   have hv := r2 hr
   rw [hv] at h1 h3
   have hl1 := h1.len
   simp at hl1
   match xs, hl1 with
   | [x], _ =>
     have ho := h1.one x (by simp)
     have hc : V.cells x = [x] := by cases x <;> first | rfl | cases ho
     exact ⟨fuel, x, by rw [hc]; exact h2, by simpa using h1.rep 0 x rfl, fun ty' e => by cases e; rw [hr, hc]; rfl⟩
end
end En
namespace En
open Go Go.RowKit Go.WideShapes
theorem own : ownKnob Tryz.prog.godebug = none := by kernel_rfl
theorem laidOut : laidOutB Tryz.prog = true := by kernel_rfl
section
variable {P : Gu} {T : FP -> Option Ty} {f : FuncId} {w : Gc}
def b6a : Env := { d := 0, dom := fun _ _ => False }
def d2b (w : Gc) : Prop := ∀ b ∈ a0I, ∃ x, w.heap[b]? = some x /\ e0T b x
theorem d9t {cs : List V} {u : FX} (h : RepV (a8n T) w (.agg cs) u) : RepD b6a (a8n T) w [] (.agg (cs.map vD)) u := by
 cases h with
 | agg cs us hn hr =>
   refine .agg _ us (by simpa using hn) fun k y hk => ?_
   rw [Gn, Option.map_eq_some_iff] at hk
   obtain ⟨z, hz, rfl⟩ := hk
   exact .v _ _ _ (hr k z hz) trivial
variable {H : Type} {enc : FP × FX -> H} {base : Nat} {spare : Nat -> Bool} {held : Bool} {r : Reach} {b0 : Nat} {t : FP} {v : FX} {d : LU H} {ps : List Le} {l : List FP}
theorem e1J (hT : D7 P T) {desc : TypeDesc} (ht : P.underlying t = some desc) {ty : Ty} (h : T t = some ty) : ty.desc = desc := by
 have := (hT t ty h).desc
 rw [ht] at this
 injection this with this
 exact this.symm
theorem c5q (hT : D7 P T) (hl : b1B T l = true) (hm : t ∈ l) {fs : Array Kt} (ht : P.underlying t = some (.struct fs)) (hv : LV P w r b0 t v) (hd : OX enc P w base spare held t v d ps) :
 ∃ n cs, Fits T n t cs /\ RepV (a8n T) w (.agg cs) v := by
 obtain ⟨cs, rfl, _⟩ := okWide_struct ht hv
 obtain ⟨n, x, h1, h2, h3⟩ := d7n hT hl hm (fun ty hty => ⟨fun _ => ⟨cs, rfl⟩, fun hr => (by rw [Ty.row, e1J hT ht hty] at hr; cases hr)⟩) hd
 cases h2 with
 | agg ys us a b => exact ⟨n, ys, h1, .agg ys _ a b⟩
theorem fits_int {k : IntKind} {ty : Ty} (h : T t = some ty) (hd : ty.desc = .int k) {n : Nat} {xs : List V} (hf : Fits T n t xs) : ∃ i, xs = [.int k i] /\ k.min <= i /\ i <= k.max := by
 cases n with
 | zero => cases hf
 | succ n => unfold Fits at hf; rw [h] at hf; simp only [hd] at hf; exact hf
theorem fits_bool {ty : Ty} (h : T t = some ty) (hd : ty.desc = .bool) {n : Nat} {xs : List V} (hf : Fits T n t xs) : ∃ b, xs = [.bool b] := by
 cases n with
 | zero => cases hf
 | succ n => unfold Fits at hf; rw [h] at hf; simp only [hd] at hf; exact hf
theorem a7I {e e' : FP} {ty : Ty} (h : T t = some ty) (hd : ty.desc = .slice e) (hc : ty.cks = [.bytes e']) {n : Nat} {xs : List V} (hf : Fits T n t xs) : ∃ s, xs = [.bytes s] /\ s.length <= maxLen := by
 cases n with
 | zero => cases hf
 | succ n => unfold Fits at hf; rw [h] at hf; simp only [hd, hc] at hf; exact hf
theorem c4Y {e e' : FP} {ty te : Ty} (h : T t = some ty) (hd : ty.desc = .slice e) (hc : ty.cks = [.slc e']) (he : T e = some te) {n : Nat} {xs : List V} (hf : Fits T n t xs) :
 ∃ m ys, n = m + 1 /\ xs = [.sl e ys] /\ ys.length <= maxLen /\ ∀ y ∈ ys, ∃ cs, y = b1q te.row cs /\ Fits T m e cs := by
 cases n with
 | zero => cases hf
 | succ n =>
   unfold Fits at hf; rw [h] at hf; simp only [hd, hc] at hf
   obtain ⟨rfl, ys, h1, h2, h3⟩ := hf
   refine ⟨n, ys, rfl, h1, h2, fun y hy => ?_⟩
   obtain ⟨te', cs, h4, h5, h6⟩ := h3 y hy
   rw [he] at h4
   injection h4 with h4
   subst h4
   exact ⟨cs, h5, h6⟩
theorem L0 {fs : Array Kt} {ty : Ty} (h : T t = some ty) (hd : ty.desc = .struct fs) {n : Nat} {xs : List V} (hf : Fits T n t xs) : ∃ m, n = m + 1 /\ c0j (Fits T m) fs.toList xs := by
 cases n with
 | zero => cases hf
 | succ n => unfold Fits at hf; rw [h] at hf; simp only [hd] at hf; exact ⟨n, rfl, hf⟩
end
end En
namespace En
open Go Go.RowKit
section
variable (N : Nat) {E E' : Env} {g g' : G} {w w' : Gc} {p : Pk}
theorem d4z (hN : 100000 < N) {x : List UInt8} (hx : x.length <= 5000) : H8 Tryz.prog T 11 [.v (.bytes x) .no] [.v (.bytes (a5J N x)) .no] := by
 have H := d9f N hN hx
 intro E g w us hsz hus
 have hl := hus.1
 match us, hl with
 | [u], _ =>
 have hc := H E g w [u] hsz hus
 have HH := Gx hc
 clear hc H hus hsz hl hx hN
 go_enter Tryz.func11, Tryz.ntmps11
 go_wp2_with fail
 refine HH.out.mono ?_
 rintro e w' ⟨us', g', rfl, h1, h2⟩
 obtain ⟨v, rfl, _⟩ := a4r (h1 E)
 rw [show S0 [v] = v from rfl]
 have HB := Gx (Gf h1 h2)
 clear h1 h2
 go_wp2_with fail
 go_ret
 exact ⟨[v], g', rfl, HB.out.1, HB.out.2⟩
theorem d0y (hN : 100 < N) (x : List UInt8) : (a5J N x).length = 16 := by
 obtain ⟨m, h1, _⟩ := a4s x
 unfold a5J
 rw [h1, show 8 * m / 8 = m by omega]
 exact c2P N hN m _ _ h1 rfl
theorem d6h (hN : 100000 < N) (hm : ∀ x ∈ p.ims, x.aid.length <= 9223372036854775807) (hm2 : ∀ x ∈ p.aps, x.aid.length <= 9223372036854775807) (hs : SzOK T g w) (glob : ∀ b, b < w.heap.size -> g.Γ b = .imm -> b ∈ a0I) (perm : ∀ b, b < w.heap.size -> g.Γ b = .imm ∨ ∃ n, g.Γ b = .low n) {v : FX} (hv : RepD E g w [] (pkD p) v) :
 IF Tryz.prog 3 #[v] w fun e w' => e = .returned (.bool true) /\ Below w.heap.size w w' := by
 obtain ⟨e, h1, h2⟩ := c5h N (by omega) p hm hm2
 rcases h2 with ⟨he, h2⟩ | ⟨rfl, hk, h2⟩
 . exact e0E hN he h2 hs hv
 . have hl : (wPk p).length <= 5000 := IL hk.2.2 (by decide)
   exact e2O ⟨hN, hk, h2, h1, d4z N hN hl, e0B N _ _ (d5g N hl hN), by rw [d0y N (by omega)]; decide, hs, glob, perm⟩ hv
theorem RepV.weak (hst : ∀ b o v, s5 g b o -> w.cell? ⟨b, o, none⟩ = some v -> s5 g' b o) (hsz : g'.sz = g.sz) {x : V} {v : FX} (h : RepV g w x v) : x.good = true -> RepV g' w x v := by
 induction h with
 | bool b => exact fun _ => .bool b
 | int k n h => exact fun _ => .int k n h
 | str s h => exact fun _ => .str s h
 | bytes xs A n c hn hc hm h =>
   refine fun _ => .bytes xs A n c hn hc hm fun k x hx => ?_
   obtain ⟨b, off, e, h1, h2⟩ := h k x hx
   exact ⟨b, off, e, hst _ _ _ h1 h2, h2⟩
 | sl e xs A n c us hn hc hm hs h hr ih =>
   intro hg
   simp only [V.good, FT] at hg
   refine .sl e xs A n c us hn hc hm (by rw [hsz]; exact hs) (fun k x hx => ?_) fun k y hk => ?_
   . obtain ⟨b, off, e, h1, h2⟩ := h k x hx
     exact ⟨b, off, e, hst _ _ _ h1 h2, h2⟩
   . obtain ⟨z, hz, hy⟩ := Kx.1 (Gb hk)
     exact ih k y hk (b2J (a0S hg.1 z hz) hy)
 | agg cs us hn hr ih =>
   intro hg
   exact .agg cs us hn fun k y hk => ih k y hk (a0S (by simpa [V.good] using hg) y (Gb hk))
 | iface t x v h ih => intro hg; cases hg
 | nilI => intro hg; cases hg
 | mset ks b es clock hb hw hm => intro hg; cases hg
 | nilM => intro hg; cases hg
 | rowI e xs A n c h hi ih => intro hg; cases hg
def d3n (w : Gc) : G := { a8n T with Γ := fun b => if b ∈ a0I then .imm else .low (match w.heap[b]? with | some (.cells cs _ _) => cs.size | _ => 0) }
theorem d7v : ∀ b o v, s5 (a8n T) b o -> w.cell? ⟨b, o, none⟩ = some v -> s5 (d3n w) b o := by
 intro b o v _ hc
 unfold s5 d3n
 simp only
 by_cases hb : b ∈ a0I
 . rw [if_pos hb]; trivial
 . rw [if_neg hb]
   unfold Kf at hc
   simp only at hc
   split at hc
   . rename_i cs t f hh
     simp only [hh]
     exact (Array.getElem?_eq_some_iff.1 hc).1
   . cases hc
theorem d8e (h : d2b w) : SzOK T (d3n w) w := ⟨rfl, fun b hb => ⟨if_pos hb, h b hb⟩⟩
theorem d8i (hm : ∀ x ∈ p.ims, x.aid.length <= 9223372036854775807) (hm2 : ∀ x ∈ p.aps, x.aid.length <= 9223372036854775807) (hgl : d2b w) {v : FX} (hv : RepD b6a (a8n T) w [] (pkD p) v) :
 IF Tryz.prog 3 #[v] w fun e w' => e = .returned (.bool true) /\ Below w.heap.size w w' := by
 refine d6h (E := b6a) (g := d3n w) 200000 (by decide) hm hm2 (d8e hgl) (fun b _ hb => ?_) (fun b _ => ?_) ?_
 . by_cases hg : b ∈ a0I
   . exact hg
   . have : Perm.low _ = Perm.imm := (if_neg hg).symm.trans hb
     cases this
 . by_cases hg : b ∈ a0I
   . exact .inl (if_pos hg)
   . exact .inr ⟨_, if_neg hg⟩
 . obtain ⟨q0, q3, q4, q5, q6, q7⟩ := c7B p
   have put : ∀ {x : V} {u : FX}, x.good = true -> RepD b6a (a8n T) w [] (.v x .no) u -> RepD b6a (d3n w) w [] (.v x .no) u := fun hg hd => by
    cases hd with | v x a u hu ha => exact .v _ _ _ (RepV.weak d7v rfl hu hg) trivial
   unfold pkD at hv ⊢
   cases hv with
   | agg ds us hn hr =>
     refine .agg _ us hn fun k y hk => ?_
     rcases k with _ | _ | _ | _ | _ | _ | _ | _ | k
     . simp at hk; subst hk; exact put q0 (hr 0 _ rfl)
     . simp at hk; subst hk; exact put rfl (hr 1 _ rfl)
     . simp at hk; subst hk; exact put rfl (hr 2 _ rfl)
     . simp at hk; subst hk; exact put q3 (hr 3 _ rfl)
     . simp at hk; subst hk; exact put q4 (hr 4 _ rfl)
     . simp at hk; subst hk; exact put q5 (hr 5 _ rfl)
     . simp at hk; subst hk; exact put q6 (hr 6 _ rfl)
     . simp at hk; subst hk; exact put q7 (hr 7 _ rfl)
     . simp at hk
end
end En
namespace En
open Go Go.RowKit
theorem e0P {n : Nat} (h : n <= maxLen) : n <= 9223372036854775807 := by unfold maxLen at h; omega
theorem T_I : T 3 = some ty3 := by kernel_rfl
theorem e2v : T 4 = some ty4 := by kernel_rfl
theorem e1G : T 22 = some e5l := by kernel_rfl
theorem e5k : T 42 = some e4U := by kernel_rfl
theorem e4B : T 44 = some e5j := by kernel_rfl
theorem e4N : T 58 = some e5C := by kernel_rfl
theorem e5d : T 105 = some e1g := by kernel_rfl
theorem e4x : T 64 = some e3n := by kernel_rfl
theorem e3E : T 107 = some e1c := by kernel_rfl
theorem e3O : T 47 = some e5v := by kernel_rfl
theorem e4z : T 67 = some e4D := by kernel_rfl
theorem e4Y : T 54 = some e3w := by kernel_rfl
theorem e6n : T 29 = some e4y := by kernel_rfl
theorem e6Q : T 61 = some e3o := by kernel_rfl
theorem e5c : T 60 = some e3M := by kernel_rfl
theorem e3D : T 26 = some e5y := by kernel_rfl
theorem e3L : T 23 = some e4s := by kernel_rfl
theorem e3U : T 62 = some e4n := by kernel_rfl
theorem e3l : T 24 = some e4L := by kernel_rfl
theorem e5n : T 45 = some e5B := by kernel_rfl
theorem e3A : T 25 = some e5z := by kernel_rfl
theorem e4J : T 27 = some e3r := by kernel_rfl
theorem e5D : T 37 = some e5I := by kernel_rfl
theorem d6k {α : Type} {enc : α -> V} {P : α -> Prop} {row : Bool} {e : FP} (n : Nat) (f : ∀ cs, Fits T n e cs -> ∃ a : α, b1q row cs = enc a /\ P a) : ∀ (ys : List V), (∀ y ∈ ys, ∃ cs, y = b1q row cs /\ Fits T n e cs) -> ∃ l : List α, ys = l.map enc /\ ∀ x ∈ l, P x
 | [], _ => ⟨[], rfl, fun x hx => by simp at hx⟩
 | y :: ys, h => by
   obtain ⟨l, h1, h2⟩ := d6k n f ys fun z hz => h z (List.mem_cons_of_mem _ hz)
   obtain ⟨cs, rfl, hc⟩ := h y (by simp)
   obtain ⟨a, ha, hp⟩ := f cs hc
   refine ⟨a :: l, by rw [h1, ha]; rfl, fun x hx => ?_⟩
   rcases GH.1 hx with rfl | hx
   . exact hp
   . exact h2 x hx
theorem b9P {n : Nat} {cs : List V} (h : Fits T n 42 cs) : ∃ r : Rf, cs = [.int .i64 r.p, .int .i64 r.c] := by
 obtain ⟨m, rfl, a, r1, rfl, ha, b, r2, rfl, hb, rfl⟩ := L0 e5k rfl h
 obtain ⟨p, rfl, _⟩ := fits_int T_I rfl ha
 obtain ⟨c, rfl, _⟩ := fits_int T_I rfl hb
 exact ⟨⟨p, c⟩, rfl⟩
theorem d5L {n : Nat} {cs : List V} (h : Fits T n 44 cs) : ∃ t : Tp, cs = [.int .i64 t.k, .int .i64 t.r.p, .int .i64 t.r.c] := by
 obtain ⟨m, rfl, a, r1, rfl, ha, b, r2, rfl, hb, rfl⟩ := L0 e4B rfl h
 obtain ⟨k, rfl, _⟩ := fits_int T_I rfl ha
 obtain ⟨r, rfl⟩ := b9P hb
 exact ⟨⟨k, r⟩, rfl⟩
theorem e2i {n : Nat} {cs : List V} (h : Fits T n 58 cs) : ∃ x : Im, cs = [.bytes x.aid, .int .i64 x.ma, .int .i64 x.mi] /\ x.aid.length <= 9223372036854775807 := by
 obtain ⟨m, rfl, a, r1, rfl, ha, b, r2, rfl, hb, c, r3, rfl, hc, rfl⟩ := L0 e4N rfl h
 obtain ⟨s, rfl, hs⟩ := a7I e1G rfl rfl ha
 obtain ⟨p, rfl, _⟩ := fits_int T_I rfl hb
 obtain ⟨q, rfl, _⟩ := fits_int T_I rfl hc
 exact ⟨⟨s, p, q⟩, rfl, e0P hs⟩
theorem e3c {n : Nat} {cs : List V} (h : Fits T n 67 cs) : ∃ x : Ap, cs = [.bytes x.aid, .int .i64 x.cl, .int .i64 x.ins] /\ x.aid.length <= 9223372036854775807 := by
 obtain ⟨m, rfl, a, r1, rfl, ha, b, r2, rfl, hb, c, r3, rfl, hc, rfl⟩ := L0 e4z rfl h
 obtain ⟨s, rfl, hs⟩ := a7I e1G rfl rfl ha
 obtain ⟨p, rfl, _⟩ := fits_int T_I rfl hb
 obtain ⟨q, rfl, _⟩ := fits_int T_I rfl hc
 exact ⟨⟨s, p, q⟩, rfl, e0P hs⟩
theorem e1P {n : Nat} {cs : List V} (h : Fits T n 107 cs) : ∃ x : Hd, cs = [.int .i64 x.f, .int .i64 x.t, .int .i64 x.g, .int .i64 x.w] := by
 obtain ⟨m, rfl, a, r1, rfl, ha, b, r2, rfl, hb, c, r3, rfl, hc, d, r4, rfl, hd, rfl⟩ := L0 e3E rfl h
 obtain ⟨p, rfl, _⟩ := fits_int T_I rfl ha
 obtain ⟨q, rfl, _⟩ := fits_int T_I rfl hb
 obtain ⟨s, rfl, _⟩ := fits_int T_I rfl hc
 obtain ⟨v, rfl, _⟩ := fits_int T_I rfl hd
 exact ⟨⟨p, q, s, v⟩, rfl⟩
theorem e2q {n : Nat} {cs : List V} (h : Fits T n 54 cs) : ∃ i : In, cs = [.int .i64 i.op, .int .i64 i.a, .int .i64 i.b, .int .i64 i.c] := by
 obtain ⟨m, rfl, a, r1, rfl, ha, b, r2, rfl, hb, c, r3, rfl, hc, d, r4, rfl, hd, rfl⟩ := L0 e4Y rfl h
 obtain ⟨p, rfl, _⟩ := fits_int T_I rfl ha
 obtain ⟨q, rfl, _⟩ := fits_int T_I rfl hb
 obtain ⟨s, rfl, _⟩ := fits_int T_I rfl hc
 obtain ⟨v, rfl, _⟩ := fits_int T_I rfl hd
 exact ⟨⟨p, q, s, v⟩, rfl⟩
theorem a2o {α : Type} {enc : α -> V} {P : α -> Prop} {t e e' : FP} {ty te : Ty} (h : T t = some ty) (hd : ty.desc = .slice e) (hc : ty.cks = [.slc e']) (he : T e = some te) {n : Nat} {xs : List V} (hf : Fits T n t xs) (f : ∀ m cs, Fits T m e cs -> ∃ a : α, b1q te.row cs = enc a /\ P a) : ∃ l : List α, xs = [.sl e (l.map enc)] /\ ∀ x ∈ l, P x := by
 obtain ⟨m, ys, rfl, rfl, k1, k2⟩ := c4Y h hd hc he hf
 obtain ⟨l, rfl, h2⟩ := d6k m (f m) ys k2
 exact ⟨l, rfl, h2⟩
theorem c2t {n : Nat} {xs : List V} (h : Fits T n 61 xs) : ∃ l : List Int, xs = [.sl 3 (l.map nV)] := by
 obtain ⟨l, h1, _⟩ := a2o (enc := nV) (P := fun _ => True) e6Q rfl rfl T_I h fun m cs hc => by
  obtain ⟨i, rfl, _⟩ := fits_int T_I rfl hc
  exact ⟨i, rfl, trivial⟩
 exact ⟨l, h1⟩
theorem d3G {n : Nat} {xs : List V} (h : Fits T n 60 xs) : ∃ l : List Rf, xs = [.sl 42 (l.map rfV)] := by
 obtain ⟨l, h1, _⟩ := a2o (enc := rfV) (P := fun _ => True) e5c rfl rfl e5k h fun m cs hc => by
  obtain ⟨r, rfl⟩ := b9P hc
  exact ⟨r, rfl, trivial⟩
 exact ⟨l, h1⟩
theorem b7O {n : Nat} {xs : List V} (h : Fits T n 26 xs) : ∃ l : List Tp, xs = [.sl 44 (l.map tpV)] := by
 obtain ⟨l, h1, _⟩ := a2o (enc := tpV) (P := fun _ => True) e3D rfl rfl e4B h fun m cs hc => by
  obtain ⟨r, rfl⟩ := d5L hc
  exact ⟨r, rfl, trivial⟩
 exact ⟨l, h1⟩
theorem d8l {n : Nat} {xs : List V} (h : Fits T n 45 xs) : ∃ l : List Hd, xs = [.sl 107 (l.map hdV)] := by
 obtain ⟨l, h1, _⟩ := a2o (enc := hdV) (P := fun _ => True) e5n rfl rfl e3E h fun m cs hc => by
  obtain ⟨r, rfl⟩ := e1P hc
  exact ⟨r, rfl, trivial⟩
 exact ⟨l, h1⟩
theorem d9l {n : Nat} {xs : List V} (h : Fits T n 37 xs) : ∃ l : List In, xs = [.sl 54 (iE l)] := by
 obtain ⟨l, h1, _⟩ := a2o (enc := iV) (P := fun _ => True) e5D rfl rfl e4Y h fun m cs hc => by
  obtain ⟨r, rfl⟩ := e2q hc
  exact ⟨r, rfl, trivial⟩
 exact ⟨l, by rw [h1, a3I]⟩
theorem e0z {n : Nat} {xs : List V} (h : Fits T n 62 xs) : ∃ l : List Il, xs = [.sl 105 (l.map ilV)] := by
 obtain ⟨l, h1, _⟩ := a2o (enc := ilV) (P := fun _ => True) e3U rfl rfl e5d h fun m cs hc => by
  obtain ⟨m', rfl, a, r1, rfl, ha, b, r2, rfl, hb, rfl⟩ := L0 e5d rfl hc
  obtain ⟨r, rfl⟩ := b9P ha
  obtain ⟨s, rfl⟩ := c2t hb
  exact ⟨⟨r, s⟩, rfl, trivial⟩
 exact ⟨l, h1⟩
theorem d8I {n : Nat} {xs : List V} (h : Fits T n 24 xs) : ∃ l : List Cl, xs = [.sl 64 (l.map clV)] := by
 obtain ⟨l, h1, _⟩ := a2o (enc := clV) (P := fun _ => True) e3l rfl rfl e4x h fun m cs hc => by
  obtain ⟨m', rfl, a1, r1, rfl, h1, a2, r2, rfl, h2, a3, r3, rfl, h3, a4, r4, rfl, h4, a5, r5, rfl, h5, a6, r6, rfl, h6, rfl⟩ := L0 e4x rfl hc
  obtain ⟨v1, rfl⟩ := b9P h1
  obtain ⟨v2, rfl⟩ := fits_bool e2v rfl h2
  obtain ⟨v3, rfl⟩ := d3G h3
  obtain ⟨v4, rfl⟩ := b7O h4
  obtain ⟨v5, rfl⟩ := c2t h5
  obtain ⟨v6, rfl⟩ := e0z h6
  exact ⟨⟨v1, v2, v3, v4, v5, v6⟩, rfl, trivial⟩
 exact ⟨l, h1⟩
theorem d7t {n : Nat} {xs : List V} (h : Fits T n 25 xs) : ∃ l : List Mt, xs = [.sl 47 (l.map mtV)] := by
 obtain ⟨l, h1, _⟩ := a2o (enc := mtV) (P := fun _ => True) e3A rfl rfl e3O h fun m cs hc => by
  obtain ⟨m', rfl, a1, r1, rfl, h1, a2, r2, rfl, h2, a3, r3, rfl, h3, a4, r4, rfl, h4, a5, r5, rfl, h5, a6, r6, rfl, h6, a7, r7, rfl, h7, a8, r8, rfl, h8, a9, r9, rfl, h9, rfl⟩ := L0 e3O rfl hc
  obtain ⟨v1, rfl⟩ := fits_bool e2v rfl h1
  obtain ⟨v2, rfl⟩ := fits_bool e2v rfl h2
  obtain ⟨v3, rfl, _⟩ := fits_int T_I rfl h3
  obtain ⟨v4, rfl⟩ := b7O h4
  obtain ⟨v5, rfl⟩ := d5L h5
  obtain ⟨v6, rfl, _⟩ := fits_int T_I rfl h6
  obtain ⟨v7, rfl, _⟩ := fits_int T_I rfl h7
  obtain ⟨v8, rfl⟩ := d9l h8
  obtain ⟨v9, rfl⟩ := d8l h9
  exact ⟨⟨v1, v2, v3, v4, v5, v6, v7, v8, v9⟩, rfl, trivial⟩
 exact ⟨l, h1⟩
theorem d8Y {n : Nat} {xs : List V} (h : Fits T n 23 xs) : ∃ l : List Im, xs = [.sl 58 (l.map imV)] /\ ∀ x ∈ l, x.aid.length <= 9223372036854775807 :=
 a2o (enc := imV) e3L rfl rfl e4N h fun m cs hc => by
  obtain ⟨r, rfl, hr⟩ := e2i hc
  exact ⟨r, rfl, hr⟩
theorem d8r {n : Nat} {xs : List V} (h : Fits T n 27 xs) : ∃ l : List Ap, xs = [.sl 67 (l.map apV)] /\ ∀ x ∈ l, x.aid.length <= 9223372036854775807 :=
 a2o (enc := apV) e4J rfl rfl e4z h fun m cs hc => by
  obtain ⟨r, rfl, hr⟩ := e3c hc
  exact ⟨r, rfl, hr⟩
def pkC (p : Pk) : List V := [.bytes p.aid, .int .i64 p.ma, .int .i64 p.mi, .sl 58 (p.ims.map imV), .sl 64 (p.cls.map clV), .sl 47 (p.mts.map mtV), .sl 44 (p.sts.map tpV), .sl 67 (p.aps.map apV)]
theorem e2B {n : Nat} {cs : List V} (h : Fits T n 29 cs) : ∃ p : Pk, cs = pkC p /\ (∀ x ∈ p.ims, x.aid.length <= 9223372036854775807) /\ ∀ x ∈ p.aps, x.aid.length <= 9223372036854775807 := by
 obtain ⟨m', rfl, a1, r1, rfl, h1, a2, r2, rfl, h2, a3, r3, rfl, h3, a4, r4, rfl, h4, a5, r5, rfl, h5, a6, r6, rfl, h6, a7, r7, rfl, h7, a8, r8, rfl, h8, rfl⟩ := L0 e6n rfl h
 obtain ⟨v1, rfl, _⟩ := a7I e1G rfl rfl h1
 obtain ⟨v2, rfl, _⟩ := fits_int T_I rfl h2
 obtain ⟨v3, rfl, _⟩ := fits_int T_I rfl h3
 obtain ⟨v4, rfl, q4⟩ := d8Y h4
 obtain ⟨v5, rfl⟩ := d8I h5
 obtain ⟨v6, rfl⟩ := d7t h6
 obtain ⟨v7, rfl⟩ := b7O h7
 obtain ⟨v8, rfl, q8⟩ := d8r h8
 exact ⟨⟨v1, v2, v3, v4, v5, v6, v7, v8⟩, rfl, q4, q8⟩
def e1Q : List FP := [29, 3, 22, 4, 5, 42, 44, 58, 105, 64, 107, 47, 67, 54, 61, 60, 26, 23, 62, 24, 45, 25, 27, 37]
theorem c9v : b1B T e1Q = true := by kernel_rfl
end En
namespace En
open Go Go.Joins Go.ChangeShapes Go.WideShapes Go.ChangeAt Go.RowKit Go.Deep
theorem b8M {P : Gu} {w : Gc} {n : String} {d : LU Unit} : ∀ {l : List (String × LU Unit)} {ps : List Le}, DataW.LaidVars P w l ps -> (n, d) ∈ l ->
 ∃ g t cs fuel p, P.globalNamed n = some g /\ (P.globals[g]?).map (·.type) = some t /\ w.var? P n = some cs /\ LG (fun _ => ()) P w 0 (fun _ => true) false fuel t cs.toList = some (d, p)
 | [], ps, _, hm => by cases hm
 | (m, e) :: l, ps, h, hm => by
   obtain ⟨g, t, cs, fuel, p, q, h1, h2, h3, h4, h5, _⟩ := h
   rcases GH.1 hm with hm | hm
   . injection hm with a b
     subst a b
     exact ⟨g, t, cs, fuel, p, h1, h2, h3, h4⟩
   . exact b8M h5 hm
theorem d3r {P : Gu} {w : Gc} {name : String} {k : IntKind} {zs : List Int} {l : List (String × LU Unit)} {g : Nat} {t e : FP} {n : Nat}
 (hg : P.globalNamed name = some g) (hty : (P.globals[g]?).map (·.type) = some t) (ht : P.underlying t = some (.array n e)) (he : P.underlying e = some (.int k)) (hce : P.cellsOf e = 1) (hct : P.cellsOf t = n)
 (h : laidMet P l w) (hm : (name, Kn k zs) ∈ l) : ∃ y f, w.heap[g]? = some (.cells (b1e k zs) y f) := by
 obtain ⟨ps, hl, _⟩ := h
 obtain ⟨g', t', cs, fuel, p, h1, h2, h3, h4⟩ := b8M hl hm
 obtain rfl := Iu (hg.symm.trans h1)
 obtain rfl := Iu (hty.symm.trans h2)
 have hc := Lib.cells_of_tab ht he hce hct h4
 unfold LD at h3
 rw [hg, GV] at h3
 split at h3
 . rename_i cs' y f hh
   injection h3 with h3
   subst h3
   refine ⟨y, f, ?_⟩
   rw [hh]
   have : cs' = b1e k zs := by
    unfold b1e
    rw [← hc]
   rw [this]
 . cases h3
theorem c0i {H : Type} {enc : FP × FX -> H} {P : Gu} {w : Gc} {base : Nat} {sp : Nat -> Bool} {held : Bool} {fuel : Nat} {t : FP} {f0 f1 : Kt} {a b : Int} {cs : List FX} {p : List Le}
 (ht : P.underlying t = some (.struct #[f0, f1])) (h0 : P.underlying f0.type = some (.int .i64)) (h1 : P.underlying f1.type = some (.int .i64)) (c0 : P.cellsOf f0.type = 1) (c1 : P.cellsOf f1.type = 1) (o0 : f0.offset = 0) (o1 : f1.offset = 1) (ct : P.cellsOf t = 2)
 (h : LG enc P w base sp held fuel t cs = some (.agg [.lit (.int .i64 a), .lit (.int .i64 b)], p)) : cs = [.int .i64 a, .int .i64 b] := by
 obtain ⟨y0, y1, n, hx, hl, q0, q1⟩ := Go.ChangeShapes.trod_struct2 ht h
 injection hx with hx _
 injection hx with hx
 injection hx with e0 hx
 injection hx with e1 _
 obtain ⟨m0, k0, rfl, _⟩ := Kd h0 q0
 obtain ⟨m1, k1, rfl, _⟩ := Kd h1 q1
 simp only [DataW.lit.injEq, Lit.int.injEq, true_and] at e0 e1
 subst e0; subst e1
 rw [o0, c0] at k0
 rw [o1, c1] at k1
 match cs, hl.trans ct with
 | [u, v], _ =>
   simp at k0 k1
   rw [k0, k1]
theorem c2i {P : Gu} {w : Gc} {name : String} {a b : Int} {l : List (String × LU Unit)} {g : Nat} {t : FP} {f0 f1 : Kt}
 (hg : P.globalNamed name = some g) (hty : (P.globals[g]?).map (·.type) = some t) (ht : P.underlying t = some (.struct #[f0, f1])) (h0 : P.underlying f0.type = some (.int .i64)) (h1 : P.underlying f1.type = some (.int .i64)) (c0 : P.cellsOf f0.type = 1) (c1 : P.cellsOf f1.type = 1) (o0 : f0.offset = 0) (o1 : f1.offset = 1) (ct : P.cellsOf t = 2)
 (h : laidMet P l w) (hm : (name, .agg [.lit (.int .i64 a), .lit (.int .i64 b)]) ∈ l) : ∃ y f, w.heap[g]? = some (.cells #[.int .i64 a, .int .i64 b] y f) := by
 obtain ⟨ps, hl, _⟩ := h
 obtain ⟨g', t', cs, fuel, p, h1', h2, h3, h4⟩ := b8M hl hm
 obtain rfl := Iu (hg.symm.trans h1')
 obtain rfl := Iu (hty.symm.trans h2)
 have hc := c0i ht h0 h1 c0 c1 o0 o1 ct h4
 unfold LD at h3
 rw [hg, GV] at h3
 split at h3
 . rename_i cs' y f hh
   injection h3 with h3
   subst h3
   refine ⟨y, f, ?_⟩
   rw [hh]
   have : cs' = #[.int .i64 a, .int .i64 b] := by
    obtain ⟨l⟩ := cs'
    simp at hc
    rw [hc]
   rw [this]
 . cases h3
theorem c6i : Rows.laid_strings_asciiSpace (H := Unit) = Kn .u8 Js := by kernel_rfl
theorem d3c : Rows.laid_internal_strconv_uint64pow10 (H := Unit) = Kn .u64 KE := by kernel_rfl
theorem d2N : Rows.laid_smartcard_loadfile_object (H := Unit) = .agg [.lit (.int .i64 255), .lit (.int .i64 0)] := by kernel_rfl
theorem d2E {w : Gc} (h : laidMetH Tryz.prog Rows.topTextRow.laid w) (hs : w.ShapedOpen Tryz.prog) : d2b w := by
 have h : laidMet Tryz.prog Rows.topTextRow.laid w := h
 have ms : ("strings.asciiSpace", Kn (H := Unit) .u8 Js) ∈ Rows.topTextRow.laid := by
  rw [← c6i]
  simp [Rows.topTextRow]
 have mp : ("internal/strconv.uint64pow10", Kn (H := Unit) .u64 KE) ∈ Rows.topTextRow.laid := by
  rw [← d3c]
  simp [Rows.topTextRow]
 have mo : ("smartcard/loadfile.object", (DataW.agg [.lit (.int .i64 255), .lit (.int .i64 0)] : LU Unit)) ∈ Rows.topTextRow.laid := by
  rw [← d2N]
  simp [Rows.topTextRow]
 obtain ⟨y3, f3, s3⟩ := c2i (g := 1) (t := 42) (f0 := ⟨ "Package", 3, 0, false, "", "", 0⟩) (f1 := ⟨ "Class", 3, 1, false, "", "", 8⟩) (by kernel_rfl) (by kernel_rfl) (by kernel_rfl) (by kernel_rfl) (by kernel_rfl) (by kernel_rfl) (by kernel_rfl) (by kernel_rfl) (by kernel_rfl) (by kernel_rfl) h mo
 obtain ⟨y1, f1, s1⟩ := d3r (g := 0) (t := (Tryz.prog.globals[0]?).map (·.type) |>.getD 0) (e := 5) (n := 256) (by kernel_rfl) (by kernel_rfl) (by kernel_rfl) (by kernel_rfl) (by kernel_rfl) (by kernel_rfl) h ms
 obtain ⟨y2, f2, s2⟩ := d3r (g := 4) (t := (Tryz.prog.globals[4]?).map (·.type) |>.getD 0) (e := (match Tryz.prog.underlying ((Tryz.prog.globals[4]?).map (·.type) |>.getD 0) with | some (.array _ e) => e | _ => 0)) (n := 20) (by kernel_rfl) (by kernel_rfl) (by kernel_rfl) (by kernel_rfl) (by kernel_rfl) (by kernel_rfl) h mp
 obtain ⟨m, hm⟩ := cell_of_shapedOpen_int (P := Tryz.prog) (g := 2) (t := 3) (zero := #[.int .i64 0]) hs (of_decide_eq_true (by kernel_rfl)) (by kernel_rfl) rfl (by kernel_rfl) (by kernel_rfl) Tryz.underlying3
 have hm : w.cell? ⟨2, 0, none⟩ = some (.int .i64 m) := hm
 intro b hb
 have hb : b = 0 ∨ b = 2 ∨ b = 4 ∨ b = 1 := by simpa [a0I] using hb
 rcases hb with rfl | rfl | rfl | rfl
 . exact ⟨_, s1, _, _, _, rfl, fun _ => rfl, fun e => absurd e (by decide), fun e => absurd e (by decide), fun e => absurd e (by decide)⟩
 . unfold Kf at hm
   simp only at hm
   split at hm
   . rename_i vs t f hh
     exact ⟨_, hh, vs, t, f, rfl, fun e => absurd e (by decide), fun _ => ⟨m, by simpa using hm⟩, fun e => absurd e (by decide), fun e => absurd e (by decide)⟩
   . cases hm
 . exact ⟨_, s2, _, _, _, rfl, fun e => absurd e (by decide), fun e => absurd e (by decide), fun _ => rfl, fun e => absurd e (by decide)⟩
 . exact ⟨_, s3, _, _, _, rfl, fun e => absurd e (by decide), fun e => absurd e (by decide), fun e => absurd e (by decide), fun _ => rfl⟩
theorem c2k {H : Type} {enc : FP × FX -> H} {a : Assume} {C : Checked} {os : Os} {f : FuncId} {fn : Func} {s : ChangeSpec} {conds : List PathCond} {apart fresh handsOn again : Bool} {l : List (String × LU Unit)}
 (own : ownKnob C.prog.godebug = none) (started : os.Started) (noInit : C.prog.inits.idxOf? f = none) (hfn : C.prog.funcs[f]? = some fn)
 (witness : ∃ (w : Gc) (tape : Tape) (i : Input), w.os = os /\ (w.forCall tape i).Shaped C.prog /\ i.vars = [] /\ Input.okWide C.prog (w.forCall tape i) .any w.heap.size f i /\
  ((s.pre enc C.prog fn conds apart (w.forCall tape i).memory i.args /\ laidMetH C.prog l (w.forCall tape i).memory) /\ sizedMet enc C.prog fn (OpenSpec.ofChange s) apart (w.forCall tape i).memory i.args) /\ a.holds C.prog (lone (Frame.enter C.prog f i.args .normal) [] (w.forCall tape i)))
 (contract : ∀ (W : Gc) (base : Nat) (args : Array FX) (ds gs : List (LU H)) (before : List Le),
  (∀ (j : Nat) t v, fn.params[j]? = some t -> args[j]? = some v -> LV C.prog W .any base t v) ->
  DataW.Whole enc C.prog fn.params.toList s.vars apart W args.toList ds gs before -> laidMetH C.prog l W -> W.ShapedOpen C.prog ->
  IF C.prog f args W fun e W' => ∃ v, e = .returned v /\ s.post enc C.prog fn apart fresh handsOn again W args v W') :
 ReturnsInHanded a C os f .any (fun w args => (s.pre enc C.prog fn conds apart w args /\ laidMetH C.prog l w) /\ sizedMet enc C.prog fn (OpenSpec.ofChange s) apart w args) (s.post enc C.prog fn apart fresh handsOn again) := by
 refine returnsInHanded_of_calls own started noInit witness fun w tape i _ hsh _ hok e7j _ => ?_
 obtain ⟨_, _, _, fn', hfn', _, _, _, _, d1t⟩ := hok
 obtain rfl : fn' = fn := Iu (hfn'.symm.trans hfn)
 obtain ⟨⟨⟨ds, gs, before, hw, _⟩, hl⟩, _⟩ := e7j
 refine (contract (w.forCall tape i) w.heap.size i.args ds gs before d1t (DataW.Whole.of_heap (by rfl) hw) (hl.of_heap (by rfl)) hsh).mono fun e W' ⟨v, he, hp⟩ => ?_
 subst he
 exact ChangeSpec.post_blind hp
theorem door_met (os : Os) (args : Array FX) : laidMetH Tryz.prog Rows.topTextRow.laid ((Ly Tryz.prog os Rows.topTextRow.laid).forCall (fun _ _ => 0) ⟨#[], args, []⟩).memory := by
 rw [MakeChecks.laidMetH_plain _ _ _ (by kernel_rfl)]
 exact laidMet_laidAll _ (by kernel_rfl) (by kernel_rfl)
theorem door_shaped (os : Os) (args : Array FX) : ((Ly Tryz.prog os Rows.topTextRow.laid).forCall (fun _ _ => 0) ⟨#[], args, []⟩).Shaped Tryz.prog :=
 World.shaped_of_ZipB (by kernel_rfl) (by kernel_rfl)
end En
end
end Go.Proofs.YtkoilndpfifapaaGreatDoor
