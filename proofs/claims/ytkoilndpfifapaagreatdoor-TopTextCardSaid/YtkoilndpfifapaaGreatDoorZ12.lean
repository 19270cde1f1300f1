/- Texts. -/
import Derived.Test.YtkoilndpfifapaaGreatDoorZ11

set_option linter.unusedSimpArgs false
set_option linter.unusedVariables false
set_option linter.unusedSectionVars false
open Go.IntKind renaming i64 → FK
namespace Go.Proofs.YtkoilndpfifapaaGreatDoor
noncomputable section
namespace En
open Go Go.Proofs
set_option maxRecDepth 100000
set_option maxHeartbeats 8000000
def cM2 (N : Nat) (f : LB) (x1 x2 : Int) (x3 x4 x5 x6 x7 : List V) (x9 xa : Bool) (xb : Int) (xc : List V) (xd xe xf xg xh : Int) (xi xj : List V) (z : Int) : Option Int := (br xa (br (!decide (xg = 0)) (some 4) (br (!decide (xh = 0)) (some 4) (br (decide (0 < (xi.length : Int))) (some 4) (br (decide (0 < (xj.length : Int))) (some 4) (br xa (some 0) (br (decide (xg < z)) (some 2) (br (decide (16 < xg)) (some 2) (br (decide (xh < 0)) (some 2) (br (decide (16 < xh)) (some 2) (br (decide ((xi.length : Int) = 0)) (some 4) (br (decide (256 < (xi.length : Int))) (some 3) (br (decide (8 < (xj.length : Int))) (some 3) (j3 (a7i N xi f x1 x2 x3 x4 x5 x6 x7 x9 xa xb xc xd xe xf xg xh xi xj) fun u0 => br (!decide (u0 = 0)) (some u0) (j3 (a7R N xj x9 xa xb xc xd xe xf xg xh xi xj) fun u1 => some u1)))))))))))))) (br xa (some 0) (br (decide (xg < z)) (some 2) (br (decide (16 < xg)) (some 2) (br (decide (xh < 0)) (some 2) (br (decide (16 < xh)) (some 2) (br (decide ((xi.length : Int) = 0)) (some 4) (br (decide (256 < (xi.length : Int))) (some 3) (br (decide (8 < (xj.length : Int))) (some 3) (j3 (a7i N xi f x1 x2 x3 x4 x5 x6 x7 x9 xa xb xc xd xe xf xg xh xi xj) fun u2 => br (!decide (u2 = 0)) (some u2) (j3 (a7R N xj x9 xa xb xc xd xe xf xg xh xi xj) fun u3 => some u3)))))))))))
def cM3 (N : Nat) (f : LB) (x1 x2 : Int) (x3 x4 x5 x6 x7 : List V) (x9 xa : Bool) (xb : Int) (xc : List V) (xd xe xf xg xh : Int) (xi xj : List V) (z : Int) : Option Int := (br (decide (6 < (xc.length : Int))) (some 3) (j3 (a0h N f x1 x2 x3 x4 x5 x6 x7 xc) fun u0 => br (!u0) (some 22) (br (!(decide (xd = 0) && (decide (xe = 0) && (decide (xf = 0) && true) && true))) (j3 (a4H N f x1 x2 x3 x4 x5 x6 x7 xd xe xf) fun u1 => br (!u1) (some 22) (br (!x9) (br (decide (0 <= xb) && decide (xb < (x4.length : Int))) (at? x4 xb.toNat fun u2 => u2.unAgg fun u3 => e9 u3 fun u4 u5 => V.unInt FK u4 fun u6 => e9 u5 fun u7 u8 => V.unInt FK u7 fun u9 => e9 u8 fun u10 u11 => u10.unBool fun u12 => e9 u11 fun u13 u14 => V.unSl 42 u13 fun u15 => e9 u14 fun u16 u17 => V.unSl 44 u16 fun u18 => e9 u17 fun u19 u20 => V.unSl 3 u19 fun u21 => e9 u20 fun u22 u23 => V.unSl 105 u22 fun u24 => D2 u23 (br (!xa == u12) (some 4) (cM2 N f x1 x2 x3 x4 x5 x6 x7 x9 xa xb xc xd xe xf xg xh xi xj z))) none) (br (!xa == false) (some 4) (cM2 N f x1 x2 x3 x4 x5 x6 x7 x9 xa xb xc xd xe xf xg xh xi xj z)))) (br (!x9) (br (decide (0 <= xb) && decide (xb < (x4.length : Int))) (at? x4 xb.toNat fun u25 => u25.unAgg fun u26 => e9 u26 fun u27 u28 => V.unInt FK u27 fun u29 => e9 u28 fun u30 u31 => V.unInt FK u30 fun u32 => e9 u31 fun u33 u34 => u33.unBool fun u35 => e9 u34 fun u36 u37 => V.unSl 42 u36 fun u38 => e9 u37 fun u39 u40 => V.unSl 44 u39 fun u41 => e9 u40 fun u42 u43 => V.unSl 3 u42 fun u44 => e9 u43 fun u45 u46 => V.unSl 105 u45 fun u47 => D2 u46 (br (!xa == u35) (some 4) (cM2 N f x1 x2 x3 x4 x5 x6 x7 x9 xa xb xc xd xe xf xg xh xi xj z))) none) (br (!xa == false) (some 4) (cM2 N f x1 x2 x3 x4 x5 x6 x7 x9 xa xb xc xd xe xf xg xh xi xj z))))))
def a3d (N : Nat) (f : LB) (x1 x2 : Int) (x3 x4 x5 x6 x7 : List V) (x8 : Int) (x9 xa : Bool) (xb : Int) (xc : List V) (xd xe xf xg xh : Int) (xi xj : List V) : Option (Int) := br (!x9) (br x9 (br (!decide (xb = 0)) (some 2) (br (!x9) (j3 (D8 N xb (x4.length : Int)) fun b0 => br (!b0) (some 2) (cM3 N f x1 x2 x3 x4 x5 x6 x7 x9 xa xb xc xd xe xf xg xh xi xj (FK.wrap ((xc.length : Int) + 1)))) (cM3 N f x1 x2 x3 x4 x5 x6 x7 x9 xa xb xc xd xe xf xg xh xi xj (FK.wrap ((xc.length : Int) + 1))))) (br (!x9) (j3 (D8 N xb (x4.length : Int)) fun Ew => br (!Ew) (some 2) (cM3 N f x1 x2 x3 x4 x5 x6 x7 x9 xa xb xc xd xe xf xg xh xi xj (FK.wrap ((xc.length : Int) + 1)))) (cM3 N f x1 x2 x3 x4 x5 x6 x7 x9 xa xb xc xd xe xf xg xh xi xj (FK.wrap ((xc.length : Int) + 1))))) (br x9 (br (!decide (xb = 0)) (some 2) (br (!x9) (j3 (D8 N xb (x4.length : Int)) fun Ey => br (!Ey) (some 2) (cM3 N f x1 x2 x3 x4 x5 x6 x7 x9 xa xb xc xd xe xf xg xh xi xj ((xc.length : Int)))) (cM3 N f x1 x2 x3 x4 x5 x6 x7 x9 xa xb xc xd xe xf xg xh xi xj ((xc.length : Int))))) (br (!x9) (j3 (D8 N xb (x4.length : Int)) fun Ez => br (!Ez) (some 2) (cM3 N f x1 x2 x3 x4 x5 x6 x7 x9 xa xb xc xd xe xf xg xh xi xj ((xc.length : Int)))) (cM3 N f x1 x2 x3 x4 x5 x6 x7 x9 xa xb xc xd xe xf xg xh xi xj ((xc.length : Int)))))
def a9u (N : Nat) : Ent := pE 109 e7a (.v fI .z) (a3d N)
theorem b3N (N : Nat) : EO (a9u N) := pk0 (cx := cz [a0v N, b1V N, b4g N] [d3H N, d4I N, e3b N, e2D N]) (A9 ⟨X7 N, b5i N, b6N N, trivial⟩ ⟨d9P N, d8v N, e1b N, e1l N, trivial⟩) Tryz.func109 (by kernel_rfl) fun h => by kernel_rfl
def a3J (N : Nat) (f : LB) (x1 x2 : Int) (x3 x4 x5 x6 x7 : List V) : Option (Int) := j3 (a0h N f x1 x2 x3 x4 x5 x6 x7 x6) fun b0 => br (!b0) (some 22) (some 0)
def b4Y (N : Nat) : Ent := pE 63 b5F (.v fI .z) (a3J N)
theorem c3c (N : Nat) : EO (b4Y N) := pk0 (cx := cz [b1V N] []) (A9 ⟨b5i N, trivial⟩ trivial) Tryz.func63 (by kernel_rfl) fun h => by kernel_rfl
def c5U {R : Type} (N : Nat) (f : LB) (x1 x2 : Int) (U : LB) (y1 y2 : Int) (K0 : Bool -> Option R) : Option R := j3 (b6H N U f) fun b0 => K0 b0
def b8f (N : Nat) (f : LB) (x1 x2 : Int) (U : LB) (y1 y2 : Int) : Option (Bool) := c5U N f x1 x2 U y1 y2 (fun r0 => some r0)
def c4P (N : Nat) : MEnt := vE 114 (.a (.v .y (.v fI (.v fI .z))) (.p 0 .z)) [(67, [.n .y, .n fI, .n fI])] (.v .b .z) false (b8f N)
theorem c8V (N : Nat) : MEO (c4P N) := wk0 (cx := cz [c6Y N] []) (A9 ⟨c4b N, trivial⟩ trivial) Tryz.func114 (by kernel_rfl) (fun R => c5U (R := R) N) (fun R h K => by kernel_rfl) fun h => by kernel_rfl
def a2D {R : Type} (N : Nat) (Aa : List V) (u : Int) (l3 : LB) (x O : Int) (Lq : Int -> Option R) (K0 : Int -> Option R) (K1 : Option R) (d : Int) : Option R := br (decide (d < u)) (br (decide (0 <= d) && decide (d < (Aa.length : Int))) (at? Aa d.toNat fun f => f.unAgg fun l1 => e9 l1 fun x2 l3_1 => x2.unBytes fun l4 => e9 l3_1 fun x5 l6 => V.unInt FK x5 fun n7 => e9 l6 fun x8 l9 => V.unInt FK x8 fun na => D2 l9 (j3 (b8f N l4 n7 na l3 x O) fun AH => br AH (K0 d) (Lq (FK.wrap (d + 1))))) none) K1
def a5n {R : Type} (N : Nat) (Aa : List V) (u : Int) (l3 : LB) (x O : Int) : Nat -> Int -> (Int -> Option R) -> (Option R) -> Option R | 0, _, _, _ => none | t + 1, d, K0, K1 => a2D N Aa u l3 x O (fun d => a5n N Aa u l3 x O t d K0 K1) K0 K1 d
def b3z {R : Type} (N : Nat) (ds : List D) (m : Mem) (K : Ex -> List D -> Mem -> Option R) : Option R :=
 match ds, m with
 | [(.v (.sl 67 Aa) .no), (.clos 114 [(.ptr 1 0 0)]), (.v (.int .i64 u) .no), (.v (.int .i64 d) .no)], [[], [(0, ⟨67, [(.v (.bytes l3) .no), (.v (.int .i64 x) .no), (.v (.int .i64 O) .no)]⟩)]] => a5n N Aa u l3 x O N d (fun a0 => K .ret [(.v (.int .i64 a0) .no)] (e2x l3 x O)) (K (.exit 0) [.any] (e2x l3 x O))
 | _, _ => none
def c5y {R : Type} (N : Nat) (f : List V) (U : LB) (y1 y2 : Int) (K0 : Int -> Option R) : Option R := a5n N f (f.length : Int) U y1 y2 N 0 (fun j => K0 j) (K0 (-1))
def c5l (N : Nat) (f : List V) (U : LB) (y1 y2 : Int) : Option (Int) := c5y N f U y1 y2 (fun r0 => some r0)
def c7e (N : Nat) : Cx := cl [] [c4P N] [⟨2, [0, 1, 7, 8], [4], b3z N⟩]
theorem c9n (N : Nat) : p9 (c7e N) 19 (s4 Tryz.f175 0) := by
 refine j7 (rid := 2) (by kernel_rfl) rfl rfl fun R ds m K r h => ?_
 change b3z N ds m K = _ at h
 unfold b3z at h
 split at h
 . rename_i Aa u d l3 x O
   exact ⟨N, Eq.trans (lpI (fun (e : (Int -> Option R) × (Option R)) L (s : Int) => a2D N Aa u l3 x O (fun d => L d) e.1 e.2 s) (fun e t s => a5n N Aa u l3 x O t s e.1 e.2) (fun s => [(.v (.sl 67 Aa) .no), (.clos 114 [(.ptr 1 0 0)]), (.v (.int .i64 u) .no), (.v (.int .i64 s) .no)]) (fun s => e2x l3 x O) (fun _ _ => rfl) (fun _ _ _ => rfl) (e := (_, _)) (fun L s => by kernel_rfl) N d) h⟩
 . cases h
def d2M (N : Nat) : MEnt := vE 175 (.v (.l 67) (.c 114 (.p 0 .z) .z)) [(67, [.n .y, .n fI, .n fI])] (.v fI .z) false (c5l N)
theorem e0x (N : Nat) : MEO (d2M N) := wk (cx := c7e N) (D4 trivial ⟨c8V N, trivial⟩) Tryz.func175 (j6 (k := 1) (by kernel_rfl) ⟨trivial, c9n N⟩) (by kernel_rfl) (fun R => c5y (R := R) N) (fun R h K => by kernel_rfl) fun h => by kernel_rfl
def c6J {R : Type} (N : Nat) (f : List V) (U : LB) (y1 y2 : Int) (K0 : Bool -> Option R) : Option R := j3 (c5l N f U y1 y2) fun j => K0 (decide (0 <= j))
def b9o (N : Nat) (f : List V) (U : LB) (y1 y2 : Int) : Option (Bool) := c6J N f U y1 y2 (fun r0 => some r0)
def d1I (N : Nat) : MEnt := vE 113 (.v (.l 67) (.c 114 (.p 0 .z) .z)) [(67, [.n .y, .n fI, .n fI])] (.v .b .z) false (b9o N)
theorem d9m (N : Nat) : MEO (d1I N) := wk0 (cx := cz [] [d2M N]) (A9 trivial ⟨e0x N, trivial⟩) Tryz.func113 (by kernel_rfl) (fun R => c6J (R := R) N) (fun R h K => by kernel_rfl) fun h => by kernel_rfl
def b1S {R : Type} (N : Nat) (Aa Ab : List V) (d : Int) (Lq : Int -> Option R) (K0 : Bool -> Option R) (K1 : Option R) (i : Int) : Option R := br (decide (i < d)) (br (decide (0 <= i) && decide (i < (Aa.length : Int))) (at? Aa i.toNat fun f => f.unAgg fun l1 => e9 l1 fun x2 l3 => V.unInt FK x2 fun x => e9 l3 fun x5 l6 => V.unInt FK x5 fun n7 => e9 l6 fun x8 l9 => V.unInt FK x8 fun na => D2 l9 (br (decide (0 <= i) && decide (i < (Ab.length : Int))) (at? Ab i.toNat fun xb => xb.unAgg fun Ax => e9 Ax fun xd AL => V.unInt FK xd fun nf => e9 AL fun xg lh => V.unInt FK xg fun ni => e9 lh fun xj lk => V.unInt FK xj fun Aw => D2 lk (br (!(decide (x = nf) && (decide (n7 = ni) && (decide (na = Aw) && true) && true))) (K0 false) (Lq (FK.wrap (i + 1))))) none)) none) K1
def a1Q {R : Type} (N : Nat) (Aa Ab : List V) (d : Int) : Nat -> Int -> (Bool -> Option R) -> (Option R) -> Option R | 0, _, _, _ => none | t + 1, i, K0, K1 => b1S N Aa Ab d (fun i => a1Q N Aa Ab d t i K0 K1) K0 K1 i
def b9T {R : Type} (N : Nat) (ds : List D) (m : Mem) (K : Ex -> List D -> Mem -> Option R) : Option R :=
 match ds, m with
 | [(.v (.sl 44 Aa) .no), (.v (.sl 44 Ab) .no), (.v (.int .i64 d) .no), (.v (.int .i64 i) .no)], [[]] => a1Q N Aa Ab d N i (fun a0 => K .ret [(.v (.bool a0) .no)] [[]]) (K (.exit 0) [.any] [[]])
 | _, _ => none
def c7S (N : Nat) (f x1 : List V) : Option (Bool) := br (!decide ((f.length : Int) = (x1.length : Int))) (some false) (a1Q N f x1 (f.length : Int) N 0 (fun b0 => some b0) (some true))
def d6J (N : Nat) : Cx := cl [] [] [⟨4, [0, 1, 12, 13], [4], b9T N⟩]
theorem d2Z (N : Nat) : p9 (d6J N) 26 (s4 Tryz.f116 0) := by
 refine j7 (rid := 4) (by kernel_rfl) rfl rfl fun R ds m K r h => ?_
 change b9T N ds m K = _ at h
 unfold b9T at h
 split at h
 . rename_i Aa Ab d i
   exact ⟨N, Eq.trans (lpI (fun (e : (Bool -> Option R) × (Option R)) L (s : Int) => b1S N Aa Ab d (fun i => L i) e.1 e.2 s) (fun e t s => a1Q N Aa Ab d t s e.1 e.2) (fun s => [(.v (.sl 44 Aa) .no), (.v (.sl 44 Ab) .no), (.v (.int .i64 d) .no), (.v (.int .i64 s) .no)]) (fun s => [[]]) (fun _ _ => rfl) (fun _ _ _ => rfl) (e := (_, _)) (fun L s => by kernel_rfl) N i) h⟩
 . cases h
def e0W (N : Nat) : Ent := pE 116 (.v (.l 44) (.v (.l 44) .z)) (.v .b .z) (c7S N)
theorem e2Z (N : Nat) : EO (e0W N) := pk (cx := d6J N) (D4 trivial trivial) Tryz.func116 (j6 (k := 1) (by kernel_rfl) ⟨trivial, d2Z N⟩) (by kernel_rfl) fun h => by kernel_rfl
def d2L {R : Type} (N : Nat) (f : Int) (x1 : LB) (x2 x3 : Int) (U : LB) (y1 y2 : Int) (y3 y4 y5 y6 y7 : List V) (K0 : Int -> Option R) : Option R := j3 (a6t N x1) fun b0 => br (!b0) (K0 1) (br (decide (0 <= f) && decide (f <= (y7.length : Int))) (j3 (b9o N (List.take f.toNat y7) x1 x2 x3) fun b1 => br b1 (K0 13) (j3 (D8 N x2 (y4.length : Int)) fun b2 => br (!b2) (K0 2) (j3 (D8 N x3 (y5.length : Int)) fun b3 => br (!b3) (K0 2) (br (decide (0 <= x2) && decide (x2 < (y4.length : Int))) (at? y4 x2.toNat fun x4 => x4.unAgg fun l5 => e9 l5 fun x6 l7 => V.unInt FK x6 fun n8 => e9 l7 fun x9 la => V.unInt FK x9 fun nb => e9 la fun xc ld => xc.unBool fun AM => e9 ld fun xf lg => V.unSl 42 xf fun lh => e9 lg fun xi lj => V.unSl 44 xi fun lk => e9 lj fun xl AP => V.unSl 3 xl fun ln => e9 AP fun xo AX => V.unSl 105 xo fun AS => D2 AX (br AM (K0 4) (br (decide (0 <= x2) && decide (x2 < (y4.length : Int))) (at? y4 x2.toNat fun xr => xr.unAgg fun Ba => e9 Ba fun Bz lu => V.unInt FK Bz fun nv => e9 lu fun xw lx => V.unInt FK xw fun ny => e9 lx fun xz Bd => xz.unBool fun FD => e9 Bd fun BM AY => V.unSl 42 BM fun FE => e9 AY fun BN AZ => V.unSl 44 BN fun CM => e9 AZ fun Cp AU => V.unSl 3 Cp fun BP => e9 AU fun Cq Bi => V.unSl 105 Cq fun BQ => D2 Bi (br (decide ((BP.length : Int) < 4)) (K0 4) (br (decide (0 <= x3) && decide (x3 < (y5.length : Int))) (at? y5 x3.toNat fun BI => BI.unAgg fun Bb => e9 Bb fun Cv BF => Cv.unBool fun EA => e9 BF fun Cw Bj => Cw.unBool fun CG => e9 Bj fun BJ BD => V.unInt FK BJ fun CN => e9 BD fun BK BL => V.unSl 44 BK fun BE => e9 BL fun Cy Cz => V.unInt FK Cy fun EB => e9 Cz fun CA CB => V.unInt FK CA fun EC => e9 CB fun ED BR => V.unInt FK ED fun EE => e9 BR fun Ct Cu => V.unInt FK Ct fun FF => e9 Cu fun Cb BS => V.unInt FK Cb fun FG => e9 BS fun EF EG => V.unSl 54 EF fun FH => e9 EG fun EH EI => V.unSl 107 EH fun FI => D2 EI (br (!EA) (K0 22) (j3 (c7S N BE [V.agg [V.int FK 2, V.int FK 0, V.int FK 0]]) fun EJ => br (!EJ) (K0 22) (br (!(decide (EB = 5) && (decide (EC = 255) && (decide (EE = 0) && true) && true))) (K0 22) (K0 0))))) none))) none))) none)))) none)
def c3L (N : Nat) (f : Int) (x1 : LB) (x2 x3 : Int) (U : LB) (y1 y2 : Int) (y3 y4 y5 y6 y7 : List V) : Option (Int) := d2L N f x1 x2 x3 U y1 y2 y3 y4 y5 y6 y7 (fun r0 => some r0)
def d5G (N : Nat) : MEnt := vE 112 e3t c4n (.v fI .z) false (c3L N)
theorem d5Q (N : Nat) : MEO (d5G N) := wk0 (cx := cz [b1M N, a0v N, e0W N] [d1I N, c4P N]) (A9 ⟨b4i N, X7 N, e2Z N, trivial⟩ ⟨d9m N, c8V N, trivial⟩) Tryz.func112 (by kernel_rfl) (fun R => d2L (R := R) N) (fun R h K => by kernel_rfl) fun h => by kernel_rfl
def a3m {R : Type} (N : Nat) (Aa : List V) (u : Int) (l3 : LB) (x O : Int) (Ac Ad Ae Ai Ag : List V) (Lq : Int -> Option R) (K0 : Int -> Option R) (K1 : Option R) (d : Int) : Option R := br (decide (d < u)) (br (decide (0 <= d) && decide (d < (Aa.length : Int))) (at? Aa d.toNat fun f => f.unAgg fun l1 => e9 l1 fun x2 l3_1 => x2.unBytes fun l4 => e9 l3_1 fun x5 l6 => V.unInt FK x5 fun n7 => e9 l6 fun x8 l9 => V.unInt FK x8 fun na => D2 l9 (j3 (c3L N d l4 n7 na l3 x O Ac Ad Ae Ai Ag) fun nb => br (!decide (nb = 0)) (K0 nb) (Lq (FK.wrap (d + 1))))) none) K1
def a4L {R : Type} (N : Nat) (Aa : List V) (u : Int) (l3 : LB) (x O : Int) (Ac Ad Ae Ai Ag : List V) : Nat -> Int -> (Int -> Option R) -> (Option R) -> Option R | 0, _, _, _ => none | t + 1, d, K0, K1 => a3m N Aa u l3 x O Ac Ad Ae Ai Ag (fun d => a4L N Aa u l3 x O Ac Ad Ae Ai Ag t d K0 K1) K0 K1 d
def b2E {R : Type} (N : Nat) (ds : List D) (m : Mem) (K : Ex -> List D -> Mem -> Option R) : Option R :=
 match ds, m with
 | [(.clos 112 [(.ptr 1 0 0)]), (.v (.sl 67 Aa) .no), (.v (.int .i64 u) .no), (.v (.int .i64 d) .no)], [[], [(0, ⟨90, [(.v (.bytes l3) .no), (.v (.int .i64 x) .no), (.v (.int .i64 O) .no), (.v (.sl 58 Ac) .no), (.v (.sl 64 Ad) .no), (.v (.sl 47 Ae) .no), (.v (.sl 44 Ai) .no), (.v (.sl 67 Ag) .no)]⟩)]] => a4L N Aa u l3 x O Ac Ad Ae Ai Ag N d (fun a0 => K .ret [(.v (.int .i64 a0) .no)] (mm7 l3 x O Ac Ad Ae Ai Ag)) (K (.exit 0) [.any] (mm7 l3 x O Ac Ad Ae Ai Ag))
 | _, _ => none
def c5V {R : Type} (N : Nat) (f : List V) (U : LB) (y1 y2 : Int) (y3 y4 y5 y6 y7 : List V) (K0 : Int -> Option R) : Option R := a4L N f (f.length : Int) U y1 y2 y3 y4 y5 y6 y7 N 0 (fun j => K0 j) (K0 0)
def c0k (N : Nat) (f : List V) (U : LB) (y1 y2 : Int) (y3 y4 y5 y6 y7 : List V) : Option (Int) := c5V N f U y1 y2 y3 y4 y5 y6 y7 (fun r0 => some r0)
def c8A (N : Nat) : Cx := cl [] [d5G N] [⟨2, [1, 8, 9, 10], [4], b2E N⟩]
theorem d1f (N : Nat) : p9 (c8A N) 23 (s4 Tryz.f111 0) := by
 refine j7 (rid := 2) (by kernel_rfl) rfl rfl fun R ds m K r h => ?_
 change b2E N ds m K = _ at h
 unfold b2E at h
 split at h
 . rename_i Aa u d l3 x O Ac Ad Ae Ai Ag
   exact ⟨N, Eq.trans (lpI (fun (e : (Int -> Option R) × (Option R)) L (s : Int) => a3m N Aa u l3 x O Ac Ad Ae Ai Ag (fun d => L d) e.1 e.2 s) (fun e t s => a4L N Aa u l3 x O Ac Ad Ae Ai Ag t s e.1 e.2) (fun s => [(.clos 112 [(.ptr 1 0 0)]), (.v (.sl 67 Aa) .no), (.v (.int .i64 u) .no), (.v (.int .i64 s) .no)]) (fun s => mm7 l3 x O Ac Ad Ae Ai Ag) (fun _ _ => rfl) (fun _ _ _ => rfl) (e := (_, _)) (fun L s => by kernel_rfl) N d) h⟩
 . cases h
def d3J (N : Nat) : MEnt := vE 111 (.v (.l 67) (.c 112 (.p 0 .z) .z)) c4n (.v fI .z) false (c0k N)
theorem d8Q (N : Nat) : MEO (d3J N) := wk (cx := c8A N) (D4 trivial ⟨d5Q N, trivial⟩) Tryz.func111 (j6 (k := 1) (by kernel_rfl) ⟨trivial, d1f N⟩) (by kernel_rfl) (fun R => c5V (R := R) N) (fun R h K => by kernel_rfl) fun h => by kernel_rfl
def a7O (N : Nat) (f : LB) (x1 x2 : Int) (x3 x4 x5 x6 x7 : List V) : Option (Int) := j3 (c0k N x7 f x1 x2 x3 x4 x5 x6 x7) fun j => some j
def b4f (N : Nat) : Ent := pE 64 b5F (.v fI .z) (a7O N)
theorem c2y (N : Nat) : EO (b4f N) := pk0 (cx := cz [] [d3J N, d5G N]) (A9 trivial ⟨d8Q N, d5Q N, trivial⟩) Tryz.func64 (by kernel_rfl) fun h => by kernel_rfl
def a2v {R : Type} (N : Nat) (w : LB) (u d : Int) (AJ Ah Aj Ac Ad Ae : List V) (n9 : Int) (Lq : Int -> Option R) (K0 : Int -> Option R) (K1 : Option R) (na : Int) : Option R := br (decide (na < n9)) (br (decide (0 <= na) && decide (na < (Ae.length : Int))) (at? Ae na.toNat fun f => f.unAgg fun l1 => e9 l1 fun x2 l3 => V.unInt FK x2 fun x => e9 l3 fun x5 l6 => V.unInt FK x5 fun n7 => e9 l6 fun x8 l9 => x8.unBool fun AA => e9 l9 fun xb Ax => V.unSl 42 xb fun ld => e9 Ax fun xe AC => V.unSl 44 xe fun lg => e9 AC fun xh AO => V.unSl 3 xh fun lj => e9 AO fun xk ll => V.unSl 105 xk fun AP => D2 ll (j3 (a4W N w u d AJ Ah Aj Ac Ad na x n7 AA ld lg lj AP) fun nn => br (!decide (nn = 0)) (K0 nn) (Lq (FK.wrap (na + 1))))) none) K1
def a5X {R : Type} (N : Nat) (w : LB) (u d : Int) (AJ Ah Aj Ac Ad Ae : List V) (n9 : Int) : Nat -> Int -> (Int -> Option R) -> (Option R) -> Option R | 0, _, _, _ => none | t + 1, na, K0, K1 => a2v N w u d AJ Ah Aj Ac Ad Ae n9 (fun na => a5X N w u d AJ Ah Aj Ac Ad Ae n9 t na K0 K1) K0 K1 na
def b4E {R : Type} (N : Nat) (ds : List D) (m : Mem) (K : Ex -> List D -> Mem -> Option R) : Option R :=
 match ds, m with
 | [(.clos 1000107 [(.agg [(.v (.bytes w) .no), (.v (.int .i64 u) .no), (.v (.int .i64 d) .no), (.v (.sl 58 AJ) .no), (.v (.sl 64 Ah) .no), (.v (.sl 47 Aj) .no), (.v (.sl 44 Ac) .no), (.v (.sl 67 Ad) .no)])]), (.v (.sl 64 Ae) .no), (.v (.int .i64 n9) .no), (.v (.int .i64 na) .no)], [[]] => a5X N w u d AJ Ah Aj Ac Ad Ae n9 N na (fun a0 => K .ret [(.v (.int .i64 a0) .no)] [[]]) (K (.exit 0) [.any] [[]])
 | _, _ => none
def b8o (N : Nat) (f : List V) (x1 : LB) (x2 x3 : Int) (x4 x5 x6 x7 x8 : List V) : Option (Int) := a5X N x1 x2 x3 x4 x5 x6 x7 x8 f (f.length : Int) N 0 (fun j => some j) (some 0)
def c8P (N : Nat) : Cx := cl [b4e N] [] [⟨2, [1, 8, 9, 10], [4], b4E N⟩]
theorem d1l (N : Nat) : p9 (c8P N) 23 (s4 Tryz.f106 0) := by
 refine j7 (rid := 2) (by kernel_rfl) rfl rfl fun R ds m K r h => ?_
 change b4E N ds m K = _ at h
 unfold b4E at h
 split at h
 . rename_i w u d AJ Ah Aj Ac Ad Ae n9 na
   exact ⟨N, Eq.trans (lpI (fun (e : (Int -> Option R) × (Option R)) L (s : Int) => a2v N w u d AJ Ah Aj Ac Ad Ae n9 (fun na => L na) e.1 e.2 s) (fun e t s => a5X N w u d AJ Ah Aj Ac Ad Ae n9 t s e.1 e.2) (fun s => [(.clos 1000107 [(.agg [(.v (.bytes w) .no), (.v (.int .i64 u) .no), (.v (.int .i64 d) .no), (.v (.sl 58 AJ) .no), (.v (.sl 64 Ah) .no), (.v (.sl 47 Aj) .no), (.v (.sl 44 Ac) .no), (.v (.sl 67 Ad) .no)])]), (.v (.sl 64 Ae) .no), (.v (.int .i64 n9) .no), (.v (.int .i64 s) .no)]) (fun s => [[]]) (fun _ _ => rfl) (fun _ _ _ => rfl) (e := (_, _)) (fun L s => by kernel_rfl) N na) h⟩
 . cases h
def d5e (N : Nat) : Ent := pE 106 e6X (.v fI .z) (b8o N)
theorem e0c (N : Nat) : EO (d5e N) := pk (cx := c8P N) (D4 ⟨b6I N, trivial⟩ trivial) Tryz.func106 (j6 (k := 1) (by kernel_rfl) ⟨trivial, d1l N⟩) (by kernel_rfl) fun h => by kernel_rfl
def a2A {R : Type} (N : Nat) (w : LB) (u d : Int) (AJ Ah Aj Ac Ad Ae : List V) (n9 : Int) (Lq : Int -> Option R) (K0 : Int -> Option R) (K1 : Option R) (na : Int) : Option R := br (decide (na < n9)) (br (decide (0 <= na) && decide (na < (Ae.length : Int))) (at? Ae na.toNat fun f => f.unAgg fun l1 => e9 l1 fun x2 l3 => x2.unBool fun b4 => e9 l3 fun x5 l6 => x5.unBool fun b7 => e9 l6 fun x8 l9 => V.unInt FK x8 fun n10_1 => e9 l9 fun xb Ax => V.unSl 44 xb fun ld => e9 Ax fun xe AC => V.unInt FK xe fun ng => e9 AC fun xh AO => V.unInt FK xh fun nj => e9 AO fun xk ll => V.unInt FK xk fun AB => e9 ll fun xn Bc => V.unInt FK xn fun AE => e9 Bc fun xq lr => V.unInt FK xq fun ns => e9 lr fun Bz lu => V.unSl 54 Bz fun AT => e9 lu fun xw lx => V.unSl 107 xw fun ly => D2 lx (j3 (a3d N w u d AJ Ah Aj Ac Ad na b4 b7 n10_1 ld ng nj AB AE ns AT ly) fun nz => br (!decide (nz = 0)) (K0 nz) (Lq (FK.wrap (na + 1))))) none) K1
def a6a {R : Type} (N : Nat) (w : LB) (u d : Int) (AJ Ah Aj Ac Ad Ae : List V) (n9 : Int) : Nat -> Int -> (Int -> Option R) -> (Option R) -> Option R | 0, _, _, _ => none | t + 1, na, K0, K1 => a2A N w u d AJ Ah Aj Ac Ad Ae n9 (fun na => a6a N w u d AJ Ah Aj Ac Ad Ae n9 t na K0 K1) K0 K1 na
def b3b {R : Type} (N : Nat) (ds : List D) (m : Mem) (K : Ex -> List D -> Mem -> Option R) : Option R :=
 match ds, m with
 | [(.clos 1000109 [(.agg [(.v (.bytes w) .no), (.v (.int .i64 u) .no), (.v (.int .i64 d) .no), (.v (.sl 58 AJ) .no), (.v (.sl 64 Ah) .no), (.v (.sl 47 Aj) .no), (.v (.sl 44 Ac) .no), (.v (.sl 67 Ad) .no)])]), (.v (.sl 47 Ae) .no), (.v (.int .i64 n9) .no), (.v (.int .i64 na) .no)], [[]] => a6a N w u d AJ Ah Aj Ac Ad Ae n9 N na (fun a0 => K .ret [(.v (.int .i64 a0) .no)] [[]]) (K (.exit 0) [.any] [[]])
 | _, _ => none
def b8B (N : Nat) (f : List V) (x1 : LB) (x2 x3 : Int) (x4 x5 x6 x7 x8 : List V) : Option (Int) := a6a N x1 x2 x3 x4 x5 x6 x7 x8 f (f.length : Int) N 0 (fun j => some j) (some 0)
def c7d (N : Nat) : Cx := cl [a9u N] [] [⟨2, [1, 8, 9, 10], [4], b3b N⟩]
theorem d0l (N : Nat) : p9 (c7d N) 23 (s4 Tryz.f108 0) := by
 refine j7 (rid := 2) (by kernel_rfl) rfl rfl fun R ds m K r h => ?_
 change b3b N ds m K = _ at h
 unfold b3b at h
 split at h
 . rename_i w u d AJ Ah Aj Ac Ad Ae n9 na
   exact ⟨N, Eq.trans (lpI (fun (e : (Int -> Option R) × (Option R)) L (s : Int) => a2A N w u d AJ Ah Aj Ac Ad Ae n9 (fun na => L na) e.1 e.2 s) (fun e t s => a6a N w u d AJ Ah Aj Ac Ad Ae n9 t s e.1 e.2) (fun s => [(.clos 1000109 [(.agg [(.v (.bytes w) .no), (.v (.int .i64 u) .no), (.v (.int .i64 d) .no), (.v (.sl 58 AJ) .no), (.v (.sl 64 Ah) .no), (.v (.sl 47 Aj) .no), (.v (.sl 44 Ac) .no), (.v (.sl 67 Ad) .no)])]), (.v (.sl 47 Ae) .no), (.v (.int .i64 n9) .no), (.v (.int .i64 s) .no)]) (fun s => [[]]) (fun _ _ => rfl) (fun _ _ _ => rfl) (e := (_, _)) (fun L s => by kernel_rfl) N na) h⟩
 . cases h
def d6L (N : Nat) : Ent := pE 108 e6y (.v fI .z) (b8B N)
theorem d8J (N : Nat) : EO (d6L N) := pk (cx := c7d N) (D4 ⟨b3N N, trivial⟩ trivial) Tryz.func108 (j6 (k := 1) (by kernel_rfl) ⟨trivial, d0l N⟩) (by kernel_rfl) fun h => by kernel_rfl
def a7d (N : Nat) (f : LB) (x1 x2 : Int) (x3 x4 x5 x6 x7 : List V) : Option (Int) := j3 (b8o N x4 f x1 x2 x3 x4 x5 x6 x7) fun j => some j
def b5f (N : Nat) : Ent := pE 61 b5F (.v fI .z) (a7d N)
theorem c2r (N : Nat) : EO (b5f N) := pk0 (cx := cz [d5e N, b4e N] []) (A9 ⟨e0c N, b6I N, trivial⟩ trivial) Tryz.func61 (by kernel_rfl) fun h => by kernel_rfl
end En
end
end Go.Proofs.YtkoilndpfifapaaGreatDoor
