/- Several texts in one. -/
import Derived.Test.YtkoilndpfifapaaGreatDoorZ11

set_option linter.unusedSimpArgs false
set_option linter.unusedVariables false
set_option linter.unusedSectionVars false
open Go.IntKind renaming i64 → FK
namespace Go.Proofs.YtkoilndpfifapaaGreatDoor
noncomputable section
namespace En
open Go Go.Proofs
set_option maxRecDepth 100000
set_option maxHeartbeats 8000000
def cM2 (N : Nat) (f : LB) (x1 x2 : Int) (x3 x4 x5 x6 x7 : List V) (x9 xa : Bool) (xb : Int) (xc : List V) (xd xe xf xg xh : Int) (xi xj : List V) (z : Int) : Option Int := (br xa (br (!decide (xg = 0)) (some 4) (br (!decide (xh = 0)) (some 4) (br (decide (0 < (xi.length : Int))) (some 4) (br (decide (0 < (xj.length : Int))) (some 4) (br xa (some 0) (br (decide (xg < z)) (some 2) (br (decide (16 < xg)) (some 2) (br (decide (xh < 0)) (some 2) (br (decide (16 < xh)) (some 2) (br (decide ((xi.length : Int) = 0)) (some 4) (br (decide (256 < (xi.length : Int))) (some 3) (br (decide (8 < (xj.length : Int))) (some 3) (j3 (a7g N xi f x1 x2 x3 x4 x5 x6 x7 x9 xa xb xc xd xe xf xg xh xi xj) fun u0 => br (!decide (u0 = 0)) (some u0) (j3 (a7o N xj x9 xa xb xc xd xe xf xg xh xi xj) fun u1 => some u1)))))))))))))) (br xa (some 0) (br (decide (xg < z)) (some 2) (br (decide (16 < xg)) (some 2) (br (decide (xh < 0)) (some 2) (br (decide (16 < xh)) (some 2) (br (decide ((xi.length : Int) = 0)) (some 4) (br (decide (256 < (xi.length : Int))) (some 3) (br (decide (8 < (xj.length : Int))) (some 3) (j3 (a7g N xi f x1 x2 x3 x4 x5 x6 x7 x9 xa xb xc xd xe xf xg xh xi xj) fun u2 => br (!decide (u2 = 0)) (some u2) (j3 (a7o N xj x9 xa xb xc xd xe xf xg xh xi xj) fun u3 => some u3)))))))))))
def cM3 (N : Nat) (f : LB) (x1 x2 : Int) (x3 x4 x5 x6 x7 : List V) (x9 xa : Bool) (xb : Int) (xc : List V) (xd xe xf xg xh : Int) (xi xj : List V) (z : Int) : Option Int := (br (decide (6 < (xc.length : Int))) (some 3) (j3 (a0o N f x1 x2 x3 x4 x5 x6 x7 xc) fun u0 => br (!u0) (some 22) (br (!(decide (xd = 0) && (decide (xe = 0) && (decide (xf = 0) && true) && true))) (j3 (a5k N f x1 x2 x3 x4 x5 x6 x7 xd xe xf) fun u1 => br (!u1) (some 22) (br (!x9) (br (decide (0 <= xb) && decide (xb < (x4.length : Int))) (at? x4 xb.toNat fun u2 => u2.unAgg fun u3 => e9 u3 fun u4 u5 => V.unInt FK u4 fun u6 => e9 u5 fun u7 u8 => V.unInt FK u7 fun u9 => e9 u8 fun u10 u11 => u10.unBool fun u12 => e9 u11 fun u13 u14 => V.unSl 42 u13 fun u15 => e9 u14 fun u16 u17 => V.unSl 44 u16 fun u18 => e9 u17 fun u19 u20 => V.unSl 3 u19 fun u21 => e9 u20 fun u22 u23 => V.unSl 105 u22 fun u24 => D2 u23 (br (!xa == u12) (some 4) (cM2 N f x1 x2 x3 x4 x5 x6 x7 x9 xa xb xc xd xe xf xg xh xi xj z))) none) (br (!xa == false) (some 4) (cM2 N f x1 x2 x3 x4 x5 x6 x7 x9 xa xb xc xd xe xf xg xh xi xj z)))) (br (!x9) (br (decide (0 <= xb) && decide (xb < (x4.length : Int))) (at? x4 xb.toNat fun u25 => u25.unAgg fun u26 => e9 u26 fun u27 u28 => V.unInt FK u27 fun u29 => e9 u28 fun u30 u31 => V.unInt FK u30 fun u32 => e9 u31 fun u33 u34 => u33.unBool fun u35 => e9 u34 fun u36 u37 => V.unSl 42 u36 fun u38 => e9 u37 fun u39 u40 => V.unSl 44 u39 fun u41 => e9 u40 fun u42 u43 => V.unSl 3 u42 fun u44 => e9 u43 fun u45 u46 => V.unSl 105 u45 fun u47 => D2 u46 (br (!xa == u35) (some 4) (cM2 N f x1 x2 x3 x4 x5 x6 x7 x9 xa xb xc xd xe xf xg xh xi xj z))) none) (br (!xa == false) (some 4) (cM2 N f x1 x2 x3 x4 x5 x6 x7 x9 xa xb xc xd xe xf xg xh xi xj z))))))
def a2C (N : Nat) (f : LB) (x1 x2 : Int) (x3 x4 x5 x6 x7 : List V) (x8 : Int) (x9 xa : Bool) (xb : Int) (xc : List V) (xd xe xf xg xh : Int) (xi xj : List V) : Option (Int) := br (!x9) (br x9 (br (!decide (xb = 0)) (some 2) (br (!x9) (j3 (D8 N xb (x4.length : Int)) fun b0 => br (!b0) (some 2) (cM3 N f x1 x2 x3 x4 x5 x6 x7 x9 xa xb xc xd xe xf xg xh xi xj (FK.wrap ((xc.length : Int) + 1)))) (cM3 N f x1 x2 x3 x4 x5 x6 x7 x9 xa xb xc xd xe xf xg xh xi xj (FK.wrap ((xc.length : Int) + 1))))) (br (!x9) (j3 (D8 N xb (x4.length : Int)) fun Ew => br (!Ew) (some 2) (cM3 N f x1 x2 x3 x4 x5 x6 x7 x9 xa xb xc xd xe xf xg xh xi xj (FK.wrap ((xc.length : Int) + 1)))) (cM3 N f x1 x2 x3 x4 x5 x6 x7 x9 xa xb xc xd xe xf xg xh xi xj (FK.wrap ((xc.length : Int) + 1))))) (br x9 (br (!decide (xb = 0)) (some 2) (br (!x9) (j3 (D8 N xb (x4.length : Int)) fun Ey => br (!Ey) (some 2) (cM3 N f x1 x2 x3 x4 x5 x6 x7 x9 xa xb xc xd xe xf xg xh xi xj ((xc.length : Int)))) (cM3 N f x1 x2 x3 x4 x5 x6 x7 x9 xa xb xc xd xe xf xg xh xi xj ((xc.length : Int))))) (br (!x9) (j3 (D8 N xb (x4.length : Int)) fun Ez => br (!Ez) (some 2) (cM3 N f x1 x2 x3 x4 x5 x6 x7 x9 xa xb xc xd xe xf xg xh xi xj ((xc.length : Int)))) (cM3 N f x1 x2 x3 x4 x5 x6 x7 x9 xa xb xc xd xe xf xg xh xi xj ((xc.length : Int)))))
def c5y (N : Nat) : Cx := cz [a0y N, b1Z N, b5p N] [d5Y N, d6f N, e4H N, e3M N]
def b0h (N : Nat) : Ent := pE 109 e7p (.v fI .z) (a2C N)
theorem b3j (N : Nat) : EO (b0h N) := pk0 (cx := c5y N) (A9 ⟨Y8 N, b5w N, b6u N, trivial⟩ ⟨e1J N, d8X N, e2K N, e2p N, trivial⟩) Tryz.func109 (by kernel_rfl) fun h => by kernel_rfl
def a4o (N : Nat) (f : LB) (x1 x2 : Int) (x3 x4 x5 x6 x7 : List V) : Option (Int) := j3 (a0o N f x1 x2 x3 x4 x5 x6 x7 x6) fun b0 => br (!b0) (some 22) (some 0)
def c2E (N : Nat) : Cx := cz [b1Z N] []
def b4d (N : Nat) : Ent := pE 63 b5R (.v fI .z) (a4o N)
theorem c1y (N : Nat) : EO (b4d N) := pk0 (cx := c2E N) (A9 ⟨b5w N, trivial⟩ trivial) Tryz.func63 (by kernel_rfl) fun h => by kernel_rfl
def c4t {R : Type} (N : Nat) (f : LB) (x1 x2 : Int) (U : LB) (y1 y2 : Int) (K0 : Bool -> Option R) : Option R := j3 (b6v N U f) fun b0 => K0 b0
def b8n (N : Nat) (f : LB) (x1 x2 : Int) (U : LB) (y1 y2 : Int) : Option (Bool) := c4t N f x1 x2 U y1 y2 (fun r0 => some r0)
def e1I (N : Nat) : Cx := cz [c7A N] []
def c6y (N : Nat) : MEnt := vE 114 (.a (.v .y (.v fI (.v fI .z))) (.p 0 .z)) [(67, [.n .y, .n fI, .n fI])] (.v .b .z) false (b8n N)
theorem c8b (N : Nat) : MEO (c6y N) := wk0 (cx := e1I N) (A9 ⟨c5b N, trivial⟩ trivial) Tryz.func114 (by kernel_rfl) (fun R => c4t (R := R) N) (fun R h K => by kernel_rfl) fun h => by kernel_rfl
def a2W {R : Type} (N : Nat) (Aa : List V) (u : Int) (l3 : LB) (x O : Int) (Lq : Int -> Option R) (K0 : Int -> Option R) (K1 : Option R) (d : Int) : Option R := br (decide (d < u)) (br (decide (0 <= d) && decide (d < (Aa.length : Int))) (at? Aa d.toNat fun f => f.unAgg fun l1 => e9 l1 fun x2 l3_1 => x2.unBytes fun l4 => e9 l3_1 fun x5 l6 => V.unInt FK x5 fun n7 => e9 l6 fun x8 l9 => V.unInt FK x8 fun na => D2 l9 (j3 (b8n N l4 n7 na l3 x O) fun AI => br AI (K0 d) (Lq (FK.wrap (d + 1))))) none) K1
def a5G {R : Type} (N : Nat) (Aa : List V) (u : Int) (l3 : LB) (x O : Int) : Nat -> Int -> (Int -> Option R) -> (Option R) -> Option R | 0, _, _, _ => none | t + 1, d, K0, K1 => a2W N Aa u l3 x O (fun d => a5G N Aa u l3 x O t d K0 K1) K0 K1 d
def b3O {R : Type} (N : Nat) (ds : List D) (m : Mem) (K : Ex -> List D -> Mem -> Option R) : Option R :=
 match ds, m with
 | [(.v (.sl 67 Aa) .no), (.clos 114 [(.ptr 1 0 0)]), (.v (.int .i64 u) .no), (.v (.int .i64 d) .no)], d9u l3 x O => a5G N Aa u l3 x O N d (fun a0 => K .ret [(.v (.int .i64 a0) .no)] (d9u l3 x O)) (K (.exit 0) [.any] (d9u l3 x O))
 | _, _ => none
def c6Z {R : Type} (N : Nat) (f : List V) (U : LB) (y1 y2 : Int) (K0 : Int -> Option R) : Option R := a5G N f (f.length : Int) U y1 y2 N 0 (fun j => K0 j) (K0 (-1))
def c5g (N : Nat) (f : List V) (U : LB) (y1 y2 : Int) : Option (Int) := c6Z N f U y1 y2 (fun r0 => some r0)
def c7I (N : Nat) : Cx := cl [] [c6y N] [⟨2, [0, 1, 7, 8], [4], b3O N⟩]
theorem d0V (N : Nat) : p9 (c7I N) 19 (s4 Tryz.f175 0) := by
 refine j7 (rid := 2) (by kernel_rfl) rfl rfl fun R ds m K r h => ?_
 change b3O N ds m K = _ at h
 unfold b3O at h
 split at h
 . rename_i Aa u d l3 x O
   exact ⟨N, Eq.trans (lpI (fun (e : (Int -> Option R) × (Option R)) L (s : Int) => a2W N Aa u l3 x O (fun d => L d) e.1 e.2 s) (fun e t s => a5G N Aa u l3 x O t s e.1 e.2) (fun s => [(.v (.sl 67 Aa) .no), (.clos 114 [(.ptr 1 0 0)]), (.v (.int .i64 u) .no), (.v (.int .i64 s) .no)]) (fun s => d9u l3 x O) (fun _ _ => rfl) (fun _ _ _ => rfl) (e := (_, _)) (fun L s => by kernel_rfl) N d) h⟩
 . cases h
def d5D (N : Nat) : MEnt := vE 175 (.v (.l 67) (.c 114 (.p 0 .z) .z)) [(67, [.n .y, .n fI, .n fI])] (.v fI .z) false (c5g N)
theorem e2h (N : Nat) : MEO (d5D N) := wk (cx := c7I N) (D4 trivial ⟨c8b N, trivial⟩) Tryz.func175 (j6 (k := 1) (by kernel_rfl) ⟨trivial, d0V N⟩) (by kernel_rfl) (fun R => c6Z (R := R) N) (fun R h K => by kernel_rfl) fun h => by kernel_rfl
def c6w {R : Type} (N : Nat) (f : List V) (U : LB) (y1 y2 : Int) (K0 : Bool -> Option R) : Option R := j3 (c5g N f U y1 y2) fun j => K0 (decide (0 <= j))
def b8o (N : Nat) (f : List V) (U : LB) (y1 y2 : Int) : Option (Bool) := c6w N f U y1 y2 (fun r0 => some r0)
def d8z (N : Nat) : Cx := cz [] [d5D N]
def d2r (N : Nat) : MEnt := vE 113 (.v (.l 67) (.c 114 (.p 0 .z) .z)) [(67, [.n .y, .n fI, .n fI])] (.v .b .z) false (b8o N)
theorem e1G (N : Nat) : MEO (d2r N) := wk0 (cx := d8z N) (A9 trivial ⟨e2h N, trivial⟩) Tryz.func113 (by kernel_rfl) (fun R => c6w (R := R) N) (fun R h K => by kernel_rfl) fun h => by kernel_rfl
def b1M {R : Type} (N : Nat) (Aa Ab : List V) (d : Int) (Lq : Int -> Option R) (K0 : Bool -> Option R) (K1 : Option R) (i : Int) : Option R := br (decide (i < d)) (br (decide (0 <= i) && decide (i < (Aa.length : Int))) (at? Aa i.toNat fun f => f.unAgg fun l1 => e9 l1 fun x2 l3 => V.unInt FK x2 fun x => e9 l3 fun x5 l6 => V.unInt FK x5 fun n7 => e9 l6 fun x8 l9 => V.unInt FK x8 fun na => D2 l9 (br (decide (0 <= i) && decide (i < (Ab.length : Int))) (at? Ab i.toNat fun xb => xb.unAgg fun Ax => e9 Ax fun xd AL => V.unInt FK xd fun nf => e9 AL fun xg lh => V.unInt FK xg fun ni => e9 lh fun xj lk => V.unInt FK xj fun Aw => D2 lk (br (!(decide (x = nf) && (decide (n7 = ni) && (decide (na = Aw) && true) && true))) (K0 false) (Lq (FK.wrap (i + 1))))) none)) none) K1
def a1P {R : Type} (N : Nat) (Aa Ab : List V) (d : Int) : Nat -> Int -> (Bool -> Option R) -> (Option R) -> Option R | 0, _, _, _ => none | t + 1, i, K0, K1 => b1M N Aa Ab d (fun i => a1P N Aa Ab d t i K0 K1) K0 K1 i
def b9C {R : Type} (N : Nat) (ds : List D) (m : Mem) (K : Ex -> List D -> Mem -> Option R) : Option R :=
 match ds, m with
 | [(.v (.sl 44 Aa) .no), (.v (.sl 44 Ab) .no), (.v (.int .i64 d) .no), (.v (.int .i64 i) .no)], [[]] => a1P N Aa Ab d N i (fun a0 => K .ret [(.v (.bool a0) .no)] [[]]) (K (.exit 0) [.any] [[]])
 | _, _ => none
def c8N (N : Nat) (f x1 : List V) : Option (Bool) := br (!decide ((f.length : Int) = (x1.length : Int))) (some false) (a1P N f x1 (f.length : Int) N 0 (fun b0 => some b0) (some true))
def d6I (N : Nat) : Cx := cl [] [] [⟨4, [0, 1, 12, 13], [4], b9C N⟩]
theorem d3k (N : Nat) : p9 (d6I N) 26 (s4 Tryz.f116 0) := by
 refine j7 (rid := 4) (by kernel_rfl) rfl rfl fun R ds m K r h => ?_
 change b9C N ds m K = _ at h
 unfold b9C at h
 split at h
 . rename_i Aa Ab d i
   exact ⟨N, Eq.trans (lpI (fun (e : (Bool -> Option R) × (Option R)) L (s : Int) => b1M N Aa Ab d (fun i => L i) e.1 e.2 s) (fun e t s => a1P N Aa Ab d t s e.1 e.2) (fun s => [(.v (.sl 44 Aa) .no), (.v (.sl 44 Ab) .no), (.v (.int .i64 d) .no), (.v (.int .i64 s) .no)]) (fun s => [[]]) (fun _ _ => rfl) (fun _ _ _ => rfl) (e := (_, _)) (fun L s => by kernel_rfl) N i) h⟩
 . cases h
def e2y (N : Nat) : Ent := pE 116 (.v (.l 44) (.v (.l 44) .z)) (.v .b .z) (c8N N)
theorem e3h (N : Nat) : EO (e2y N) := pk (cx := d6I N) (D4 trivial trivial) Tryz.func116 (j6 (k := 1) (by kernel_rfl) ⟨trivial, d3k N⟩) (by kernel_rfl) fun h => by kernel_rfl
def d2a {R : Type} (N : Nat) (f : Int) (x1 : LB) (x2 x3 : Int) (U : LB) (y1 y2 : Int) (y3 y4 y5 y6 y7 : List V) (K0 : Int -> Option R) : Option R := j3 (a6E N x1) fun b0 => br (!b0) (K0 1) (br (decide (0 <= f) && decide (f <= (y7.length : Int))) (j3 (b8o N (List.take f.toNat y7) x1 x2 x3) fun b1 => br b1 (K0 13) (j3 (D8 N x2 (y4.length : Int)) fun b2 => br (!b2) (K0 2) (j3 (D8 N x3 (y5.length : Int)) fun b3 => br (!b3) (K0 2) (br (decide (0 <= x2) && decide (x2 < (y4.length : Int))) (at? y4 x2.toNat fun x4 => x4.unAgg fun l5 => e9 l5 fun x6 l7 => V.unInt FK x6 fun n8 => e9 l7 fun x9 la => V.unInt FK x9 fun nb => e9 la fun xc ld => xc.unBool fun AM => e9 ld fun xf lg => V.unSl 42 xf fun lh => e9 lg fun xi lj => V.unSl 44 xi fun lk => e9 lj fun xl AP => V.unSl 3 xl fun ln => e9 AP fun xo AX => V.unSl 105 xo fun AT => D2 AX (br AM (K0 4) (br (decide (0 <= x2) && decide (x2 < (y4.length : Int))) (at? y4 x2.toNat fun xr => xr.unAgg fun Ba => e9 Ba fun Bz lu => V.unInt FK Bz fun nv => e9 lu fun xw lx => V.unInt FK xw fun ny => e9 lx fun xz Bd => xz.unBool fun FD => e9 Bd fun BM AY => V.unSl 42 BM fun FE => e9 AY fun BN AZ => V.unSl 44 BN fun CM => e9 AZ fun Cp AV => V.unSl 3 Cp fun BP => e9 AV fun Cq Bi => V.unSl 105 Cq fun BQ => D2 Bi (br (decide ((BP.length : Int) < 4)) (K0 4) (br (decide (0 <= x3) && decide (x3 < (y5.length : Int))) (at? y5 x3.toNat fun BI => BI.unAgg fun Bb => e9 Bb fun Cv BF => Cv.unBool fun EA => e9 BF fun Cw Bj => Cw.unBool fun CG => e9 Bj fun BJ BD => V.unInt FK BJ fun CN => e9 BD fun BK BL => V.unSl 44 BK fun BE => e9 BL fun Cy Cz => V.unInt FK Cy fun EB => e9 Cz fun CA CB => V.unInt FK CA fun EC => e9 CB fun ED BR => V.unInt FK ED fun EE => e9 BR fun Ct Cu => V.unInt FK Ct fun FF => e9 Cu fun Cb BS => V.unInt FK Cb fun FG => e9 BS fun EF EG => V.unSl 54 EF fun FH => e9 EG fun EH EI => V.unSl 107 EH fun FI => D2 EI (br (!EA) (K0 22) (j3 (c8N N BE [V.agg [V.int FK 2, V.int FK 0, V.int FK 0]]) fun EJ => br (!EJ) (K0 22) (br (!(decide (EB = 5) && (decide (EC = 255) && (decide (EE = 0) && true) && true))) (K0 22) (K0 0))))) none))) none))) none)))) none)
def c3E (N : Nat) (f : Int) (x1 : LB) (x2 x3 : Int) (U : LB) (y1 y2 : Int) (y3 y4 y5 y6 y7 : List V) : Option (Int) := d2a N f x1 x2 x3 U y1 y2 y3 y4 y5 y6 y7 (fun r0 => some r0)
def e3V (N : Nat) : Cx := cz [b1z N, a0y N, e2y N] [d2r N, c6y N]
def d2h (N : Nat) : MEnt := vE 112 e5K c5u (.v fI .z) false (c3E N)
theorem d6q (N : Nat) : MEO (d2h N) := wk0 (cx := e3V N) (A9 ⟨b4M N, Y8 N, e3h N, trivial⟩ ⟨e1G N, c8b N, trivial⟩) Tryz.func112 (by kernel_rfl) (fun R => d2a (R := R) N) (fun R h K => by kernel_rfl) fun h => by kernel_rfl
def a3l {R : Type} (N : Nat) (Aa : List V) (u : Int) (l3 : LB) (x O : Int) (Ac Ad Ae Aj Ag : List V) (Lq : Int -> Option R) (K0 : Int -> Option R) (K1 : Option R) (d : Int) : Option R := br (decide (d < u)) (br (decide (0 <= d) && decide (d < (Aa.length : Int))) (at? Aa d.toNat fun f => f.unAgg fun l1 => e9 l1 fun x2 l3_1 => x2.unBytes fun l4 => e9 l3_1 fun x5 l6 => V.unInt FK x5 fun n7 => e9 l6 fun x8 l9 => V.unInt FK x8 fun na => D2 l9 (j3 (c3E N d l4 n7 na l3 x O Ac Ad Ae Aj Ag) fun nb => br (!decide (nb = 0)) (K0 nb) (Lq (FK.wrap (d + 1))))) none) K1
def a5V {R : Type} (N : Nat) (Aa : List V) (u : Int) (l3 : LB) (x O : Int) (Ac Ad Ae Aj Ag : List V) : Nat -> Int -> (Int -> Option R) -> (Option R) -> Option R | 0, _, _, _ => none | t + 1, d, K0, K1 => a3l N Aa u l3 x O Ac Ad Ae Aj Ag (fun d => a5V N Aa u l3 x O Ac Ad Ae Aj Ag t d K0 K1) K0 K1 d
def b3Q {R : Type} (N : Nat) (ds : List D) (m : Mem) (K : Ex -> List D -> Mem -> Option R) : Option R :=
 match ds, m with
 | [(.clos 112 [(.ptr 1 0 0)]), (.v (.sl 67 Aa) .no), (.v (.int .i64 u) .no), (.v (.int .i64 d) .no)], mm7 l3 x O Ac Ad Ae Aj Ag => a5V N Aa u l3 x O Ac Ad Ae Aj Ag N d (fun a0 => K .ret [(.v (.int .i64 a0) .no)] (mm7 l3 x O Ac Ad Ae Aj Ag)) (K (.exit 0) [.any] (mm7 l3 x O Ac Ad Ae Aj Ag))
 | _, _ => none
def c5m {R : Type} (N : Nat) (f : List V) (U : LB) (y1 y2 : Int) (y3 y4 y5 y6 y7 : List V) (K0 : Int -> Option R) : Option R := a5V N f (f.length : Int) U y1 y2 y3 y4 y5 y6 y7 N 0 (fun j => K0 j) (K0 0)
def c0o (N : Nat) (f : List V) (U : LB) (y1 y2 : Int) (y3 y4 y5 y6 y7 : List V) : Option (Int) := c5m N f U y1 y2 y3 y4 y5 y6 y7 (fun r0 => some r0)
def c9c (N : Nat) : Cx := cl [] [d2h N] [⟨2, [1, 8, 9, 10], [4], b3Q N⟩]
theorem d0N (N : Nat) : p9 (c9c N) 23 (s4 Tryz.f111 0) := by
 refine j7 (rid := 2) (by kernel_rfl) rfl rfl fun R ds m K r h => ?_
 change b3Q N ds m K = _ at h
 unfold b3Q at h
 split at h
 . rename_i Aa u d l3 x O Ac Ad Ae Aj Ag
   exact ⟨N, Eq.trans (lpI (fun (e : (Int -> Option R) × (Option R)) L (s : Int) => a3l N Aa u l3 x O Ac Ad Ae Aj Ag (fun d => L d) e.1 e.2 s) (fun e t s => a5V N Aa u l3 x O Ac Ad Ae Aj Ag t s e.1 e.2) (fun s => [(.clos 112 [(.ptr 1 0 0)]), (.v (.sl 67 Aa) .no), (.v (.int .i64 u) .no), (.v (.int .i64 s) .no)]) (fun s => mm7 l3 x O Ac Ad Ae Aj Ag) (fun _ _ => rfl) (fun _ _ _ => rfl) (e := (_, _)) (fun L s => by kernel_rfl) N d) h⟩
 . cases h
def d5k (N : Nat) : MEnt := vE 111 (.v (.l 67) (.c 112 (.p 0 .z) .z)) c5u (.v fI .z) false (c0o N)
theorem e0n (N : Nat) : MEO (d5k N) := wk (cx := c9c N) (D4 trivial ⟨d6q N, trivial⟩) Tryz.func111 (j6 (k := 1) (by kernel_rfl) ⟨trivial, d0N N⟩) (by kernel_rfl) (fun R => c5m (R := R) N) (fun R h K => by kernel_rfl) fun h => by kernel_rfl
def a7S (N : Nat) (f : LB) (x1 x2 : Int) (x3 x4 x5 x6 x7 : List V) : Option (Int) := j3 (c0o N x7 f x1 x2 x3 x4 x5 x6 x7) fun j => some j
def c0J (N : Nat) : Cx := cz [] [d5k N, d2h N]
def b4a (N : Nat) : Ent := pE 64 b5R (.v fI .z) (a7S N)
theorem c0x (N : Nat) : EO (b4a N) := pk0 (cx := c0J N) (A9 trivial ⟨e0n N, d6q N, trivial⟩) Tryz.func64 (by kernel_rfl) fun h => by kernel_rfl
def a2X {R : Type} (N : Nat) (w : LB) (u d : Int) (AG Ah Ai Ac Ad Ae : List V) (n9 : Int) (Lq : Int -> Option R) (K0 : Int -> Option R) (K1 : Option R) (na : Int) : Option R := br (decide (na < n9)) (br (decide (0 <= na) && decide (na < (Ae.length : Int))) (at? Ae na.toNat fun f => f.unAgg fun l1 => e9 l1 fun x2 l3 => V.unInt FK x2 fun x => e9 l3 fun x5 l6 => V.unInt FK x5 fun n7 => e9 l6 fun x8 l9 => x8.unBool fun AA => e9 l9 fun xb Ax => V.unSl 42 xb fun ld => e9 Ax fun xe AC => V.unSl 44 xe fun lg => e9 AC fun xh AO => V.unSl 3 xh fun lj => e9 AO fun xk ll => V.unSl 105 xk fun AP => D2 ll (j3 (a4W N w u d AG Ah Ai Ac Ad na x n7 AA ld lg lj AP) fun nn => br (!decide (nn = 0)) (K0 nn) (Lq (FK.wrap (na + 1))))) none) K1
def a5H {R : Type} (N : Nat) (w : LB) (u d : Int) (AG Ah Ai Ac Ad Ae : List V) (n9 : Int) : Nat -> Int -> (Int -> Option R) -> (Option R) -> Option R | 0, _, _, _ => none | t + 1, na, K0, K1 => a2X N w u d AG Ah Ai Ac Ad Ae n9 (fun na => a5H N w u d AG Ah Ai Ac Ad Ae n9 t na K0 K1) K0 K1 na
@[match_pattern] abbrev b7z (w : LB) (u d : Int) (AG Ah Ai Ac Ad Ae : List V) (n9 na : Int) : List D := [(.clos 1000107 [(.agg [(.v (.bytes w) .no), (.v (.int .i64 u) .no), (.v (.int .i64 d) .no), (.v (.sl 58 AG) .no), (.v (.sl 64 Ah) .no), (.v (.sl 47 Ai) .no), (.v (.sl 44 Ac) .no), (.v (.sl 67 Ad) .no)])]), (.v (.sl 64 Ae) .no), (.v (.int .i64 n9) .no), (.v (.int .i64 na) .no)]
def b4H {R : Type} (N : Nat) (ds : List D) (m : Mem) (K : Ex -> List D -> Mem -> Option R) : Option R :=
 match ds, m with
 | b7z w u d AG Ah Ai Ac Ad Ae n9 na, [[]] => a5H N w u d AG Ah Ai Ac Ad Ae n9 N na (fun a0 => K .ret [(.v (.int .i64 a0) .no)] [[]]) (K (.exit 0) [.any] [[]])
 | _, _ => none
def c0m (N : Nat) (f : List V) (x1 : LB) (x2 x3 : Int) (x4 x5 x6 x7 x8 : List V) : Option (Int) := a5H N x1 x2 x3 x4 x5 x6 x7 x8 f (f.length : Int) N 0 (fun j => some j) (some 0)
def c7K (N : Nat) : Cx := cl [b4g N] [] [⟨2, [1, 8, 9, 10], [4], b4H N⟩]
theorem c9t (N : Nat) : p9 (c7K N) 23 (s4 Tryz.f106 0) := by
 refine j7 (rid := 2) (by kernel_rfl) rfl rfl fun R ds m K r h => ?_
 change b4H N ds m K = _ at h
 unfold b4H at h
 split at h
 . rename_i w u d AG Ah Ai Ac Ad Ae n9 na
   exact ⟨N, Eq.trans (lpI (fun (e : (Int -> Option R) × (Option R)) L (s : Int) => a2X N w u d AG Ah Ai Ac Ad Ae n9 (fun na => L na) e.1 e.2 s) (fun e t s => a5H N w u d AG Ah Ai Ac Ad Ae n9 t s e.1 e.2) (fun s => b7z w u d AG Ah Ai Ac Ad Ae n9 s) (fun s => [[]]) (fun _ _ => rfl) (fun _ _ _ => rfl) (e := (_, _)) (fun L s => by kernel_rfl) N na) h⟩
 . cases h
def d7q (N : Nat) : Ent := pE 106 e7L (.v fI .z) (c0m N)
theorem e0a (N : Nat) : EO (d7q N) := pk (cx := c7K N) (D4 ⟨b7o N, trivial⟩ trivial) Tryz.func106 (j6 (k := 1) (by kernel_rfl) ⟨trivial, c9t N⟩) (by kernel_rfl) fun h => by kernel_rfl
def a3p {R : Type} (N : Nat) (w : LB) (u d : Int) (AG Ah Ai Ac Ad Ae : List V) (n9 : Int) (Lq : Int -> Option R) (K0 : Int -> Option R) (K1 : Option R) (na : Int) : Option R := br (decide (na < n9)) (br (decide (0 <= na) && decide (na < (Ae.length : Int))) (at? Ae na.toNat fun f => f.unAgg fun l1 => e9 l1 fun x2 l3 => x2.unBool fun b4 => e9 l3 fun x5 l6 => x5.unBool fun b7 => e9 l6 fun x8 l9 => V.unInt FK x8 fun n10_1 => e9 l9 fun xb Ax => V.unSl 44 xb fun ld => e9 Ax fun xe AC => V.unInt FK xe fun ng => e9 AC fun xh AO => V.unInt FK xh fun nj => e9 AO fun xk ll => V.unInt FK xk fun AB => e9 ll fun xn Bc => V.unInt FK xn fun AE => e9 Bc fun xq lr => V.unInt FK xq fun ns => e9 lr fun Bz lu => V.unSl 54 Bz fun AU => e9 lu fun xw lx => V.unSl 107 xw fun ly => D2 lx (j3 (a2C N w u d AG Ah Ai Ac Ad na b4 b7 n10_1 ld ng nj AB AE ns AU ly) fun nz => br (!decide (nz = 0)) (K0 nz) (Lq (FK.wrap (na + 1))))) none) K1
def a5M {R : Type} (N : Nat) (w : LB) (u d : Int) (AG Ah Ai Ac Ad Ae : List V) (n9 : Int) : Nat -> Int -> (Int -> Option R) -> (Option R) -> Option R | 0, _, _, _ => none | t + 1, na, K0, K1 => a3p N w u d AG Ah Ai Ac Ad Ae n9 (fun na => a5M N w u d AG Ah Ai Ac Ad Ae n9 t na K0 K1) K0 K1 na
@[match_pattern] abbrev b6e (w : LB) (u d : Int) (AG Ah Ai Ac Ad Ae : List V) (n9 na : Int) : List D := [(.clos 1000109 [(.agg [(.v (.bytes w) .no), (.v (.int .i64 u) .no), (.v (.int .i64 d) .no), (.v (.sl 58 AG) .no), (.v (.sl 64 Ah) .no), (.v (.sl 47 Ai) .no), (.v (.sl 44 Ac) .no), (.v (.sl 67 Ad) .no)])]), (.v (.sl 47 Ae) .no), (.v (.int .i64 n9) .no), (.v (.int .i64 na) .no)]
def b3x {R : Type} (N : Nat) (ds : List D) (m : Mem) (K : Ex -> List D -> Mem -> Option R) : Option R :=
 match ds, m with
 | b6e w u d AG Ah Ai Ac Ad Ae n9 na, [[]] => a5M N w u d AG Ah Ai Ac Ad Ae n9 N na (fun a0 => K .ret [(.v (.int .i64 a0) .no)] [[]]) (K (.exit 0) [.any] [[]])
 | _, _ => none
def b8E (N : Nat) (f : List V) (x1 : LB) (x2 x3 : Int) (x4 x5 x6 x7 x8 : List V) : Option (Int) := a5M N x1 x2 x3 x4 x5 x6 x7 x8 f (f.length : Int) N 0 (fun j => some j) (some 0)
def c7O (N : Nat) : Cx := cl [b0h N] [] [⟨2, [1, 8, 9, 10], [4], b3x N⟩]
theorem d1h (N : Nat) : p9 (c7O N) 23 (s4 Tryz.f108 0) := by
 refine j7 (rid := 2) (by kernel_rfl) rfl rfl fun R ds m K r h => ?_
 change b3x N ds m K = _ at h
 unfold b3x at h
 split at h
 . rename_i w u d AG Ah Ai Ac Ad Ae n9 na
   exact ⟨N, Eq.trans (lpI (fun (e : (Int -> Option R) × (Option R)) L (s : Int) => a3p N w u d AG Ah Ai Ac Ad Ae n9 (fun na => L na) e.1 e.2 s) (fun e t s => a5M N w u d AG Ah Ai Ac Ad Ae n9 t s e.1 e.2) (fun s => b6e w u d AG Ah Ai Ac Ad Ae n9 s) (fun s => [[]]) (fun _ _ => rfl) (fun _ _ _ => rfl) (e := (_, _)) (fun L s => by kernel_rfl) N na) h⟩
 . cases h
def d4v (N : Nat) : Ent := pE 108 e7C (.v fI .z) (b8E N)
theorem d8h (N : Nat) : EO (d4v N) := pk (cx := c7O N) (D4 ⟨b3j N, trivial⟩ trivial) Tryz.func108 (j6 (k := 1) (by kernel_rfl) ⟨trivial, d1h N⟩) (by kernel_rfl) fun h => by kernel_rfl
def a7R (N : Nat) (f : LB) (x1 x2 : Int) (x3 x4 x5 x6 x7 : List V) : Option (Int) := j3 (c0m N x4 f x1 x2 x3 x4 x5 x6 x7) fun j => some j
def c1z (N : Nat) : Cx := cz [d7q N, b4g N] []
def b3y (N : Nat) : Ent := pE 61 b5R (.v fI .z) (a7R N)
theorem c1m (N : Nat) : EO (b3y N) := pk0 (cx := c1z N) (A9 ⟨e0a N, b7o N, trivial⟩ trivial) Tryz.func61 (by kernel_rfl) fun h => by kernel_rfl
end En
end
end Go.Proofs.YtkoilndpfifapaaGreatDoor
