/- Several texts in one. -/
import Derived.Test.YtkoilndpfifapaaGreatDoorZ10

set_option linter.unusedSimpArgs false
set_option linter.unusedVariables false
set_option linter.unusedSectionVars false
open Go.IntKind renaming i64 → FK
namespace Go.Proofs.YtkoilndpfifapaaGreatDoor
noncomputable section
namespace En
open Go Go.Proofs
set_option maxRecDepth 100000
set_option maxHeartbeats 8000000
def d2L {R : Type} (N : Nat) (f x1 x2 : Int) (x3 : List V) (U : LB) (y1 y2 : Int) (y3 y4 y5 y6 y7 : List V) (y8 y9 : Int) (ya : Bool) (yb AJ yd ye : List V) (K0 : Int -> Option R) : Option R := j3 (E6 N U y1 y2 y3 y4 y5 y6 y7 x1 x2) fun b0 => br (!b0) (K0 2) (br (decide (0 <= f) && decide (f <= (ye.length : Int))) (j3 (a8g N (List.take f.toNat ye) x1 x2 x3) fun b1 => br b1 (K0 13) (br (decide (16 < (x3.length : Int))) (K0 3) (j3 (b9s N x3) fun b2 => br b2 (K0 2) (K0 0)))) none)
def c0B (N : Nat) (f x1 x2 : Int) (x3 : List V) (U : LB) (y1 y2 : Int) (y3 y4 y5 y6 y7 : List V) (y8 y9 : Int) (ya : Bool) (yb AJ yd ye : List V) : Option (Int) := d2L N f x1 x2 x3 U y1 y2 y3 y4 y5 y6 y7 y8 y9 ya yb AJ yd ye (fun r0 => some r0)
def e3r (N : Nat) : Cx := cz [d7K N, a2E N, c4C N] [c1F N, c5D N]
def d3d (N : Nat) : MEnt := vE 161 e7M e5v (.v fI .z) false (c0B N)
theorem d5K (N : Nat) : MEO (d3d N) := wk0 (cx := e3r N) (A9 ⟨d8c N, a3N N, c7E N, trivial⟩ ⟨d0h N, c8J N, trivial⟩) Tryz.func161 (by kernel_rfl) (fun R => d2L (R := R) N) (fun R h K => by kernel_rfl) fun h => by kernel_rfl
def a0Y {R : Type} (N : Nat) (Aa : List V) (u : Int) (l3 : LB) (x O : Int) (Ac Ad Ae Aj Ag : List V) (nb nc : Int) (bd : Bool) (Ak Am Ar AF : List V) (Lq : Int -> Option R) (K0 : Int -> Option R) (K1 : Option R) (d : Int) : Option R := br (decide (d < u)) (br (decide (0 <= d) && decide (d < (Aa.length : Int))) (at? Aa d.toNat fun f => f.unAgg fun l1 => e9 l1 fun x2 l3_1 => V.unInt FK x2 fun n4_1 => e9 l3_1 fun x5 l6 => V.unInt FK x5 fun n7 => e9 l6 fun x8 l9 => V.unSl 3 x8 fun la => D2 l9 (j3 (c0B N d n4_1 n7 la l3 x O Ac Ad Ae Aj Ag nb nc bd Ak Am Ar AF) fun nb => br (!decide (nb = 0)) (K0 nb) (Lq (FK.wrap (d + 1))))) none) K1
def a2T {R : Type} (N : Nat) (Aa : List V) (u : Int) (l3 : LB) (x O : Int) (Ac Ad Ae Aj Ag : List V) (nb nc : Int) (bd : Bool) (Ak Am Ar AF : List V) : Nat -> Int -> (Int -> Option R) -> (Option R) -> Option R | 0, _, _, _ => none | t + 1, d, K0, K1 => a0Y N Aa u l3 x O Ac Ad Ae Aj Ag nb nc bd Ak Am Ar AF (fun d => a2T N Aa u l3 x O Ac Ad Ae Aj Ag nb nc bd Ak Am Ar AF t d K0 K1) K0 K1 d
def b0l {R : Type} (N : Nat) (ds : List D) (m : Mem) (K : Ex -> List D -> Mem -> Option R) : Option R :=
 match ds, m with
 | [(.clos 161 [(.ptr 1 0 0), (.ptr 1 1 0)]), (.v (.sl 105 Aa) .no), (.v (.int .i64 u) .no), (.v (.int .i64 d) .no)], d8s l3 x O Ac Ad Ae Aj Ag nb nc bd Ak Am Ar AF => a2T N Aa u l3 x O Ac Ad Ae Aj Ag nb nc bd Ak Am Ar AF N d (fun a0 => K .ret [(.v (.int .i64 a0) .no)] (d8s l3 x O Ac Ad Ae Aj Ag nb nc bd Ak Am Ar AF)) (K (.exit 0) [.any] (d8s l3 x O Ac Ad Ae Aj Ag nb nc bd Ak Am Ar AF))
 | _, _ => none
def b8q {R : Type} (N : Nat) (f : List V) (U : LB) (y1 y2 : Int) (y3 y4 y5 y6 y7 : List V) (y8 y9 : Int) (ya : Bool) (yb AJ yd ye : List V) (K0 : Int -> Option R) : Option R := a2T N f (f.length : Int) U y1 y2 y3 y4 y5 y6 y7 y8 y9 ya yb AJ yd ye N 0 (fun j => K0 j) (K0 0)
def a1V (N : Nat) (f : List V) (U : LB) (y1 y2 : Int) (y3 y4 y5 y6 y7 : List V) (y8 y9 : Int) (ya : Bool) (yb AJ yd ye : List V) : Option (Int) := b8q N f U y1 y2 y3 y4 y5 y6 y7 y8 y9 ya yb AJ yd ye (fun r0 => some r0)
def c1t (N : Nat) : Cx := cl [] [d3d N] [⟨2, [1, 8, 9, 10], [4], b0l N⟩]
theorem c4J (N : Nat) : p9 (c1t N) 23 (s4 Tryz.f160 0) := by
 refine j7 (rid := 2) (by kernel_rfl) rfl rfl fun R ds m K r h => ?_
 change b0l N ds m K = _ at h
 unfold b0l at h
 split at h
 . rename_i Aa u d l3 x O Ac Ad Ae Aj Ag nb nc bd Ak Am Ar AF
   exact ⟨N, Eq.trans (lpI (fun (e : (Int -> Option R) × (Option R)) L (s : Int) => a0Y N Aa u l3 x O Ac Ad Ae Aj Ag nb nc bd Ak Am Ar AF (fun d => L d) e.1 e.2 s) (fun e t s => a2T N Aa u l3 x O Ac Ad Ae Aj Ag nb nc bd Ak Am Ar AF t s e.1 e.2) (fun s => [(.clos 161 [(.ptr 1 0 0), (.ptr 1 1 0)]), (.v (.sl 105 Aa) .no), (.v (.int .i64 u) .no), (.v (.int .i64 s) .no)]) (fun s => d8s l3 x O Ac Ad Ae Aj Ag nb nc bd Ak Am Ar AF) (fun _ _ => rfl) (fun _ _ _ => rfl) (e := (_, _)) (fun L s => by kernel_rfl) N d) h⟩
 . cases h
def c7v (N : Nat) : MEnt := vE 160 e7A e5v (.v fI .z) false (a1V N)
theorem d4H (N : Nat) : MEO (c7v N) := wk (cx := c1t N) (D4 trivial ⟨d5K N, trivial⟩) Tryz.func160 (j6 (k := 1) (by kernel_rfl) ⟨trivial, c4J N⟩) (by kernel_rfl) (fun R => b8q (R := R) N) (fun R h K => by kernel_rfl) fun h => by kernel_rfl
def a4W (N : Nat) (f : LB) (x1 x2 : Int) (x3 x4 x5 x6 x7 : List V) (x8 x9 xa : Int) (xb : Bool) (xc xd xe xf : List V) : Option (Int) := j3 (a8n N f x1 x2 x3 x4 x5 x6 x7 x9 xa x8) fun j => br (!decide (j = 0)) (some j) (br xb (br (!(decide (x9 = 255) && (decide (xa = 0) && true))) (some 4) (br (decide (0 < (xd.length : Int))) (some 4) (br (decide (0 < (xf.length : Int))) (some 4) (br (!xb) (br (decide (0 < (xc.length : Int))) (some 4) (br (decide (32 < (xc.length : Int))) (some 3) (br (decide (16 < (xd.length : Int))) (some 3) (br (decide (16 < (xe.length : Int))) (some 3) (br (decide (32 < (xf.length : Int))) (some 3) (j3 (a5v N xc f x1 x2 x3 x4 x5 x6 x7 x8) fun u => br (!decide (u = 0)) (some u) (j3 (a0o N f x1 x2 x3 x4 x5 x6 x7 xd) fun b2 => br (!b2) (some 22) (j3 (a5f N xe f x1 x2 x3 x4 x5 x6 x7 x8 x9 xa xb xc xd xe xf) fun i => br (!decide (i = 0)) (some i) (j3 (a1V N xf f x1 x2 x3 x4 x5 x6 x7 x9 xa xb xc xd xe xf) fun x => some x))))))))) (br (decide (32 < (xc.length : Int))) (some 3) (br (decide (16 < (xd.length : Int))) (some 3) (br (decide (16 < (xe.length : Int))) (some 3) (br (decide (32 < (xf.length : Int))) (some 3) (j3 (a5v N xc f x1 x2 x3 x4 x5 x6 x7 x8) fun O => br (!decide (O = 0)) (some O) (j3 (a0o N f x1 x2 x3 x4 x5 x6 x7 xd) fun b6 => br (!b6) (some 22) (j3 (a5f N xe f x1 x2 x3 x4 x5 x6 x7 x8 x9 xa xb xc xd xe xf) fun n7 => br (!decide (n7 = 0)) (some n7) (j3 (a1V N xf f x1 x2 x3 x4 x5 x6 x7 x9 xa xb xc xd xe xf) fun n8 => some n8)))))))))))) (br (!xb) (br (decide (0 < (xc.length : Int))) (some 4) (br (decide (32 < (xc.length : Int))) (some 3) (br (decide (16 < (xd.length : Int))) (some 3) (br (decide (16 < (xe.length : Int))) (some 3) (br (decide (32 < (xf.length : Int))) (some 3) (j3 (a5v N xc f x1 x2 x3 x4 x5 x6 x7 x8) fun n9 => br (!decide (n9 = 0)) (some n9) (j3 (a0o N f x1 x2 x3 x4 x5 x6 x7 xd) fun AA => br (!AA) (some 22) (j3 (a5f N xe f x1 x2 x3 x4 x5 x6 x7 x8 x9 xa xb xc xd xe xf) fun nb => br (!decide (nb = 0)) (some nb) (j3 (a1V N xf f x1 x2 x3 x4 x5 x6 x7 x9 xa xb xc xd xe xf) fun nc => some nc))))))))) (br (decide (32 < (xc.length : Int))) (some 3) (br (decide (16 < (xd.length : Int))) (some 3) (br (decide (16 < (xe.length : Int))) (some 3) (br (decide (32 < (xf.length : Int))) (some 3) (j3 (a5v N xc f x1 x2 x3 x4 x5 x6 x7 x8) fun nd => br (!decide (nd = 0)) (some nd) (j3 (a0o N f x1 x2 x3 x4 x5 x6 x7 xd) fun AM => br (!AM) (some 22) (j3 (a5f N xe f x1 x2 x3 x4 x5 x6 x7 x8 x9 xa xb xc xd xe xf) fun nf => br (!decide (nf = 0)) (some nf) (j3 (a1V N xf f x1 x2 x3 x4 x5 x6 x7 x9 xa xb xc xd xe xf) fun ng => some ng))))))))))
def d1f (N : Nat) : Cx := cz [c0b N, b1Z N] [d5e N, d7c N, c7v N, d6K N, d2O N, d3d N]
def b4g (N : Nat) : Ent := pE 107 e7Z (.v fI .z) (a4W N)
theorem b7o (N : Nat) : EO (b4g N) := pk0 (cx := d1f N) (A9 ⟨c1k N, b5w N, trivial⟩ ⟨d8Y N, e0M N, d4H N, d4p N, d7v N, d5K N, trivial⟩) Tryz.func107 (by kernel_rfl) fun h => by kernel_rfl
def b1U (N : Nat) (f : LB) (x1 x2 : Int) (x3 x4 x5 x6 x7 : List V) (x8 x9 : Bool) (xa : Int) (xb : List V) (xc xd xe xf xg : Int) (xh xi : List V) (xj xk xl xm : Int) : Option (Bool) := br (decide (21 <= xj)) (br (decide (xj <= 32)) (j3 (D8 N xk (xh.length : Int)) fun b0 => some b0) (br (decide (xj = 44)) (j3 (D8 N xk (x6.length : Int)) fun b1 => some b1) (br (decide (xj = 45)) (j3 (D8 N xk (x6.length : Int)) fun b2 => some b2) (br (decide (xj = 46)) (br (decide (xk = 0)) (j3 (D8 N xl (x5.length : Int)) fun b3 => br b3 (some true) (br (decide (1 <= xk)) (some (decide (xk <= (x3.length : Int)))) (some false))) (br (decide (1 <= xk)) (some (decide (xk <= (x3.length : Int)))) (some false))) (br (decide (xj = 33)) (j3 (E6 N f x1 x2 x3 x4 x5 x6 x7 xk xl) fun b4 => some b4) (br (decide (xj = 42)) (j3 (E6 N f x1 x2 x3 x4 x5 x6 x7 xk xl) fun b5 => some b5) (br (decide (xj = 43)) (j3 (E6 N f x1 x2 x3 x4 x5 x6 x7 xk xl) fun b6 => some b6) (br (decide (xj = 47)) (j3 (E6 N f x1 x2 x3 x4 x5 x6 x7 xk xl) fun b7 => some b7) (br (decide (xj = 48)) (j3 (E6 N f x1 x2 x3 x4 x5 x6 x7 xk xl) fun b8 => some b8) (br (decide (xj = 51)) (j3 (E6 N f x1 x2 x3 x4 x5 x6 x7 xk xl) fun b9 => some b9) (br (decide (xj = 52)) (j3 (E6 N f x1 x2 x3 x4 x5 x6 x7 xk xl) fun AA => some AA) (some true)))))))))))) (br (decide (xj = 44)) (j3 (D8 N xk (x6.length : Int)) fun AI => some AI) (br (decide (xj = 45)) (j3 (D8 N xk (x6.length : Int)) fun bc => some bc) (br (decide (xj = 46)) (br (decide (xk = 0)) (j3 (D8 N xl (x5.length : Int)) fun bd => br bd (some true) (br (decide (1 <= xk)) (some (decide (xk <= (x3.length : Int)))) (some false))) (br (decide (1 <= xk)) (some (decide (xk <= (x3.length : Int)))) (some false))) (br (decide (xj = 33)) (j3 (E6 N f x1 x2 x3 x4 x5 x6 x7 xk xl) fun AM => some AM) (br (decide (xj = 42)) (j3 (E6 N f x1 x2 x3 x4 x5 x6 x7 xk xl) fun bf => some bf) (br (decide (xj = 43)) (j3 (E6 N f x1 x2 x3 x4 x5 x6 x7 xk xl) fun bg => some bg) (br (decide (xj = 47)) (j3 (E6 N f x1 x2 x3 x4 x5 x6 x7 xk xl) fun bh => some bh) (br (decide (xj = 48)) (j3 (E6 N f x1 x2 x3 x4 x5 x6 x7 xk xl) fun Ev => some Ev) (br (decide (xj = 51)) (j3 (E6 N f x1 x2 x3 x4 x5 x6 x7 xk xl) fun bj => some bj) (br (decide (xj = 52)) (j3 (E6 N f x1 x2 x3 x4 x5 x6 x7 xk xl) fun bk => some bk) (some true)))))))))))
def d4j (N : Nat) : Cx := cz [a0y N, a2E N] []
def c7Q (N : Nat) : Ent := pE 194 e5m (.v .b .z) (b1U N)
theorem d3P (N : Nat) : EO (c7Q N) := pk0 (cx := d4j N) (A9 ⟨Y8 N, a3N N, trivial⟩ trivial) Tryz.func194 (by kernel_rfl) fun h => by kernel_rfl
def b4W (N : Nat) (f : LB) (x1 x2 : Int) (x3 x4 x5 x6 x7 : List V) (x8 x9 : Bool) (xa : Int) (xb : List V) (xc xd xe xf xg : Int) (xh xi : List V) (xj xk xl xm : Int) : Option (Int) := j3 (O7 N xj xk xl xm) fun j => br (!decide (j = 0)) (some j) (j3 (b1U N f x1 x2 x3 x4 x5 x6 x7 x8 x9 xa xb xc xd xe xf xg xh xi xj xk xl xm) fun b1 => br (!b1) (some 2) (some 0))
def c9u (N : Nat) : Cx := cz [a4Z N, c7Q N] []
def c3U (N : Nat) : Ent := pE 170 e5m (.v fI .z) (b4W N)
theorem d0t (N : Nat) : EO (c3U N) := pk0 (cx := c9u N) (A9 ⟨a6l N, d3P N, trivial⟩ trivial) Tryz.func170 (by kernel_rfl) fun h => by kernel_rfl
def e4q {R : Type} (N : Nat) (f x1 x2 x3 x4 : Int) (U : LB) (y1 y2 : Int) (y3 y4 y5 y6 y7 : List V) (y8 y9 : Bool) (ya : Int) (yb : List V) (AJ yd ye yf yg : Int) (yh yi : List V) (K0 : Int -> Option R) : Option R := j3 (b4W N U y1 y2 y3 y4 y5 y6 y7 y8 y9 ya yb AJ yd ye yf yg yh yi x1 x2 x3 x4) fun j => K0 j
def d7d (N : Nat) (f x1 x2 x3 x4 : Int) (U : LB) (y1 y2 : Int) (y3 y4 y5 y6 y7 : List V) (y8 y9 : Bool) (ya : Int) (yb : List V) (AJ yd ye yf yg : Int) (yh yi : List V) : Option (Int) := e4q N f x1 x2 x3 x4 U y1 y2 y3 y4 y5 y6 y7 y8 y9 ya yb AJ yd ye yf yg yh yi (fun r0 => some r0)
def e6z (N : Nat) : Cx := cz [c3U N] []
def e4H (N : Nat) : MEnt := vE 169 e7R e6B (.v fI .z) false (d7d N)
theorem e2K (N : Nat) : MEO (e4H N) := wk0 (cx := e6z N) (A9 ⟨d0t N, trivial⟩ trivial) Tryz.func169 (by kernel_rfl) (fun R => e4q (R := R) N) (fun R h K => by kernel_rfl) fun h => by kernel_rfl
def a3d {R : Type} (N : Nat) (Aa : List V) (u : Int) (l3 : LB) (x O : Int) (Ac Ad Ae Aj Ag : List V) (AI bc : Bool) (nd : Int) (Ak : List V) (nf ng nh ni nj : Int) (AS Az : List V) (Lq : Int -> Option R) (K0 : Int -> Option R) (K1 : Option R) (d : Int) : Option R := br (decide (d < u)) (br (decide (0 <= d) && decide (d < (Aa.length : Int))) (at? Aa d.toNat fun f => f.unAgg fun l1 => e9 l1 fun x2 l3_1 => V.unInt FK x2 fun n4_1 => e9 l3_1 fun x5 l6 => V.unInt FK x5 fun n7 => e9 l6 fun x8 l9 => V.unInt FK x8 fun na => e9 l9 fun xb Ax => V.unInt FK xb fun n13_1 => D2 Ax (j3 (d7d N d n4_1 n7 na n13_1 l3 x O Ac Ad Ae Aj Ag AI bc nd Ak nf ng nh ni nj AS Az) fun Af => br (!decide (Af = 0)) (K0 Af) (Lq (FK.wrap (d + 1))))) none) K1
def a4J {R : Type} (N : Nat) (Aa : List V) (u : Int) (l3 : LB) (x O : Int) (Ac Ad Ae Aj Ag : List V) (AI bc : Bool) (nd : Int) (Ak : List V) (nf ng nh ni nj : Int) (AS Az : List V) : Nat -> Int -> (Int -> Option R) -> (Option R) -> Option R | 0, _, _, _ => none | t + 1, d, K0, K1 => a3d N Aa u l3 x O Ac Ad Ae Aj Ag AI bc nd Ak nf ng nh ni nj AS Az (fun d => a4J N Aa u l3 x O Ac Ad Ae Aj Ag AI bc nd Ak nf ng nh ni nj AS Az t d K0 K1) K0 K1 d
def b5f {R : Type} (N : Nat) (ds : List D) (m : Mem) (K : Ex -> List D -> Mem -> Option R) : Option R :=
 match ds, m with
 | [(.clos 169 [(.ptr 1 0 0), (.ptr 1 1 0)]), (.v (.sl 54 Aa) .no), (.v (.int .i64 u) .no), (.v (.int .i64 d) .no)], e0k l3 x O Ac Ad Ae Aj Ag AI bc nd Ak nf ng nh ni nj AS Az => a4J N Aa u l3 x O Ac Ad Ae Aj Ag AI bc nd Ak nf ng nh ni nj AS Az N d (fun a0 => K .ret [(.v (.int .i64 a0) .no)] (e0k l3 x O Ac Ad Ae Aj Ag AI bc nd Ak nf ng nh ni nj AS Az)) (K (.exit 0) [.any] (e0k l3 x O Ac Ad Ae Aj Ag AI bc nd Ak nf ng nh ni nj AS Az))
 | _, _ => none
def c4B {R : Type} (N : Nat) (f : List V) (U : LB) (y1 y2 : Int) (y3 y4 y5 y6 y7 : List V) (y8 y9 : Bool) (ya : Int) (yb : List V) (AJ yd ye yf yg : Int) (yh yi : List V) (K0 : Int -> Option R) : Option R := a4J N f (f.length : Int) U y1 y2 y3 y4 y5 y6 y7 y8 y9 ya yb AJ yd ye yf yg yh yi N 0 (fun j => K0 j) (K0 0)
def a7g (N : Nat) (f : List V) (U : LB) (y1 y2 : Int) (y3 y4 y5 y6 y7 : List V) (y8 y9 : Bool) (ya : Int) (yb : List V) (AJ yd ye yf yg : Int) (yh yi : List V) : Option (Int) := c4B N f U y1 y2 y3 y4 y5 y6 y7 y8 y9 ya yb AJ yd ye yf yg yh yi (fun r0 => some r0)
def c7C (N : Nat) : Cx := cl [] [e4H N] [⟨2, [1, 8, 9, 10], [4], b5f N⟩]
theorem d1c (N : Nat) : p9 (c7C N) 23 (s4 Tryz.f168 0) := by
 refine j7 (rid := 2) (by kernel_rfl) rfl rfl fun R ds m K r h => ?_
 change b5f N ds m K = _ at h
 unfold b5f at h
 split at h
 . rename_i Aa u d l3 x O Ac Ad Ae Aj Ag AI bc nd Ak nf ng nh ni nj AS Az
   exact ⟨N, Eq.trans (lpI (fun (e : (Int -> Option R) × (Option R)) L (s : Int) => a3d N Aa u l3 x O Ac Ad Ae Aj Ag AI bc nd Ak nf ng nh ni nj AS Az (fun d => L d) e.1 e.2 s) (fun e t s => a4J N Aa u l3 x O Ac Ad Ae Aj Ag AI bc nd Ak nf ng nh ni nj AS Az t s e.1 e.2) (fun s => [(.clos 169 [(.ptr 1 0 0), (.ptr 1 1 0)]), (.v (.sl 54 Aa) .no), (.v (.int .i64 u) .no), (.v (.int .i64 s) .no)]) (fun s => e0k l3 x O Ac Ad Ae Aj Ag AI bc nd Ak nf ng nh ni nj AS Az) (fun _ _ => rfl) (fun _ _ _ => rfl) (e := (_, _)) (fun L s => by kernel_rfl) N d) h⟩
 . cases h
def d5Y (N : Nat) : MEnt := vE 168 (.v (.l 54) (.c 169 (.p 0 (.p 1 .z)) .z)) e6B (.v fI .z) false (a7g N)
theorem e1J (N : Nat) : MEO (d5Y N) := wk (cx := c7C N) (D4 trivial ⟨e2K N, trivial⟩) Tryz.func168 (j6 (k := 1) (by kernel_rfl) ⟨trivial, d1c N⟩) (by kernel_rfl) (fun R => c4B (R := R) N) (fun R h K => by kernel_rfl) fun h => by kernel_rfl
def e4A {R : Type} (N : Nat) (f x1 x2 x3 x4 : Int) (U y1 : Bool) (y2 : Int) (y3 : List V) (y4 y5 y6 y7 y8 : Int) (y9 ya : List V) (K0 : Int -> Option R) : Option R := br (decide (x1 < 0)) (K0 2) (br (decide (x2 <= x1)) (K0 2) (br (decide ((y9.length : Int) < x2)) (K0 2) (j3 (D8 N x3 (y9.length : Int)) fun b0 => br (!b0) (K0 2) (br (decide (x4 < 0)) (K0 2) (br (decide (65535 < x4)) (K0 2) (K0 0))))))
def d6M (N : Nat) (f x1 x2 x3 x4 : Int) (U y1 : Bool) (y2 : Int) (y3 : List V) (y4 y5 y6 y7 y8 : Int) (y9 ya : List V) : Option (Int) := e4A N f x1 x2 x3 x4 U y1 y2 y3 y4 y5 y6 y7 y8 y9 ya (fun r0 => some r0)
def e5l (N : Nat) : Cx := cz [a0y N] []
def e3M (N : Nat) : MEnt := vE 172 e7t e5A (.v fI .z) false (d6M N)
theorem e2p (N : Nat) : MEO (e3M N) := wk0 (cx := e5l N) (A9 ⟨Y8 N, trivial⟩ trivial) Tryz.func172 (by kernel_rfl) (fun R => e4A (R := R) N) (fun R h K => by kernel_rfl) fun h => by kernel_rfl
def a2J {R : Type} (N : Nat) (Aa : List V) (u : Int) (b3 b4 : Bool) (O : Int) (Ac : List V) (n7 n8 n9 na nb : Int) (An Ao : List V) (Lq : Int -> Option R) (K0 : Int -> Option R) (K1 : Option R) (d : Int) : Option R := br (decide (d < u)) (br (decide (0 <= d) && decide (d < (Aa.length : Int))) (at? Aa d.toNat fun f => f.unAgg fun l1 => e9 l1 fun x2 l3 => V.unInt FK x2 fun x => e9 l3 fun x5 l6 => V.unInt FK x5 fun n7_1 => e9 l6 fun x8 l9 => V.unInt FK x8 fun n10_1 => e9 l9 fun xb Ax => V.unInt FK xb fun nd => D2 Ax (j3 (d6M N d x n7_1 n10_1 nd b3 b4 O Ac n7 n8 n9 na nb An Ao) fun Af => br (!decide (Af = 0)) (K0 Af) (Lq (FK.wrap (d + 1))))) none) K1
def a4F {R : Type} (N : Nat) (Aa : List V) (u : Int) (b3 b4 : Bool) (O : Int) (Ac : List V) (n7 n8 n9 na nb : Int) (An Ao : List V) : Nat -> Int -> (Int -> Option R) -> (Option R) -> Option R | 0, _, _, _ => none | t + 1, d, K0, K1 => a2J N Aa u b3 b4 O Ac n7 n8 n9 na nb An Ao (fun d => a4F N Aa u b3 b4 O Ac n7 n8 n9 na nb An Ao t d K0 K1) K0 K1 d
def b4z {R : Type} (N : Nat) (ds : List D) (m : Mem) (K : Ex -> List D -> Mem -> Option R) : Option R :=
 match ds, m with
 | [(.clos 172 [(.ptr 1 0 0)]), (.v (.sl 107 Aa) .no), (.v (.int .i64 u) .no), (.v (.int .i64 d) .no)], e1n b3 b4 O Ac n7 n8 n9 na nb An Ao => a4F N Aa u b3 b4 O Ac n7 n8 n9 na nb An Ao N d (fun a0 => K .ret [(.v (.int .i64 a0) .no)] (e1n b3 b4 O Ac n7 n8 n9 na nb An Ao)) (K (.exit 0) [.any] (e1n b3 b4 O Ac n7 n8 n9 na nb An Ao))
 | _, _ => none
def c6i {R : Type} (N : Nat) (f : List V) (U y1 : Bool) (y2 : Int) (y3 : List V) (y4 y5 y6 y7 y8 : Int) (y9 ya : List V) (K0 : Int -> Option R) : Option R := a4F N f (f.length : Int) U y1 y2 y3 y4 y5 y6 y7 y8 y9 ya N 0 (fun j => K0 j) (K0 0)
def a7o (N : Nat) (f : List V) (U y1 : Bool) (y2 : Int) (y3 : List V) (y4 y5 y6 y7 y8 : Int) (y9 ya : List V) : Option (Int) := c6i N f U y1 y2 y3 y4 y5 y6 y7 y8 y9 ya (fun r0 => some r0)
def c7s (N : Nat) : Cx := cl [] [e3M N] [⟨2, [1, 8, 9, 10], [4], b4z N⟩]
theorem d0p (N : Nat) : p9 (c7s N) 23 (s4 Tryz.f171 0) := by
 refine j7 (rid := 2) (by kernel_rfl) rfl rfl fun R ds m K r h => ?_
 change b4z N ds m K = _ at h
 unfold b4z at h
 split at h
 . rename_i Aa u d b3 b4 O Ac n7 n8 n9 na nb An Ao
   exact ⟨N, Eq.trans (lpI (fun (e : (Int -> Option R) × (Option R)) L (s : Int) => a2J N Aa u b3 b4 O Ac n7 n8 n9 na nb An Ao (fun d => L d) e.1 e.2 s) (fun e t s => a4F N Aa u b3 b4 O Ac n7 n8 n9 na nb An Ao t s e.1 e.2) (fun s => [(.clos 172 [(.ptr 1 0 0)]), (.v (.sl 107 Aa) .no), (.v (.int .i64 u) .no), (.v (.int .i64 s) .no)]) (fun s => e1n b3 b4 O Ac n7 n8 n9 na nb An Ao) (fun _ _ => rfl) (fun _ _ _ => rfl) (e := (_, _)) (fun L s => by kernel_rfl) N d) h⟩
 . cases h
def d6f (N : Nat) : MEnt := vE 171 (.v (.l 107) (.c 172 (.p 0 .z) .z)) e5A (.v fI .z) false (a7o N)
theorem d8X (N : Nat) : MEO (d6f N) := wk (cx := c7s N) (D4 trivial ⟨e2p N, trivial⟩) Tryz.func171 (j6 (k := 1) (by kernel_rfl) ⟨trivial, d0p N⟩) (by kernel_rfl) (fun R => c6i (R := R) N) (fun R h K => by kernel_rfl) fun h => by kernel_rfl
end En
end
end Go.Proofs.YtkoilndpfifapaaGreatDoor
