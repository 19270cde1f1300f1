/- Several texts in one. -/
import Derived.Test.YtkoilndpfifapaaGreatDoorZ4

set_option linter.unusedSimpArgs false
set_option linter.unusedVariables false
set_option linter.unusedSectionVars false
open Eq renaming trans → Gr
open Go.IntKind renaming i64 → FK
namespace Go.Proofs.YtkoilndpfifapaaGreatDoor
noncomputable section
namespace En
open Go Go.Proofs
set_option maxRecDepth 100000
set_option maxHeartbeats 8000000
def b6v (N : Nat) (f x1 : LB) : Option (Bool) := br (decide (f.length <= 9223372036854775807)) (br (decide (x1.length <= 9223372036854775807)) (some (decide (f = x1))) none) none
def e3N (N : Nat) : Cx := cz [] []
def c7A (N : Nat) : Ent := pE 103 (.v .y (.v .y .z)) (.v .b .z) (b6v N)
theorem c5b (N : Nat) : EO (c7A N) := pk0 (cx := e3N N) (A9 trivial trivial) Tryz.func103 (by kernel_rfl) fun h => by kernel_rfl
def a6E (N : Nat) (f : LB) : Option (Bool) := br (decide (5 <= (f.length : Int))) (some (decide ((f.length : Int) <= 16))) (some false)
def d4u (N : Nat) : Cx := cz [] []
def b1z (N : Nat) : Ent := pE 32 (.v .y .z) (.v .b .z) (a6E N)
theorem b4M (N : Nat) : EO (b1z N) := pk0 (cx := d4u N) (A9 trivial trivial) Tryz.func32 (by kernel_rfl) fun h => by kernel_rfl
def a7E (N : Nat) (f : Int) : Option (Bool) := br (decide (0 <= f)) (some (decide (f <= 255))) (some false)
def e1k (N : Nat) : Cx := cz [] []
def c6D (N : Nat) : Ent := pE 33 (.v fI .z) (.v .b .z) (a7E N)
theorem c7j (N : Nat) : EO (c6D N) := pk0 (cx := e1k N) (A9 trivial trivial) Tryz.func33 (by kernel_rfl) fun h => by kernel_rfl
def D8 (N : Nat) (f x1 : Int) : Option (Bool) := br (decide (0 <= f)) (some (decide (f < x1))) (some false)
def d1J (N : Nat) : Cx := cz [] []
def a0y (N : Nat) : Ent := pE 115 (.v fI (.v fI .z)) (.v .b .z) (D8 N)
theorem Y8 (N : Nat) : EO (a0y N) := pk0 (cx := d1J N) (A9 trivial trivial) Tryz.func115 (by kernel_rfl) fun h => by kernel_rfl
def E6 (N : Nat) (f : LB) (x1 x2 : Int) (x3 x4 x5 x6 x7 : List V) (x8 x9 : Int) : Option (Bool) := br (decide (x8 = 0)) (j3 (D8 N x9 (x4.length : Int)) fun b0 => some b0) (br (decide (x8 = 255)) (br (decide (x9 = 0)) (some true) (some (decide (x9 = 1)))) (br (decide (1 <= x8)) (br (decide (x8 <= (x3.length : Int))) (j3 (D8 N x9 32) fun b1 => some b1) (some false)) (some false)))
def c5p (N : Nat) : Cx := cz [a0y N] []
def a2E (N : Nat) : Ent := pE 162 e7y (.v .b .z) (E6 N)
theorem a3N (N : Nat) : EO (a2E N) := pk0 (cx := c5p N) (A9 ⟨Y8 N, trivial⟩ trivial) Tryz.func162 (by kernel_rfl) fun h => by kernel_rfl
def a5k (N : Nat) (f : LB) (x1 x2 : Int) (x3 x4 x5 x6 x7 : List V) (x8 x9 xa : Int) : Option (Bool) := br (decide (x8 = 5)) (j3 (E6 N f x1 x2 x3 x4 x5 x6 x7 x9 xa) fun b0 => some b0) (br (decide (1 <= x8)) (br (decide (x8 < 5)) (some (decide (x9 = 0) && (decide (xa = 0) && true))) (some false)) (some false))
def c9N (N : Nat) : Cx := cz [a2E N] []
def b5p (N : Nat) : Ent := pE 167 e7N (.v .b .z) (a5k N)
theorem b6u (N : Nat) : EO (b5p N) := pk0 (cx := c9N N) (A9 ⟨a3N N, trivial⟩ trivial) Tryz.func167 (by kernel_rfl) fun h => by kernel_rfl
def a8n (N : Nat) (f : LB) (x1 x2 : Int) (x3 x4 x5 x6 x7 : List V) (x8 x9 xa : Int) : Option (Int) := j3 (E6 N f x1 x2 x3 x4 x5 x6 x7 x8 x9) fun b0 => br (!b0) (some 2) (br (decide (x8 = 0)) (br (decide (xa <= x9)) (some 21) (some 0)) (some 0))
def d4o (N : Nat) : Cx := cz [a2E N] []
def c0b (N : Nat) : Ent := pE 154 e7o (.v fI .z) (a8n N)
theorem c1k (N : Nat) : EO (c0b N) := pk0 (cx := d4o N) (A9 ⟨a3N N, trivial⟩ trivial) Tryz.func154 (by kernel_rfl) fun h => by kernel_rfl
def d7m {R : Type} (N : Nat) (f x1 x2 : Int) (U : LB) (y1 y2 : Int) (y3 y4 y5 y6 y7 : List V) (K0 : Bool -> Option R) : Option R := j3 (a5k N U y1 y2 y3 y4 y5 y6 y7 f x1 x2) fun b0 => K0 !b0
def c8l (N : Nat) (f x1 x2 : Int) (U : LB) (y1 y2 : Int) (y3 y4 y5 y6 y7 : List V) : Option (Bool) := d7m N f x1 x2 U y1 y2 y3 y4 y5 y6 y7 (fun r0 => some r0)
def e3A (N : Nat) : Cx := cz [b5p N] []
def d5m (N : Nat) : MEnt := vE 174 (.a (.v fI (.v fI (.v fI .z))) (.p 0 .z)) c5u (.v .b .z) false (c8l N)
theorem d2j (N : Nat) : MEO (d5m N) := wk0 (cx := e3A N) (A9 ⟨b6u N, trivial⟩ trivial) Tryz.func174 (by kernel_rfl) (fun R => d7m (R := R) N) (fun R h K => by kernel_rfl) fun h => by kernel_rfl
def a3w {R : Type} (N : Nat) (Aa : List V) (u : Int) (l3 : LB) (x O : Int) (Ac Ad Ae Aj Ag : List V) (Lq : Int -> Option R) (K0 : Int -> Option R) (K1 : Option R) (d : Int) : Option R := br (decide (d < u)) (br (decide (0 <= d) && decide (d < (Aa.length : Int))) (at? Aa d.toNat fun f => f.unAgg fun l1 => e9 l1 fun x2 l3_1 => V.unInt FK x2 fun n4_1 => e9 l3_1 fun x5 l6 => V.unInt FK x5 fun n7 => e9 l6 fun x8 l9 => V.unInt FK x8 fun na => D2 l9 (j3 (c8l N n4_1 n7 na l3 x O Ac Ad Ae Aj Ag) fun AI => br AI (K0 d) (Lq (FK.wrap (d + 1))))) none) K1
def a5I {R : Type} (N : Nat) (Aa : List V) (u : Int) (l3 : LB) (x O : Int) (Ac Ad Ae Aj Ag : List V) : Nat -> Int -> (Int -> Option R) -> (Option R) -> Option R | 0, _, _, _ => none | t + 1, d, K0, K1 => a3w N Aa u l3 x O Ac Ad Ae Aj Ag (fun d => a5I N Aa u l3 x O Ac Ad Ae Aj Ag t d K0 K1) K0 K1 d
def b3Z {R : Type} (N : Nat) (ds : List D) (m : Mem) (K : Ex -> List D -> Mem -> Option R) : Option R :=
 match ds, m with
 | [(.v (.sl 44 Aa) .no), (.clos 174 [(.ptr 1 0 0)]), (.v (.int .i64 u) .no), (.v (.int .i64 d) .no)], mm7 l3 x O Ac Ad Ae Aj Ag => a5I N Aa u l3 x O Ac Ad Ae Aj Ag N d (fun a0 => K .ret [(.v (.int .i64 a0) .no)] (mm7 l3 x O Ac Ad Ae Aj Ag)) (K (.exit 0) [.any] (mm7 l3 x O Ac Ad Ae Aj Ag))
 | _, _ => none
def c4i {R : Type} (N : Nat) (f : List V) (U : LB) (y1 y2 : Int) (y3 y4 y5 y6 y7 : List V) (K0 : Int -> Option R) : Option R := a5I N f (f.length : Int) U y1 y2 y3 y4 y5 y6 y7 N 0 (fun j => K0 j) (K0 (-1))
def c5R (N : Nat) (f : List V) (U : LB) (y1 y2 : Int) (y3 y4 y5 y6 y7 : List V) : Option (Int) := c4i N f U y1 y2 y3 y4 y5 y6 y7 (fun r0 => some r0)
def c8B (N : Nat) : Cx := cl [] [d5m N] [⟨2, [0, 1, 7, 8], [4], b3Z N⟩]
theorem d1s (N : Nat) : p9 (c8B N) 19 (s4 Tryz.f195 0) := by
 refine j7 (rid := 2) (by kernel_rfl) rfl rfl fun R ds m K r h => ?_
 change b3Z N ds m K = _ at h
 unfold b3Z at h
 split at h
 . rename_i Aa u d l3 x O Ac Ad Ae Aj Ag
   exact ⟨N, Gr (lpI (fun (e : (Int -> Option R) × (Option R)) L (s : Int) => a3w N Aa u l3 x O Ac Ad Ae Aj Ag (fun d => L d) e.1 e.2 s) (fun e t s => a5I N Aa u l3 x O Ac Ad Ae Aj Ag t s e.1 e.2) (fun s => [(.v (.sl 44 Aa) .no), (.clos 174 [(.ptr 1 0 0)]), (.v (.int .i64 u) .no), (.v (.int .i64 s) .no)]) (fun s => mm7 l3 x O Ac Ad Ae Aj Ag) (fun _ _ => rfl) (fun _ _ _ => rfl) (e := (_, _)) (fun L s => by kernel_rfl) N d) h⟩
 . cases h
def d3c (N : Nat) : MEnt := vE 195 (.v (.l 44) (.c 174 (.p 0 .z) .z)) c5u (.v fI .z) false (c5R N)
theorem d8V (N : Nat) : MEO (d3c N) := wk (cx := c8B N) (D4 trivial ⟨d2j N, trivial⟩) Tryz.func195 (j6 (k := 1) (by kernel_rfl) ⟨trivial, d1s N⟩) (by kernel_rfl) (fun R => c4i (R := R) N) (fun R h K => by kernel_rfl) fun h => by kernel_rfl
def c5h {R : Type} (N : Nat) (f : List V) (U : LB) (y1 y2 : Int) (y3 y4 y5 y6 y7 : List V) (K0 : Bool -> Option R) : Option R := j3 (c5R N f U y1 y2 y3 y4 y5 y6 y7) fun j => K0 (decide (0 <= j))
def b9T (N : Nat) (f : List V) (U : LB) (y1 y2 : Int) (y3 y4 y5 y6 y7 : List V) : Option (Bool) := c5h N f U y1 y2 y3 y4 y5 y6 y7 (fun r0 => some r0)
def d8o (N : Nat) : Cx := cz [] [d3c N]
def d5X (N : Nat) : MEnt := vE 173 (.v (.l 44) (.c 174 (.p 0 .z) .z)) c5u (.v .b .z) false (b9T N)
theorem e0w (N : Nat) : MEO (d5X N) := wk0 (cx := d8o N) (A9 trivial ⟨d8V N, trivial⟩) Tryz.func173 (by kernel_rfl) (fun R => c5h (R := R) N) (fun R h K => by kernel_rfl) fun h => by kernel_rfl
def a0o (N : Nat) (f : LB) (x1 x2 : Int) (x3 x4 x5 x6 x7 x8 : List V) : Option (Bool) := j3 (b9T N x8 f x1 x2 x3 x4 x5 x6 x7) fun b0 => some !b0
def d7F (N : Nat) : Cx := cz [] [d5X N, d5m N]
def b1Z (N : Nat) : Ent := pE 110 e7S (.v .b .z) (a0o N)
theorem b5w (N : Nat) : EO (b1Z N) := pk0 (cx := d7F N) (A9 trivial ⟨e0w N, d2j N, trivial⟩) Tryz.func110 (by kernel_rfl) fun h => by kernel_rfl
def c6z {R : Type} (N : Nat) (f : LB) (x1 x2 : Int) (U : LB) (y1 y2 : Int) (K0 : Bool -> Option R) : Option R := j3 (b6v N U f) fun b0 => K0 b0
def c0g (N : Nat) (f : LB) (x1 x2 : Int) (U : LB) (y1 y2 : Int) : Option (Bool) := c6z N f x1 x2 U y1 y2 (fun r0 => some r0)
def d9U (N : Nat) : Cx := cz [c7A N] []
def c6e (N : Nat) : MEnt := vE 105 (.a (.v .y (.v fI (.v fI .z))) (.p 0 .z)) [(58, [.n .y, .n fI, .n fI])] (.v .b .z) false (c0g N)
theorem c7V (N : Nat) : MEO (c6e N) := wk0 (cx := d9U N) (A9 ⟨c5b N, trivial⟩ trivial) Tryz.func105 (by kernel_rfl) (fun R => c6z (R := R) N) (fun R h K => by kernel_rfl) fun h => by kernel_rfl
def a2A {R : Type} (N : Nat) (Aa : List V) (u : Int) (l3 : LB) (x O : Int) (Lq : Int -> Option R) (K0 : Int -> Option R) (K1 : Option R) (d : Int) : Option R := br (decide (d < u)) (br (decide (0 <= d) && decide (d < (Aa.length : Int))) (at? Aa d.toNat fun f => f.unAgg fun l1 => e9 l1 fun x2 l3_1 => x2.unBytes fun l4 => e9 l3_1 fun x5 l6 => V.unInt FK x5 fun n7 => e9 l6 fun x8 l9 => V.unInt FK x8 fun na => D2 l9 (j3 (c0g N l4 n7 na l3 x O) fun AI => br AI (K0 d) (Lq (FK.wrap (d + 1))))) none) K1
def a5D {R : Type} (N : Nat) (Aa : List V) (u : Int) (l3 : LB) (x O : Int) : Nat -> Int -> (Int -> Option R) -> (Option R) -> Option R | 0, _, _, _ => none | t + 1, d, K0, K1 => a2A N Aa u l3 x O (fun d => a5D N Aa u l3 x O t d K0 K1) K0 K1 d
def b5j {R : Type} (N : Nat) (ds : List D) (m : Mem) (K : Ex -> List D -> Mem -> Option R) : Option R :=
 match ds, m with
 | [(.v (.sl 58 Aa) .no), (.clos 105 [(.ptr 1 0 0)]), (.v (.int .i64 u) .no), (.v (.int .i64 d) .no)], mm8 l3 x O => a5D N Aa u l3 x O N d (fun a0 => K .ret [(.v (.int .i64 a0) .no)] (mm8 l3 x O)) (K (.exit 0) [.any] (mm8 l3 x O))
 | _, _ => none
def c5s {R : Type} (N : Nat) (f : List V) (U : LB) (y1 y2 : Int) (K0 : Int -> Option R) : Option R := a5D N f (f.length : Int) U y1 y2 N 0 (fun j => K0 j) (K0 (-1))
def c6B (N : Nat) (f : List V) (U : LB) (y1 y2 : Int) : Option (Int) := c5s N f U y1 y2 (fun r0 => some r0)
def c8m (N : Nat) : Cx := cl [] [c6e N] [⟨2, [0, 1, 7, 8], [4], b5j N⟩]
theorem c9L (N : Nat) : p9 (c8m N) 19 (s4 Tryz.f153 0) := by
 refine j7 (rid := 2) (by kernel_rfl) rfl rfl fun R ds m K r h => ?_
 change b5j N ds m K = _ at h
 unfold b5j at h
 split at h
 . rename_i Aa u d l3 x O
   exact ⟨N, Gr (lpI (fun (e : (Int -> Option R) × (Option R)) L (s : Int) => a2A N Aa u l3 x O (fun d => L d) e.1 e.2 s) (fun e t s => a5D N Aa u l3 x O t s e.1 e.2) (fun s => [(.v (.sl 58 Aa) .no), (.clos 105 [(.ptr 1 0 0)]), (.v (.int .i64 u) .no), (.v (.int .i64 s) .no)]) (fun s => mm8 l3 x O) (fun _ _ => rfl) (fun _ _ _ => rfl) (e := (_, _)) (fun L s => by kernel_rfl) N d) h⟩
 . cases h
def d4a (N : Nat) : MEnt := vE 153 (.v (.l 58) (.c 105 (.p 0 .z) .z)) [(58, [.n .y, .n fI, .n fI])] (.v fI .z) false (c6B N)
theorem e0W (N : Nat) : MEO (d4a N) := wk (cx := c8m N) (D4 trivial ⟨c7V N, trivial⟩) Tryz.func153 (j6 (k := 1) (by kernel_rfl) ⟨trivial, c9L N⟩) (by kernel_rfl) (fun R => c5s (R := R) N) (fun R h K => by kernel_rfl) fun h => by kernel_rfl
def c6W {R : Type} (N : Nat) (f : List V) (U : LB) (y1 y2 : Int) (K0 : Bool -> Option R) : Option R := j3 (c6B N f U y1 y2) fun j => K0 (decide (0 <= j))
def b9I (N : Nat) (f : List V) (U : LB) (y1 y2 : Int) : Option (Bool) := c6W N f U y1 y2 (fun r0 => some r0)
def e0V (N : Nat) : Cx := cz [] [d4a N]
def d2Z (N : Nat) : MEnt := vE 104 (.v (.l 58) (.c 105 (.p 0 .z) .z)) [(58, [.n .y, .n fI, .n fI])] (.v .b .z) false (b9I N)
theorem e1R (N : Nat) : MEO (d2Z N) := wk0 (cx := e0V N) (A9 trivial ⟨e0W N, trivial⟩) Tryz.func104 (by kernel_rfl) (fun R => c6W (R := R) N) (fun R h K => by kernel_rfl) fun h => by kernel_rfl
def d4U {R : Type} (N : Nat) (f : Int) (x1 : LB) (x2 x3 : Int) (U : LB) (y1 y2 : Int) (y3 y4 y5 y6 y7 : List V) (K0 : Int -> Option R) : Option R := j3 (a6E N x1) fun b0 => br (!b0) (K0 1) (j3 (a7E N x2) fun b1 => br (!b1) (K0 2) (j3 (a7E N x3) fun b2 => br (!b2) (K0 2) (j3 (b6v N x1 U) fun b3 => br b3 (K0 13) (br (decide (0 <= f) && decide (f <= (y3.length : Int))) (j3 (b9I N (List.take f.toNat y3) x1 x2 x3) fun b4 => br b4 (K0 13) (K0 0)) none))))
def c1j (N : Nat) (f : Int) (x1 : LB) (x2 x3 : Int) (U : LB) (y1 y2 : Int) (y3 y4 y5 y6 y7 : List V) : Option (Int) := d4U N f x1 x2 x3 U y1 y2 y3 y4 y5 y6 y7 (fun r0 => some r0)
def e4r (N : Nat) : Cx := cz [b1z N, c6D N, c7A N] [d2Z N, c6e N]
def d4F (N : Nat) : MEnt := vE 102 e5K c5u (.v fI .z) false (c1j N)
theorem d6t (N : Nat) : MEO (d4F N) := wk0 (cx := e4r N) (A9 ⟨b4M N, c7j N, c5b N, trivial⟩ ⟨e1R N, c7V N, trivial⟩) Tryz.func102 (by kernel_rfl) (fun R => d4U (R := R) N) (fun R h K => by kernel_rfl) fun h => by kernel_rfl
def a3o {R : Type} (N : Nat) (Aa : List V) (u : Int) (l3 : LB) (x O : Int) (Ac Ad Ae Aj Ag : List V) (Lq : Int -> Option R) (K0 : Int -> Option R) (K1 : Option R) (d : Int) : Option R := br (decide (d < u)) (br (decide (0 <= d) && decide (d < (Aa.length : Int))) (at? Aa d.toNat fun f => f.unAgg fun l1 => e9 l1 fun x2 l3_1 => x2.unBytes fun l4 => e9 l3_1 fun x5 l6 => V.unInt FK x5 fun n7 => e9 l6 fun x8 l9 => V.unInt FK x8 fun na => D2 l9 (j3 (c1j N d l4 n7 na l3 x O Ac Ad Ae Aj Ag) fun nb => br (!decide (nb = 0)) (K0 nb) (Lq (FK.wrap (d + 1))))) none) K1
def a5S {R : Type} (N : Nat) (Aa : List V) (u : Int) (l3 : LB) (x O : Int) (Ac Ad Ae Aj Ag : List V) : Nat -> Int -> (Int -> Option R) -> (Option R) -> Option R | 0, _, _, _ => none | t + 1, d, K0, K1 => a3o N Aa u l3 x O Ac Ad Ae Aj Ag (fun d => a5S N Aa u l3 x O Ac Ad Ae Aj Ag t d K0 K1) K0 K1 d
def b3S {R : Type} (N : Nat) (ds : List D) (m : Mem) (K : Ex -> List D -> Mem -> Option R) : Option R :=
 match ds, m with
 | [(.clos 102 [(.ptr 1 0 0)]), (.v (.sl 58 Aa) .no), (.v (.int .i64 u) .no), (.v (.int .i64 d) .no)], mm7 l3 x O Ac Ad Ae Aj Ag => a5S N Aa u l3 x O Ac Ad Ae Aj Ag N d (fun a0 => K .ret [(.v (.int .i64 a0) .no)] (mm7 l3 x O Ac Ad Ae Aj Ag)) (K (.exit 0) [.any] (mm7 l3 x O Ac Ad Ae Aj Ag))
 | _, _ => none
def c5Y {R : Type} (N : Nat) (f : List V) (U : LB) (y1 y2 : Int) (y3 y4 y5 y6 y7 : List V) (K0 : Int -> Option R) : Option R := a5S N f (f.length : Int) U y1 y2 y3 y4 y5 y6 y7 N 0 (fun j => K0 j) (K0 0)
def b8i (N : Nat) (f : List V) (U : LB) (y1 y2 : Int) (y3 y4 y5 y6 y7 : List V) : Option (Int) := c5Y N f U y1 y2 y3 y4 y5 y6 y7 (fun r0 => some r0)
def c8p (N : Nat) : Cx := cl [] [d4F N] [⟨2, [1, 8, 9, 10], [4], b3S N⟩]
theorem d0k (N : Nat) : p9 (c8p N) 23 (s4 Tryz.f101 0) := by
 refine j7 (rid := 2) (by kernel_rfl) rfl rfl fun R ds m K r h => ?_
 change b3S N ds m K = _ at h
 unfold b3S at h
 split at h
 . rename_i Aa u d l3 x O Ac Ad Ae Aj Ag
   exact ⟨N, Gr (lpI (fun (e : (Int -> Option R) × (Option R)) L (s : Int) => a3o N Aa u l3 x O Ac Ad Ae Aj Ag (fun d => L d) e.1 e.2 s) (fun e t s => a5S N Aa u l3 x O Ac Ad Ae Aj Ag t s e.1 e.2) (fun s => [(.clos 102 [(.ptr 1 0 0)]), (.v (.sl 58 Aa) .no), (.v (.int .i64 u) .no), (.v (.int .i64 s) .no)]) (fun s => mm7 l3 x O Ac Ad Ae Aj Ag) (fun _ _ => rfl) (fun _ _ _ => rfl) (e := (_, _)) (fun L s => by kernel_rfl) N d) h⟩
 . cases h
def d7I (N : Nat) : MEnt := vE 101 (.v (.l 58) (.c 102 (.p 0 .z) .z)) c5u (.v fI .z) false (b8i N)
theorem d8L (N : Nat) : MEO (d7I N) := wk (cx := c8p N) (D4 trivial ⟨d6t N, trivial⟩) Tryz.func101 (j6 (k := 1) (by kernel_rfl) ⟨trivial, d0k N⟩) (by kernel_rfl) (fun R => c5Y (R := R) N) (fun R h K => by kernel_rfl) fun h => by kernel_rfl
def a4n (N : Nat) (f : LB) (x1 x2 : Int) (x3 x4 x5 x6 x7 : List V) : Option (Int) := j3 (b8i N x3 f x1 x2 x3 x4 x5 x6 x7) fun j => some j
def c2P (N : Nat) : Cx := cz [] [d7I N, d4F N]
def b3P (N : Nat) : Ent := pE 60 b5R (.v fI .z) (a4n N)
theorem c0A (N : Nat) : EO (b3P N) := pk0 (cx := c2P N) (A9 trivial ⟨d8L N, d6t N, trivial⟩) Tryz.func60 (by kernel_rfl) fun h => by kernel_rfl
def d3l {R : Type} (N : Nat) (f x1 x2 : Int) (U : LB) (y1 y2 : Int) (y3 y4 y5 y6 y7 : List V) (y8 : Int) (K0 : Int -> Option R) : Option R := j3 (a8n N U y1 y2 y3 y4 y5 y6 y7 x1 x2 y8) fun j => K0 j
def c7X (N : Nat) (f x1 x2 : Int) (U : LB) (y1 y2 : Int) (y3 y4 y5 y6 y7 : List V) (y8 : Int) : Option (Int) := d3l N f x1 x2 U y1 y2 y3 y4 y5 y6 y7 y8 (fun r0 => some r0)
def e3e (N : Nat) : Cx := cz [c0b N] []
def d6K (N : Nat) : MEnt := vE 156 e7m e4V (.v fI .z) false (c7X N)
theorem d4p (N : Nat) : MEO (d6K N) := wk0 (cx := e3e N) (A9 ⟨c1k N, trivial⟩ trivial) Tryz.func156 (by kernel_rfl) (fun R => d3l (R := R) N) (fun R h K => by kernel_rfl) fun h => by kernel_rfl
def a3e {R : Type} (N : Nat) (Aa : List V) (u : Int) (l3 : LB) (x O : Int) (Ac Ad Ae Aj Ag : List V) (nb : Int) (Lq : Int -> Option R) (K0 : Int -> Option R) (K1 : Option R) (d : Int) : Option R := br (decide (d < u)) (br (decide (0 <= d) && decide (d < (Aa.length : Int))) (at? Aa d.toNat fun f => f.unAgg fun l1 => e9 l1 fun x2 l3_1 => V.unInt FK x2 fun n4_1 => e9 l3_1 fun x5 l6 => V.unInt FK x5 fun n7 => D2 l6 (j3 (c7X N d n4_1 n7 l3 x O Ac Ad Ae Aj Ag nb) fun n8 => br (!decide (n8 = 0)) (K0 n8) (Lq (FK.wrap (d + 1))))) none) K1
def a5d {R : Type} (N : Nat) (Aa : List V) (u : Int) (l3 : LB) (x O : Int) (Ac Ad Ae Aj Ag : List V) (nb : Int) : Nat -> Int -> (Int -> Option R) -> (Option R) -> Option R | 0, _, _, _ => none | t + 1, d, K0, K1 => a3e N Aa u l3 x O Ac Ad Ae Aj Ag nb (fun d => a5d N Aa u l3 x O Ac Ad Ae Aj Ag nb t d K0 K1) K0 K1 d
def b3p {R : Type} (N : Nat) (ds : List D) (m : Mem) (K : Ex -> List D -> Mem -> Option R) : Option R :=
 match ds, m with
 | [(.clos 156 [(.ptr 1 0 0), (.ptr 1 1 0)]), (.v (.sl 42 Aa) .no), (.v (.int .i64 u) .no), (.v (.int .i64 d) .no)], mm9 l3 x O Ac Ad Ae Aj Ag nb => a5d N Aa u l3 x O Ac Ad Ae Aj Ag nb N d (fun a0 => K .ret [(.v (.int .i64 a0) .no)] (mm9 l3 x O Ac Ad Ae Aj Ag nb)) (K (.exit 0) [.any] (mm9 l3 x O Ac Ad Ae Aj Ag nb))
 | _, _ => none
def c6g {R : Type} (N : Nat) (f : List V) (U : LB) (y1 y2 : Int) (y3 y4 y5 y6 y7 : List V) (y8 : Int) (K0 : Int -> Option R) : Option R := a5d N f (f.length : Int) U y1 y2 y3 y4 y5 y6 y7 y8 N 0 (fun j => K0 j) (K0 0)
def a5v (N : Nat) (f : List V) (U : LB) (y1 y2 : Int) (y3 y4 y5 y6 y7 : List V) (y8 : Int) : Option (Int) := c6g N f U y1 y2 y3 y4 y5 y6 y7 y8 (fun r0 => some r0)
def c9p (N : Nat) : Cx := cl [] [d6K N] [⟨2, [1, 8, 9, 10], [4], b3p N⟩]
theorem d0U (N : Nat) : p9 (c9p N) 23 (s4 Tryz.f155 0) := by
 refine j7 (rid := 2) (by kernel_rfl) rfl rfl fun R ds m K r h => ?_
 change b3p N ds m K = _ at h
 unfold b3p at h
 split at h
 . rename_i Aa u d l3 x O Ac Ad Ae Aj Ag nb
   exact ⟨N, Gr (lpI (fun (e : (Int -> Option R) × (Option R)) L (s : Int) => a3e N Aa u l3 x O Ac Ad Ae Aj Ag nb (fun d => L d) e.1 e.2 s) (fun e t s => a5d N Aa u l3 x O Ac Ad Ae Aj Ag nb t s e.1 e.2) (fun s => [(.clos 156 [(.ptr 1 0 0), (.ptr 1 1 0)]), (.v (.sl 42 Aa) .no), (.v (.int .i64 u) .no), (.v (.int .i64 s) .no)]) (fun s => mm9 l3 x O Ac Ad Ae Aj Ag nb) (fun _ _ => rfl) (fun _ _ _ => rfl) (e := (_, _)) (fun L s => by kernel_rfl) N d) h⟩
 . cases h
def d5e (N : Nat) : MEnt := vE 155 (.v (.l 42) (.c 156 (.p 0 (.p 1 .z)) .z)) e4V (.v fI .z) false (a5v N)
theorem d8Y (N : Nat) : MEO (d5e N) := wk (cx := c9p N) (D4 trivial ⟨d4p N, trivial⟩) Tryz.func155 (j6 (k := 1) (by kernel_rfl) ⟨trivial, d0U N⟩) (by kernel_rfl) (fun R => c6g (R := R) N) (fun R h K => by kernel_rfl) fun h => by kernel_rfl
def a6e {R : Type} (N : Nat) (Aa : List V) (u d : Int) (Lq : Int -> Option R) (K0 : Int -> Option R) (K1 : Option R) (i : Int) : Option R := br (decide (i < d)) (br (decide (0 <= i) && decide (i < (Aa.length : Int))) (at? Aa i.toNat fun f => V.unInt FK f fun n1_1 => br (decide (u = n1_1)) (K0 i) (Lq (FK.wrap (i + 1)))) none) K1
def a8G {R : Type} (N : Nat) (Aa : List V) (u d : Int) : Nat -> Int -> (Int -> Option R) -> (Option R) -> Option R | 0, _, _, _ => none | t + 1, i, K0, K1 => a6e N Aa u d (fun i => a8G N Aa u d t i K0 K1) K0 K1 i
def b8R {R : Type} (N : Nat) (ds : List D) (m : Mem) (K : Ex -> List D -> Mem -> Option R) : Option R :=
 match ds, m with
 | [(.v (.sl 3 Aa) .no), (.v (.int .i64 u) .no), (.v (.int .i64 d) .no), (.v (.int .i64 i) .no)], [[]] => a8G N Aa u d N i (fun a0 => K .ret [(.v (.int .i64 a0) .no)] [[]]) (K (.exit 0) [.any] [[]])
 | _, _ => none
def d7o (N : Nat) (f : List V) (x1 : Int) : Option (Int) := a8G N f x1 (f.length : Int) N 0 (fun j => some j) (some (-1))
def d6G (N : Nat) : Cx := cl [] [] [⟨2, [0, 1, 7, 8], [4], b8R N⟩]
theorem d4x (N : Nat) : p9 (d6G N) 19 (s4 Tryz.f204 0) := by
 refine j7 (rid := 2) (by kernel_rfl) rfl rfl fun R ds m K r h => ?_
 change b8R N ds m K = _ at h
 unfold b8R at h
 split at h
 . rename_i Aa u d i
   exact ⟨N, Gr (lpI (fun (e : (Int -> Option R) × (Option R)) L (s : Int) => a6e N Aa u d (fun i => L i) e.1 e.2 s) (fun e t s => a8G N Aa u d t s e.1 e.2) (fun s => [(.v (.sl 3 Aa) .no), (.v (.int .i64 u) .no), (.v (.int .i64 d) .no), (.v (.int .i64 s) .no)]) (fun s => [[]]) (fun _ _ => rfl) (fun _ _ _ => rfl) (e := (_, _)) (fun L s => by kernel_rfl) N i) h⟩
 . cases h
def e2C (N : Nat) : Ent := pE 204 (.v (.l 3) (.v fI .z)) (.v fI .z) (d7o N)
theorem e3z (N : Nat) : EO (e2C N) := pk (cx := d6G N) (D4 trivial trivial) Tryz.func204 (j6 (k := 1) (by kernel_rfl) ⟨trivial, d4x N⟩) (by kernel_rfl) fun h => by kernel_rfl
def c2n (N : Nat) (f : List V) (x1 : Int) : Option (Bool) := j3 (d7o N f x1) fun j => some (decide (0 <= j))
def e3W (N : Nat) : Cx := cz [e2C N] []
def e2L (N : Nat) : Ent := pE 191 (.v (.l 3) (.v fI .z)) (.v .b .z) (c2n N)
theorem e3X (N : Nat) : EO (e2L N) := pk0 (cx := e3W N) (A9 ⟨e3z N, trivial⟩ trivial) Tryz.func191 (by kernel_rfl) fun h => by kernel_rfl
def b8l (N : Nat) (f : LB) (x1 x2 : Int) (x3 x4 x5 x6 x7 : List V) (x8 x9 xa : Int) (xb : Bool) (xc xd xe xf : List V) (xg xh : Int) : Option (Int) := br (decide (xh = -1)) (br xb (some 4) (br (decide (xh = -1)) (some 0) (j3 (D8 N xh (x5.length : Int)) fun b0 => br (!b0) (some 2) (br (decide (0 <= xh) && decide (xh < (x5.length : Int))) (at? x5 xh.toNat fun x1 => x1.unAgg fun l2 => e9 l2 fun x3 l4 => x3.unBool fun b5 => e9 l4 fun x6 l7 => x6.unBool fun b8 => e9 l7 fun x9 la => V.unInt FK x9 fun nb => e9 la fun xc ld => V.unSl 44 xc fun AL => e9 ld fun xf lg => V.unInt FK xf fun nh => e9 lg fun xi lj => V.unInt FK xi fun nk => e9 lj fun xl AP => V.unInt FK xl fun nn => e9 AP fun xo AX => V.unInt FK xo fun AK => e9 AX fun xr Ba => V.unInt FK xr fun nt => e9 Ba fun xu AU => V.unSl 54 xu fun Bl => e9 AU fun xx ly => V.unSl 107 xx fun Bm => D2 ly (br b5 (some 4) (br (decide (0 <= xh) && decide (xh < (x5.length : Int))) (at? x5 xh.toNat fun Dm => Dm.unAgg fun BA => e9 BA fun BM AY => BM.unBool fun Fa => e9 AY fun BN AZ => BN.unBool fun Fb => e9 AZ fun Cp AV => V.unInt FK Cp fun CE => e9 AV fun Cq Bi => V.unSl 44 Cq fun BQ => e9 Bi fun BI Bb => V.unInt FK BI fun CQ => e9 Bb fun BZ BB => V.unInt FK BZ fun CR => e9 BB fun Dn Do => V.unInt FK Dn fun Fc => e9 Do fun Dp Dq => V.unInt FK Dp fun Fe => e9 Dq fun Dr BE => V.unInt FK Dr fun Ff => e9 BE fun Ds Cr => V.unSl 54 Ds fun Ca => e9 Cr fun Dt Cs => V.unSl 107 Dt fun CI => D2 Cs (br (!decide (CE = x8)) (some 4) (br (decide (0 <= xg) && decide (xg <= (xe.length : Int))) (j3 (c2n N (List.take xg.toNat xe) xh) fun Du => br Du (some 13) (some 0)) none))) none))) none)))) (br (decide (xh = -1)) (some 0) (j3 (D8 N xh (x5.length : Int)) fun Dv => br (!Dv) (some 2) (br (decide (0 <= xh) && decide (xh < (x5.length : Int))) (at? x5 xh.toNat fun Ct => Ct.unAgg fun Cu => e9 Cu fun Dw Dx => Dw.unBool fun Dy => e9 Dx fun Dz DA => Dz.unBool fun Fg => e9 DA fun DB DC => V.unInt FK DB fun Fh => e9 DC fun DD DE => V.unSl 44 DD fun Fi => e9 DE fun DF DG => V.unInt FK DF fun Fj => e9 DG fun DH DI => V.unInt FK DH fun Fk => e9 DI fun DJ DK => V.unInt FK DJ fun Fl => e9 DK fun DL DM => V.unInt FK DL fun Fo => e9 DM fun DN DO => V.unInt FK DN fun Fp => e9 DO fun DP DQ => V.unSl 54 DP fun Fq => e9 DQ fun DR DS => V.unSl 107 DR fun Fs => D2 DS (br Dy (some 4) (br (decide (0 <= xh) && decide (xh < (x5.length : Int))) (at? x5 xh.toNat fun DT => DT.unAgg fun DU => e9 DU fun DV DW => DV.unBool fun Ft => e9 DW fun DX DY => DX.unBool fun Fu => e9 DY fun DZ Ea => V.unInt FK DZ fun Eb => e9 Ea fun Ec Ed => V.unSl 44 Ec fun Fv => e9 Ed fun Ee Ef => V.unInt FK Ee fun Fw => e9 Ef fun Eg Eh => V.unInt FK Eg fun Fx => e9 Eh fun Ei Ej => V.unInt FK Ei fun Fy => e9 Ej fun Ek El => V.unInt FK Ek fun Fz => e9 El fun Em Eo => V.unInt FK Em fun FA => e9 Eo fun Ep Er => V.unSl 54 Ep fun FB => e9 Er fun Es Et => V.unSl 107 Es fun FC => D2 Et (br (!decide (Eb = x8)) (some 4) (br (decide (0 <= xg) && decide (xg <= (xe.length : Int))) (j3 (c2n N (List.take xg.toNat xe) xh) fun Eu => br Eu (some 13) (some 0)) none))) none))) none)))
def e1t (N : Nat) : Cx := cz [a0y N, e2L N] []
def d3M (N : Nat) : Ent := pE 159 e7B (.v fI .z) (b8l N)
theorem e1T (N : Nat) : EO (d3M N) := pk0 (cx := e1t N) (A9 ⟨Y8 N, e3X N, trivial⟩ trivial) Tryz.func159 (by kernel_rfl) fun h => by kernel_rfl
def d2Y {R : Type} (N : Nat) (f x1 : Int) (U : LB) (y1 y2 : Int) (y3 y4 y5 y6 y7 : List V) (y8 y9 ya : Int) (yb : Bool) (AJ yd ye yf : List V) (K0 : Int -> Option R) : Option R := j3 (b8l N U y1 y2 y3 y4 y5 y6 y7 y8 y9 ya yb AJ yd ye yf f x1) fun j => K0 j
def c8t (N : Nat) (f x1 : Int) (U : LB) (y1 y2 : Int) (y3 y4 y5 y6 y7 : List V) (y8 y9 ya : Int) (yb : Bool) (AJ yd ye yf : List V) : Option (Int) := d2Y N f x1 U y1 y2 y3 y4 y5 y6 y7 y8 y9 ya yb AJ yd ye yf (fun r0 => some r0)
def e3d (N : Nat) : Cx := cz [d3M N] []
def d2O (N : Nat) : MEnt := vE 158 (.v fI (.v fI (.p 0 (.p 1 (.p 2 .z))))) e5E (.v fI .z) false (c8t N)
theorem d7v (N : Nat) : MEO (d2O N) := wk0 (cx := e3d N) (A9 ⟨e1T N, trivial⟩ trivial) Tryz.func158 (by kernel_rfl) (fun R => d2Y (R := R) N) (fun R h K => by kernel_rfl) fun h => by kernel_rfl
def a3b {R : Type} (N : Nat) (Aa : List V) (u : Int) (l3 : LB) (x O : Int) (Ac Ad Ae Aj Ag : List V) (nb nc nd : Int) (AM : Bool) (Am Ar AF AR : List V) (Lq : Int -> Option R) (K0 : Int -> Option R) (K1 : Option R) (d : Int) : Option R := br (decide (d < u)) (br (decide (0 <= d) && decide (d < (Aa.length : Int))) (at? Aa d.toNat fun f => V.unInt FK f fun u => j3 (c8t N d u l3 x O Ac Ad Ae Aj Ag nb nc nd AM Am Ar AF AR) fun n2_1 => br (!decide (n2_1 = 0)) (K0 n2_1) (Lq (FK.wrap (d + 1)))) none) K1
def a4I {R : Type} (N : Nat) (Aa : List V) (u : Int) (l3 : LB) (x O : Int) (Ac Ad Ae Aj Ag : List V) (nb nc nd : Int) (AM : Bool) (Am Ar AF AR : List V) : Nat -> Int -> (Int -> Option R) -> (Option R) -> Option R | 0, _, _, _ => none | t + 1, d, K0, K1 => a3b N Aa u l3 x O Ac Ad Ae Aj Ag nb nc nd AM Am Ar AF AR (fun d => a4I N Aa u l3 x O Ac Ad Ae Aj Ag nb nc nd AM Am Ar AF AR t d K0 K1) K0 K1 d
def b5o {R : Type} (N : Nat) (ds : List D) (m : Mem) (K : Ex -> List D -> Mem -> Option R) : Option R :=
 match ds, m with
 | [(.clos 158 [(.ptr 1 0 0), (.ptr 1 1 0), (.ptr 1 2 0)]), (.v (.sl 3 Aa) .no), (.v (.int .i64 u) .no), (.v (.int .i64 d) .no)], d9Y l3 x O Ac Ad Ae Aj Ag nb nc nd AM Am Ar AF AR => a4I N Aa u l3 x O Ac Ad Ae Aj Ag nb nc nd AM Am Ar AF AR N d (fun a0 => K .ret [(.v (.int .i64 a0) .no)] (d9Y l3 x O Ac Ad Ae Aj Ag nb nc nd AM Am Ar AF AR)) (K (.exit 0) [.any] (d9Y l3 x O Ac Ad Ae Aj Ag nb nc nd AM Am Ar AF AR))
 | _, _ => none
def c5i {R : Type} (N : Nat) (f : List V) (U : LB) (y1 y2 : Int) (y3 y4 y5 y6 y7 : List V) (y8 y9 ya : Int) (yb : Bool) (AJ yd ye yf : List V) (K0 : Int -> Option R) : Option R := a4I N f (f.length : Int) U y1 y2 y3 y4 y5 y6 y7 y8 y9 ya yb AJ yd ye yf N 0 (fun j => K0 j) (K0 0)
def a5f (N : Nat) (f : List V) (U : LB) (y1 y2 : Int) (y3 y4 y5 y6 y7 : List V) (y8 y9 ya : Int) (yb : Bool) (AJ yd ye yf : List V) : Option (Int) := c5i N f U y1 y2 y3 y4 y5 y6 y7 y8 y9 ya yb AJ yd ye yf (fun r0 => some r0)
def c8E (N : Nat) : Cx := cl [] [d2O N] [⟨2, [1, 8, 9, 10], [4], b5o N⟩]
theorem c9K (N : Nat) : p9 (c8E N) 23 (s4 Tryz.f157 0) := by
 refine j7 (rid := 2) (by kernel_rfl) rfl rfl fun R ds m K r h => ?_
 change b5o N ds m K = _ at h
 unfold b5o at h
 split at h
 . rename_i Aa u d l3 x O Ac Ad Ae Aj Ag nb nc nd AM Am Ar AF AR
   exact ⟨N, Gr (lpI (fun (e : (Int -> Option R) × (Option R)) L (s : Int) => a3b N Aa u l3 x O Ac Ad Ae Aj Ag nb nc nd AM Am Ar AF AR (fun d => L d) e.1 e.2 s) (fun e t s => a4I N Aa u l3 x O Ac Ad Ae Aj Ag nb nc nd AM Am Ar AF AR t s e.1 e.2) (fun s => [(.clos 158 [(.ptr 1 0 0), (.ptr 1 1 0), (.ptr 1 2 0)]), (.v (.sl 3 Aa) .no), (.v (.int .i64 u) .no), (.v (.int .i64 s) .no)]) (fun s => d9Y l3 x O Ac Ad Ae Aj Ag nb nc nd AM Am Ar AF AR) (fun _ _ => rfl) (fun _ _ _ => rfl) (e := (_, _)) (fun L s => by kernel_rfl) N d) h⟩
 . cases h
def d7c (N : Nat) : MEnt := vE 157 e7E e5E (.v fI .z) false (a5f N)
theorem e0M (N : Nat) : MEO (d7c N) := wk (cx := c8E N) (D4 trivial ⟨d7v N, trivial⟩) Tryz.func157 (j6 (k := 1) (by kernel_rfl) ⟨trivial, c9K N⟩) (by kernel_rfl) (fun R => c5i (R := R) N) (fun R h K => by kernel_rfl) fun h => by kernel_rfl
def b8W (N : Nat) (f : Int) : Option (Bool) := j3 (D8 N f 16) fun b0 => some !b0
def d8e (N : Nat) : Cx := cz [a0y N] []
def c4C (N : Nat) : Ent := pE 166 (.v fI .z) (.v .b .z) (b8W N)
theorem c7E (N : Nat) : EO (c4C N) := pk0 (cx := d8e N) (A9 ⟨Y8 N, trivial⟩ trivial) Tryz.func166 (by kernel_rfl) fun h => by kernel_rfl
def a2v {R : Type} (N : Nat) (Aa : List V) (u : Int) (Lq : Int -> Option R) (K0 : Int -> Option R) (K1 : Option R) (d : Int) : Option R := br (decide (d < u)) (br (decide (0 <= d) && decide (d < (Aa.length : Int))) (at? Aa d.toNat fun f => V.unInt FK f fun u => j3 (b8W N u) fun b2 => br b2 (K0 d) (Lq (FK.wrap (d + 1)))) none) K1
def a5Q {R : Type} (N : Nat) (Aa : List V) (u : Int) : Nat -> Int -> (Int -> Option R) -> (Option R) -> Option R | 0, _, _, _ => none | t + 1, d, K0, K1 => a2v N Aa u (fun d => a5Q N Aa u t d K0 K1) K0 K1 d
def b5g {R : Type} (N : Nat) (ds : List D) (m : Mem) (K : Ex -> List D -> Mem -> Option R) : Option R :=
 match ds, m with
 | [(.v (.sl 3 Aa) .no), (.clos 166 []), (.v (.int .i64 u) .no), (.v (.int .i64 d) .no)], [[]] => a5Q N Aa u N d (fun a0 => K .ret [(.v (.int .i64 a0) .no)] [[]]) (K (.exit 0) [.any] [[]])
 | _, _ => none
def c5S (N : Nat) (f : List V) : Option (Int) := a5Q N f (f.length : Int) N 0 (fun j => some j) (some (-1))
def c8O (N : Nat) : Cx := cl [c4C N] [] [⟨2, [0, 1, 7, 8], [4], b5g N⟩]
theorem d0Q (N : Nat) : p9 (c8O N) 19 (s4 Tryz.f193 0) := by
 refine j7 (rid := 2) (by kernel_rfl) rfl rfl fun R ds m K r h => ?_
 change b5g N ds m K = _ at h
 unfold b5g at h
 split at h
 . rename_i Aa u d
   exact ⟨N, Gr (lpI (fun (e : (Int -> Option R) × (Option R)) L (s : Int) => a2v N Aa u (fun d => L d) e.1 e.2 s) (fun e t s => a5Q N Aa u t s e.1 e.2) (fun s => [(.v (.sl 3 Aa) .no), (.clos 166 []), (.v (.int .i64 u) .no), (.v (.int .i64 s) .no)]) (fun s => [[]]) (fun _ _ => rfl) (fun _ _ _ => rfl) (e := (_, _)) (fun L s => by kernel_rfl) N d) h⟩
 . cases h
def d3L (N : Nat) : Ent := pE 193 (.v (.l 3) (.c 166 .z .z)) (.v fI .z) (c5S N)
theorem e1W (N : Nat) : EO (d3L N) := pk (cx := c8O N) (D4 ⟨c7E N, trivial⟩ trivial) Tryz.func193 (j6 (k := 1) (by kernel_rfl) ⟨trivial, d0Q N⟩) (by kernel_rfl) fun h => by kernel_rfl
def b9s (N : Nat) (f : List V) : Option (Bool) := j3 (c5S N f) fun j => some (decide (0 <= j))
def d9x (N : Nat) : Cx := cz [d3L N] []
def d7K (N : Nat) : Ent := pE 165 (.v (.l 3) (.c 166 .z .z)) (.v .b .z) (b9s N)
theorem d8c (N : Nat) : EO (d7K N) := pk0 (cx := d9x N) (A9 ⟨e1W N, trivial⟩ trivial) Tryz.func165 (by kernel_rfl) fun h => by kernel_rfl
def c6Y {R : Type} (N : Nat) (f x1 : Int) (x2 : List V) (U y1 : Int) (y2 : List V) (K0 : Bool -> Option R) : Option R := K0 (decide (f = U) && (decide (x1 = y1) && true))
def b7Q (N : Nat) (f x1 : Int) (x2 : List V) (U y1 : Int) (y2 : List V) : Option (Bool) := c6Y N f x1 x2 U y1 y2 (fun r0 => some r0)
def d8g (N : Nat) : Cx := cz [] []
def c5D (N : Nat) : MEnt := vE 164 e7u [(105, [.n fI, .n fI, .n (.l 3)])] (.v .b .z) false (b7Q N)
theorem c8J (N : Nat) : MEO (c5D N) := wk0 (cx := d8g N) (A9 trivial trivial) Tryz.func164 (by kernel_rfl) (fun R => c6Y (R := R) N) (fun R h K => by kernel_rfl) fun h => by kernel_rfl
def Y5 {R : Type} (N : Nat) (Aa : List V) (u i x : Int) (Ai : List V) (Lq : Int -> Option R) (K0 : Int -> Option R) (K1 : Option R) (d : Int) : Option R := br (decide (d < u)) (br (decide (0 <= d) && decide (d < (Aa.length : Int))) (at? Aa d.toNat fun f => f.unAgg fun l1 => e9 l1 fun x2 l3 => V.unInt FK x2 fun n4_1 => e9 l3 fun x5 l6 => V.unInt FK x5 fun n7 => e9 l6 fun x8 l9 => V.unSl 3 x8 fun la => D2 l9 (j3 (b7Q N n4_1 n7 la i x Ai) fun AI => br AI (K0 d) (Lq (FK.wrap (d + 1))))) none) K1
def a1n {R : Type} (N : Nat) (Aa : List V) (u i x : Int) (Ai : List V) : Nat -> Int -> (Int -> Option R) -> (Option R) -> Option R | 0, _, _, _ => none | t + 1, d, K0, K1 => Y5 N Aa u i x Ai (fun d => a1n N Aa u i x Ai t d K0 K1) K0 K1 d
def a7M {R : Type} (N : Nat) (ds : List D) (m : Mem) (K : Ex -> List D -> Mem -> Option R) : Option R :=
 match ds, m with
 | [(.v (.sl 105 Aa) .no), (.clos 164 [(.ptr 1 0 0)]), (.v (.int .i64 u) .no), (.v (.int .i64 d) .no)], e1F i x Ai => a1n N Aa u i x Ai N d (fun a0 => K .ret [(.v (.int .i64 a0) .no)] (e1F i x Ai)) (K (.exit 0) [.any] (e1F i x Ai))
 | _, _ => none
def b2t {R : Type} (N : Nat) (f : List V) (U y1 : Int) (y2 : List V) (K0 : Int -> Option R) : Option R := a1n N f (f.length : Int) U y1 y2 N 0 (fun j => K0 j) (K0 (-1))
def b4K (N : Nat) (f : List V) (U y1 : Int) (y2 : List V) : Option (Int) := b2t N f U y1 y2 (fun r0 => some r0)
def b7D (N : Nat) : Cx := cl [] [c5D N] [⟨2, [0, 1, 7, 8], [4], a7M N⟩]
theorem c0y (N : Nat) : p9 (b7D N) 19 (s4 Tryz.f192 0) := by
 refine j7 (rid := 2) (by kernel_rfl) rfl rfl fun R ds m K r h => ?_
 change a7M N ds m K = _ at h
 unfold a7M at h
 split at h
 . rename_i Aa u d i x Ai
   exact ⟨N, Gr (lpI (fun (e : (Int -> Option R) × (Option R)) L (s : Int) => Y5 N Aa u i x Ai (fun d => L d) e.1 e.2 s) (fun e t s => a1n N Aa u i x Ai t s e.1 e.2) (fun s => [(.v (.sl 105 Aa) .no), (.clos 164 [(.ptr 1 0 0)]), (.v (.int .i64 u) .no), (.v (.int .i64 s) .no)]) (fun s => e1F i x Ai) (fun _ _ => rfl) (fun _ _ _ => rfl) (e := (_, _)) (fun L s => by kernel_rfl) N d) h⟩
 . cases h
def c3n (N : Nat) : MEnt := vE 192 (.v (.l 105) (.c 164 (.p 0 .z) .z)) [(105, [.n fI, .n fI, .n (.l 3)])] (.v fI .z) false (b4K N)
theorem d0X (N : Nat) : MEO (c3n N) := wk (cx := b7D N) (D4 trivial ⟨c8J N, trivial⟩) Tryz.func192 (j6 (k := 1) (by kernel_rfl) ⟨trivial, c0y N⟩) (by kernel_rfl) (fun R => b2t (R := R) N) (fun R h K => by kernel_rfl) fun h => by kernel_rfl
def b2E {R : Type} (N : Nat) (f : List V) (U y1 : Int) (y2 : List V) (K0 : Bool -> Option R) : Option R := j3 (b4K N f U y1 y2) fun j => K0 (decide (0 <= j))
def a8g (N : Nat) (f : List V) (U y1 : Int) (y2 : List V) : Option (Bool) := b2E N f U y1 y2 (fun r0 => some r0)
def c9J (N : Nat) : Cx := cz [] [c3n N]
def c1F (N : Nat) : MEnt := vE 163 (.v (.l 105) (.c 164 (.p 0 .z) .z)) [(105, [.n fI, .n fI, .n (.l 3)])] (.v .b .z) false (a8g N)
theorem d0h (N : Nat) : MEO (c1F N) := wk0 (cx := c9J N) (A9 trivial ⟨d0X N, trivial⟩) Tryz.func163 (by kernel_rfl) (fun R => b2E (R := R) N) (fun R h K => by kernel_rfl) fun h => by kernel_rfl
end En
end
end Go.Proofs.YtkoilndpfifapaaGreatDoor
