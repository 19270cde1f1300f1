/- Texts. -/
import Derived.Test.YtkoilndpfifapaaGreatDoorZ4

set_option linter.unusedSimpArgs false
set_option linter.unusedVariables false
set_option linter.unusedSectionVars false
open Eq renaming trans → Gs
open Go.IntKind renaming i64 → FK
namespace Go.Proofs.YtkoilndpfifapaaGreatDoor
noncomputable section
namespace En
open Go Go.Proofs
set_option maxRecDepth 100000
set_option maxHeartbeats 8000000
def b6H (N : Nat) (f x1 : LB) : Option (Bool) := br (decide (f.length <= 9223372036854775807)) (br (decide (x1.length <= 9223372036854775807)) (some (decide (f = x1))) none) none
def c6Y (N : Nat) : Ent := pE 103 (.v .y (.v .y .z)) (.v .b .z) (b6H N)
theorem c4b (N : Nat) : EO (c6Y N) := pk0 (cx := cz [] []) (A9 trivial trivial) Tryz.func103 (by kernel_rfl) fun h => by kernel_rfl
def a6t (N : Nat) (f : LB) : Option (Bool) := br (decide (5 <= (f.length : Int))) (some (decide ((f.length : Int) <= 16))) (some false)
def b1M (N : Nat) : Ent := pE 32 (.v .y .z) (.v .b .z) (a6t N)
theorem b4i (N : Nat) : EO (b1M N) := pk0 (cx := cz [] []) (A9 trivial trivial) Tryz.func32 (by kernel_rfl) fun h => by kernel_rfl
def a7C (N : Nat) (f : Int) : Option (Bool) := br (decide (0 <= f)) (some (decide (f <= 255))) (some false)
def c6n (N : Nat) : Ent := pE 33 (.v fI .z) (.v .b .z) (a7C N)
theorem c7E (N : Nat) : EO (c6n N) := pk0 (cx := cz [] []) (A9 trivial trivial) Tryz.func33 (by kernel_rfl) fun h => by kernel_rfl
def D8 (N : Nat) (f x1 : Int) : Option (Bool) := br (decide (0 <= f)) (some (decide (f < x1))) (some false)
def a0v (N : Nat) : Ent := pE 115 (.v fI (.v fI .z)) (.v .b .z) (D8 N)
theorem X7 (N : Nat) : EO (a0v N) := pk0 (cx := cz [] []) (A9 trivial trivial) Tryz.func115 (by kernel_rfl) fun h => by kernel_rfl
def E6 (N : Nat) (f : LB) (x1 x2 : Int) (x3 x4 x5 x6 x7 : List V) (x8 x9 : Int) : Option (Bool) := br (decide (x8 = 0)) (j3 (D8 N x9 (x4.length : Int)) fun b0 => some b0) (br (decide (x8 = 255)) (br (decide (x9 = 0)) (some true) (some (decide (x9 = 1)))) (br (decide (1 <= x8)) (br (decide (x8 <= (x3.length : Int))) (j3 (D8 N x9 32) fun b1 => some b1) (some false)) (some false)))
def a2F (N : Nat) : Ent := pE 162 e6B (.v .b .z) (E6 N)
theorem a3F (N : Nat) : EO (a2F N) := pk0 (cx := cz [a0v N] []) (A9 ⟨X7 N, trivial⟩ trivial) Tryz.func162 (by kernel_rfl) fun h => by kernel_rfl
def a4H (N : Nat) (f : LB) (x1 x2 : Int) (x3 x4 x5 x6 x7 : List V) (x8 x9 xa : Int) : Option (Bool) := br (decide (x8 = 5)) (j3 (E6 N f x1 x2 x3 x4 x5 x6 x7 x9 xa) fun b0 => some b0) (br (decide (1 <= x8)) (br (decide (x8 < 5)) (some (decide (x9 = 0) && (decide (xa = 0) && true))) (some false)) (some false))
def b4g (N : Nat) : Ent := pE 167 e6H (.v .b .z) (a4H N)
theorem b6N (N : Nat) : EO (b4g N) := pk0 (cx := cz [a2F N] []) (A9 ⟨a3F N, trivial⟩ trivial) Tryz.func167 (by kernel_rfl) fun h => by kernel_rfl
def a8C (N : Nat) (f : LB) (x1 x2 : Int) (x3 x4 x5 x6 x7 : List V) (x8 x9 xa : Int) : Option (Int) := j3 (E6 N f x1 x2 x3 x4 x5 x6 x7 x8 x9) fun b0 => br (!b0) (some 2) (br (decide (x8 = 0)) (br (decide (xa <= x9)) (some 21) (some 0)) (some 0))
def b9i (N : Nat) : Ent := pE 154 e6s (.v fI .z) (a8C N)
theorem c0y (N : Nat) : EO (b9i N) := pk0 (cx := cz [a2F N] []) (A9 ⟨a3F N, trivial⟩ trivial) Tryz.func154 (by kernel_rfl) fun h => by kernel_rfl
def d3N {R : Type} (N : Nat) (f x1 x2 : Int) (U : LB) (y1 y2 : Int) (y3 y4 y5 y6 y7 : List V) (K0 : Bool -> Option R) : Option R := j3 (a4H N U y1 y2 y3 y4 y5 y6 y7 f x1 x2) fun b0 => K0 !b0
def c7F (N : Nat) (f x1 x2 : Int) (U : LB) (y1 y2 : Int) (y3 y4 y5 y6 y7 : List V) : Option (Bool) := d3N N f x1 x2 U y1 y2 y3 y4 y5 y6 y7 (fun r0 => some r0)
def d4Y (N : Nat) : MEnt := vE 174 (.a (.v fI (.v fI (.v fI .z))) (.p 0 .z)) c4n (.v .b .z) false (c7F N)
theorem d2z (N : Nat) : MEO (d4Y N) := wk0 (cx := cz [b4g N] []) (A9 ⟨b6N N, trivial⟩ trivial) Tryz.func174 (by kernel_rfl) (fun R => d3N (R := R) N) (fun R h K => by kernel_rfl) fun h => by kernel_rfl
def a2R {R : Type} (N : Nat) (Aa : List V) (u : Int) (l3 : LB) (x O : Int) (Ac Ad Ae Ai Ag : List V) (Lq : Int -> Option R) (K0 : Int -> Option R) (K1 : Option R) (d : Int) : Option R := br (decide (d < u)) (br (decide (0 <= d) && decide (d < (Aa.length : Int))) (at? Aa d.toNat fun f => f.unAgg fun l1 => e9 l1 fun x2 l3_1 => V.unInt FK x2 fun n4_1 => e9 l3_1 fun x5 l6 => V.unInt FK x5 fun n7 => e9 l6 fun x8 l9 => V.unInt FK x8 fun na => D2 l9 (j3 (c7F N n4_1 n7 na l3 x O Ac Ad Ae Ai Ag) fun AH => br AH (K0 d) (Lq (FK.wrap (d + 1))))) none) K1
def a5o {R : Type} (N : Nat) (Aa : List V) (u : Int) (l3 : LB) (x O : Int) (Ac Ad Ae Ai Ag : List V) : Nat -> Int -> (Int -> Option R) -> (Option R) -> Option R | 0, _, _, _ => none | t + 1, d, K0, K1 => a2R N Aa u l3 x O Ac Ad Ae Ai Ag (fun d => a5o N Aa u l3 x O Ac Ad Ae Ai Ag t d K0 K1) K0 K1 d
def b3h {R : Type} (N : Nat) (ds : List D) (m : Mem) (K : Ex -> List D -> Mem -> Option R) : Option R :=
 match ds, m with
 | [(.v (.sl 44 Aa) .no), (.clos 174 [(.ptr 1 0 0)]), (.v (.int .i64 u) .no), (.v (.int .i64 d) .no)], [[], [(0, ⟨90, [(.v (.bytes l3) .no), (.v (.int .i64 x) .no), (.v (.int .i64 O) .no), (.v (.sl 58 Ac) .no), (.v (.sl 64 Ad) .no), (.v (.sl 47 Ae) .no), (.v (.sl 44 Ai) .no), (.v (.sl 67 Ag) .no)]⟩)]] => a5o N Aa u l3 x O Ac Ad Ae Ai Ag N d (fun a0 => K .ret [(.v (.int .i64 a0) .no)] (mm7 l3 x O Ac Ad Ae Ai Ag)) (K (.exit 0) [.any] (mm7 l3 x O Ac Ad Ae Ai Ag))
 | _, _ => none
def c5Z {R : Type} (N : Nat) (f : List V) (U : LB) (y1 y2 : Int) (y3 y4 y5 y6 y7 : List V) (K0 : Int -> Option R) : Option R := a5o N f (f.length : Int) U y1 y2 y3 y4 y5 y6 y7 N 0 (fun j => K0 j) (K0 (-1))
def c3V (N : Nat) (f : List V) (U : LB) (y1 y2 : Int) (y3 y4 y5 y6 y7 : List V) : Option (Int) := c5Z N f U y1 y2 y3 y4 y5 y6 y7 (fun r0 => some r0)
def c8N (N : Nat) : Cx := cl [] [d4Y N] [⟨2, [0, 1, 7, 8], [4], b3h N⟩]
theorem d1o (N : Nat) : p9 (c8N N) 19 (s4 Tryz.f195 0) := by
 refine j7 (rid := 2) (by kernel_rfl) rfl rfl fun R ds m K r h => ?_
 change b3h N ds m K = _ at h
 unfold b3h at h
 split at h
 . rename_i Aa u d l3 x O Ac Ad Ae Ai Ag
   exact ⟨N, Gs (lpI (fun (e : (Int -> Option R) × (Option R)) L (s : Int) => a2R N Aa u l3 x O Ac Ad Ae Ai Ag (fun d => L d) e.1 e.2 s) (fun e t s => a5o N Aa u l3 x O Ac Ad Ae Ai Ag t s e.1 e.2) (fun s => [(.v (.sl 44 Aa) .no), (.clos 174 [(.ptr 1 0 0)]), (.v (.int .i64 u) .no), (.v (.int .i64 s) .no)]) (fun s => mm7 l3 x O Ac Ad Ae Ai Ag) (fun _ _ => rfl) (fun _ _ _ => rfl) (e := (_, _)) (fun L s => by kernel_rfl) N d) h⟩
 . cases h
def d2J (N : Nat) : MEnt := vE 195 (.v (.l 44) (.c 174 (.p 0 .z) .z)) c4n (.v fI .z) false (c3V N)
theorem d8G (N : Nat) : MEO (d2J N) := wk (cx := c8N N) (D4 trivial ⟨d2z N, trivial⟩) Tryz.func195 (j6 (k := 1) (by kernel_rfl) ⟨trivial, d1o N⟩) (by kernel_rfl) (fun R => c5Z (R := R) N) (fun R h K => by kernel_rfl) fun h => by kernel_rfl
def c5M {R : Type} (N : Nat) (f : List V) (U : LB) (y1 y2 : Int) (y3 y4 y5 y6 y7 : List V) (K0 : Bool -> Option R) : Option R := j3 (c3V N f U y1 y2 y3 y4 y5 y6 y7) fun j => K0 (decide (0 <= j))
def b8C (N : Nat) (f : List V) (U : LB) (y1 y2 : Int) (y3 y4 y5 y6 y7 : List V) : Option (Bool) := c5M N f U y1 y2 y3 y4 y5 y6 y7 (fun r0 => some r0)
def d2a (N : Nat) : MEnt := vE 173 (.v (.l 44) (.c 174 (.p 0 .z) .z)) c4n (.v .b .z) false (b8C N)
theorem e0g (N : Nat) : MEO (d2a N) := wk0 (cx := cz [] [d2J N]) (A9 trivial ⟨d8G N, trivial⟩) Tryz.func173 (by kernel_rfl) (fun R => c5M (R := R) N) (fun R h K => by kernel_rfl) fun h => by kernel_rfl
def a0h (N : Nat) (f : LB) (x1 x2 : Int) (x3 x4 x5 x6 x7 x8 : List V) : Option (Bool) := j3 (b8C N x8 f x1 x2 x3 x4 x5 x6 x7) fun b0 => some !b0
def b1V (N : Nat) : Ent := pE 110 e6o (.v .b .z) (a0h N)
theorem b5i (N : Nat) : EO (b1V N) := pk0 (cx := cz [] [d2a N, d4Y N]) (A9 trivial ⟨e0g N, d2z N, trivial⟩) Tryz.func110 (by kernel_rfl) fun h => by kernel_rfl
def c4d {R : Type} (N : Nat) (f : LB) (x1 x2 : Int) (U : LB) (y1 y2 : Int) (K0 : Bool -> Option R) : Option R := j3 (b6H N U f) fun b0 => K0 b0
def b8p (N : Nat) (f : LB) (x1 x2 : Int) (U : LB) (y1 y2 : Int) : Option (Bool) := c4d N f x1 x2 U y1 y2 (fun r0 => some r0)
def c3Z (N : Nat) : MEnt := vE 105 (.a (.v .y (.v fI (.v fI .z))) (.p 0 .z)) [(58, [.n .y, .n fI, .n fI])] (.v .b .z) false (b8p N)
theorem c7w (N : Nat) : MEO (c3Z N) := wk0 (cx := cz [c6Y N] []) (A9 ⟨c4b N, trivial⟩ trivial) Tryz.func105 (by kernel_rfl) (fun R => c4d (R := R) N) (fun R h K => by kernel_rfl) fun h => by kernel_rfl
def a2Z {R : Type} (N : Nat) (Aa : List V) (u : Int) (l3 : LB) (x O : Int) (Lq : Int -> Option R) (K0 : Int -> Option R) (K1 : Option R) (d : Int) : Option R := br (decide (d < u)) (br (decide (0 <= d) && decide (d < (Aa.length : Int))) (at? Aa d.toNat fun f => f.unAgg fun l1 => e9 l1 fun x2 l3_1 => x2.unBytes fun l4 => e9 l3_1 fun x5 l6 => V.unInt FK x5 fun n7 => e9 l6 fun x8 l9 => V.unInt FK x8 fun na => D2 l9 (j3 (b8p N l4 n7 na l3 x O) fun AH => br AH (K0 d) (Lq (FK.wrap (d + 1))))) none) K1
def a4F {R : Type} (N : Nat) (Aa : List V) (u : Int) (l3 : LB) (x O : Int) : Nat -> Int -> (Int -> Option R) -> (Option R) -> Option R | 0, _, _, _ => none | t + 1, d, K0, K1 => a2Z N Aa u l3 x O (fun d => a4F N Aa u l3 x O t d K0 K1) K0 K1 d
def b3H {R : Type} (N : Nat) (ds : List D) (m : Mem) (K : Ex -> List D -> Mem -> Option R) : Option R :=
 match ds, m with
 | [(.v (.sl 58 Aa) .no), (.clos 105 [(.ptr 1 0 0)]), (.v (.int .i64 u) .no), (.v (.int .i64 d) .no)], [[], [(0, ⟨58, [(.v (.bytes l3) .no), (.v (.int .i64 x) .no), (.v (.int .i64 O) .no)]⟩)]] => a4F N Aa u l3 x O N d (fun a0 => K .ret [(.v (.int .i64 a0) .no)] (mm8 l3 x O)) (K (.exit 0) [.any] (mm8 l3 x O))
 | _, _ => none
def c6C {R : Type} (N : Nat) (f : List V) (U : LB) (y1 y2 : Int) (K0 : Int -> Option R) : Option R := a4F N f (f.length : Int) U y1 y2 N 0 (fun j => K0 j) (K0 (-1))
def c4F (N : Nat) (f : List V) (U : LB) (y1 y2 : Int) : Option (Int) := c6C N f U y1 y2 (fun r0 => some r0)
def c7O (N : Nat) : Cx := cl [] [c3Z N] [⟨2, [0, 1, 7, 8], [4], b3H N⟩]
theorem d0E (N : Nat) : p9 (c7O N) 19 (s4 Tryz.f153 0) := by
 refine j7 (rid := 2) (by kernel_rfl) rfl rfl fun R ds m K r h => ?_
 change b3H N ds m K = _ at h
 unfold b3H at h
 split at h
 . rename_i Aa u d l3 x O
   exact ⟨N, Gs (lpI (fun (e : (Int -> Option R) × (Option R)) L (s : Int) => a2Z N Aa u l3 x O (fun d => L d) e.1 e.2 s) (fun e t s => a4F N Aa u l3 x O t s e.1 e.2) (fun s => [(.v (.sl 58 Aa) .no), (.clos 105 [(.ptr 1 0 0)]), (.v (.int .i64 u) .no), (.v (.int .i64 s) .no)]) (fun s => mm8 l3 x O) (fun _ _ => rfl) (fun _ _ _ => rfl) (e := (_, _)) (fun L s => by kernel_rfl) N d) h⟩
 . cases h
def d4p (N : Nat) : MEnt := vE 153 (.v (.l 58) (.c 105 (.p 0 .z) .z)) [(58, [.n .y, .n fI, .n fI])] (.v fI .z) false (c4F N)
theorem d9L (N : Nat) : MEO (d4p N) := wk (cx := c7O N) (D4 trivial ⟨c7w N, trivial⟩) Tryz.func153 (j6 (k := 1) (by kernel_rfl) ⟨trivial, d0E N⟩) (by kernel_rfl) (fun R => c6C (R := R) N) (fun R h K => by kernel_rfl) fun h => by kernel_rfl
def c6k {R : Type} (N : Nat) (f : List V) (U : LB) (y1 y2 : Int) (K0 : Bool -> Option R) : Option R := j3 (c4F N f U y1 y2) fun j => K0 (decide (0 <= j))
def b8T (N : Nat) (f : List V) (U : LB) (y1 y2 : Int) : Option (Bool) := c6k N f U y1 y2 (fun r0 => some r0)
def d5o (N : Nat) : MEnt := vE 104 (.v (.l 58) (.c 105 (.p 0 .z) .z)) [(58, [.n .y, .n fI, .n fI])] (.v .b .z) false (b8T N)
theorem d7U (N : Nat) : MEO (d5o N) := wk0 (cx := cz [] [d4p N]) (A9 trivial ⟨d9L N, trivial⟩) Tryz.func104 (by kernel_rfl) (fun R => c6k (R := R) N) (fun R h K => by kernel_rfl) fun h => by kernel_rfl
def d6t {R : Type} (N : Nat) (f : Int) (x1 : LB) (x2 x3 : Int) (U : LB) (y1 y2 : Int) (y3 y4 y5 y6 y7 : List V) (K0 : Int -> Option R) : Option R := j3 (a6t N x1) fun b0 => br (!b0) (K0 1) (j3 (a7C N x2) fun b1 => br (!b1) (K0 2) (j3 (a7C N x3) fun b2 => br (!b2) (K0 2) (j3 (b6H N x1 U) fun b3 => br b3 (K0 13) (br (decide (0 <= f) && decide (f <= (y3.length : Int))) (j3 (b8T N (List.take f.toNat y3) x1 x2 x3) fun b4 => br b4 (K0 13) (K0 0)) none))))
def c0W (N : Nat) (f : Int) (x1 : LB) (x2 x3 : Int) (U : LB) (y1 y2 : Int) (y3 y4 y5 y6 y7 : List V) : Option (Int) := d6t N f x1 x2 x3 U y1 y2 y3 y4 y5 y6 y7 (fun r0 => some r0)
def d3b (N : Nat) : MEnt := vE 102 e3t c4n (.v fI .z) false (c0W N)
theorem d3g (N : Nat) : MEO (d3b N) := wk0 (cx := cz [b1M N, c6n N, c6Y N] [d5o N, c3Z N]) (A9 ⟨b4i N, c7E N, c4b N, trivial⟩ ⟨d7U N, c7w N, trivial⟩) Tryz.func102 (by kernel_rfl) (fun R => d6t (R := R) N) (fun R h K => by kernel_rfl) fun h => by kernel_rfl
def a3g {R : Type} (N : Nat) (Aa : List V) (u : Int) (l3 : LB) (x O : Int) (Ac Ad Ae Ai Ag : List V) (Lq : Int -> Option R) (K0 : Int -> Option R) (K1 : Option R) (d : Int) : Option R := br (decide (d < u)) (br (decide (0 <= d) && decide (d < (Aa.length : Int))) (at? Aa d.toNat fun f => f.unAgg fun l1 => e9 l1 fun x2 l3_1 => x2.unBytes fun l4 => e9 l3_1 fun x5 l6 => V.unInt FK x5 fun n7 => e9 l6 fun x8 l9 => V.unInt FK x8 fun na => D2 l9 (j3 (c0W N d l4 n7 na l3 x O Ac Ad Ae Ai Ag) fun nb => br (!decide (nb = 0)) (K0 nb) (Lq (FK.wrap (d + 1))))) none) K1
def a5y {R : Type} (N : Nat) (Aa : List V) (u : Int) (l3 : LB) (x O : Int) (Ac Ad Ae Ai Ag : List V) : Nat -> Int -> (Int -> Option R) -> (Option R) -> Option R | 0, _, _, _ => none | t + 1, d, K0, K1 => a3g N Aa u l3 x O Ac Ad Ae Ai Ag (fun d => a5y N Aa u l3 x O Ac Ad Ae Ai Ag t d K0 K1) K0 K1 d
def b5m {R : Type} (N : Nat) (ds : List D) (m : Mem) (K : Ex -> List D -> Mem -> Option R) : Option R :=
 match ds, m with
 | [(.clos 102 [(.ptr 1 0 0)]), (.v (.sl 58 Aa) .no), (.v (.int .i64 u) .no), (.v (.int .i64 d) .no)], [[], [(0, ⟨90, [(.v (.bytes l3) .no), (.v (.int .i64 x) .no), (.v (.int .i64 O) .no), (.v (.sl 58 Ac) .no), (.v (.sl 64 Ad) .no), (.v (.sl 47 Ae) .no), (.v (.sl 44 Ai) .no), (.v (.sl 67 Ag) .no)]⟩)]] => a5y N Aa u l3 x O Ac Ad Ae Ai Ag N d (fun a0 => K .ret [(.v (.int .i64 a0) .no)] (mm7 l3 x O Ac Ad Ae Ai Ag)) (K (.exit 0) [.any] (mm7 l3 x O Ac Ad Ae Ai Ag))
 | _, _ => none
def c5k {R : Type} (N : Nat) (f : List V) (U : LB) (y1 y2 : Int) (y3 y4 y5 y6 y7 : List V) (K0 : Int -> Option R) : Option R := a5y N f (f.length : Int) U y1 y2 y3 y4 y5 y6 y7 N 0 (fun j => K0 j) (K0 0)
def b7L (N : Nat) (f : List V) (U : LB) (y1 y2 : Int) (y3 y4 y5 y6 y7 : List V) : Option (Int) := c5k N f U y1 y2 y3 y4 y5 y6 y7 (fun r0 => some r0)
def c8b (N : Nat) : Cx := cl [] [d3b N] [⟨2, [1, 8, 9, 10], [4], b5m N⟩]
theorem c9E (N : Nat) : p9 (c8b N) 23 (s4 Tryz.f101 0) := by
 refine j7 (rid := 2) (by kernel_rfl) rfl rfl fun R ds m K r h => ?_
 change b5m N ds m K = _ at h
 unfold b5m at h
 split at h
 . rename_i Aa u d l3 x O Ac Ad Ae Ai Ag
   exact ⟨N, Gs (lpI (fun (e : (Int -> Option R) × (Option R)) L (s : Int) => a3g N Aa u l3 x O Ac Ad Ae Ai Ag (fun d => L d) e.1 e.2 s) (fun e t s => a5y N Aa u l3 x O Ac Ad Ae Ai Ag t s e.1 e.2) (fun s => [(.clos 102 [(.ptr 1 0 0)]), (.v (.sl 58 Aa) .no), (.v (.int .i64 u) .no), (.v (.int .i64 s) .no)]) (fun s => mm7 l3 x O Ac Ad Ae Ai Ag) (fun _ _ => rfl) (fun _ _ _ => rfl) (e := (_, _)) (fun L s => by kernel_rfl) N d) h⟩
 . cases h
def d1w (N : Nat) : MEnt := vE 101 (.v (.l 58) (.c 102 (.p 0 .z) .z)) c4n (.v fI .z) false (b7L N)
theorem e0f (N : Nat) : MEO (d1w N) := wk (cx := c8b N) (D4 trivial ⟨d3g N, trivial⟩) Tryz.func101 (j6 (k := 1) (by kernel_rfl) ⟨trivial, c9E N⟩) (by kernel_rfl) (fun R => c5k (R := R) N) (fun R h K => by kernel_rfl) fun h => by kernel_rfl
def a4e (N : Nat) (f : LB) (x1 x2 : Int) (x3 x4 x5 x6 x7 : List V) : Option (Int) := j3 (b7L N x3 f x1 x2 x3 x4 x5 x6 x7) fun j => some j
def b4T (N : Nat) : Ent := pE 60 b5F (.v fI .z) (a4e N)
theorem c2C (N : Nat) : EO (b4T N) := pk0 (cx := cz [] [d1w N, d3b N]) (A9 trivial ⟨e0f N, d3g N, trivial⟩) Tryz.func60 (by kernel_rfl) fun h => by kernel_rfl
def d4V {R : Type} (N : Nat) (f x1 x2 : Int) (U : LB) (y1 y2 : Int) (y3 y4 y5 y6 y7 : List V) (y8 : Int) (K0 : Int -> Option R) : Option R := j3 (a8C N U y1 y2 y3 y4 y5 y6 y7 x1 x2 y8) fun j => K0 j
def c8L (N : Nat) (f x1 x2 : Int) (U : LB) (y1 y2 : Int) (y3 y4 y5 y6 y7 : List V) (y8 : Int) : Option (Int) := d4V N f x1 x2 U y1 y2 y3 y4 y5 y6 y7 y8 (fun r0 => some r0)
def d3R (N : Nat) : MEnt := vE 156 e6x e4G (.v fI .z) false (c8L N)
theorem d4u (N : Nat) : MEO (d3R N) := wk0 (cx := cz [b9i N] []) (A9 ⟨c0y N, trivial⟩ trivial) Tryz.func156 (by kernel_rfl) (fun R => d4V (R := R) N) (fun R h K => by kernel_rfl) fun h => by kernel_rfl
def a2G {R : Type} (N : Nat) (Aa : List V) (u : Int) (l3 : LB) (x O : Int) (Ac Ad Ae Ai Ag : List V) (nb : Int) (Lq : Int -> Option R) (K0 : Int -> Option R) (K1 : Option R) (d : Int) : Option R := br (decide (d < u)) (br (decide (0 <= d) && decide (d < (Aa.length : Int))) (at? Aa d.toNat fun f => f.unAgg fun l1 => e9 l1 fun x2 l3_1 => V.unInt FK x2 fun n4_1 => e9 l3_1 fun x5 l6 => V.unInt FK x5 fun n7 => D2 l6 (j3 (c8L N d n4_1 n7 l3 x O Ac Ad Ae Ai Ag nb) fun n8 => br (!decide (n8 = 0)) (K0 n8) (Lq (FK.wrap (d + 1))))) none) K1
def a4Y {R : Type} (N : Nat) (Aa : List V) (u : Int) (l3 : LB) (x O : Int) (Ac Ad Ae Ai Ag : List V) (nb : Int) : Nat -> Int -> (Int -> Option R) -> (Option R) -> Option R | 0, _, _, _ => none | t + 1, d, K0, K1 => a2G N Aa u l3 x O Ac Ad Ae Ai Ag nb (fun d => a4Y N Aa u l3 x O Ac Ad Ae Ai Ag nb t d K0 K1) K0 K1 d
def b5z {R : Type} (N : Nat) (ds : List D) (m : Mem) (K : Ex -> List D -> Mem -> Option R) : Option R :=
 match ds, m with
 | [(.clos 156 [(.ptr 1 0 0), (.ptr 1 1 0)]), (.v (.sl 42 Aa) .no), (.v (.int .i64 u) .no), (.v (.int .i64 d) .no)], [[], [(0, ⟨90, [(.v (.bytes l3) .no), (.v (.int .i64 x) .no), (.v (.int .i64 O) .no), (.v (.sl 58 Ac) .no), (.v (.sl 64 Ad) .no), (.v (.sl 47 Ae) .no), (.v (.sl 44 Ai) .no), (.v (.sl 67 Ag) .no)]⟩), (1, ⟨3, [(.v (.int .i64 nb) .no)]⟩)]] => a4Y N Aa u l3 x O Ac Ad Ae Ai Ag nb N d (fun a0 => K .ret [(.v (.int .i64 a0) .no)] (mm9 l3 x O Ac Ad Ae Ai Ag nb)) (K (.exit 0) [.any] (mm9 l3 x O Ac Ad Ae Ai Ag nb))
 | _, _ => none
def c6q {R : Type} (N : Nat) (f : List V) (U : LB) (y1 y2 : Int) (y3 y4 y5 y6 y7 : List V) (y8 : Int) (K0 : Int -> Option R) : Option R := a4Y N f (f.length : Int) U y1 y2 y3 y4 y5 y6 y7 y8 N 0 (fun j => K0 j) (K0 0)
def a6c (N : Nat) (f : List V) (U : LB) (y1 y2 : Int) (y3 y4 y5 y6 y7 : List V) (y8 : Int) : Option (Int) := c6q N f U y1 y2 y3 y4 y5 y6 y7 y8 (fun r0 => some r0)
def c7T (N : Nat) : Cx := cl [] [d3R N] [⟨2, [1, 8, 9, 10], [4], b5z N⟩]
theorem c9R (N : Nat) : p9 (c7T N) 23 (s4 Tryz.f155 0) := by
 refine j7 (rid := 2) (by kernel_rfl) rfl rfl fun R ds m K r h => ?_
 change b5z N ds m K = _ at h
 unfold b5z at h
 split at h
 . rename_i Aa u d l3 x O Ac Ad Ae Ai Ag nb
   exact ⟨N, Gs (lpI (fun (e : (Int -> Option R) × (Option R)) L (s : Int) => a2G N Aa u l3 x O Ac Ad Ae Ai Ag nb (fun d => L d) e.1 e.2 s) (fun e t s => a4Y N Aa u l3 x O Ac Ad Ae Ai Ag nb t s e.1 e.2) (fun s => [(.clos 156 [(.ptr 1 0 0), (.ptr 1 1 0)]), (.v (.sl 42 Aa) .no), (.v (.int .i64 u) .no), (.v (.int .i64 s) .no)]) (fun s => mm9 l3 x O Ac Ad Ae Ai Ag nb) (fun _ _ => rfl) (fun _ _ _ => rfl) (e := (_, _)) (fun L s => by kernel_rfl) N d) h⟩
 . cases h
def d1Z (N : Nat) : MEnt := vE 155 (.v (.l 42) (.c 156 (.p 0 (.p 1 .z)) .z)) e4G (.v fI .z) false (a6c N)
theorem d8a (N : Nat) : MEO (d1Z N) := wk (cx := c7T N) (D4 trivial ⟨d4u N, trivial⟩) Tryz.func155 (j6 (k := 1) (by kernel_rfl) ⟨trivial, c9R N⟩) (by kernel_rfl) (fun R => c6q (R := R) N) (fun R h K => by kernel_rfl) fun h => by kernel_rfl
def a6A {R : Type} (N : Nat) (Aa : List V) (u d : Int) (Lq : Int -> Option R) (K0 : Int -> Option R) (K1 : Option R) (i : Int) : Option R := br (decide (i < d)) (br (decide (0 <= i) && decide (i < (Aa.length : Int))) (at? Aa i.toNat fun f => V.unInt FK f fun n1_1 => br (decide (u = n1_1)) (K0 i) (Lq (FK.wrap (i + 1)))) none) K1
def a8O {R : Type} (N : Nat) (Aa : List V) (u d : Int) : Nat -> Int -> (Int -> Option R) -> (Option R) -> Option R | 0, _, _, _ => none | t + 1, i, K0, K1 => a6A N Aa u d (fun i => a8O N Aa u d t i K0 K1) K0 K1 i
def b8F {R : Type} (N : Nat) (ds : List D) (m : Mem) (K : Ex -> List D -> Mem -> Option R) : Option R :=
 match ds, m with
 | [(.v (.sl 3 Aa) .no), (.v (.int .i64 u) .no), (.v (.int .i64 d) .no), (.v (.int .i64 i) .no)], [[]] => a8O N Aa u d N i (fun a0 => K .ret [(.v (.int .i64 a0) .no)] [[]]) (K (.exit 0) [.any] [[]])
 | _, _ => none
def d3M (N : Nat) (f : List V) (x1 : Int) : Option (Int) := a8O N f x1 (f.length : Int) N 0 (fun j => some j) (some (-1))
def d4U (N : Nat) : Cx := cl [] [] [⟨2, [0, 1, 7, 8], [4], b8F N⟩]
theorem d2P (N : Nat) : p9 (d4U N) 19 (s4 Tryz.f204 0) := by
 refine j7 (rid := 2) (by kernel_rfl) rfl rfl fun R ds m K r h => ?_
 change b8F N ds m K = _ at h
 unfold b8F at h
 split at h
 . rename_i Aa u d i
   exact ⟨N, Gs (lpI (fun (e : (Int -> Option R) × (Option R)) L (s : Int) => a6A N Aa u d (fun i => L i) e.1 e.2 s) (fun e t s => a8O N Aa u d t s e.1 e.2) (fun s => [(.v (.sl 3 Aa) .no), (.v (.int .i64 u) .no), (.v (.int .i64 d) .no), (.v (.int .i64 s) .no)]) (fun s => [[]]) (fun _ _ => rfl) (fun _ _ _ => rfl) (e := (_, _)) (fun L s => by kernel_rfl) N i) h⟩
 . cases h
def e0M (N : Nat) : Ent := pE 204 (.v (.l 3) (.v fI .z)) (.v fI .z) (d3M N)
theorem e1A (N : Nat) : EO (e0M N) := pk (cx := d4U N) (D4 trivial trivial) Tryz.func204 (j6 (k := 1) (by kernel_rfl) ⟨trivial, d2P N⟩) (by kernel_rfl) fun h => by kernel_rfl
def c1B (N : Nat) (f : List V) (x1 : Int) : Option (Bool) := j3 (d3M N f x1) fun j => some (decide (0 <= j))
def e0Q (N : Nat) : Ent := pE 191 (.v (.l 3) (.v fI .z)) (.v .b .z) (c1B N)
theorem e2t (N : Nat) : EO (e0Q N) := pk0 (cx := cz [e0M N] []) (A9 ⟨e1A N, trivial⟩ trivial) Tryz.func191 (by kernel_rfl) fun h => by kernel_rfl
def b9O (N : Nat) (f : LB) (x1 x2 : Int) (x3 x4 x5 x6 x7 : List V) (x8 x9 xa : Int) (xb : Bool) (xc xd xe xf : List V) (xg xh : Int) : Option (Int) := br (decide (xh = -1)) (br xb (some 4) (br (decide (xh = -1)) (some 0) (j3 (D8 N xh (x5.length : Int)) fun b0 => br (!b0) (some 2) (br (decide (0 <= xh) && decide (xh < (x5.length : Int))) (at? x5 xh.toNat fun x1 => x1.unAgg fun l2 => e9 l2 fun x3 l4 => x3.unBool fun b5 => e9 l4 fun x6 l7 => x6.unBool fun b8 => e9 l7 fun x9 la => V.unInt FK x9 fun nb => e9 la fun xc ld => V.unSl 44 xc fun AL => e9 ld fun xf lg => V.unInt FK xf fun nh => e9 lg fun xi lj => V.unInt FK xi fun nk => e9 lj fun xl AP => V.unInt FK xl fun nn => e9 AP fun xo AX => V.unInt FK xo fun AK => e9 AX fun xr Ba => V.unInt FK xr fun nt => e9 Ba fun xu AT => V.unSl 54 xu fun Bl => e9 AT fun xx ly => V.unSl 107 xx fun Bm => D2 ly (br b5 (some 4) (br (decide (0 <= xh) && decide (xh < (x5.length : Int))) (at? x5 xh.toNat fun Dm => Dm.unAgg fun BA => e9 BA fun BM AY => BM.unBool fun Fa => e9 AY fun BN AZ => BN.unBool fun Fb => e9 AZ fun Cp AU => V.unInt FK Cp fun CE => e9 AU fun Cq Bi => V.unSl 44 Cq fun BQ => e9 Bi fun BI Bb => V.unInt FK BI fun CQ => e9 Bb fun BZ BB => V.unInt FK BZ fun CR => e9 BB fun Dn Do => V.unInt FK Dn fun Fc => e9 Do fun Dp Dq => V.unInt FK Dp fun Fe => e9 Dq fun Dr BE => V.unInt FK Dr fun Ff => e9 BE fun Ds Cr => V.unSl 54 Ds fun Ca => e9 Cr fun Dt Cs => V.unSl 107 Dt fun CI => D2 Cs (br (!decide (CE = x8)) (some 4) (br (decide (0 <= xg) && decide (xg <= (xe.length : Int))) (j3 (c1B N (List.take xg.toNat xe) xh) fun Du => br Du (some 13) (some 0)) none))) none))) none)))) (br (decide (xh = -1)) (some 0) (j3 (D8 N xh (x5.length : Int)) fun Dv => br (!Dv) (some 2) (br (decide (0 <= xh) && decide (xh < (x5.length : Int))) (at? x5 xh.toNat fun Ct => Ct.unAgg fun Cu => e9 Cu fun Dw Dx => Dw.unBool fun Dy => e9 Dx fun Dz DA => Dz.unBool fun Fg => e9 DA fun DB DC => V.unInt FK DB fun Fh => e9 DC fun DD DE => V.unSl 44 DD fun Fi => e9 DE fun DF DG => V.unInt FK DF fun Fj => e9 DG fun DH DI => V.unInt FK DH fun Fk => e9 DI fun DJ DK => V.unInt FK DJ fun Fl => e9 DK fun DL DM => V.unInt FK DL fun Fo => e9 DM fun DN DO => V.unInt FK DN fun Fp => e9 DO fun DP DQ => V.unSl 54 DP fun Fq => e9 DQ fun DR DS => V.unSl 107 DR fun Fs => D2 DS (br Dy (some 4) (br (decide (0 <= xh) && decide (xh < (x5.length : Int))) (at? x5 xh.toNat fun DT => DT.unAgg fun DU => e9 DU fun DV DW => DV.unBool fun Ft => e9 DW fun DX DY => DX.unBool fun Fu => e9 DY fun DZ Ea => V.unInt FK DZ fun Eb => e9 Ea fun Ec Ed => V.unSl 44 Ec fun Fv => e9 Ed fun Ee Ef => V.unInt FK Ee fun Fw => e9 Ef fun Eg Eh => V.unInt FK Eg fun Fx => e9 Eh fun Ei Ej => V.unInt FK Ei fun Fy => e9 Ej fun Ek El => V.unInt FK Ek fun Fz => e9 El fun Em Eo => V.unInt FK Em fun FA => e9 Eo fun Ep Er => V.unSl 54 Ep fun FB => e9 Er fun Es Et => V.unSl 107 Es fun FC => D2 Et (br (!decide (Eb = x8)) (some 4) (br (decide (0 <= xg) && decide (xg <= (xe.length : Int))) (j3 (c1B N (List.take xg.toNat xe) xh) fun Eu => br Eu (some 13) (some 0)) none))) none))) none)))
def d3A (N : Nat) : Ent := pE 159 e6W (.v fI .z) (b9O N)
theorem d9q (N : Nat) : EO (d3A N) := pk0 (cx := cz [a0v N, e0Q N] []) (A9 ⟨X7 N, e2t N, trivial⟩ trivial) Tryz.func159 (by kernel_rfl) fun h => by kernel_rfl
def d3m {R : Type} (N : Nat) (f x1 : Int) (U : LB) (y1 y2 : Int) (y3 y4 y5 y6 y7 : List V) (y8 y9 ya : Int) (yb : Bool) (AI yd ye yf : List V) (K0 : Int -> Option R) : Option R := j3 (b9O N U y1 y2 y3 y4 y5 y6 y7 y8 y9 ya yb AI yd ye yf f x1) fun j => K0 j
def c8K (N : Nat) (f x1 : Int) (U : LB) (y1 y2 : Int) (y3 y4 y5 y6 y7 : List V) (y8 y9 ya : Int) (yb : Bool) (AI yd ye yf : List V) : Option (Int) := d3m N f x1 U y1 y2 y3 y4 y5 y6 y7 y8 y9 ya yb AI yd ye yf (fun r0 => some r0)
def d4e (N : Nat) : MEnt := vE 158 (.v fI (.v fI (.p 0 (.p 1 (.p 2 .z))))) e4o (.v fI .z) false (c8K N)
theorem d3X (N : Nat) : MEO (d4e N) := wk0 (cx := cz [d3A N] []) (A9 ⟨d9q N, trivial⟩ trivial) Tryz.func158 (by kernel_rfl) (fun R => d3m (R := R) N) (fun R h K => by kernel_rfl) fun h => by kernel_rfl
def a2V {R : Type} (N : Nat) (Aa : List V) (u : Int) (l3 : LB) (x O : Int) (Ac Ad Ae Ai Ag : List V) (nb nc nd : Int) (AM : Bool) (Am Ar AF AQ : List V) (Lq : Int -> Option R) (K0 : Int -> Option R) (K1 : Option R) (d : Int) : Option R := br (decide (d < u)) (br (decide (0 <= d) && decide (d < (Aa.length : Int))) (at? Aa d.toNat fun f => V.unInt FK f fun u => j3 (c8K N d u l3 x O Ac Ad Ae Ai Ag nb nc nd AM Am Ar AF AQ) fun n2_1 => br (!decide (n2_1 = 0)) (K0 n2_1) (Lq (FK.wrap (d + 1)))) none) K1
def a5C {R : Type} (N : Nat) (Aa : List V) (u : Int) (l3 : LB) (x O : Int) (Ac Ad Ae Ai Ag : List V) (nb nc nd : Int) (AM : Bool) (Am Ar AF AQ : List V) : Nat -> Int -> (Int -> Option R) -> (Option R) -> Option R | 0, _, _, _ => none | t + 1, d, K0, K1 => a2V N Aa u l3 x O Ac Ad Ae Ai Ag nb nc nd AM Am Ar AF AQ (fun d => a5C N Aa u l3 x O Ac Ad Ae Ai Ag nb nc nd AM Am Ar AF AQ t d K0 K1) K0 K1 d
def b2l {R : Type} (N : Nat) (ds : List D) (m : Mem) (K : Ex -> List D -> Mem -> Option R) : Option R :=
 match ds, m with
 | [(.clos 158 [(.ptr 1 0 0), (.ptr 1 1 0), (.ptr 1 2 0)]), (.v (.sl 3 Aa) .no), (.v (.int .i64 u) .no), (.v (.int .i64 d) .no)], [[], [(0, ⟨90, [(.v (.bytes l3) .no), (.v (.int .i64 x) .no), (.v (.int .i64 O) .no), (.v (.sl 58 Ac) .no), (.v (.sl 64 Ad) .no), (.v (.sl 47 Ae) .no), (.v (.sl 44 Ai) .no), (.v (.sl 67 Ag) .no)]⟩), (1, ⟨3, [(.v (.int .i64 nb) .no)]⟩), (2, ⟨64, [(.v (.int .i64 nc) .no), (.v (.int .i64 nd) .no), (.v (.bool AM) .no), (.v (.sl 42 Am) .no), (.v (.sl 44 Ar) .no), (.v (.sl 3 AF) .no), (.v (.sl 105 AQ) .no)]⟩)]] => a5C N Aa u l3 x O Ac Ad Ae Ai Ag nb nc nd AM Am Ar AF AQ N d (fun a0 => K .ret [(.v (.int .i64 a0) .no)] (e1W l3 x O Ac Ad Ae Ai Ag nb nc nd AM Am Ar AF AQ)) (K (.exit 0) [.any] (e1W l3 x O Ac Ad Ae Ai Ag nb nc nd AM Am Ar AF AQ))
 | _, _ => none
def c6B {R : Type} (N : Nat) (f : List V) (U : LB) (y1 y2 : Int) (y3 y4 y5 y6 y7 : List V) (y8 y9 ya : Int) (yb : Bool) (AI yd ye yf : List V) (K0 : Int -> Option R) : Option R := a5C N f (f.length : Int) U y1 y2 y3 y4 y5 y6 y7 y8 y9 ya yb AI yd ye yf N 0 (fun j => K0 j) (K0 0)
def a5Q (N : Nat) (f : List V) (U : LB) (y1 y2 : Int) (y3 y4 y5 y6 y7 : List V) (y8 y9 ya : Int) (yb : Bool) (AI yd ye yf : List V) : Option (Int) := c6B N f U y1 y2 y3 y4 y5 y6 y7 y8 y9 ya yb AI yd ye yf (fun r0 => some r0)
def c7x (N : Nat) : Cx := cl [] [d4e N] [⟨2, [1, 8, 9, 10], [4], b2l N⟩]
theorem d1i (N : Nat) : p9 (c7x N) 23 (s4 Tryz.f157 0) := by
 refine j7 (rid := 2) (by kernel_rfl) rfl rfl fun R ds m K r h => ?_
 change b2l N ds m K = _ at h
 unfold b2l at h
 split at h
 . rename_i Aa u d l3 x O Ac Ad Ae Ai Ag nb nc nd AM Am Ar AF AQ
   exact ⟨N, Gs (lpI (fun (e : (Int -> Option R) × (Option R)) L (s : Int) => a2V N Aa u l3 x O Ac Ad Ae Ai Ag nb nc nd AM Am Ar AF AQ (fun d => L d) e.1 e.2 s) (fun e t s => a5C N Aa u l3 x O Ac Ad Ae Ai Ag nb nc nd AM Am Ar AF AQ t s e.1 e.2) (fun s => [(.clos 158 [(.ptr 1 0 0), (.ptr 1 1 0), (.ptr 1 2 0)]), (.v (.sl 3 Aa) .no), (.v (.int .i64 u) .no), (.v (.int .i64 s) .no)]) (fun s => e1W l3 x O Ac Ad Ae Ai Ag nb nc nd AM Am Ar AF AQ) (fun _ _ => rfl) (fun _ _ _ => rfl) (e := (_, _)) (fun L s => by kernel_rfl) N d) h⟩
 . cases h
def d6e (N : Nat) : MEnt := vE 157 e6z e4o (.v fI .z) false (a5Q N)
theorem e0F (N : Nat) : MEO (d6e N) := wk (cx := c7x N) (D4 trivial ⟨d3X N, trivial⟩) Tryz.func157 (j6 (k := 1) (by kernel_rfl) ⟨trivial, d1i N⟩) (by kernel_rfl) (fun R => c6B (R := R) N) (fun R h K => by kernel_rfl) fun h => by kernel_rfl
def b8i (N : Nat) (f : Int) : Option (Bool) := j3 (D8 N f 16) fun b0 => some !b0
def c5s (N : Nat) : Ent := pE 166 (.v fI .z) (.v .b .z) (b8i N)
theorem c6V (N : Nat) : EO (c5s N) := pk0 (cx := cz [a0v N] []) (A9 ⟨X7 N, trivial⟩ trivial) Tryz.func166 (by kernel_rfl) fun h => by kernel_rfl
def a2M {R : Type} (N : Nat) (Aa : List V) (u : Int) (Lq : Int -> Option R) (K0 : Int -> Option R) (K1 : Option R) (d : Int) : Option R := br (decide (d < u)) (br (decide (0 <= d) && decide (d < (Aa.length : Int))) (at? Aa d.toNat fun f => V.unInt FK f fun u => j3 (b8i N u) fun b2 => br b2 (K0 d) (Lq (FK.wrap (d + 1)))) none) K1
def a5F {R : Type} (N : Nat) (Aa : List V) (u : Int) : Nat -> Int -> (Int -> Option R) -> (Option R) -> Option R | 0, _, _, _ => none | t + 1, d, K0, K1 => a2M N Aa u (fun d => a5F N Aa u t d K0 K1) K0 K1 d
def b2h {R : Type} (N : Nat) (ds : List D) (m : Mem) (K : Ex -> List D -> Mem -> Option R) : Option R :=
 match ds, m with
 | [(.v (.sl 3 Aa) .no), (.clos 166 []), (.v (.int .i64 u) .no), (.v (.int .i64 d) .no)], [[]] => a5F N Aa u N d (fun a0 => K .ret [(.v (.int .i64 a0) .no)] [[]]) (K (.exit 0) [.any] [[]])
 | _, _ => none
def c4e (N : Nat) (f : List V) : Option (Int) := a5F N f (f.length : Int) N 0 (fun j => some j) (some (-1))
def c8u (N : Nat) : Cx := cl [c5s N] [] [⟨2, [0, 1, 7, 8], [4], b2h N⟩]
theorem c9I (N : Nat) : p9 (c8u N) 19 (s4 Tryz.f193 0) := by
 refine j7 (rid := 2) (by kernel_rfl) rfl rfl fun R ds m K r h => ?_
 change b2h N ds m K = _ at h
 unfold b2h at h
 split at h
 . rename_i Aa u d
   exact ⟨N, Gs (lpI (fun (e : (Int -> Option R) × (Option R)) L (s : Int) => a2M N Aa u (fun d => L d) e.1 e.2 s) (fun e t s => a5F N Aa u t s e.1 e.2) (fun s => [(.v (.sl 3 Aa) .no), (.clos 166 []), (.v (.int .i64 u) .no), (.v (.int .i64 s) .no)]) (fun s => [[]]) (fun _ _ => rfl) (fun _ _ _ => rfl) (e := (_, _)) (fun L s => by kernel_rfl) N d) h⟩
 . cases h
def d3P (N : Nat) : Ent := pE 193 (.v (.l 3) (.c 166 .z .z)) (.v fI .z) (c4e N)
theorem d8d (N : Nat) : EO (d3P N) := pk (cx := c8u N) (D4 ⟨c6V N, trivial⟩ trivial) Tryz.func193 (j6 (k := 1) (by kernel_rfl) ⟨trivial, c9I N⟩) (by kernel_rfl) fun h => by kernel_rfl
def b8G (N : Nat) (f : List V) : Option (Bool) := j3 (c4e N f) fun j => some (decide (0 <= j))
def d1X (N : Nat) : Ent := pE 165 (.v (.l 3) (.c 166 .z .z)) (.v .b .z) (b8G N)
theorem e0v (N : Nat) : EO (d1X N) := pk0 (cx := cz [d3P N] []) (A9 ⟨d8d N, trivial⟩ trivial) Tryz.func165 (by kernel_rfl) fun h => by kernel_rfl
def c5K {R : Type} (N : Nat) (f x1 : Int) (x2 : List V) (U y1 : Int) (y2 : List V) (K0 : Bool -> Option R) : Option R := K0 (decide (f = U) && (decide (x1 = y1) && true))
def b9E (N : Nat) (f x1 : Int) (x2 : List V) (U y1 : Int) (y2 : List V) : Option (Bool) := c5K N f x1 x2 U y1 y2 (fun r0 => some r0)
def c5D (N : Nat) : MEnt := vE 164 e6i [(105, [.n fI, .n fI, .n (.l 3)])] (.v .b .z) false (b9E N)
theorem c8S (N : Nat) : MEO (c5D N) := wk0 (cx := cz [] []) (A9 trivial trivial) Tryz.func164 (by kernel_rfl) (fun R => c5K (R := R) N) (fun R h K => by kernel_rfl) fun h => by kernel_rfl
def Z8 {R : Type} (N : Nat) (Aa : List V) (u i x : Int) (Aj : List V) (Lq : Int -> Option R) (K0 : Int -> Option R) (K1 : Option R) (d : Int) : Option R := br (decide (d < u)) (br (decide (0 <= d) && decide (d < (Aa.length : Int))) (at? Aa d.toNat fun f => f.unAgg fun l1 => e9 l1 fun x2 l3 => V.unInt FK x2 fun n4_1 => e9 l3 fun x5 l6 => V.unInt FK x5 fun n7 => e9 l6 fun x8 l9 => V.unSl 3 x8 fun la => D2 l9 (j3 (b9E N n4_1 n7 la i x Aj) fun AH => br AH (K0 d) (Lq (FK.wrap (d + 1))))) none) K1
def a1G {R : Type} (N : Nat) (Aa : List V) (u i x : Int) (Aj : List V) : Nat -> Int -> (Int -> Option R) -> (Option R) -> Option R | 0, _, _, _ => none | t + 1, d, K0, K1 => Z8 N Aa u i x Aj (fun d => a1G N Aa u i x Aj t d K0 K1) K0 K1 d
def a7r {R : Type} (N : Nat) (ds : List D) (m : Mem) (K : Ex -> List D -> Mem -> Option R) : Option R :=
 match ds, m with
 | [(.v (.sl 105 Aa) .no), (.clos 164 [(.ptr 1 0 0)]), (.v (.int .i64 u) .no), (.v (.int .i64 d) .no)], [[], [(0, ⟨105, [(.v (.int .i64 i) .no), (.v (.int .i64 x) .no), (.v (.sl 3 Aj) .no)]⟩)]] => a1G N Aa u i x Aj N d (fun a0 => K .ret [(.v (.int .i64 a0) .no)] (e2u i x Aj)) (K (.exit 0) [.any] (e2u i x Aj))
 | _, _ => none
def b3c {R : Type} (N : Nat) (f : List V) (U y1 : Int) (y2 : List V) (K0 : Int -> Option R) : Option R := a1G N f (f.length : Int) U y1 y2 N 0 (fun j => K0 j) (K0 (-1))
def b5p (N : Nat) (f : List V) (U y1 : Int) (y2 : List V) : Option (Int) := b3c N f U y1 y2 (fun r0 => some r0)
def b7f (N : Nat) : Cx := cl [] [c5D N] [⟨2, [0, 1, 7, 8], [4], a7r N⟩]
theorem c1x (N : Nat) : p9 (b7f N) 19 (s4 Tryz.f192 0) := by
 refine j7 (rid := 2) (by kernel_rfl) rfl rfl fun R ds m K r h => ?_
 change a7r N ds m K = _ at h
 unfold a7r at h
 split at h
 . rename_i Aa u d i x Aj
   exact ⟨N, Gs (lpI (fun (e : (Int -> Option R) × (Option R)) L (s : Int) => Z8 N Aa u i x Aj (fun d => L d) e.1 e.2 s) (fun e t s => a1G N Aa u i x Aj t s e.1 e.2) (fun s => [(.v (.sl 105 Aa) .no), (.clos 164 [(.ptr 1 0 0)]), (.v (.int .i64 u) .no), (.v (.int .i64 s) .no)]) (fun s => e2u i x Aj) (fun _ _ => rfl) (fun _ _ _ => rfl) (e := (_, _)) (fun L s => by kernel_rfl) N d) h⟩
 . cases h
def c1r (N : Nat) : MEnt := vE 192 (.v (.l 105) (.c 164 (.p 0 .z) .z)) [(105, [.n fI, .n fI, .n (.l 3)])] (.v fI .z) false (b5p N)
theorem c9J (N : Nat) : MEO (c1r N) := wk (cx := b7f N) (D4 trivial ⟨c8S N, trivial⟩) Tryz.func192 (j6 (k := 1) (by kernel_rfl) ⟨trivial, c1x N⟩) (by kernel_rfl) (fun R => b3c (R := R) N) (fun R h K => by kernel_rfl) fun h => by kernel_rfl
def b4O {R : Type} (N : Nat) (f : List V) (U y1 : Int) (y2 : List V) (K0 : Bool -> Option R) : Option R := j3 (b5p N f U y1 y2) fun j => K0 (decide (0 <= j))
def a8R (N : Nat) (f : List V) (U y1 : Int) (y2 : List V) : Option (Bool) := b4O N f U y1 y2 (fun r0 => some r0)
def c0u (N : Nat) : MEnt := vE 163 (.v (.l 105) (.c 164 (.p 0 .z) .z)) [(105, [.n fI, .n fI, .n (.l 3)])] (.v .b .z) false (a8R N)
theorem c9L (N : Nat) : MEO (c0u N) := wk0 (cx := cz [] [c1r N]) (A9 trivial ⟨c9J N, trivial⟩) Tryz.func163 (by kernel_rfl) (fun R => b4O (R := R) N) (fun R h K => by kernel_rfl) fun h => by kernel_rfl
end En
end
end Go.Proofs.YtkoilndpfifapaaGreatDoor
