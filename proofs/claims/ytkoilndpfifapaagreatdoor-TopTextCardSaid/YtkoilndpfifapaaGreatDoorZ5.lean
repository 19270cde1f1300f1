/- Several texts in one. -/
import Derived.Test.YtkoilndpfifapaaGreatDoorZ4
import Derived.Test.YtkoilndpfifapaaGreatDoorZ3

set_option linter.unusedSimpArgs false
set_option linter.unusedVariables false
set_option linter.unusedSectionVars false
open Eq renaming trans → Gr
open Go.IntKind renaming i64 → FK
namespace Go.Proofs.YtkoilndpfifapaaGreatDoor
noncomputable section
namespace En
open Go Go.Proofs
set_option maxRecDepth 100000
set_option maxHeartbeats 8000000
def b9L (N : Nat) : Ent := pE 53 (.v .y .z) (.v .y .z) (a0h N)
theorem c2e (N : Nat) : EO (b9L N) := a1E (gz Tryz.func53 (by kernel_rfl)) rfl fun h t q => d9N N h.1 t q
def c2j {R : Type} (N : Nat) (f : Int) (U : LB) (K0 : LB -> LB -> Option R) : Option R := br (decide ((U.length : Int) < f)) none (br (decide (f = f)) (br (decide (0 <= f) && decide (f <= (U.length : Int))) (br (decide (0 <= f) && decide (f <= (U.length : Int))) (K0 (List.take f.toNat U) (List.drop f.toNat U)) none) none) none)
def W0 (N : Nat) (f : Int) (U : LB) : Option (LB × LB) := c2j N f U (fun r0 z0 => some (r0, z0))
def d1a (N : Nat) : Cx := cz [] []
def a5n (N : Nat) : MEnt := vE 129 (.p 0 (.v fI .z)) [(101, [.n .y])] (.v .y .z) true (W0 N)
theorem a6k (N : Nat) : MEO (a5n N) := vk0 (cx := d1a N) (A9 trivial trivial) Tryz.func129 (by kernel_rfl) fun h => by kernel_rfl
def d5u {R : Type} (N : Nat) (U : LB) (K0 : Int -> LB -> Option R) : Option R := s7 (W0 N 1 U) fun w l1 => br (decide (0 < (w.length : Int))) (at? w 0 fun u2 => K0 (FK.wrap (u2.toNat : Int)) l1) none
def D5 (N : Nat) (U : LB) : Option (Int × LB) := d5u N U (fun r0 z0 => some (r0, z0))
def d8Z (N : Nat) : Cx := cz [] [a5n N]
def K2 (N : Nat) : MEnt := vE 77 (.p 0 .z) [(101, [.n .y])] (.v fI .z) true (D5 N)
theorem J0 (N : Nat) : MEO (K2 N) := vk0 (cx := d8Z N) (A9 trivial ⟨a6k N, trivial⟩) Tryz.func77 (by kernel_rfl) fun h => by kernel_rfl
def c9j {R : Type} (N : Nat) (U : LB) (K0 : Int -> LB -> Option R) : Option R := s7 (W0 N 2 U) fun w l1 => br (decide (0 < (w.length : Int))) (at? w 0 fun u2 => br (decide (1 < (w.length : Int))) (at? w 1 fun u3 => K0 (j9 BinOp.or FK (a0q FK (FK.wrap (u2.toNat : Int)) 8) (FK.wrap (u3.toNat : Int))) l1) none) none
def T1 (N : Nat) (U : LB) : Option (Int × LB) := c9j N U (fun r0 z0 => some (r0, z0))
def d3W (N : Nat) : Cx := cz [] [a5n N]
def b8J (N : Nat) : MEnt := vE 137 (.p 0 .z) [(101, [.n .y])] (.v fI .z) true (T1 N)
theorem c3l (N : Nat) : MEO (b8J N) := vk0 (cx := d3W N) (A9 trivial ⟨a6k N, trivial⟩) Tryz.func137 (by kernel_rfl) fun h => by kernel_rfl
def d3m {R : Type} (N : Nat) (U : LB) (K0 : LB -> LB -> Option R) : Option R := s7 (D5 N U) fun j l1 => s7 (W0 N j l1) fun l2 l3 => j3 (a0h N l2) fun l4 => K0 l4 l3
def b0f (N : Nat) (U : LB) : Option (LB × LB) := d3m N U (fun r0 z0 => some (r0, z0))
def d9J (N : Nat) : Cx := cz [b9L N] [K2 N, a5n N]
def b2r (N : Nat) : MEnt := vE 78 (.p 0 .z) [(101, [.n .y])] (.v .y .z) true (b0f N)
theorem b8b (N : Nat) : MEO (b2r N) := vk0 (cx := d9J N) (A9 ⟨c2e N, trivial⟩ ⟨J0 N, a6k N, trivial⟩) Tryz.func78 (by kernel_rfl) fun h => by kernel_rfl
def d2B {R : Type} (N : Nat) (U : LB) (K0 : Int -> Int -> LB -> Option R) : Option R := s7 (D5 N U) fun j l1 => s7 (D5 N l1) fun d l3 => K0 j d l3
def a7q (N : Nat) (U : LB) : Option (Int × Int × LB) := d2B N U (fun r0 r1 z0 => some (r0, r1, z0))
def e0r (N : Nat) : Cx := cz [] [K2 N]
def b4N (N : Nat) : MEnt := vE 130 (.p 0 .z) [(101, [.n .y])] (.a (.v fI (.v fI .z)) .z) true (a7q N)
theorem b1R (N : Nat) : MEO (b4N N) := vk0 (cx := e0r N) (A9 trivial ⟨J0 N, trivial⟩) Tryz.func130 (by kernel_rfl) fun h => by kernel_rfl
def d5A {R : Type} (N : Nat) (U : LB) (K0 : Int -> Int -> Int -> LB -> Option R) : Option R := s7 (D5 N U) fun j l1 => br (decide (5 < j)) none (br (decide (j = 5)) (T6 (a7q N l1) fun d i l4 => K0 j d i l4) (K0 j 0 0 l1))
def b3k (N : Nat) (U : LB) : Option (Int × Int × Int × LB) := d5A N U (fun r0 r1 r2 z0 => some (r0, r1, r2, z0))
def e0B (N : Nat) : Cx := cz [] [K2 N, b4N N]
def b0m (N : Nat) : MEnt := vE 86 (.p 0 .z) [(101, [.n .y])] (.a (.v fI (.v fI (.v fI .z))) .z) true (b3k N)
theorem b2b (N : Nat) : MEO (b0m N) := vk0 (cx := e0B N) (A9 trivial ⟨J0 N, b1R N, trivial⟩) Tryz.func86 (by kernel_rfl) fun h => by kernel_rfl
def c7q {R : Type} (N : Nat) (U : LB) (K0 : Int -> LB -> Option R) : Option R := s7 (D5 N U) fun j l1 => br (decide (j = 255)) (K0 (-1) l1) (K0 j l1)
def b1B (N : Nat) (U : LB) : Option (Int × LB) := c7q N U (fun r0 z0 => some (r0, z0))
def d6B (N : Nat) : Cx := cz [] [K2 N]
def b9Z (N : Nat) : MEnt := vE 133 (.p 0 .z) [(101, [.n .y])] (.v fI .z) true (b1B N)
theorem c3N (N : Nat) : MEO (b9Z N) := vk0 (cx := d6B N) (A9 trivial ⟨J0 N, trivial⟩) Tryz.func133 (by kernel_rfl) fun h => by kernel_rfl
def a3B {R : Type} (N : Nat) (j d : Int) (Lq : List V -> Int -> LB -> Option R) (K0 : List V -> LB -> Option R) (Ab : List V) (i : Int) (l4 : LB) : Option R := br (decide (i < d)) (br (decide (j = 1)) (s7 (D5 N l4) fun j l1 => br (decide ((Ab.length + [V.int FK j].length) * 8 <= 140737488355328)) (Lq (Ab ++ [V.int FK j]) (FK.wrap (i + 1)) l1) none) none) (K0 Ab l4)
def a5X {R : Type} (N : Nat) (j d : Int) : Nat -> List V -> Int -> LB -> (List V -> LB -> Option R) -> Option R | 0, _, _, _, _ => none | t + 1, Ab, i, l4, K0 => a3B N j d (fun Ab i l4 => a5X N j d t Ab i l4 K0) K0 Ab i l4
def b4m {R : Type} (N : Nat) (ds : List D) (m : Mem) (K : Ex -> List D -> Mem -> Option R) : Option R :=
 match ds, m with
 | [(.fn j [77] 1 0), (.v (.sl 3 Ab) (.own (.slot 5) 3)), (.v (.int .i64 d) .no), (.v (.int .i64 i) .no)], [[], [(0, ⟨101, [(.v (.bytes l4) .no)]⟩)]] => a5X N j d N Ab i l4 (fun a0 a1 => K (.exit 0) [(.v (.sl 3 a0) (.own (.slot 5) 3))] [[], [(0, ⟨101, [(.v (.bytes a1) .no)]⟩)]])
 | _, _ => none
def d5Z {R : Type} (N : Nat) (U : LB) (K0 : List V -> LB -> Option R) : Option R := s7 (D5 N U) fun j l1 => a5X N 1 j N [] 0 l1 fun l2 l3 => K0 l2 l3
def b7M (N : Nat) (U : LB) : Option (List V × LB) := d5Z N U (fun r0 z0 => some (r0, z0))
def c7x (N : Nat) : Cx := cl [] [(e5t 0 (K2 N) (K2 N))] [⟨3, [1, 5, 7, 8], [5], b4m N⟩]
theorem d0g (N : Nat) : p9 (c7x N) 17 (s4 Tryz.f132 0) := by
 refine j7 (rid := 3) (by kernel_rfl) rfl rfl fun R ds m K r h => ?_
 change b4m N ds m K = _ at h
 unfold b4m at h
 split at h
 . rename_i j Ab d i l4
   exact ⟨N, Gr (lpI (fun (e : (List V -> LB -> Option R)) L (s : List V × Int × LB) => a3B N j d (fun Ab i l4 => L (Ab, i, l4)) e s.1 s.2.1 s.2.2) (fun e t s => a5X N j d t s.1 s.2.1 s.2.2 e) (fun s => [(.fn j [77] 1 0), (.v (.sl 3 s.1) (.own (.slot 5) 3)), (.v (.int .i64 d) .no), (.v (.int .i64 s.2.1) .no)]) (fun s => [[], [(0, ⟨101, [(.v (.bytes s.2.2) .no)]⟩)]]) (fun _ _ => rfl) (fun _ _ _ => rfl) (e := _) (fun L s => by kernel_rfl) N (Ab, i, l4)) h⟩
 . cases h
def d7H (N : Nat) : MEnt := vE 132 (.p 0 (.m 77 0 .z)) [(101, [.n .y])] (.v (.l 3) .z) true (b7M N)
theorem d9B (N : Nat) : MEO (d7H N) := vk (cx := c7x N) (D4 trivial ⟨d8W rfl (J0 N) (J0 N), trivial⟩) Tryz.func132 (j6 (k := 1) (by kernel_rfl) ⟨trivial, d0g N⟩) (by kernel_rfl) fun h => by kernel_rfl
def a1d {R : Type} (N : Nat) (j d : Int) (Lq : List V -> Int -> LB -> Option R) (K0 : List V -> LB -> Option R) (Ab : List V) (i : Int) (l4 : LB) : Option R := br (decide (i < d)) (br (decide (j = 1)) (s7 (b1B N l4) fun j l1 => br (decide ((Ab.length + [V.int FK j].length) * 8 <= 140737488355328)) (Lq (Ab ++ [V.int FK j]) (FK.wrap (i + 1)) l1) none) none) (K0 Ab l4)
def a2y {R : Type} (N : Nat) (j d : Int) : Nat -> List V -> Int -> LB -> (List V -> LB -> Option R) -> Option R | 0, _, _, _, _ => none | t + 1, Ab, i, l4, K0 => a1d N j d (fun Ab i l4 => a2y N j d t Ab i l4 K0) K0 Ab i l4
def b0q {R : Type} (N : Nat) (ds : List D) (m : Mem) (K : Ex -> List D -> Mem -> Option R) : Option R :=
 match ds, m with
 | [(.fn j [133] 1 0), (.v (.sl 3 Ab) (.own (.slot 5) 3)), (.v (.int .i64 d) .no), (.v (.int .i64 i) .no)], [[], [(0, ⟨101, [(.v (.bytes l4) .no)]⟩)]] => a2y N j d N Ab i l4 (fun a0 a1 => K (.exit 0) [(.v (.sl 3 a0) (.own (.slot 5) 3))] [[], [(0, ⟨101, [(.v (.bytes a1) .no)]⟩)]])
 | _, _ => none
def c8g {R : Type} (N : Nat) (U : LB) (K0 : List V -> LB -> Option R) : Option R := s7 (D5 N U) fun j l1 => a2y N 1 j N [] 0 l1 fun l2 l3 => K0 l2 l3
def b1V (N : Nat) (U : LB) : Option (List V × LB) := c8g N U (fun r0 z0 => some (r0, z0))
def c2w (N : Nat) : Cx := cl [] [K2 N, b9Z N] [⟨3, [1, 5, 7, 8], [5], b0q N⟩]
theorem c6u (N : Nat) : p9 (c2w N) 17 (s4 Tryz.f132 0) := by
 refine j7 (rid := 3) (by kernel_rfl) rfl rfl fun R ds m K r h => ?_
 change b0q N ds m K = _ at h
 unfold b0q at h
 split at h
 . rename_i j Ab d i l4
   exact ⟨N, Gr (lpI (fun (e : (List V -> LB -> Option R)) L (s : List V × Int × LB) => a1d N j d (fun Ab i l4 => L (Ab, i, l4)) e s.1 s.2.1 s.2.2) (fun e t s => a2y N j d t s.1 s.2.1 s.2.2 e) (fun s => [(.fn j [133] 1 0), (.v (.sl 3 s.1) (.own (.slot 5) 3)), (.v (.int .i64 d) .no), (.v (.int .i64 s.2.1) .no)]) (fun s => [[], [(0, ⟨101, [(.v (.bytes s.2.2) .no)]⟩)]]) (fun _ _ => rfl) (fun _ _ _ => rfl) (e := _) (fun L s => by kernel_rfl) N (Ab, i, l4)) h⟩
 . cases h
def c8k (N : Nat) : MEnt := vE 132 (.p 0 (.m 133 0 .z)) [(101, [.n .y])] (.v (.l 3) .z) true (b1V N)
theorem d2X (N : Nat) : MEO (c8k N) := vk (cx := c2w N) (D4 trivial ⟨J0 N, c3N N, trivial⟩) Tryz.func132 (j6 (k := 1) (by kernel_rfl) ⟨trivial, c6u N⟩) (by kernel_rfl) fun h => by kernel_rfl
def a2R {R : Type} (N : Nat) (j d : Int) (Lq : List V -> Int -> LB -> Option R) (K0 : List V -> LB -> Option R) (Ab : List V) (i : Int) (l4 : LB) : Option R := br (decide (i < d)) (br (decide (j = 1)) (T6 (a7q N l4) fun j u l2 => br (decide ((Ab.length + [V.agg [V.int FK j, V.int FK u]].length) * 16 <= 140737488355328)) (Lq (Ab ++ [V.agg [V.int FK j, V.int FK u]]) (FK.wrap (i + 1)) l2) none) none) (K0 Ab l4)
def a5r {R : Type} (N : Nat) (j d : Int) : Nat -> List V -> Int -> LB -> (List V -> LB -> Option R) -> Option R | 0, _, _, _, _ => none | t + 1, Ab, i, l4, K0 => a2R N j d (fun Ab i l4 => a5r N j d t Ab i l4 K0) K0 Ab i l4
def b4D {R : Type} (N : Nat) (ds : List D) (m : Mem) (K : Ex -> List D -> Mem -> Option R) : Option R :=
 match ds, m with
 | [(.fn j [130] 1 0), (.v (.sl 42 Ab) (.own (.slot 5) 42)), (.v (.int .i64 d) .no), (.v (.int .i64 i) .no)], [[], [(0, ⟨101, [(.v (.bytes l4) .no)]⟩)]] => a5r N j d N Ab i l4 (fun a0 a1 => K (.exit 0) [(.v (.sl 42 a0) (.own (.slot 5) 42))] [[], [(0, ⟨101, [(.v (.bytes a1) .no)]⟩)]])
 | _, _ => none
def d2H {R : Type} (N : Nat) (U : LB) (K0 : List V -> LB -> Option R) : Option R := s7 (D5 N U) fun j l1 => a5r N 1 j N [] 0 l1 fun l2 l3 => K0 l2 l3
def b9p (N : Nat) (U : LB) : Option (List V × LB) := d2H N U (fun r0 z0 => some (r0, z0))
def c9k (N : Nat) : Cx := cl [] [K2 N, b4N N] [⟨3, [1, 5, 7, 8], [5], b4D N⟩]
theorem d0L (N : Nat) : p9 (c9k N) 17 (s4 Tryz.f131 0) := by
 refine j7 (rid := 3) (by kernel_rfl) rfl rfl fun R ds m K r h => ?_
 change b4D N ds m K = _ at h
 unfold b4D at h
 split at h
 . rename_i j Ab d i l4
   exact ⟨N, Gr (lpI (fun (e : (List V -> LB -> Option R)) L (s : List V × Int × LB) => a2R N j d (fun Ab i l4 => L (Ab, i, l4)) e s.1 s.2.1 s.2.2) (fun e t s => a5r N j d t s.1 s.2.1 s.2.2 e) (fun s => [(.fn j [130] 1 0), (.v (.sl 42 s.1) (.own (.slot 5) 42)), (.v (.int .i64 d) .no), (.v (.int .i64 s.2.1) .no)]) (fun s => [[], [(0, ⟨101, [(.v (.bytes s.2.2) .no)]⟩)]]) (fun _ _ => rfl) (fun _ _ _ => rfl) (e := _) (fun L s => by kernel_rfl) N (Ab, i, l4)) h⟩
 . cases h
def d3f (N : Nat) : MEnt := vE 131 (.p 0 (.m 130 0 .z)) [(101, [.n .y])] (.v (.l 42) .z) true (b9p N)
theorem d8B (N : Nat) : MEO (d3f N) := vk (cx := c9k N) (D4 trivial ⟨J0 N, b1R N, trivial⟩) Tryz.func131 (j6 (k := 1) (by kernel_rfl) ⟨trivial, d0L N⟩) (by kernel_rfl) fun h => by kernel_rfl
def a2G {R : Type} (N : Nat) (j d : Int) (Lq : List V -> Int -> LB -> Option R) (K0 : List V -> LB -> Option R) (Ab : List V) (i : Int) (l4 : LB) : Option R := br (decide (i < d)) (br (decide (j = 1)) (c5M (b3k N l4) fun j u d l3 => br (decide ((Ab.length + [V.agg [V.int FK j, V.int FK u, V.int FK d]].length) * 24 <= 140737488355328)) (Lq (Ab ++ [V.agg [V.int FK j, V.int FK u, V.int FK d]]) (FK.wrap (i + 1)) l3) none) none) (K0 Ab l4)
def a5b {R : Type} (N : Nat) (j d : Int) : Nat -> List V -> Int -> LB -> (List V -> LB -> Option R) -> Option R | 0, _, _, _, _ => none | t + 1, Ab, i, l4, K0 => a2G N j d (fun Ab i l4 => a5b N j d t Ab i l4 K0) K0 Ab i l4
def b5c {R : Type} (N : Nat) (ds : List D) (m : Mem) (K : Ex -> List D -> Mem -> Option R) : Option R :=
 match ds, m with
 | [(.fn j [86] 1 0), (.v (.sl 44 Ab) (.own (.slot 5) 44)), (.v (.int .i64 d) .no), (.v (.int .i64 i) .no)], [[], [(0, ⟨101, [(.v (.bytes l4) .no)]⟩)]] => a5b N j d N Ab i l4 (fun a0 a1 => K (.exit 0) [(.v (.sl 44 a0) (.own (.slot 5) 44))] [[], [(0, ⟨101, [(.v (.bytes a1) .no)]⟩)]])
 | _, _ => none
def d2A {R : Type} (N : Nat) (U : LB) (K0 : List V -> LB -> Option R) : Option R := s7 (D5 N U) fun j l1 => a5b N 1 j N [] 0 l1 fun l2 l3 => K0 l2 l3
def a9T (N : Nat) (U : LB) : Option (List V × LB) := d2A N U (fun r0 z0 => some (r0, z0))
def c8y (N : Nat) : Cx := cl [] [K2 N, b0m N] [⟨3, [1, 5, 7, 8], [5], b5c N⟩]
theorem d1E (N : Nat) : p9 (c8y N) 17 (s4 Tryz.f85 0) := by
 refine j7 (rid := 3) (by kernel_rfl) rfl rfl fun R ds m K r h => ?_
 change b5c N ds m K = _ at h
 unfold b5c at h
 split at h
 . rename_i j Ab d i l4
   exact ⟨N, Gr (lpI (fun (e : (List V -> LB -> Option R)) L (s : List V × Int × LB) => a2G N j d (fun Ab i l4 => L (Ab, i, l4)) e s.1 s.2.1 s.2.2) (fun e t s => a5b N j d t s.1 s.2.1 s.2.2 e) (fun s => [(.fn j [86] 1 0), (.v (.sl 44 s.1) (.own (.slot 5) 44)), (.v (.int .i64 d) .no), (.v (.int .i64 s.2.1) .no)]) (fun s => [[], [(0, ⟨101, [(.v (.bytes s.2.2) .no)]⟩)]]) (fun _ _ => rfl) (fun _ _ _ => rfl) (e := _) (fun L s => by kernel_rfl) N (Ab, i, l4)) h⟩
 . cases h
def b4n (N : Nat) : MEnt := vE 85 (.p 0 (.m 86 0 .z)) [(101, [.n .y])] (.v (.l 44) .z) true (a9T N)
theorem b9t (N : Nat) : MEO (b4n N) := vk (cx := c8y N) (D4 trivial ⟨J0 N, b2b N, trivial⟩) Tryz.func85 (j6 (k := 1) (by kernel_rfl) ⟨trivial, d1E N⟩) (by kernel_rfl) fun h => by kernel_rfl
def c9b {R : Type} (N : Nat) (U : LB) (K0 : Int -> Int -> List V -> LB -> Option R) : Option R := T6 (a7q N U) fun j u l2 => s7 (b7M N l2) fun l3 l4 => K0 j u l3 l4
def b1N (N : Nat) (U : LB) : Option (Int × Int × List V × LB) := c9b N U (fun r0 r1 r2 z0 => some (r0, r1, r2, z0))
def d6C (N : Nat) : Cx := cz [] [b4N N, d7H N, K2 N]
def b7Z (N : Nat) : MEnt := vE 135 (.p 0 .z) [(101, [.n .y])] (.a (.v fI (.v fI (.v (.l 3) .z))) .z) true (b1N N)
theorem c1Z (N : Nat) : MEO (b7Z N) := vk0 (cx := d6C N) (A9 trivial ⟨b1R N, d9B N, J0 N, trivial⟩) Tryz.func135 (by kernel_rfl) fun h => by kernel_rfl
def a0W {R : Type} (N : Nat) (j d : Int) (Lq : List V -> Int -> LB -> Option R) (K0 : List V -> LB -> Option R) (Ab : List V) (i : Int) (l4 : LB) : Option R := br (decide (i < d)) (br (decide (j = 1)) (c5M (b1N N l4) fun j u l2 l3 => br (decide ((Ab.length + [V.agg [V.int FK j, V.int FK u, V.sl 3 l2]].length) * 40 <= 140737488355328)) (Lq (Ab ++ [V.agg [V.int FK j, V.int FK u, V.sl 3 l2]]) (FK.wrap (i + 1)) l3) none) none) (K0 Ab l4)
def a2F {R : Type} (N : Nat) (j d : Int) : Nat -> List V -> Int -> LB -> (List V -> LB -> Option R) -> Option R | 0, _, _, _, _ => none | t + 1, Ab, i, l4, K0 => a0W N j d (fun Ab i l4 => a2F N j d t Ab i l4 K0) K0 Ab i l4
def b0B {R : Type} (N : Nat) (ds : List D) (m : Mem) (K : Ex -> List D -> Mem -> Option R) : Option R :=
 match ds, m with
 | [(.fn j [135] 1 0), (.v (.sl 105 Ab) (.own (.slot 5) 105)), (.v (.int .i64 d) .no), (.v (.int .i64 i) .no)], [[], [(0, ⟨101, [(.v (.bytes l4) .no)]⟩)]] => a2F N j d N Ab i l4 (fun a0 a1 => K (.exit 0) [(.v (.sl 105 a0) (.own (.slot 5) 105))] [[], [(0, ⟨101, [(.v (.bytes a1) .no)]⟩)]])
 | _, _ => none
def c7D {R : Type} (N : Nat) (U : LB) (K0 : List V -> LB -> Option R) : Option R := s7 (D5 N U) fun j l1 => a2F N 1 j N [] 0 l1 fun l2 l3 => K0 l2 l3
def b1S (N : Nat) (U : LB) : Option (List V × LB) := c7D N U (fun r0 z0 => some (r0, z0))
def c1U (N : Nat) : Cx := cl [] [K2 N, b7Z N] [⟨3, [1, 5, 7, 8], [5], b0B N⟩]
theorem c5c (N : Nat) : p9 (c1U N) 17 (s4 Tryz.f134 0) := by
 refine j7 (rid := 3) (by kernel_rfl) rfl rfl fun R ds m K r h => ?_
 change b0B N ds m K = _ at h
 unfold b0B at h
 split at h
 . rename_i j Ab d i l4
   exact ⟨N, Gr (lpI (fun (e : (List V -> LB -> Option R)) L (s : List V × Int × LB) => a0W N j d (fun Ab i l4 => L (Ab, i, l4)) e s.1 s.2.1 s.2.2) (fun e t s => a2F N j d t s.1 s.2.1 s.2.2 e) (fun s => [(.fn j [135] 1 0), (.v (.sl 105 s.1) (.own (.slot 5) 105)), (.v (.int .i64 d) .no), (.v (.int .i64 s.2.1) .no)]) (fun s => [[], [(0, ⟨101, [(.v (.bytes s.2.2) .no)]⟩)]]) (fun _ _ => rfl) (fun _ _ _ => rfl) (e := _) (fun L s => by kernel_rfl) N (Ab, i, l4)) h⟩
 . cases h
def c8U (N : Nat) : MEnt := vE 134 (.p 0 (.m 135 0 .z)) [(101, [.n .y])] (.v (.l 105) .z) true (b1S N)
theorem d5s (N : Nat) : MEO (c8U N) := vk (cx := c1U N) (D4 trivial ⟨J0 N, c1Z N, trivial⟩) Tryz.func134 (j6 (k := 1) (by kernel_rfl) ⟨trivial, c5c N⟩) (by kernel_rfl) fun h => by kernel_rfl
def c1C {R : Type} (N : Nat) (U : LB) (K0 : Int -> Int -> Bool -> List V -> List V -> List V -> List V -> LB -> Option R) : Option R := s7 (D5 N U) fun j l1 => br (decide (1 < j)) none (T6 (a7q N l1) fun d i l4 => s7 (b9p N l4) fun l5 l6 => s7 (a9T N l6) fun l7 l8 => s7 (b1V N l8) fun l9 la => s7 (b1S N la) fun Ay Ax => K0 d i (decide (j = 1)) l5 l7 l9 Ay Ax)
def a8b (N : Nat) (U : LB) : Option (Int × Int × Bool × List V × List V × List V × List V × LB) := c1C N U (fun r0 r1 r2 r3 r4 r5 r6 z0 => some (r0, r1, r2, r3, r4, r5, r6, z0))
def d0H (N : Nat) : Cx := cz [] [K2 N, b4N N, d3f N, b4n N, c8k N, c8U N, b0m N, b9Z N, b7Z N]
def a8Y (N : Nat) : MEnt := vE 82 (.p 0 .z) [(101, [.n .y])] sh4 true (a8b N)
theorem b6l (N : Nat) : MEO (a8Y N) := vk0 (cx := d0H N) (A9 trivial ⟨J0 N, b1R N, d8B N, b9t N, d2X N, d5s N, b2b N, c3N N, c1Z N, trivial⟩) Tryz.func82 (by kernel_rfl) fun h => by kernel_rfl
def c6T {R : Type} (N : Nat) (K0 : Int -> Int -> Int -> Int -> Int -> Int -> Int -> Int -> LB -> Option R) (O n6 n7 n8 : Int) (l9 : LB) : Option R :=
 K0 0 0 0 0 O n6 n7 n8 l9
def c4v {R : Type} (N : Nat) (K0 : Int -> Int -> Int -> Int -> Int -> Int -> Int -> Int -> LB -> Option R) (O n6 n7 : Int) (l9 : LB) : Option R :=
 s7 (T1 N l9) fun j l1 => c6T N K0 O n6 n7 j l1
def c4u {R : Type} (N : Nat) (K0 : Int -> Int -> Int -> Int -> Int -> Int -> Int -> Int -> LB -> Option R) (O n6 : Int) (l9 : LB) : Option R :=
 s7 (T1 N l9) fun j l1 => c4v N K0 O n6 j l1
def c5Q {R : Type} (N : Nat) (K0 : Int -> Int -> Int -> Int -> Int -> Int -> Int -> Int -> LB -> Option R) (O : Int) (l9 : LB) : Option R :=
 s7 (T1 N l9) fun j l1 => c4u N K0 O j l1
def b5x {R : Type} (N : Nat) (K0 : Int -> Int -> Int -> Int -> Int -> Int -> Int -> Int -> LB -> Option R) (l9 : LB) : Option R :=
 s7 (T1 N l9) fun j l1 => c5Q N K0 j l1
def b3q {R : Type} (N : Nat) (ds : List D) (m : Mem) (K : Ex -> List D -> Mem -> Option R) : Option R :=
 match ds, m with
 | [(.ptr 1 0 0), (.ptr 0 2 0), (.ptr 0 3 0), (.v (.int .i64 j) .no)], [[(2, ⟨107, [(.v (.int .i64 u) .no), (.v (.int .i64 d) .no), (.v (.int .i64 i) .no), (.v (.int .i64 x) .no)]⟩), (3, ⟨235, [(.v (.int .i64 O) .no), (.v (.int .i64 n6) .no), (.v (.int .i64 n7) .no), (.v (.int .i64 n8) .no)]⟩)], [(0, ⟨101, [(.v (.bytes l9) .no)]⟩)]] => cond ((decide (j = 0) && (decide (u = 0) && (decide (d = 0) && (decide (i = 0) && (decide (x = 0) && (decide (O = 0) && (decide (n6 = 0) && (decide (n7 = 0) && (decide (n8 = 0) && true)))))))))) (b5x N (fun a0 a1 a2 a3 a4 a5 a6 a7 a8 => K (.exit 0) [(.ptr 0 2 0), (.ptr 0 3 0)] [[(2, ⟨107, [(.v (.int .i64 a0) .no), (.v (.int .i64 a1) .no), (.v (.int .i64 a2) .no), (.v (.int .i64 a3) .no)]⟩), (3, ⟨235, [(.v (.int .i64 a4) .no), (.v (.int .i64 a5) .no), (.v (.int .i64 a6) .no), (.v (.int .i64 a7) .no)]⟩)], [(0, ⟨101, [(.v (.bytes a8) .no)]⟩)]]) l9) none
 | _, _ => none
def d3v {R : Type} (N : Nat) (U : LB) (K0 : Int -> Int -> Int -> Int -> LB -> Option R) : Option R := s7 (T1 N U) fun j l1 => s7 (T1 N l1) fun d l3 => s7 (T1 N l3) fun x l5 => s7 (T1 N l5) fun n6 l7 => K0 j d x n6 l7
def c0k (N : Nat) (U : LB) : Option (Int × Int × Int × Int × LB) := d3v N U (fun r0 r1 r2 r3 z0 => some (r0, r1, r2, r3, z0))
def b9J (N : Nat) : Cx := cl [] [b8J N] [⟨3, [0, 2, 3, 5], [2, 3], b3q N⟩]
theorem c2O {R : Type} (N : Nat) (l9 : LB) (K : Ex -> List D -> Mem -> Option R) : P1 (fun st K => codeK (b9J N) (s4 Tryz.f139 0) st K) 22 [0, 2, 3, 5] [2, 3] 5 [(.ptr 1 0 0), (.ptr 0 2 0), (.ptr 0 3 0), (.v (.int .i64 0) .no)] [[(2, ⟨107, [(.v (.int .i64 0) .no), (.v (.int .i64 0) .no), (.v (.int .i64 0) .no), (.v (.int .i64 0) .no)]⟩), (3, ⟨235, [(.v (.int .i64 0) .no), (.v (.int .i64 0) .no), (.v (.int .i64 0) .no), (.v (.int .i64 0) .no)]⟩)], [(0, ⟨101, [(.v (.bytes l9) .no)]⟩)]] K = b5x N (fun a0 a1 a2 a3 a4 a5 a6 a7 a8 => K (.exit 0) [(.ptr 0 2 0), (.ptr 0 3 0)] [[(2, ⟨107, [(.v (.int .i64 a0) .no), (.v (.int .i64 a1) .no), (.v (.int .i64 a2) .no), (.v (.int .i64 a3) .no)]⟩), (3, ⟨235, [(.v (.int .i64 a4) .no), (.v (.int .i64 a5) .no), (.v (.int .i64 a6) .no), (.v (.int .i64 a7) .no)]⟩)], [(0, ⟨101, [(.v (.bytes a8) .no)]⟩)]]) l9 := by
 kernel_rfl
theorem d1I (N : Nat) : p9 (b9J N) 22 (s4 Tryz.f139 0) := by
 refine j7 (rid := 3) (by kernel_rfl) rfl rfl fun R ds m K r h => ?_
 have h : b3q N ds m K = some r := h
 unfold b3q at h
 split at h
 . rcases j8 h with ⟨hc, hq⟩ | ⟨_, hq⟩
   . simp only [Bool.and_eq_true, decide_eq_true_eq] at hc
     obtain ⟨rfl, rfl, rfl, rfl, rfl, rfl, rfl, rfl, rfl, _⟩ := hc
     refine ⟨5, ?_⟩
     show P1 _ _ [0, 2, 3, 5] [2, 3] _ _ _ _ = _
     rw [c2O]
     exact hq
   . cases hq
 . cases h
def c5T (N : Nat) : MEnt := vE 139 (.p 0 .z) [(101, [.n .y])] sh0 true (c0k N)
theorem c7Y (N : Nat) : MEO (c5T N) := vk (cx := b9J N) (D4 trivial ⟨c3l N, trivial⟩) Tryz.func139 (j6 (k := 1) (by kernel_rfl) ⟨trivial, d1I N⟩) (by kernel_rfl) fun h => by kernel_rfl
def a3t {R : Type} (N : Nat) (j d : Int) (Lq : List V -> Int -> LB -> Option R) (K0 : List V -> LB -> Option R) (Ab : List V) (i : Int) (l4 : LB) : Option R := br (decide (i < d)) (br (decide (j = 1)) (d8K (c0k N l4) fun j u d n3_1 l4 => br (decide ((Ab.length + [V.agg [V.int FK j, V.int FK u, V.int FK d, V.int FK n3_1]].length) * 32 <= 140737488355328)) (Lq (Ab ++ [V.agg [V.int FK j, V.int FK u, V.int FK d, V.int FK n3_1]]) (FK.wrap (i + 1)) l4) none) none) (K0 Ab l4)
def a4K {R : Type} (N : Nat) (j d : Int) : Nat -> List V -> Int -> LB -> (List V -> LB -> Option R) -> Option R | 0, _, _, _, _ => none | t + 1, Ab, i, l4, K0 => a3t N j d (fun Ab i l4 => a4K N j d t Ab i l4 K0) K0 Ab i l4
def b2p {R : Type} (N : Nat) (ds : List D) (m : Mem) (K : Ex -> List D -> Mem -> Option R) : Option R :=
 match ds, m with
 | [(.fn j [139] 1 0), (.v (.sl 107 Ab) (.own (.slot 5) 107)), (.v (.int .i64 d) .no), (.v (.int .i64 i) .no)], [[], [(0, ⟨101, [(.v (.bytes l4) .no)]⟩)]] => a4K N j d N Ab i l4 (fun a0 a1 => K (.exit 0) [(.v (.sl 107 a0) (.own (.slot 5) 107))] [[], [(0, ⟨101, [(.v (.bytes a1) .no)]⟩)]])
 | _, _ => none
def d5R {R : Type} (N : Nat) (U : LB) (K0 : List V -> LB -> Option R) : Option R := s7 (D5 N U) fun j l1 => a4K N 1 j N [] 0 l1 fun l2 l3 => K0 l2 l3
def b8M (N : Nat) (U : LB) : Option (List V × LB) := d5R N U (fun r0 z0 => some (r0, z0))
def c7Z (N : Nat) : Cx := cl [] [K2 N, c5T N] [⟨3, [1, 5, 7, 8], [5], b2p N⟩]
theorem d0d (N : Nat) : p9 (c7Z N) 17 (s4 Tryz.f138 0) := by
 refine j7 (rid := 3) (by kernel_rfl) rfl rfl fun R ds m K r h => ?_
 change b2p N ds m K = _ at h
 unfold b2p at h
 split at h
 . rename_i j Ab d i l4
   exact ⟨N, Gr (lpI (fun (e : (List V -> LB -> Option R)) L (s : List V × Int × LB) => a3t N j d (fun Ab i l4 => L (Ab, i, l4)) e s.1 s.2.1 s.2.2) (fun e t s => a4K N j d t s.1 s.2.1 s.2.2 e) (fun s => [(.fn j [139] 1 0), (.v (.sl 107 s.1) (.own (.slot 5) 107)), (.v (.int .i64 d) .no), (.v (.int .i64 s.2.1) .no)]) (fun s => [[], [(0, ⟨101, [(.v (.bytes s.2.2) .no)]⟩)]]) (fun _ _ => rfl) (fun _ _ _ => rfl) (e := _) (fun L s => by kernel_rfl) N (Ab, i, l4)) h⟩
 . cases h
def d5M (N : Nat) : MEnt := vE 138 (.p 0 (.m 139 0 .z)) [(101, [.n .y])] (.v (.l 107) .z) true (b8M N)
theorem e1h (N : Nat) : MEO (d5M N) := vk (cx := c7Z N) (D4 trivial ⟨J0 N, c7Y N, trivial⟩) Tryz.func138 (j6 (k := 1) (by kernel_rfl) ⟨trivial, d0d N⟩) (by kernel_rfl) fun h => by kernel_rfl
def b7i {R : Type} (N : Nat) (U : LB) (K0 : Bool -> Bool -> Int -> List V -> Int -> Int -> Int -> Int -> Int -> List V -> List V -> LB -> Option R) : Option R := s7 (D5 N U) fun j l1 => br (decide (3 < j)) none (s7 (D5 N l1) fun d l3 => s7 (a9T N l3) fun l4 l5 => c5M (b3k N l5) fun n6 n7 n8 l9 => s7 (D5 N l9) fun na Ay => s7 (D5 N Ay) fun nc ld => s7 (T1 N ld) fun Af AC => s7 (W0 N Af AC) fun lg lh => s7 (a9J N lg) fun AO nj => br (!decide (nj = 0)) none (s7 (b8M N lh) fun lk ll => K0 (!decide (j9 BinOp.and FK j 1 = 0)) (!decide (j9 BinOp.and FK j 2 = 0)) d l4 n6 n7 n8 na nc AO lk ll))
def a6A (N : Nat) (U : LB) : Option (Bool × Bool × Int × List V × Int × Int × Int × Int × Int × List V × List V × LB) := b7i N U (fun r0 r1 r2 r3 r4 r5 r6 r7 r8 r9 ra z0 => some (r0, r1, r2, r3, r4, r5, r6, r7, r8, r9, ra, z0))
def c4K (N : Nat) : Cx := cz [b6I N] [K2 N, b0m N, b8J N, a5n N, b4n N, d5M N, c5T N]
def a2x (N : Nat) : MEnt := vE 84 (.p 0 .z) [(101, [.n .y])] sh5 true (a6A N)
theorem b5b (N : Nat) : MEO (a2x N) := vk0 (cx := c4K N) (A9 ⟨c6O N, trivial⟩ ⟨J0 N, b2b N, c3l N, a6k N, b9t N, e1h N, c7Y N, trivial⟩) Tryz.func84 (by kernel_rfl) fun h => by kernel_rfl
def d5H {R : Type} (N : Nat) (U : LB) (K0 : LB -> Int -> Int -> LB -> Option R) : Option R := s7 (b0f N U) fun w l1 => s7 (D5 N l1) fun d l3 => s7 (D5 N l3) fun x l5 => K0 w d x l5
def b8e (N : Nat) (U : LB) : Option (LB × Int × Int × LB) := d5H N U (fun r0 r1 r2 z0 => some (r0, r1, r2, z0))
def d9l (N : Nat) : Cx := cz [] [K2 N, b2r N]
def b9B (N : Nat) : MEnt := vE 80 (.p 0 .z) [(101, [.n .y])] (.a (.v .y (.v fI (.v fI .z))) .z) true (b8e N)
theorem c8h (N : Nat) : MEO (b9B N) := vk0 (cx := d9l N) (A9 trivial ⟨J0 N, b8b N, trivial⟩) Tryz.func80 (by kernel_rfl) fun h => by kernel_rfl
def d4P {R : Type} (N : Nat) (U : LB) (K0 : LB -> Int -> Int -> LB -> Option R) : Option R := s7 (b0f N U) fun w l1 => s7 (D5 N l1) fun d l3 => s7 (D5 N l3) fun x l5 => K0 w d x l5
def b8B (N : Nat) (U : LB) : Option (LB × Int × Int × LB) := d4P N U (fun r0 r1 r2 z0 => some (r0, r1, r2, z0))
def e0K (N : Nat) : Cx := cz [] [K2 N, b2r N]
def b9N (N : Nat) : MEnt := vE 88 (.p 0 .z) [(101, [.n .y])] (.a (.v .y (.v fI (.v fI .z))) .z) true (b8B N)
theorem c8G (N : Nat) : MEO (b9N N) := vk0 (cx := e0K N) (A9 trivial ⟨J0 N, b8b N, trivial⟩) Tryz.func88 (by kernel_rfl) fun h => by kernel_rfl
def a3s {R : Type} (N : Nat) (j d : Int) (Lq : List V -> Int -> LB -> Option R) (K0 : List V -> LB -> Option R) (Ab : List V) (i : Int) (l4 : LB) : Option R := br (decide (i < d)) (br (decide (j = 1)) (c5M (b8e N l4) fun w u d l3 => br (decide ((Ab.length + [V.agg [V.bytes w, V.int FK u, V.int FK d]].length) * 40 <= 140737488355328)) (Lq (Ab ++ [V.agg [V.bytes w, V.int FK u, V.int FK d]]) (FK.wrap (i + 1)) l3) none) none) (K0 Ab l4)
def a4R {R : Type} (N : Nat) (j d : Int) : Nat -> List V -> Int -> LB -> (List V -> LB -> Option R) -> Option R | 0, _, _, _, _ => none | t + 1, Ab, i, l4, K0 => a3s N j d (fun Ab i l4 => a4R N j d t Ab i l4 K0) K0 Ab i l4
def b2z {R : Type} (N : Nat) (ds : List D) (m : Mem) (K : Ex -> List D -> Mem -> Option R) : Option R :=
 match ds, m with
 | [(.fn j [80] 1 0), (.v (.sl 58 Ab) (.own (.slot 5) 58)), (.v (.int .i64 d) .no), (.v (.int .i64 i) .no)], [[], [(0, ⟨101, [(.v (.bytes l4) .no)]⟩)]] => a4R N j d N Ab i l4 (fun a0 a1 => K (.exit 0) [(.v (.sl 58 a0) (.own (.slot 5) 58))] [[], [(0, ⟨101, [(.v (.bytes a1) .no)]⟩)]])
 | _, _ => none
def d3I {R : Type} (N : Nat) (U : LB) (K0 : List V -> LB -> Option R) : Option R := s7 (D5 N U) fun j l1 => a4R N 1 j N [] 0 l1 fun l2 l3 => K0 l2 l3
def b8k (N : Nat) (U : LB) : Option (List V × LB) := d3I N U (fun r0 z0 => some (r0, z0))
def c8S (N : Nat) : Cx := cl [] [K2 N, b9B N] [⟨3, [1, 5, 7, 8], [5], b2z N⟩]
theorem d1n (N : Nat) : p9 (c8S N) 17 (s4 Tryz.f79 0) := by
 refine j7 (rid := 3) (by kernel_rfl) rfl rfl fun R ds m K r h => ?_
 change b2z N ds m K = _ at h
 unfold b2z at h
 split at h
 . rename_i j Ab d i l4
   exact ⟨N, Gr (lpI (fun (e : (List V -> LB -> Option R)) L (s : List V × Int × LB) => a3s N j d (fun Ab i l4 => L (Ab, i, l4)) e s.1 s.2.1 s.2.2) (fun e t s => a4R N j d t s.1 s.2.1 s.2.2 e) (fun s => [(.fn j [80] 1 0), (.v (.sl 58 s.1) (.own (.slot 5) 58)), (.v (.int .i64 d) .no), (.v (.int .i64 s.2.1) .no)]) (fun s => [[], [(0, ⟨101, [(.v (.bytes s.2.2) .no)]⟩)]]) (fun _ _ => rfl) (fun _ _ _ => rfl) (e := _) (fun L s => by kernel_rfl) N (Ab, i, l4)) h⟩
 . cases h
def c4T (N : Nat) : MEnt := vE 79 (.p 0 (.m 80 0 .z)) [(101, [.n .y])] (.v (.l 58) .z) true (b8k N)
theorem e1K (N : Nat) : MEO (c4T N) := vk (cx := c8S N) (D4 trivial ⟨J0 N, c8h N, trivial⟩) Tryz.func79 (j6 (k := 1) (by kernel_rfl) ⟨trivial, d1n N⟩) (by kernel_rfl) fun h => by kernel_rfl
def a3z {R : Type} (N : Nat) (j d : Int) (Lq : List V -> Int -> LB -> Option R) (K0 : List V -> LB -> Option R) (Ab : List V) (i : Int) (l4 : LB) : Option R := br (decide (i < d)) (br (decide (j = 1)) (e3F (a8b N l4) fun j u b2 l3 l4 l5 l6 l7 => br (decide ((Ab.length + [V.agg [V.int FK j, V.int FK u, V.bool b2, V.sl 42 l3, V.sl 44 l4, V.sl 3 l5, V.sl 105 l6]].length) * 120 <= 140737488355328)) (Lq (Ab ++ [V.agg [V.int FK j, V.int FK u, V.bool b2, V.sl 42 l3, V.sl 44 l4, V.sl 3 l5, V.sl 105 l6]]) (FK.wrap (i + 1)) l7) none) none) (K0 Ab l4)
def a5m {R : Type} (N : Nat) (j d : Int) : Nat -> List V -> Int -> LB -> (List V -> LB -> Option R) -> Option R | 0, _, _, _, _ => none | t + 1, Ab, i, l4, K0 => a3z N j d (fun Ab i l4 => a5m N j d t Ab i l4 K0) K0 Ab i l4
def b3F {R : Type} (N : Nat) (ds : List D) (m : Mem) (K : Ex -> List D -> Mem -> Option R) : Option R :=
 match ds, m with
 | [(.fn j [82] 1 0), (.v (.sl 64 Ab) (.own (.slot 5) 64)), (.v (.int .i64 d) .no), (.v (.int .i64 i) .no)], [[], [(0, ⟨101, [(.v (.bytes l4) .no)]⟩)]] => a5m N j d N Ab i l4 (fun a0 a1 => K (.exit 0) [(.v (.sl 64 a0) (.own (.slot 5) 64))] [[], [(0, ⟨101, [(.v (.bytes a1) .no)]⟩)]])
 | _, _ => none
def d2E {R : Type} (N : Nat) (U : LB) (K0 : List V -> LB -> Option R) : Option R := s7 (D5 N U) fun j l1 => a5m N 1 j N [] 0 l1 fun l2 l3 => K0 l2 l3
def b9o (N : Nat) (U : LB) : Option (List V × LB) := d2E N U (fun r0 z0 => some (r0, z0))
def c9d (N : Nat) : Cx := cl [] [K2 N, a8Y N] [⟨3, [1, 5, 7, 8], [5], b3F N⟩]
theorem d0G (N : Nat) : p9 (c9d N) 17 (s4 Tryz.f81 0) := by
 refine j7 (rid := 3) (by kernel_rfl) rfl rfl fun R ds m K r h => ?_
 change b3F N ds m K = _ at h
 unfold b3F at h
 split at h
 . rename_i j Ab d i l4
   exact ⟨N, Gr (lpI (fun (e : (List V -> LB -> Option R)) L (s : List V × Int × LB) => a3z N j d (fun Ab i l4 => L (Ab, i, l4)) e s.1 s.2.1 s.2.2) (fun e t s => a5m N j d t s.1 s.2.1 s.2.2 e) (fun s => [(.fn j [82] 1 0), (.v (.sl 64 s.1) (.own (.slot 5) 64)), (.v (.int .i64 d) .no), (.v (.int .i64 s.2.1) .no)]) (fun s => [[], [(0, ⟨101, [(.v (.bytes s.2.2) .no)]⟩)]]) (fun _ _ => rfl) (fun _ _ _ => rfl) (e := _) (fun L s => by kernel_rfl) N (Ab, i, l4)) h⟩
 . cases h
def c6b (N : Nat) : MEnt := vE 81 (.p 0 (.m 82 0 .z)) [(101, [.n .y])] (.v (.l 64) .z) true (b9o N)
theorem d8F (N : Nat) : MEO (c6b N) := vk (cx := c9d N) (D4 trivial ⟨J0 N, b6l N, trivial⟩) Tryz.func81 (j6 (k := 1) (by kernel_rfl) ⟨trivial, d0G N⟩) (by kernel_rfl) fun h => by kernel_rfl
def a2O {R : Type} (N : Nat) (j d : Int) (Lq : List V -> Int -> LB -> Option R) (K0 : List V -> LB -> Option R) (Ab : List V) (i : Int) (l4 : LB) : Option R := br (decide (i < d)) (br (decide (j = 1)) (c5M (b8B N l4) fun w u d l3 => br (decide ((Ab.length + [V.agg [V.bytes w, V.int FK u, V.int FK d]].length) * 40 <= 140737488355328)) (Lq (Ab ++ [V.agg [V.bytes w, V.int FK u, V.int FK d]]) (FK.wrap (i + 1)) l3) none) none) (K0 Ab l4)
def a4E {R : Type} (N : Nat) (j d : Int) : Nat -> List V -> Int -> LB -> (List V -> LB -> Option R) -> Option R | 0, _, _, _, _ => none | t + 1, Ab, i, l4, K0 => a2O N j d (fun Ab i l4 => a4E N j d t Ab i l4 K0) K0 Ab i l4
def b3L {R : Type} (N : Nat) (ds : List D) (m : Mem) (K : Ex -> List D -> Mem -> Option R) : Option R :=
 match ds, m with
 | [(.fn j [88] 1 0), (.v (.sl 67 Ab) (.own (.slot 5) 67)), (.v (.int .i64 d) .no), (.v (.int .i64 i) .no)], [[], [(0, ⟨101, [(.v (.bytes l4) .no)]⟩)]] => a4E N j d N Ab i l4 (fun a0 a1 => K (.exit 0) [(.v (.sl 67 a0) (.own (.slot 5) 67))] [[], [(0, ⟨101, [(.v (.bytes a1) .no)]⟩)]])
 | _, _ => none
def d5n {R : Type} (N : Nat) (U : LB) (K0 : List V -> LB -> Option R) : Option R := s7 (D5 N U) fun j l1 => a4E N 1 j N [] 0 l1 fun l2 l3 => K0 l2 l3
def b8N (N : Nat) (U : LB) : Option (List V × LB) := d5n N U (fun r0 z0 => some (r0, z0))
def c7p (N : Nat) : Cx := cl [] [K2 N, b9N N] [⟨3, [1, 5, 7, 8], [5], b3L N⟩]
theorem c9O (N : Nat) : p9 (c7p N) 17 (s4 Tryz.f87 0) := by
 refine j7 (rid := 3) (by kernel_rfl) rfl rfl fun R ds m K r h => ?_
 change b3L N ds m K = _ at h
 unfold b3L at h
 split at h
 . rename_i j Ab d i l4
   exact ⟨N, Gr (lpI (fun (e : (List V -> LB -> Option R)) L (s : List V × Int × LB) => a2O N j d (fun Ab i l4 => L (Ab, i, l4)) e s.1 s.2.1 s.2.2) (fun e t s => a4E N j d t s.1 s.2.1 s.2.2 e) (fun s => [(.fn j [88] 1 0), (.v (.sl 67 s.1) (.own (.slot 5) 67)), (.v (.int .i64 d) .no), (.v (.int .i64 s.2.1) .no)]) (fun s => [[], [(0, ⟨101, [(.v (.bytes s.2.2) .no)]⟩)]]) (fun _ _ => rfl) (fun _ _ _ => rfl) (e := _) (fun L s => by kernel_rfl) N (Ab, i, l4)) h⟩
 . cases h
def c4E (N : Nat) : MEnt := vE 87 (.p 0 (.m 88 0 .z)) [(101, [.n .y])] (.v (.l 67) .z) true (b8N N)
theorem d9k (N : Nat) : MEO (c4E N) := vk (cx := c7p N) (D4 trivial ⟨J0 N, c8G N, trivial⟩) Tryz.func87 (j6 (k := 1) (by kernel_rfl) ⟨trivial, c9O N⟩) (by kernel_rfl) fun h => by kernel_rfl
end En

namespace En
open Go Go.Proofs
set_option maxRecDepth 100000
set_option maxHeartbeats 8000000
section
variable {P : Program} {T : TypeId -> Option Ty} {cx : Cx}
theorem d3a (hm : P.follows .mixedOrders = true) (hcx : CxOK P cx) {f : FuncId} {fn : Func} (hf : P.funcs[f]? = some fn) (hb : fn.body = some (s6 fn)) (hro : (drawnOf (s6 fn)).all (a3M cx) = true) (hl : B8 cx fn.ntmps (s6 fn))
 {ds₁ : List D} (Q8 : Nat.ble ds₁.length fn.ntmps = true) {Bs Bs' : List Bx} (hc : a8R Bs = true) (hc' : a8R Bs' = true) (hlen : Bs'.length = Bs.length) {t : Nat} (c0u : fn.results.toList = [.tmp t]) {α : Type} {rf : D -> Mem -> List Pos -> Option α} {r : α} (h : c1D cx fn ds₁ [J4 0 Bs] t rf = some r)
 {e : TypeId} {xs : List V} (hrs : ∀ d m' dd, rf d m' dd = some r -> (∃ s, d = .v (.sl e xs) (.own (.slot s) e) /\ O1 (.slot s) dd = false) /\ ∃ own, m' = [own, J4 0 Bs']) : W4 P cx.T f ds₁ Bs [.v (.rowI e xs) .no] Bs' := by
 intro ps ds m dst T9 Q7 hlB har
 obtain ⟨a1, a2⟩ := har.get
 refine d1Q hcx hf hb (R3 hm hcx hro) hl (Nat.le_of_ble_eq_true Q8) T9 (Bs₁ := Bs) (fun j p hj => ?_) hlB a1 a2 c0u h (by rw [hlen, hlB]) (fun d m' dd hr => ?_) dst
 . obtain ⟨B, h1, h2⟩ := Q7 j p hj
   exact ⟨B, B, h1, h2, a2s Bs hc j B h2⟩
 . obtain ⟨b1, own, b2⟩ := hrs d m' dd hr
   exact ⟨b1, own, Bs', b2, fun j p B' hj hB => ⟨B', hB, (a2s Bs' hc' j B' hB).x⟩⟩
end
def b9D {R : Type} (s : List UInt8 -> Option (List V × List UInt8)) (dst : Nat) (ds : List D) (m : Mem) (K : List D -> Mem -> Option R) : Option R :=
 match ds with
 | [.ptr (kv0 + 1) sv0 0, .fn qn qf qk qs] => cond (c3c qn qf 84 && (Nat.beq qk (kv0 + 1) && Nat.beq qs sv0)) (a0u [(kv0, sv0)] m fun Bs => (match Bs with
   | [⟨101, [dY y0]⟩] => s7 (s y0) fun r0 z0 => J6 [(kv0, sv0)] [⟨101, [dY z0]⟩] m fun m' => K [.v (.rowI 47 r0) .no] m'
   | _ => none)) none
 | _ => none
def c6R {α : Type} (K : List V -> List UInt8 -> Option α) (d : D) (m : Mem) (dd : List Pos) : Option α :=
 match d, m with
 | .v (.sl 47 r0) (.own (.slot s) 47), [_, [(0, ⟨101, [.v (.bytes z0) .no]⟩)]] => cond (O1 (.slot s) dd) none (K r0 z0)
 | _, _ => none
def a1r {R : Type} (N : Nat) (n0 n2 : Int) (Lq : List V -> Int -> List UInt8 -> Option R) (K0 : List V -> List UInt8 -> Option R) (vs1 : List V) (n3 : Int) (l4 : List UInt8) : Option R := br (decide (n3 < n2)) (br (decide (n0 = 1)) (d4s (a6A N l4) fun b0 b1 n2 l3 n4 n5 n6 n7 n8 l9 l10 l11 => br (decide ((vs1.length + [V.agg [V.bool b0, V.bool b1, V.int FK n2, V.sl 44 l3, V.int FK n4, V.int FK n5, V.int FK n6, V.int FK n7, V.int FK n8, V.sl 54 l9, V.sl 107 l10]].length) * 128 <= 140737488355328)) (Lq (vs1 ++ [V.agg [V.bool b0, V.bool b1, V.int FK n2, V.sl 44 l3, V.int FK n4, V.int FK n5, V.int FK n6, V.int FK n7, V.int FK n8, V.sl 54 l9, V.sl 107 l10]]) (FK.wrap (n3 + 1)) l11) none) none) (K0 vs1 l4)
def a4L {R : Type} (N : Nat) (n0 n2 : Int) : Nat -> List V -> Int -> List UInt8 -> (List V -> List UInt8 -> Option R) -> Option R | 0, _, _, _, _ => none | t + 1, vs1, n3, l4, K0 => a1r N n0 n2 (fun vs1 n3 l4 => a4L N n0 n2 t vs1 n3 l4 K0) K0 vs1 n3 l4
def b2I {R : Type} (N : Nat) (ds : List D) (m : Mem) (K : Ex -> List D -> Mem -> Option R) : Option R :=
 match ds, m with
 | [(.fn n0 [84] 1 0), (.v (.sl 47 vs1) (.own (.slot 5) 47)), (.v (.int .i64 n2) .no), (.v (.int .i64 n3) .no)], [[], [(0, ⟨101, [(.v (.bytes l4) .no)]⟩)]] => a4L N n0 n2 N vs1 n3 l4 (fun a0 a1 => K (.exit 0) [(.v (.sl 47 a0) (.own (.slot 5) 47))] [[], [(0, ⟨101, [(.v (.bytes a1) .no)]⟩)]])
 | _, _ => none
def c5K {R : Type} (N : Nat) (y0 : List UInt8) (K0 : List V -> List UInt8 -> Option R) : Option R := s7 (D5 N y0) fun n0 l1 => a4L N 1 n0 N [] 0 l1 fun l2 l3 => K0 l2 l3
def a9F (N : Nat) : List UInt8 -> Option (List V × List UInt8) := fun y0 => c5K N y0 (fun r0 z0 => some (r0, z0))
def a3W (N : Nat) : Cx := { T := T, isPure := a4U [], pureK := fun g ds K => a1L [] g ds K, memK := fun g dst ds m K => V6 [K2 N, a2x N] g dst ds m K, meth := a3k [], keep := fun r => match r with | 3 => [1, 5, 7, 8] | _ => [], keepX := fun r => match r with | 3 => [5] | _ => [], loopT := fun r ds m K => match r with | 3 => b2I N ds m K | _ => none, jumps := 9 }
theorem c3T {R : Type} (N : Nat) (n0 n2 : Int) (vs1 : List V) (n3 : Int) (l4 : List UInt8) (L : List D -> Mem -> Option R) (K : Ex -> List D -> Mem -> Option R) :
 W3 (fun st K => codeK (a3W N) (s4 Tryz.f83 0) st K) 17 [1, 5, 7, 8] [5] L [(.fn n0 [84] 1 0), (.v (.sl 47 vs1) (.own (.slot 5) 47)), (dI n2), (dI n3)] [[], [(0, ⟨101, [(dY l4)]⟩)]] K = a1r N n0 n2 (fun vs1 n3 l4 => L [(.fn n0 [84] 1 0), (.v (.sl 47 vs1) (.own (.slot 5) 47)), (dI n2), (dI n3)] [[], [(0, ⟨101, [(dY l4)]⟩)]]) (fun a0 a1 => K (.exit 0) [(.v (.sl 47 a0) (.own (.slot 5) 47))] [[], [(0, ⟨101, [(dY a1)]⟩)]]) vs1 n3 l4 := by
 kernel_rfl
theorem b1a {R : Type} (N : Nat) (n0 n2 : Int) (K : Ex -> List D -> Mem -> Option R) : ∀ (t : Nat) (vs1 : List V) (n3 : Int) (l4 : List UInt8),
 P1 (fun st K => codeK (a3W N) (s4 Tryz.f83 0) st K) 17 [1, 5, 7, 8] [5] t [(.fn n0 [84] 1 0), (.v (.sl 47 vs1) (.own (.slot 5) 47)), (dI n2), (dI n3)] [[], [(0, ⟨101, [(dY l4)]⟩)]] K = a4L N n0 n2 t vs1 n3 l4 (fun a0 a1 => K (.exit 0) [(.v (.sl 47 a0) (.own (.slot 5) 47))] [[], [(0, ⟨101, [(dY a1)]⟩)]])
 | 0, vs1, n3, l4 => rfl
 | t + 1, vs1, n3, l4 => (c3T N n0 n2 vs1 n3 l4 _ K).trans (congrArg (fun L => a1r N n0 n2 L (fun a0 a1 => K (.exit 0) [(.v (.sl 47 a0) (.own (.slot 5) 47))] [[], [(0, ⟨101, [(dY a1)]⟩)]]) vs1 n3 l4) (funext fun vs1 => funext fun n3 => funext fun l4 => b1a N n0 n2 K t vs1 n3 l4))
theorem d0n {R : Type} (N : Nat) (y0 : List UInt8) (K : List V -> List UInt8 -> Option R) : c1D (a3W N) Tryz.f83 [.ptr 1 0 0, .fn 1 [84] 1 0] [J4 0 [⟨101, [dY y0]⟩]] 4 (c6R K) = c5K N y0 (fun r0 z0 => K r0 z0) := by
 kernel_rfl
abbrev d3T (s : List UInt8 -> Option (List V × List UInt8)) : Prop := ∀ y0 r0 z0, s y0 = some (r0, z0) -> W4 Tryz.prog T 83 [.ptr 1 0 0, .fn 1 [84] 1 0] [⟨101, [dY y0]⟩] [.v (.rowI 47 r0) .no] [⟨101, [dY z0]⟩]
theorem d9f (s : List UInt8 -> Option (List V × List UInt8)) (hs : d3T s) : MEntOK Tryz.prog T ⟨83, b9D s⟩ := by
 refine ⟨K6 Tryz.func83 (by kernel_rfl) (c := s6 Tryz.f83) (by kernel_rfl), fun R dst ds m K r h => ?_⟩
 simp only [b9D] at h
 split at h
 . rcases j8 h with ⟨hc, hq⟩ | ⟨_, hq⟩
   rotate_left
   . cases hq
   clear h
   obtain ⟨rfl, rfl, rfl, rfl⟩ := c2x hc
   have h := hq
   obtain ⟨Bs, a1, a2, a3, h⟩ := F9 h
   split at h
   . obtain ⟨r0, z0, h1, h2⟩ := a6w h
     rw [F5] at h2
     exact ⟨_, _, h2, hs _ _ _ h1 _ _ m dst a1 a2 a3 ⟨G0 _ rfl, c7B rfl, trivial⟩⟩
   . cases h
 . cases h
theorem d9K (N : Nat) : CxOK Tryz.prog (a3W N) :=
 M3 (es := []) (me := [K2 N, a2x N]) (ms := []) a7F trivial ⟨J0 N, b5b N, trivial⟩ trivial rfl (fun _ _ _ _ => rfl) (fun _ _ _ _ _ _ => rfl) rfl
theorem c9B (N : Nat) : p9 (a3W N) 17 (s4 Tryz.f83 0) := by
 refine j7 (rid := 3) (by kernel_rfl) rfl rfl fun R ds m K r h => ?_
 have h : b2I N ds m K = some r := h
 unfold b2I at h
 split at h
 . exact ⟨N, Gr (b1a ..) h⟩
 . cases h
theorem e0A (N : Nat) : B8 (a3W N) Tryz.f83.ntmps (s6 Tryz.f83) :=
 j6 (k := 1) (by kernel_rfl) ⟨trivial, c9B N⟩
theorem e3j (N : Nat) : d3T (a9F N) := fun y0 r0 z0 h => by
 refine d3a (Bs := [⟨101, [dY y0]⟩]) (Bs' := [⟨101, [dY z0]⟩]) (cx := a3W N) (by kernel_rfl) (d9K N) Tryz.func83 (by kernel_rfl) (by kernel_rfl) (e0A N) rfl rfl rfl rfl (t := 4) rfl (rf := c6R (fun r0' z'0 => some (r0', z'0))) (r := (r0, z0)) ?_ ?_
 . exact (d0n ..).trans h
 . intro d m' dd hx
   unfold c6R at hx
   split at hx
   . rename_i s _
     rcases j8 hx with ⟨_, hx⟩ | ⟨hs, hx⟩
     . cases hx
     . cases hx
       exact ⟨⟨_, rfl, hs⟩, _, rfl⟩
   . cases hx
end En
end
end Go.Proofs.YtkoilndpfifapaaGreatDoor
