/- Texts. -/
import Derived.Test.YtkoilndpfifapaaGreatDoorZ4

set_option linter.unusedSimpArgs false
set_option linter.unusedVariables false
set_option linter.unusedSectionVars false
open Eq renaming trans → Gs
open Go.IntKind renaming i64 → FK
namespace Go.Proofs.YtkoilndpfifapaaGreatDoor
noncomputable section
namespace En
open Go Go.Proofs
set_option maxRecDepth 100000
set_option maxHeartbeats 8000000
def c0l (N : Nat) : Ent := pE 53 (.v .y .z) (.v .y .z) (a0j N)
theorem c2Z (N : Nat) : EO (c0l N) := a1i (gz Tryz.func53 (by kernel_rfl)) rfl fun h t q => e0i N h.1 t q
def c0q {R : Type} (N : Nat) (f : Int) (U : LB) (K0 : LB -> LB -> Option R) : Option R := br (decide ((U.length : Int) < f)) none (br (decide (f = f)) (br (decide (0 <= f) && decide (f <= (U.length : Int))) (br (decide (0 <= f) && decide (f <= (U.length : Int))) (K0 (List.take f.toNat U) (List.drop f.toNat U)) none) none) none)
def W2 (N : Nat) (f : Int) (U : LB) : Option (LB × LB) := c0q N f U (fun r0 z0 => some (r0, z0))
def a5E (N : Nat) : MEnt := vE 129 (.p 0 (.v fI .z)) [(101, [.n .y])] (.v .y .z) true (W2 N)
theorem a6j (N : Nat) : MEO (a5E N) := vk0 (cx := cz [] []) (A9 trivial trivial) Tryz.func129 (by kernel_rfl) fun h => by kernel_rfl
def d2W {R : Type} (N : Nat) (U : LB) (K0 : Int -> LB -> Option R) : Option R := s7 (W2 N 1 U) fun w l1 => br (decide (0 < (w.length : Int))) (at? w 0 fun u2 => K0 (FK.wrap (u2.toNat : Int)) l1) none
def D5 (N : Nat) (U : LB) : Option (Int × LB) := d2W N U (fun r0 z0 => some (r0, z0))
def K5 (N : Nat) : MEnt := vE 77 (.p 0 .z) [(101, [.n .y])] (.v fI .z) true (D5 N)
theorem I9 (N : Nat) : MEO (K5 N) := vk0 (cx := cz [] [a5E N]) (A9 trivial ⟨a6j N, trivial⟩) Tryz.func77 (by kernel_rfl) fun h => by kernel_rfl
def c7k {R : Type} (N : Nat) (U : LB) (K0 : Int -> LB -> Option R) : Option R := s7 (W2 N 2 U) fun w l1 => br (decide (0 < (w.length : Int))) (at? w 0 fun u2 => br (decide (1 < (w.length : Int))) (at? w 1 fun u3 => K0 (j9 BinOp.or FK (a0u FK (FK.wrap (u2.toNat : Int)) 8) (FK.wrap (u3.toNat : Int))) l1) none) none
def S9 (N : Nat) (U : LB) : Option (Int × LB) := c7k N U (fun r0 z0 => some (r0, z0))
def b8N (N : Nat) : MEnt := vE 137 (.p 0 .z) [(101, [.n .y])] (.v fI .z) true (S9 N)
theorem c2b (N : Nat) : MEO (b8N N) := vk0 (cx := cz [] [a5E N]) (A9 trivial ⟨a6j N, trivial⟩) Tryz.func137 (by kernel_rfl) fun h => by kernel_rfl
def d3h {R : Type} (N : Nat) (U : LB) (K0 : LB -> LB -> Option R) : Option R := s7 (D5 N U) fun j l1 => s7 (W2 N j l1) fun l2 l3 => j3 (a0j N l2) fun l4 => K0 l4 l3
def b0s (N : Nat) (U : LB) : Option (LB × LB) := d3h N U (fun r0 z0 => some (r0, z0))
def b3U (N : Nat) : MEnt := vE 78 (.p 0 .z) [(101, [.n .y])] (.v .y .z) true (b0s N)
theorem b8s (N : Nat) : MEO (b3U N) := vk0 (cx := cz [c0l N] [K5 N, a5E N]) (A9 ⟨c2Z N, trivial⟩ ⟨I9 N, a6j N, trivial⟩) Tryz.func78 (by kernel_rfl) fun h => by kernel_rfl
def d4R {R : Type} (N : Nat) (U : LB) (K0 : Int -> Int -> LB -> Option R) : Option R := s7 (D5 N U) fun j l1 => s7 (D5 N l1) fun d l3 => K0 j d l3
def a7p (N : Nat) (U : LB) : Option (Int × Int × LB) := d4R N U (fun r0 r1 z0 => some (r0, r1, z0))
def b4G (N : Nat) : MEnt := vE 130 (.p 0 .z) [(101, [.n .y])] (.a (.v fI (.v fI .z)) .z) true (a7p N)
theorem b1N (N : Nat) : MEO (b4G N) := vk0 (cx := cz [] [K5 N]) (A9 trivial ⟨I9 N, trivial⟩) Tryz.func130 (by kernel_rfl) fun h => by kernel_rfl
def d1A {R : Type} (N : Nat) (U : LB) (K0 : Int -> Int -> Int -> LB -> Option R) : Option R := s7 (D5 N U) fun j l1 => br (decide (5 < j)) none (br (decide (j = 5)) (T4 (a7p N l1) fun d i l4 => K0 j d i l4) (K0 j 0 0 l1))
def b4K (N : Nat) (U : LB) : Option (Int × Int × Int × LB) := d1A N U (fun r0 r1 r2 z0 => some (r0, r1, r2, z0))
def b0i (N : Nat) : MEnt := vE 86 (.p 0 .z) [(101, [.n .y])] (.a (.v fI (.v fI (.v fI .z))) .z) true (b4K N)
theorem b1Y (N : Nat) : MEO (b0i N) := vk0 (cx := cz [] [K5 N, b4G N]) (A9 trivial ⟨I9 N, b1N N, trivial⟩) Tryz.func86 (by kernel_rfl) fun h => by kernel_rfl
def c7D {R : Type} (N : Nat) (U : LB) (K0 : Int -> LB -> Option R) : Option R := s7 (D5 N U) fun j l1 => br (decide (j = 255)) (K0 (-1) l1) (K0 j l1)
def b1v (N : Nat) (U : LB) : Option (Int × LB) := c7D N U (fun r0 z0 => some (r0, z0))
def b9S (N : Nat) : MEnt := vE 133 (.p 0 .z) [(101, [.n .y])] (.v fI .z) true (b1v N)
theorem c1e (N : Nat) : MEO (b9S N) := vk0 (cx := cz [] [K5 N]) (A9 trivial ⟨I9 N, trivial⟩) Tryz.func133 (by kernel_rfl) fun h => by kernel_rfl
def a3h {R : Type} (N : Nat) (j d : Int) (Lq : List V -> Int -> LB -> Option R) (K0 : List V -> LB -> Option R) (Ab : List V) (i : Int) (l4 : LB) : Option R := br (decide (i < d)) (br (decide (j = 1)) (s7 (D5 N l4) fun j l1 => br (decide ((Ab.length + [V.int FK j].length) * 8 <= 140737488355328)) (Lq (Ab ++ [V.int FK j]) (FK.wrap (i + 1)) l1) none) none) (K0 Ab l4)
def a4V {R : Type} (N : Nat) (j d : Int) : Nat -> List V -> Int -> LB -> (List V -> LB -> Option R) -> Option R | 0, _, _, _, _ => none | t + 1, Ab, i, l4, K0 => a3h N j d (fun Ab i l4 => a4V N j d t Ab i l4 K0) K0 Ab i l4
def b2U {R : Type} (N : Nat) (ds : List D) (m : Mem) (K : Ex -> List D -> Mem -> Option R) : Option R :=
 match ds, m with
 | [(.fn j [77] 1 0), (.v (.sl 3 Ab) (.own (.slot 5) 3)), (.v (.int .i64 d) .no), (.v (.int .i64 i) .no)], [[], [(0, ⟨101, [(.v (.bytes l4) .no)]⟩)]] => a4V N j d N Ab i l4 (fun a0 a1 => K (.exit 0) [(.v (.sl 3 a0) (.own (.slot 5) 3))] [[], [(0, ⟨101, [(.v (.bytes a1) .no)]⟩)]])
 | _, _ => none
def d4m {R : Type} (N : Nat) (U : LB) (K0 : List V -> LB -> Option R) : Option R := s7 (D5 N U) fun j l1 => a4V N 1 j N [] 0 l1 fun l2 l3 => K0 l2 l3
def b9I (N : Nat) (U : LB) : Option (List V × LB) := d4m N U (fun r0 z0 => some (r0, z0))
def c8s (N : Nat) : Cx := cl [] [(e3Y 0 (K5 N) (K5 N))] [⟨3, [1, 5, 7, 8], [5], b2U N⟩]
theorem d0D (N : Nat) : p9 (c8s N) 17 (s4 Tryz.f132 0) := by
 refine j7 (rid := 3) (by kernel_rfl) rfl rfl fun R ds m K r h => ?_
 change b2U N ds m K = _ at h
 unfold b2U at h
 split at h
 . rename_i j Ab d i l4
   exact ⟨N, Gs (lpI (fun (e : (List V -> LB -> Option R)) L (s : List V × Int × LB) => a3h N j d (fun Ab i l4 => L (Ab, i, l4)) e s.1 s.2.1 s.2.2) (fun e t s => a4V N j d t s.1 s.2.1 s.2.2 e) (fun s => [(.fn j [77] 1 0), (.v (.sl 3 s.1) (.own (.slot 5) 3)), (.v (.int .i64 d) .no), (.v (.int .i64 s.2.1) .no)]) (fun s => [[], [(0, ⟨101, [(.v (.bytes s.2.2) .no)]⟩)]]) (fun _ _ => rfl) (fun _ _ _ => rfl) (e := _) (fun L s => by kernel_rfl) N (Ab, i, l4)) h⟩
 . cases h
def d5N (N : Nat) : MEnt := vE 132 (.p 0 (.m 77 0 .z)) [(101, [.n .y])] (.v (.l 3) .z) true (b9I N)
theorem d8c (N : Nat) : MEO (d5N N) := vk (cx := c8s N) (D4 trivial ⟨d9F rfl (I9 N) (I9 N), trivial⟩) Tryz.func132 (j6 (k := 1) (by kernel_rfl) ⟨trivial, d0D N⟩) (by kernel_rfl) fun h => by kernel_rfl
def a1b {R : Type} (N : Nat) (j d : Int) (Lq : List V -> Int -> LB -> Option R) (K0 : List V -> LB -> Option R) (Ab : List V) (i : Int) (l4 : LB) : Option R := br (decide (i < d)) (br (decide (j = 1)) (s7 (b1v N l4) fun j l1 => br (decide ((Ab.length + [V.int FK j].length) * 8 <= 140737488355328)) (Lq (Ab ++ [V.int FK j]) (FK.wrap (i + 1)) l1) none) none) (K0 Ab l4)
def a3p {R : Type} (N : Nat) (j d : Int) : Nat -> List V -> Int -> LB -> (List V -> LB -> Option R) -> Option R | 0, _, _, _, _ => none | t + 1, Ab, i, l4, K0 => a1b N j d (fun Ab i l4 => a3p N j d t Ab i l4 K0) K0 Ab i l4
def b0o {R : Type} (N : Nat) (ds : List D) (m : Mem) (K : Ex -> List D -> Mem -> Option R) : Option R :=
 match ds, m with
 | [(.fn j [133] 1 0), (.v (.sl 3 Ab) (.own (.slot 5) 3)), (.v (.int .i64 d) .no), (.v (.int .i64 i) .no)], [[], [(0, ⟨101, [(.v (.bytes l4) .no)]⟩)]] => a3p N j d N Ab i l4 (fun a0 a1 => K (.exit 0) [(.v (.sl 3 a0) (.own (.slot 5) 3))] [[], [(0, ⟨101, [(.v (.bytes a1) .no)]⟩)]])
 | _, _ => none
def c7Z {R : Type} (N : Nat) (U : LB) (K0 : List V -> LB -> Option R) : Option R := s7 (D5 N U) fun j l1 => a3p N 1 j N [] 0 l1 fun l2 l3 => K0 l2 l3
def b1z (N : Nat) (U : LB) : Option (List V × LB) := c7Z N U (fun r0 z0 => some (r0, z0))
def c0N (N : Nat) : Cx := cl [] [K5 N, b9S N] [⟨3, [1, 5, 7, 8], [5], b0o N⟩]
theorem c4w (N : Nat) : p9 (c0N N) 17 (s4 Tryz.f132 0) := by
 refine j7 (rid := 3) (by kernel_rfl) rfl rfl fun R ds m K r h => ?_
 change b0o N ds m K = _ at h
 unfold b0o at h
 split at h
 . rename_i j Ab d i l4
   exact ⟨N, Gs (lpI (fun (e : (List V -> LB -> Option R)) L (s : List V × Int × LB) => a1b N j d (fun Ab i l4 => L (Ab, i, l4)) e s.1 s.2.1 s.2.2) (fun e t s => a3p N j d t s.1 s.2.1 s.2.2 e) (fun s => [(.fn j [133] 1 0), (.v (.sl 3 s.1) (.own (.slot 5) 3)), (.v (.int .i64 d) .no), (.v (.int .i64 s.2.1) .no)]) (fun s => [[], [(0, ⟨101, [(.v (.bytes s.2.2) .no)]⟩)]]) (fun _ _ => rfl) (fun _ _ _ => rfl) (e := _) (fun L s => by kernel_rfl) N (Ab, i, l4)) h⟩
 . cases h
def c7Q (N : Nat) : MEnt := vE 132 (.p 0 (.m 133 0 .z)) [(101, [.n .y])] (.v (.l 3) .z) true (b1z N)
theorem d4s (N : Nat) : MEO (c7Q N) := vk (cx := c0N N) (D4 trivial ⟨I9 N, c1e N, trivial⟩) Tryz.func132 (j6 (k := 1) (by kernel_rfl) ⟨trivial, c4w N⟩) (by kernel_rfl) fun h => by kernel_rfl
def a2I {R : Type} (N : Nat) (j d : Int) (Lq : List V -> Int -> LB -> Option R) (K0 : List V -> LB -> Option R) (Ab : List V) (i : Int) (l4 : LB) : Option R := br (decide (i < d)) (br (decide (j = 1)) (T4 (a7p N l4) fun j u l2 => br (decide ((Ab.length + [V.agg [V.int FK j, V.int FK u]].length) * 16 <= 140737488355328)) (Lq (Ab ++ [V.agg [V.int FK j, V.int FK u]]) (FK.wrap (i + 1)) l2) none) none) (K0 Ab l4)
def a5h {R : Type} (N : Nat) (j d : Int) : Nat -> List V -> Int -> LB -> (List V -> LB -> Option R) -> Option R | 0, _, _, _, _ => none | t + 1, Ab, i, l4, K0 => a2I N j d (fun Ab i l4 => a5h N j d t Ab i l4 K0) K0 Ab i l4
def b2D {R : Type} (N : Nat) (ds : List D) (m : Mem) (K : Ex -> List D -> Mem -> Option R) : Option R :=
 match ds, m with
 | [(.fn j [130] 1 0), (.v (.sl 42 Ab) (.own (.slot 5) 42)), (.v (.int .i64 d) .no), (.v (.int .i64 i) .no)], [[], [(0, ⟨101, [(.v (.bytes l4) .no)]⟩)]] => a5h N j d N Ab i l4 (fun a0 a1 => K (.exit 0) [(.v (.sl 42 a0) (.own (.slot 5) 42))] [[], [(0, ⟨101, [(.v (.bytes a1) .no)]⟩)]])
 | _, _ => none
def d4r {R : Type} (N : Nat) (U : LB) (K0 : List V -> LB -> Option R) : Option R := s7 (D5 N U) fun j l1 => a5h N 1 j N [] 0 l1 fun l2 l3 => K0 l2 l3
def b8Z (N : Nat) (U : LB) : Option (List V × LB) := d4r N U (fun r0 z0 => some (r0, z0))
def c8B (N : Nat) : Cx := cl [] [K5 N, b4G N] [⟨3, [1, 5, 7, 8], [5], b2D N⟩]
theorem d0R (N : Nat) : p9 (c8B N) 17 (s4 Tryz.f131 0) := by
 refine j7 (rid := 3) (by kernel_rfl) rfl rfl fun R ds m K r h => ?_
 change b2D N ds m K = _ at h
 unfold b2D at h
 split at h
 . rename_i j Ab d i l4
   exact ⟨N, Gs (lpI (fun (e : (List V -> LB -> Option R)) L (s : List V × Int × LB) => a2I N j d (fun Ab i l4 => L (Ab, i, l4)) e s.1 s.2.1 s.2.2) (fun e t s => a5h N j d t s.1 s.2.1 s.2.2 e) (fun s => [(.fn j [130] 1 0), (.v (.sl 42 s.1) (.own (.slot 5) 42)), (.v (.int .i64 d) .no), (.v (.int .i64 s.2.1) .no)]) (fun s => [[], [(0, ⟨101, [(.v (.bytes s.2.2) .no)]⟩)]]) (fun _ _ => rfl) (fun _ _ _ => rfl) (e := _) (fun L s => by kernel_rfl) N (Ab, i, l4)) h⟩
 . cases h
def d6x (N : Nat) : MEnt := vE 131 (.p 0 (.m 130 0 .z)) [(101, [.n .y])] (.v (.l 42) .z) true (b8Z N)
theorem d8t (N : Nat) : MEO (d6x N) := vk (cx := c8B N) (D4 trivial ⟨I9 N, b1N N, trivial⟩) Tryz.func131 (j6 (k := 1) (by kernel_rfl) ⟨trivial, d0R N⟩) (by kernel_rfl) fun h => by kernel_rfl
def a2Y {R : Type} (N : Nat) (j d : Int) (Lq : List V -> Int -> LB -> Option R) (K0 : List V -> LB -> Option R) (Ab : List V) (i : Int) (l4 : LB) : Option R := br (decide (i < d)) (br (decide (j = 1)) (c5B (b4K N l4) fun j u d l3 => br (decide ((Ab.length + [V.agg [V.int FK j, V.int FK u, V.int FK d]].length) * 24 <= 140737488355328)) (Lq (Ab ++ [V.agg [V.int FK j, V.int FK u, V.int FK d]]) (FK.wrap (i + 1)) l3) none) none) (K0 Ab l4)
def a5t {R : Type} (N : Nat) (j d : Int) : Nat -> List V -> Int -> LB -> (List V -> LB -> Option R) -> Option R | 0, _, _, _, _ => none | t + 1, Ab, i, l4, K0 => a2Y N j d (fun Ab i l4 => a5t N j d t Ab i l4 K0) K0 Ab i l4
def b5k {R : Type} (N : Nat) (ds : List D) (m : Mem) (K : Ex -> List D -> Mem -> Option R) : Option R :=
 match ds, m with
 | [(.fn j [86] 1 0), (.v (.sl 44 Ab) (.own (.slot 5) 44)), (.v (.int .i64 d) .no), (.v (.int .i64 i) .no)], [[], [(0, ⟨101, [(.v (.bytes l4) .no)]⟩)]] => a5t N j d N Ab i l4 (fun a0 a1 => K (.exit 0) [(.v (.sl 44 a0) (.own (.slot 5) 44))] [[], [(0, ⟨101, [(.v (.bytes a1) .no)]⟩)]])
 | _, _ => none
def d3z {R : Type} (N : Nat) (U : LB) (K0 : List V -> LB -> Option R) : Option R := s7 (D5 N U) fun j l1 => a5t N 1 j N [] 0 l1 fun l2 l3 => K0 l2 l3
def b0x (N : Nat) (U : LB) : Option (List V × LB) := d3z N U (fun r0 z0 => some (r0, z0))
def c7r (N : Nat) : Cx := cl [] [K5 N, b0i N] [⟨3, [1, 5, 7, 8], [5], b5k N⟩]
theorem d0e (N : Nat) : p9 (c7r N) 17 (s4 Tryz.f85 0) := by
 refine j7 (rid := 3) (by kernel_rfl) rfl rfl fun R ds m K r h => ?_
 change b5k N ds m K = _ at h
 unfold b5k at h
 split at h
 . rename_i j Ab d i l4
   exact ⟨N, Gs (lpI (fun (e : (List V -> LB -> Option R)) L (s : List V × Int × LB) => a2Y N j d (fun Ab i l4 => L (Ab, i, l4)) e s.1 s.2.1 s.2.2) (fun e t s => a5t N j d t s.1 s.2.1 s.2.2 e) (fun s => [(.fn j [86] 1 0), (.v (.sl 44 s.1) (.own (.slot 5) 44)), (.v (.int .i64 d) .no), (.v (.int .i64 s.2.1) .no)]) (fun s => [[], [(0, ⟨101, [(.v (.bytes s.2.2) .no)]⟩)]]) (fun _ _ => rfl) (fun _ _ _ => rfl) (e := _) (fun L s => by kernel_rfl) N (Ab, i, l4)) h⟩
 . cases h
def b2s (N : Nat) : MEnt := vE 85 (.p 0 (.m 86 0 .z)) [(101, [.n .y])] (.v (.l 44) .z) true (b0x N)
theorem b7J (N : Nat) : MEO (b2s N) := vk (cx := c7r N) (D4 trivial ⟨I9 N, b1Y N, trivial⟩) Tryz.func85 (j6 (k := 1) (by kernel_rfl) ⟨trivial, d0e N⟩) (by kernel_rfl) fun h => by kernel_rfl
def c7q {R : Type} (N : Nat) (U : LB) (K0 : Int -> Int -> List V -> LB -> Option R) : Option R := T4 (a7p N U) fun j u l2 => s7 (b9I N l2) fun l3 l4 => K0 j u l3 l4
def b2e (N : Nat) (U : LB) : Option (Int × Int × List V × LB) := c7q N U (fun r0 r1 r2 z0 => some (r0, r1, r2, z0))
def b7N (N : Nat) : MEnt := vE 135 (.p 0 .z) [(101, [.n .y])] (.a (.v fI (.v fI (.v (.l 3) .z))) .z) true (b2e N)
theorem c0T (N : Nat) : MEO (b7N N) := vk0 (cx := cz [] [b4G N, d5N N, K5 N]) (A9 trivial ⟨b1N N, d8c N, I9 N, trivial⟩) Tryz.func135 (by kernel_rfl) fun h => by kernel_rfl
def a1e {R : Type} (N : Nat) (j d : Int) (Lq : List V -> Int -> LB -> Option R) (K0 : List V -> LB -> Option R) (Ab : List V) (i : Int) (l4 : LB) : Option R := br (decide (i < d)) (br (decide (j = 1)) (c5B (b2e N l4) fun j u l2 l3 => br (decide ((Ab.length + [V.agg [V.int FK j, V.int FK u, V.sl 3 l2]].length) * 40 <= 140737488355328)) (Lq (Ab ++ [V.agg [V.int FK j, V.int FK u, V.sl 3 l2]]) (FK.wrap (i + 1)) l3) none) none) (K0 Ab l4)
def a3A {R : Type} (N : Nat) (j d : Int) : Nat -> List V -> Int -> LB -> (List V -> LB -> Option R) -> Option R | 0, _, _, _, _ => none | t + 1, Ab, i, l4, K0 => a1e N j d (fun Ab i l4 => a3A N j d t Ab i l4 K0) K0 Ab i l4
def a9T {R : Type} (N : Nat) (ds : List D) (m : Mem) (K : Ex -> List D -> Mem -> Option R) : Option R :=
 match ds, m with
 | [(.fn j [135] 1 0), (.v (.sl 105 Ab) (.own (.slot 5) 105)), (.v (.int .i64 d) .no), (.v (.int .i64 i) .no)], [[], [(0, ⟨101, [(.v (.bytes l4) .no)]⟩)]] => a3A N j d N Ab i l4 (fun a0 a1 => K (.exit 0) [(.v (.sl 105 a0) (.own (.slot 5) 105))] [[], [(0, ⟨101, [(.v (.bytes a1) .no)]⟩)]])
 | _, _ => none
def c7j {R : Type} (N : Nat) (U : LB) (K0 : List V -> LB -> Option R) : Option R := s7 (D5 N U) fun j l1 => a3A N 1 j N [] 0 l1 fun l2 l3 => K0 l2 l3
def b2c (N : Nat) (U : LB) : Option (List V × LB) := c7j N U (fun r0 z0 => some (r0, z0))
def c1Y (N : Nat) : Cx := cl [] [K5 N, b7N N] [⟨3, [1, 5, 7, 8], [5], a9T N⟩]
theorem c5n (N : Nat) : p9 (c1Y N) 17 (s4 Tryz.f134 0) := by
 refine j7 (rid := 3) (by kernel_rfl) rfl rfl fun R ds m K r h => ?_
 change a9T N ds m K = _ at h
 unfold a9T at h
 split at h
 . rename_i j Ab d i l4
   exact ⟨N, Gs (lpI (fun (e : (List V -> LB -> Option R)) L (s : List V × Int × LB) => a1e N j d (fun Ab i l4 => L (Ab, i, l4)) e s.1 s.2.1 s.2.2) (fun e t s => a3A N j d t s.1 s.2.1 s.2.2 e) (fun s => [(.fn j [135] 1 0), (.v (.sl 105 s.1) (.own (.slot 5) 105)), (.v (.int .i64 d) .no), (.v (.int .i64 s.2.1) .no)]) (fun s => [[], [(0, ⟨101, [(.v (.bytes s.2.2) .no)]⟩)]]) (fun _ _ => rfl) (fun _ _ _ => rfl) (e := _) (fun L s => by kernel_rfl) N (Ab, i, l4)) h⟩
 . cases h
def c8D (N : Nat) : MEnt := vE 134 (.p 0 (.m 135 0 .z)) [(101, [.n .y])] (.v (.l 105) .z) true (b2c N)
theorem d2l (N : Nat) : MEO (c8D N) := vk (cx := c1Y N) (D4 trivial ⟨I9 N, c0T N, trivial⟩) Tryz.func134 (j6 (k := 1) (by kernel_rfl) ⟨trivial, c5n N⟩) (by kernel_rfl) fun h => by kernel_rfl
def c1f {R : Type} (N : Nat) (U : LB) (K0 : Int -> Int -> Bool -> List V -> List V -> List V -> List V -> LB -> Option R) : Option R := s7 (D5 N U) fun j l1 => br (decide (1 < j)) none (T4 (a7p N l1) fun d i l4 => s7 (b8Z N l4) fun l5 l6 => s7 (b0x N l6) fun l7 l8 => s7 (b1z N l8) fun l9 la => s7 (b2c N la) fun Ay Ax => K0 d i (decide (j = 1)) l5 l7 l9 Ay Ax)
def a8W (N : Nat) (U : LB) : Option (Int × Int × Bool × List V × List V × List V × List V × LB) := c1f N U (fun r0 r1 r2 r3 r4 r5 r6 z0 => some (r0, r1, r2, r3, r4, r5, r6, z0))
def a8S (N : Nat) : MEnt := vE 82 (.p 0 .z) [(101, [.n .y])] sh4 true (a8W N)
theorem b6J (N : Nat) : MEO (a8S N) := vk0 (cx := cz [] [K5 N, b4G N, d6x N, b2s N, c7Q N, c8D N, b0i N, b9S N, b7N N]) (A9 trivial ⟨I9 N, b1N N, d8t N, b7J N, d4s N, d2l N, b1Y N, c1e N, c0T N, trivial⟩) Tryz.func82 (by kernel_rfl) fun h => by kernel_rfl
def c5x {R : Type} (N : Nat) (K0 : Int -> Int -> Int -> Int -> Int -> Int -> Int -> Int -> LB -> Option R) (O n6 n7 n8 : Int) (l9 : LB) : Option R :=
 K0 0 0 0 0 O n6 n7 n8 l9
def c5J {R : Type} (N : Nat) (K0 : Int -> Int -> Int -> Int -> Int -> Int -> Int -> Int -> LB -> Option R) (O n6 n7 : Int) (l9 : LB) : Option R :=
 s7 (S9 N l9) fun j l1 => c5x N K0 O n6 n7 j l1
def c4j {R : Type} (N : Nat) (K0 : Int -> Int -> Int -> Int -> Int -> Int -> Int -> Int -> LB -> Option R) (O n6 : Int) (l9 : LB) : Option R :=
 s7 (S9 N l9) fun j l1 => c5J N K0 O n6 j l1
def c4N {R : Type} (N : Nat) (K0 : Int -> Int -> Int -> Int -> Int -> Int -> Int -> Int -> LB -> Option R) (O : Int) (l9 : LB) : Option R :=
 s7 (S9 N l9) fun j l1 => c4j N K0 O j l1
def b2Z {R : Type} (N : Nat) (K0 : Int -> Int -> Int -> Int -> Int -> Int -> Int -> Int -> LB -> Option R) (l9 : LB) : Option R :=
 s7 (S9 N l9) fun j l1 => c4N N K0 j l1
def b4P {R : Type} (N : Nat) (ds : List D) (m : Mem) (K : Ex -> List D -> Mem -> Option R) : Option R :=
 match ds, m with
 | [(.ptr 1 0 0), (.ptr 0 2 0), (.ptr 0 3 0), (.v (.int .i64 j) .no)], [[(2, ⟨107, [(.v (.int .i64 u) .no), (.v (.int .i64 d) .no), (.v (.int .i64 i) .no), (.v (.int .i64 x) .no)]⟩), (3, ⟨235, [(.v (.int .i64 O) .no), (.v (.int .i64 n6) .no), (.v (.int .i64 n7) .no), (.v (.int .i64 n8) .no)]⟩)], [(0, ⟨101, [(.v (.bytes l9) .no)]⟩)]] => cond ((decide (j = 0) && (decide (u = 0) && (decide (d = 0) && (decide (i = 0) && (decide (x = 0) && (decide (O = 0) && (decide (n6 = 0) && (decide (n7 = 0) && (decide (n8 = 0) && true)))))))))) (b2Z N (fun a0 a1 a2 a3 a4 a5 a6 a7 a8 => K (.exit 0) [(.ptr 0 2 0), (.ptr 0 3 0)] [[(2, ⟨107, [(.v (.int .i64 a0) .no), (.v (.int .i64 a1) .no), (.v (.int .i64 a2) .no), (.v (.int .i64 a3) .no)]⟩), (3, ⟨235, [(.v (.int .i64 a4) .no), (.v (.int .i64 a5) .no), (.v (.int .i64 a6) .no), (.v (.int .i64 a7) .no)]⟩)], [(0, ⟨101, [(.v (.bytes a8) .no)]⟩)]]) l9) none
 | _, _ => none
def d1V {R : Type} (N : Nat) (U : LB) (K0 : Int -> Int -> Int -> Int -> LB -> Option R) : Option R := s7 (S9 N U) fun j l1 => s7 (S9 N l1) fun d l3 => s7 (S9 N l3) fun x l5 => s7 (S9 N l5) fun n6 l7 => K0 j d x n6 l7
def b7H (N : Nat) (U : LB) : Option (Int × Int × Int × Int × LB) := d1V N U (fun r0 r1 r2 r3 z0 => some (r0, r1, r2, r3, z0))
def b9v (N : Nat) : Cx := cl [] [b8N N] [⟨3, [0, 2, 3, 5], [2, 3], b4P N⟩]
theorem c1h {R : Type} (N : Nat) (l9 : LB) (K : Ex -> List D -> Mem -> Option R) : O9 (fun st K => codeK (b9v N) (s4 Tryz.f139 0) st K) 22 [0, 2, 3, 5] [2, 3] 5 [(.ptr 1 0 0), (.ptr 0 2 0), (.ptr 0 3 0), (.v (.int .i64 0) .no)] [[(2, ⟨107, [(.v (.int .i64 0) .no), (.v (.int .i64 0) .no), (.v (.int .i64 0) .no), (.v (.int .i64 0) .no)]⟩), (3, ⟨235, [(.v (.int .i64 0) .no), (.v (.int .i64 0) .no), (.v (.int .i64 0) .no), (.v (.int .i64 0) .no)]⟩)], [(0, ⟨101, [(.v (.bytes l9) .no)]⟩)]] K = b2Z N (fun a0 a1 a2 a3 a4 a5 a6 a7 a8 => K (.exit 0) [(.ptr 0 2 0), (.ptr 0 3 0)] [[(2, ⟨107, [(.v (.int .i64 a0) .no), (.v (.int .i64 a1) .no), (.v (.int .i64 a2) .no), (.v (.int .i64 a3) .no)]⟩), (3, ⟨235, [(.v (.int .i64 a4) .no), (.v (.int .i64 a5) .no), (.v (.int .i64 a6) .no), (.v (.int .i64 a7) .no)]⟩)], [(0, ⟨101, [(.v (.bytes a8) .no)]⟩)]]) l9 := by
 kernel_rfl
theorem d0Z (N : Nat) : p9 (b9v N) 22 (s4 Tryz.f139 0) := by
 refine j7 (rid := 3) (by kernel_rfl) rfl rfl fun R ds m K r h => ?_
 have h : b4P N ds m K = some r := h
 unfold b4P at h
 split at h
 . rcases j8 h with ⟨hc, hq⟩ | ⟨_, hq⟩
   . simp only [Bool.and_eq_true, decide_eq_true_eq] at hc
     obtain ⟨rfl, rfl, rfl, rfl, rfl, rfl, rfl, rfl, rfl, _⟩ := hc
     refine ⟨5, ?_⟩
     show O9 _ _ [0, 2, 3, 5] [2, 3] _ _ _ _ = _
     rw [c1h]
     exact hq
   . cases hq
 . cases h
def c5Q (N : Nat) : MEnt := vE 139 (.p 0 .z) [(101, [.n .y])] sh0 true (b7H N)
theorem c8W (N : Nat) : MEO (c5Q N) := vk (cx := b9v N) (D4 trivial ⟨c2b N, trivial⟩) Tryz.func139 (j6 (k := 1) (by kernel_rfl) ⟨trivial, d0Z N⟩) (by kernel_rfl) fun h => by kernel_rfl
def a2U {R : Type} (N : Nat) (j d : Int) (Lq : List V -> Int -> LB -> Option R) (K0 : List V -> LB -> Option R) (Ab : List V) (i : Int) (l4 : LB) : Option R := br (decide (i < d)) (br (decide (j = 1)) (e0r (b7H N l4) fun j u d n3_1 l4 => br (decide ((Ab.length + [V.agg [V.int FK j, V.int FK u, V.int FK d, V.int FK n3_1]].length) * 32 <= 140737488355328)) (Lq (Ab ++ [V.agg [V.int FK j, V.int FK u, V.int FK d, V.int FK n3_1]]) (FK.wrap (i + 1)) l4) none) none) (K0 Ab l4)
def a4B {R : Type} (N : Nat) (j d : Int) : Nat -> List V -> Int -> LB -> (List V -> LB -> Option R) -> Option R | 0, _, _, _, _ => none | t + 1, Ab, i, l4, K0 => a2U N j d (fun Ab i l4 => a4B N j d t Ab i l4 K0) K0 Ab i l4
def b5t {R : Type} (N : Nat) (ds : List D) (m : Mem) (K : Ex -> List D -> Mem -> Option R) : Option R :=
 match ds, m with
 | [(.fn j [139] 1 0), (.v (.sl 107 Ab) (.own (.slot 5) 107)), (.v (.int .i64 d) .no), (.v (.int .i64 i) .no)], [[], [(0, ⟨101, [(.v (.bytes l4) .no)]⟩)]] => a4B N j d N Ab i l4 (fun a0 a1 => K (.exit 0) [(.v (.sl 107 a0) (.own (.slot 5) 107))] [[], [(0, ⟨101, [(.v (.bytes a1) .no)]⟩)]])
 | _, _ => none
def d6i {R : Type} (N : Nat) (U : LB) (K0 : List V -> LB -> Option R) : Option R := s7 (D5 N U) fun j l1 => a4B N 1 j N [] 0 l1 fun l2 l3 => K0 l2 l3
def c0a (N : Nat) (U : LB) : Option (List V × LB) := d6i N U (fun r0 z0 => some (r0, z0))
def c8T (N : Nat) : Cx := cl [] [K5 N, c5Q N] [⟨3, [1, 5, 7, 8], [5], b5t N⟩]
theorem d0h (N : Nat) : p9 (c8T N) 17 (s4 Tryz.f138 0) := by
 refine j7 (rid := 3) (by kernel_rfl) rfl rfl fun R ds m K r h => ?_
 change b5t N ds m K = _ at h
 unfold b5t at h
 split at h
 . rename_i j Ab d i l4
   exact ⟨N, Gs (lpI (fun (e : (List V -> LB -> Option R)) L (s : List V × Int × LB) => a2U N j d (fun Ab i l4 => L (Ab, i, l4)) e s.1 s.2.1 s.2.2) (fun e t s => a4B N j d t s.1 s.2.1 s.2.2 e) (fun s => [(.fn j [139] 1 0), (.v (.sl 107 s.1) (.own (.slot 5) 107)), (.v (.int .i64 d) .no), (.v (.int .i64 s.2.1) .no)]) (fun s => [[], [(0, ⟨101, [(.v (.bytes s.2.2) .no)]⟩)]]) (fun _ _ => rfl) (fun _ _ _ => rfl) (e := _) (fun L s => by kernel_rfl) N (Ab, i, l4)) h⟩
 . cases h
def d5H (N : Nat) : MEnt := vE 138 (.p 0 (.m 139 0 .z)) [(101, [.n .y])] (.v (.l 107) .z) true (c0a N)
theorem d9b (N : Nat) : MEO (d5H N) := vk (cx := c8T N) (D4 trivial ⟨I9 N, c8W N, trivial⟩) Tryz.func138 (j6 (k := 1) (by kernel_rfl) ⟨trivial, d0h N⟩) (by kernel_rfl) fun h => by kernel_rfl
def b6o {R : Type} (N : Nat) (U : LB) (K0 : Bool -> Bool -> Int -> List V -> Int -> Int -> Int -> Int -> Int -> List V -> List V -> LB -> Option R) : Option R := s7 (D5 N U) fun j l1 => br (decide (3 < j)) none (s7 (D5 N l1) fun d l3 => s7 (b0x N l3) fun l4 l5 => c5B (b4K N l5) fun n6 n7 n8 l9 => s7 (D5 N l9) fun na Ay => s7 (D5 N Ay) fun nc ld => s7 (S9 N ld) fun Af AC => s7 (W2 N Af AC) fun lg lh => s7 (b0f N lg) fun AO nj => br (!decide (nj = 0)) none (s7 (c0a N lh) fun lk ll => K0 (!decide (j9 BinOp.and FK j 1 = 0)) (!decide (j9 BinOp.and FK j 2 = 0)) d l4 n6 n7 n8 na nc AO lk ll))
def a6f (N : Nat) (U : LB) : Option (Bool × Bool × Int × List V × Int × Int × Int × Int × Int × List V × List V × LB) := b6o N U (fun r0 r1 r2 r3 r4 r5 r6 r7 r8 r9 ra z0 => some (r0, r1, r2, r3, r4, r5, r6, r7, r8, r9, ra, z0))
def a3b (N : Nat) : MEnt := vE 84 (.p 0 .z) [(101, [.n .y])] sh5 true (a6f N)
theorem b4W (N : Nat) : MEO (a3b N) := vk0 (cx := cz [b5Z N] [K5 N, b0i N, b8N N, a5E N, b2s N, d5H N, c5Q N]) (A9 ⟨c5X N, trivial⟩ ⟨I9 N, b1Y N, c2b N, a6j N, b7J N, d9b N, c8W N, trivial⟩) Tryz.func84 (by kernel_rfl) fun h => by kernel_rfl
def d1D {R : Type} (N : Nat) (U : LB) (K0 : LB -> Int -> Int -> LB -> Option R) : Option R := s7 (b0s N U) fun w l1 => s7 (D5 N l1) fun d l3 => s7 (D5 N l3) fun x l5 => K0 w d x l5
def b8K (N : Nat) (U : LB) : Option (LB × Int × Int × LB) := d1D N U (fun r0 r1 r2 z0 => some (r0, r1, r2, z0))
def b8E (N : Nat) : MEnt := vE 80 (.p 0 .z) [(101, [.n .y])] (.a (.v .y (.v fI (.v fI .z))) .z) true (b8K N)
theorem c8l (N : Nat) : MEO (b8E N) := vk0 (cx := cz [] [K5 N, b3U N]) (A9 trivial ⟨I9 N, b8s N, trivial⟩) Tryz.func80 (by kernel_rfl) fun h => by kernel_rfl
def d2D {R : Type} (N : Nat) (U : LB) (K0 : LB -> Int -> Int -> LB -> Option R) : Option R := s7 (b0s N U) fun w l1 => s7 (D5 N l1) fun d l3 => s7 (D5 N l3) fun x l5 => K0 w d x l5
def b8x (N : Nat) (U : LB) : Option (LB × Int × Int × LB) := d2D N U (fun r0 r1 r2 z0 => some (r0, r1, r2, z0))
def b8P (N : Nat) : MEnt := vE 88 (.p 0 .z) [(101, [.n .y])] (.a (.v .y (.v fI (.v fI .z))) .z) true (b8x N)
theorem c6R (N : Nat) : MEO (b8P N) := vk0 (cx := cz [] [K5 N, b3U N]) (A9 trivial ⟨I9 N, b8s N, trivial⟩) Tryz.func88 (by kernel_rfl) fun h => by kernel_rfl
def a3k {R : Type} (N : Nat) (j d : Int) (Lq : List V -> Int -> LB -> Option R) (K0 : List V -> LB -> Option R) (Ab : List V) (i : Int) (l4 : LB) : Option R := br (decide (i < d)) (br (decide (j = 1)) (c5B (b8K N l4) fun w u d l3 => br (decide ((Ab.length + [V.agg [V.bytes w, V.int FK u, V.int FK d]].length) * 40 <= 140737488355328)) (Lq (Ab ++ [V.agg [V.bytes w, V.int FK u, V.int FK d]]) (FK.wrap (i + 1)) l3) none) none) (K0 Ab l4)
def a4K {R : Type} (N : Nat) (j d : Int) : Nat -> List V -> Int -> LB -> (List V -> LB -> Option R) -> Option R | 0, _, _, _, _ => none | t + 1, Ab, i, l4, K0 => a3k N j d (fun Ab i l4 => a4K N j d t Ab i l4 K0) K0 Ab i l4
def b5x {R : Type} (N : Nat) (ds : List D) (m : Mem) (K : Ex -> List D -> Mem -> Option R) : Option R :=
 match ds, m with
 | [(.fn j [80] 1 0), (.v (.sl 58 Ab) (.own (.slot 5) 58)), (.v (.int .i64 d) .no), (.v (.int .i64 i) .no)], [[], [(0, ⟨101, [(.v (.bytes l4) .no)]⟩)]] => a4K N j d N Ab i l4 (fun a0 a1 => K (.exit 0) [(.v (.sl 58 a0) (.own (.slot 5) 58))] [[], [(0, ⟨101, [(.v (.bytes a1) .no)]⟩)]])
 | _, _ => none
def d4Q {R : Type} (N : Nat) (U : LB) (K0 : List V -> LB -> Option R) : Option R := s7 (D5 N U) fun j l1 => a4K N 1 j N [] 0 l1 fun l2 l3 => K0 l2 l3
def b9K (N : Nat) (U : LB) : Option (List V × LB) := d4Q N U (fun r0 z0 => some (r0, z0))
def c7P (N : Nat) : Cx := cl [] [K5 N, b8E N] [⟨3, [1, 5, 7, 8], [5], b5x N⟩]
theorem d0p (N : Nat) : p9 (c7P N) 17 (s4 Tryz.f79 0) := by
 refine j7 (rid := 3) (by kernel_rfl) rfl rfl fun R ds m K r h => ?_
 change b5x N ds m K = _ at h
 unfold b5x at h
 split at h
 . rename_i j Ab d i l4
   exact ⟨N, Gs (lpI (fun (e : (List V -> LB -> Option R)) L (s : List V × Int × LB) => a3k N j d (fun Ab i l4 => L (Ab, i, l4)) e s.1 s.2.1 s.2.2) (fun e t s => a4K N j d t s.1 s.2.1 s.2.2 e) (fun s => [(.fn j [80] 1 0), (.v (.sl 58 s.1) (.own (.slot 5) 58)), (.v (.int .i64 d) .no), (.v (.int .i64 s.2.1) .no)]) (fun s => [[], [(0, ⟨101, [(.v (.bytes s.2.2) .no)]⟩)]]) (fun _ _ => rfl) (fun _ _ _ => rfl) (e := _) (fun L s => by kernel_rfl) N (Ab, i, l4)) h⟩
 . cases h
def c6D (N : Nat) : MEnt := vE 79 (.p 0 (.m 80 0 .z)) [(101, [.n .y])] (.v (.l 58) .z) true (b9K N)
theorem e0j (N : Nat) : MEO (c6D N) := vk (cx := c7P N) (D4 trivial ⟨I9 N, c8l N, trivial⟩) Tryz.func79 (j6 (k := 1) (by kernel_rfl) ⟨trivial, d0p N⟩) (by kernel_rfl) fun h => by kernel_rfl
def a2P {R : Type} (N : Nat) (j d : Int) (Lq : List V -> Int -> LB -> Option R) (K0 : List V -> LB -> Option R) (Ab : List V) (i : Int) (l4 : LB) : Option R := br (decide (i < d)) (br (decide (j = 1)) (e2a (a8W N l4) fun j u b2 l3 l4 l5 l6 l7 => br (decide ((Ab.length + [V.agg [V.int FK j, V.int FK u, V.bool b2, V.sl 42 l3, V.sl 44 l4, V.sl 3 l5, V.sl 105 l6]].length) * 120 <= 140737488355328)) (Lq (Ab ++ [V.agg [V.int FK j, V.int FK u, V.bool b2, V.sl 42 l3, V.sl 44 l4, V.sl 3 l5, V.sl 105 l6]]) (FK.wrap (i + 1)) l7) none) none) (K0 Ab l4)
def a4J {R : Type} (N : Nat) (j d : Int) : Nat -> List V -> Int -> LB -> (List V -> LB -> Option R) -> Option R | 0, _, _, _, _ => none | t + 1, Ab, i, l4, K0 => a2P N j d (fun Ab i l4 => a4J N j d t Ab i l4 K0) K0 Ab i l4
def b4q {R : Type} (N : Nat) (ds : List D) (m : Mem) (K : Ex -> List D -> Mem -> Option R) : Option R :=
 match ds, m with
 | [(.fn j [82] 1 0), (.v (.sl 64 Ab) (.own (.slot 5) 64)), (.v (.int .i64 d) .no), (.v (.int .i64 i) .no)], [[], [(0, ⟨101, [(.v (.bytes l4) .no)]⟩)]] => a4J N j d N Ab i l4 (fun a0 a1 => K (.exit 0) [(.v (.sl 64 a0) (.own (.slot 5) 64))] [[], [(0, ⟨101, [(.v (.bytes a1) .no)]⟩)]])
 | _, _ => none
def d6m {R : Type} (N : Nat) (U : LB) (K0 : List V -> LB -> Option R) : Option R := s7 (D5 N U) fun j l1 => a4J N 1 j N [] 0 l1 fun l2 l3 => K0 l2 l3
def b9h (N : Nat) (U : LB) : Option (List V × LB) := d6m N U (fun r0 z0 => some (r0, z0))
def c8G (N : Nat) : Cx := cl [] [K5 N, a8S N] [⟨3, [1, 5, 7, 8], [5], b4q N⟩]
theorem d0b (N : Nat) : p9 (c8G N) 17 (s4 Tryz.f81 0) := by
 refine j7 (rid := 3) (by kernel_rfl) rfl rfl fun R ds m K r h => ?_
 change b4q N ds m K = _ at h
 unfold b4q at h
 split at h
 . rename_i j Ab d i l4
   exact ⟨N, Gs (lpI (fun (e : (List V -> LB -> Option R)) L (s : List V × Int × LB) => a2P N j d (fun Ab i l4 => L (Ab, i, l4)) e s.1 s.2.1 s.2.2) (fun e t s => a4J N j d t s.1 s.2.1 s.2.2 e) (fun s => [(.fn j [82] 1 0), (.v (.sl 64 s.1) (.own (.slot 5) 64)), (.v (.int .i64 d) .no), (.v (.int .i64 s.2.1) .no)]) (fun s => [[], [(0, ⟨101, [(.v (.bytes s.2.2) .no)]⟩)]]) (fun _ _ => rfl) (fun _ _ _ => rfl) (e := _) (fun L s => by kernel_rfl) N (Ab, i, l4)) h⟩
 . cases h
def c4L (N : Nat) : MEnt := vE 81 (.p 0 (.m 82 0 .z)) [(101, [.n .y])] (.v (.l 64) .z) true (b9h N)
theorem d8O (N : Nat) : MEO (c4L N) := vk (cx := c8G N) (D4 trivial ⟨I9 N, b6J N, trivial⟩) Tryz.func81 (j6 (k := 1) (by kernel_rfl) ⟨trivial, d0b N⟩) (by kernel_rfl) fun h => by kernel_rfl
def a2t {R : Type} (N : Nat) (j d : Int) (Lq : List V -> Int -> LB -> Option R) (K0 : List V -> LB -> Option R) (Ab : List V) (i : Int) (l4 : LB) : Option R := br (decide (i < d)) (br (decide (j = 1)) (c5B (b8x N l4) fun w u d l3 => br (decide ((Ab.length + [V.agg [V.bytes w, V.int FK u, V.int FK d]].length) * 40 <= 140737488355328)) (Lq (Ab ++ [V.agg [V.bytes w, V.int FK u, V.int FK d]]) (FK.wrap (i + 1)) l3) none) none) (K0 Ab l4)
def a5u {R : Type} (N : Nat) (j d : Int) : Nat -> List V -> Int -> LB -> (List V -> LB -> Option R) -> Option R | 0, _, _, _, _ => none | t + 1, Ab, i, l4, K0 => a2t N j d (fun Ab i l4 => a5u N j d t Ab i l4 K0) K0 Ab i l4
def b5q {R : Type} (N : Nat) (ds : List D) (m : Mem) (K : Ex -> List D -> Mem -> Option R) : Option R :=
 match ds, m with
 | [(.fn j [88] 1 0), (.v (.sl 67 Ab) (.own (.slot 5) 67)), (.v (.int .i64 d) .no), (.v (.int .i64 i) .no)], [[], [(0, ⟨101, [(.v (.bytes l4) .no)]⟩)]] => a5u N j d N Ab i l4 (fun a0 a1 => K (.exit 0) [(.v (.sl 67 a0) (.own (.slot 5) 67))] [[], [(0, ⟨101, [(.v (.bytes a1) .no)]⟩)]])
 | _, _ => none
def d1v {R : Type} (N : Nat) (U : LB) (K0 : List V -> LB -> Option R) : Option R := s7 (D5 N U) fun j l1 => a5u N 1 j N [] 0 l1 fun l2 l3 => K0 l2 l3
def b8j (N : Nat) (U : LB) : Option (List V × LB) := d1v N U (fun r0 z0 => some (r0, z0))
def c8I (N : Nat) : Cx := cl [] [K5 N, b8P N] [⟨3, [1, 5, 7, 8], [5], b5q N⟩]
theorem c9Y (N : Nat) : p9 (c8I N) 17 (s4 Tryz.f87 0) := by
 refine j7 (rid := 3) (by kernel_rfl) rfl rfl fun R ds m K r h => ?_
 change b5q N ds m K = _ at h
 unfold b5q at h
 split at h
 . rename_i j Ab d i l4
   exact ⟨N, Gs (lpI (fun (e : (List V -> LB -> Option R)) L (s : List V × Int × LB) => a2t N j d (fun Ab i l4 => L (Ab, i, l4)) e s.1 s.2.1 s.2.2) (fun e t s => a5u N j d t s.1 s.2.1 s.2.2 e) (fun s => [(.fn j [88] 1 0), (.v (.sl 67 s.1) (.own (.slot 5) 67)), (.v (.int .i64 d) .no), (.v (.int .i64 s.2.1) .no)]) (fun s => [[], [(0, ⟨101, [(.v (.bytes s.2.2) .no)]⟩)]]) (fun _ _ => rfl) (fun _ _ _ => rfl) (e := _) (fun L s => by kernel_rfl) N (Ab, i, l4)) h⟩
 . cases h
def c5f (N : Nat) : MEnt := vE 87 (.p 0 (.m 88 0 .z)) [(101, [.n .y])] (.v (.l 67) .z) true (b8j N)
theorem d8L (N : Nat) : MEO (c5f N) := vk (cx := c8I N) (D4 trivial ⟨I9 N, c6R N, trivial⟩) Tryz.func87 (j6 (k := 1) (by kernel_rfl) ⟨trivial, c9Y N⟩) (by kernel_rfl) fun h => by kernel_rfl
end En

namespace En
open Go Go.Proofs
set_option maxRecDepth 100000
set_option maxHeartbeats 8000000
section
variable {P : Program} {T : TypeId -> Option Ty} {cx : Cx}
theorem d5q (hm : P.follows .mixedOrders = true) (hcx : CxOK P cx) {f : FuncId} {fn : Func} (hf : P.funcs[f]? = some fn) (hb : fn.body = some (s6 fn)) (hro : (drawnOf (s6 fn)).all (a3R cx) = true) (hl : B8 cx fn.ntmps (s6 fn))
 {ds₁ : List D} (Q8 : Nat.ble ds₁.length fn.ntmps = true) {Bs Bs' : List Bx} (hc : a8G Bs = true) (hc' : a8G Bs' = true) (hlen : Bs'.length = Bs.length) {t : Nat} (c0o : fn.results.toList = [.tmp t]) {α : Type} {rf : D -> Mem -> List Pos -> Option α} {r : α} (h : c0R cx fn ds₁ [J4 0 Bs] t rf = some r)
 {e : TypeId} {xs : List V} (hrs : ∀ d m' dd, rf d m' dd = some r -> (∃ s, d = .v (.sl e xs) (.own (.slot s) e) /\ O0 (.slot s) dd = false) /\ ∃ own, m' = [own, J4 0 Bs']) : V8 P cx.T f ds₁ Bs [.v (.rowI e xs) .no] Bs' := by
 intro ps ds m dst T9 Q7 hlB har
 obtain ⟨a1, a2⟩ := har.get
 refine d0j hcx hf hb (R0 hm hcx hro) hl (Nat.le_of_ble_eq_true Q8) T9 (Bs₁ := Bs) (fun j p hj => ?_) hlB a1 a2 c0o h (by rw [hlen, hlB]) (fun d m' dd hr => ?_) dst
 . obtain ⟨B, h1, h2⟩ := Q7 j p hj
   exact ⟨B, B, h1, h2, a2u Bs hc j B h2⟩
 . obtain ⟨b1, own, b2⟩ := hrs d m' dd hr
   exact ⟨b1, own, Bs', b2, fun j p B' hj hB => ⟨B', hB, (a2u Bs' hc' j B' hB).x⟩⟩
end
def b8O {R : Type} (s : List UInt8 -> Option (List V × List UInt8)) (dst : Nat) (ds : List D) (m : Mem) (K : List D -> Mem -> Option R) : Option R :=
 match ds with
 | [.ptr (kv0 + 1) sv0 0, .fn qn qf qk qs] => cond (c0r qn qf 84 && (Nat.beq qk (kv0 + 1) && Nat.beq qs sv0)) (a0s [(kv0, sv0)] m fun Bs => (match Bs with
   | [⟨101, [.v (.bytes y0) .no]⟩] => s7 (s y0) fun r0 z0 => J5 [(kv0, sv0)] [⟨101, [dY z0]⟩] m fun m' => K [.v (.rowI 47 r0) .no] m'
   | _ => none)) none
 | _ => none
def c6w {α : Type} (K : List V -> List UInt8 -> Option α) (d : D) (m : Mem) (dd : List Pos) : Option α :=
 match d, m with
 | .v (.sl 47 r0) (.own (.slot s) 47), [_, [(0, ⟨101, [.v (.bytes z0) .no]⟩)]] => cond (O0 (.slot s) dd) none (K r0 z0)
 | _, _ => none
def a1v {R : Type} (N : Nat) (n0 n2 : Int) (Lq : List V -> Int -> List UInt8 -> Option R) (K0 : List V -> List UInt8 -> Option R) (vs1 : List V) (n3 : Int) (l4 : List UInt8) : Option R := br (decide (n3 < n2)) (br (decide (n0 = 1)) (d6f (a6f N l4) fun b0 b1 n2 l3 n4 n5 n6 n7 n8 l9 l10 l11 => br (decide ((vs1.length + [V.agg [V.bool b0, V.bool b1, V.int FK n2, V.sl 44 l3, V.int FK n4, V.int FK n5, V.int FK n6, V.int FK n7, V.int FK n8, V.sl 54 l9, V.sl 107 l10]].length) * 128 <= 140737488355328)) (Lq (vs1 ++ [V.agg [V.bool b0, V.bool b1, V.int FK n2, V.sl 44 l3, V.int FK n4, V.int FK n5, V.int FK n6, V.int FK n7, V.int FK n8, V.sl 54 l9, V.sl 107 l10]]) (FK.wrap (n3 + 1)) l11) none) none) (K0 vs1 l4)
def a5O {R : Type} (N : Nat) (n0 n2 : Int) : Nat -> List V -> Int -> List UInt8 -> (List V -> List UInt8 -> Option R) -> Option R | 0, _, _, _, _ => none | t + 1, vs1, n3, l4, K0 => a1v N n0 n2 (fun vs1 n3 l4 => a5O N n0 n2 t vs1 n3 l4 K0) K0 vs1 n3 l4
def b4w {R : Type} (N : Nat) (ds : List D) (m : Mem) (K : Ex -> List D -> Mem -> Option R) : Option R :=
 match ds, m with
 | [(.fn n0 [84] 1 0), (.v (.sl 47 vs1) (.own (.slot 5) 47)), (.v (.int .i64 n2) .no), (.v (.int .i64 n3) .no)], [[], [(0, ⟨101, [(.v (.bytes l4) .no)]⟩)]] => a5O N n0 n2 N vs1 n3 l4 (fun a0 a1 => K (.exit 0) [(.v (.sl 47 a0) (.own (.slot 5) 47))] [[], [(0, ⟨101, [(.v (.bytes a1) .no)]⟩)]])
 | _, _ => none
def c6d {R : Type} (N : Nat) (y0 : List UInt8) (K0 : List V -> List UInt8 -> Option R) : Option R := s7 (D5 N y0) fun n0 l1 => a5O N 1 n0 N [] 0 l1 fun l2 l3 => K0 l2 l3
def b0A (N : Nat) : List UInt8 -> Option (List V × List UInt8) := fun y0 => c6d N y0 (fun r0 z0 => some (r0, z0))
def a4k (N : Nat) : Cx := { T := T, isPure := a5b [], pureK := fun g ds K => a1K [] g ds K, memK := fun g dst ds m K => W4 [K5 N, a3b N] g dst ds m K, meth := a2E [], keep := fun r => match r with | 3 => [1, 5, 7, 8] | _ => [], keepX := fun r => match r with | 3 => [5] | _ => [], loopT := fun r ds m K => match r with | 3 => b4w N ds m K | _ => none, jumps := 9 }
theorem c1G {R : Type} (N : Nat) (n0 n2 : Int) (vs1 : List V) (n3 : Int) (l4 : List UInt8) (L : List D -> Mem -> Option R) (K : Ex -> List D -> Mem -> Option R) :
 W3 (fun st K => codeK (a4k N) (s4 Tryz.f83 0) st K) 17 [1, 5, 7, 8] [5] L [(.fn n0 [84] 1 0), (.v (.sl 47 vs1) (.own (.slot 5) 47)), (dI n2), (dI n3)] [[], [(0, ⟨101, [(dY l4)]⟩)]] K = a1v N n0 n2 (fun vs1 n3 l4 => L [(.fn n0 [84] 1 0), (.v (.sl 47 vs1) (.own (.slot 5) 47)), (dI n2), (dI n3)] [[], [(0, ⟨101, [(dY l4)]⟩)]]) (fun a0 a1 => K (.exit 0) [(.v (.sl 47 a0) (.own (.slot 5) 47))] [[], [(0, ⟨101, [(dY a1)]⟩)]]) vs1 n3 l4 := by
 kernel_rfl
theorem b0N {R : Type} (N : Nat) (n0 n2 : Int) (K : Ex -> List D -> Mem -> Option R) : ∀ (t : Nat) (vs1 : List V) (n3 : Int) (l4 : List UInt8),
 O9 (fun st K => codeK (a4k N) (s4 Tryz.f83 0) st K) 17 [1, 5, 7, 8] [5] t [(.fn n0 [84] 1 0), (.v (.sl 47 vs1) (.own (.slot 5) 47)), (dI n2), (dI n3)] [[], [(0, ⟨101, [(dY l4)]⟩)]] K = a5O N n0 n2 t vs1 n3 l4 (fun a0 a1 => K (.exit 0) [(.v (.sl 47 a0) (.own (.slot 5) 47))] [[], [(0, ⟨101, [(dY a1)]⟩)]])
 | 0, vs1, n3, l4 => rfl
 | t + 1, vs1, n3, l4 => (c1G N n0 n2 vs1 n3 l4 _ K).trans (congrArg (fun L => a1v N n0 n2 L (fun a0 a1 => K (.exit 0) [(.v (.sl 47 a0) (.own (.slot 5) 47))] [[], [(0, ⟨101, [(dY a1)]⟩)]]) vs1 n3 l4) (funext fun vs1 => funext fun n3 => funext fun l4 => b0N N n0 n2 K t vs1 n3 l4))
theorem c9x {R : Type} (N : Nat) (y0 : List UInt8) (K : List V -> List UInt8 -> Option R) : c0R (a4k N) Tryz.f83 [.ptr 1 0 0, .fn 1 [84] 1 0] [J4 0 [⟨101, [dY y0]⟩]] 4 (c6w K) = c6d N y0 (fun r0 z0 => K r0 z0) := by
 kernel_rfl
abbrev d4x (s : List UInt8 -> Option (List V × List UInt8)) : Prop := ∀ y0 r0 z0, s y0 = some (r0, z0) -> V8 Tryz.prog T 83 [.ptr 1 0 0, .fn 1 [84] 1 0] [⟨101, [dY y0]⟩] [.v (.rowI 47 r0) .no] [⟨101, [dY z0]⟩]
theorem d9z (s : List UInt8 -> Option (List V × List UInt8)) (hs : d4x s) : MEntOK Tryz.prog T ⟨83, b8O s⟩ := by
 refine ⟨K6 Tryz.func83 (by kernel_rfl) (c := s6 Tryz.f83) (by kernel_rfl), fun R dst ds m K r h => ?_⟩
 simp only [b8O] at h
 split at h
 . rcases j8 h with ⟨hc, hq⟩ | ⟨_, hq⟩
   rotate_left
   . cases hq
   clear h
   obtain ⟨rfl, rfl, rfl, rfl⟩ := c0p hc
   have h := hq
   obtain ⟨Bs, a1, a2, a3, h⟩ := F8 h
   split at h
   . obtain ⟨r0, z0, h1, h2⟩ := a6E h
     rw [F5] at h2
     exact ⟨_, _, h2, hs _ _ _ h1 _ _ m dst a1 a2 a3 ⟨G0 _ rfl, c8z rfl, trivial⟩⟩
   . cases h
 . cases h
theorem d7r (N : Nat) : CxOK Tryz.prog (a4k N) :=
 M3 (es := []) (me := [K5 N, a3b N]) (ms := []) a7s trivial ⟨I9 N, b4W N, trivial⟩ trivial rfl (fun _ _ _ _ => rfl) (fun _ _ _ _ _ _ => rfl) rfl
theorem c9X (N : Nat) : p9 (a4k N) 17 (s4 Tryz.f83 0) := by
 refine j7 (rid := 3) (by kernel_rfl) rfl rfl fun R ds m K r h => ?_
 have h : b4w N ds m K = some r := h
 unfold b4w at h
 split at h
 . exact ⟨N, Gs (b0N ..) h⟩
 . cases h
theorem d8P (N : Nat) : B8 (a4k N) Tryz.f83.ntmps (s6 Tryz.f83) :=
 j6 (k := 1) (by kernel_rfl) ⟨trivial, c9X N⟩
theorem e1B (N : Nat) : d4x (b0A N) := fun y0 r0 z0 h => by
 refine d5q (Bs := [⟨101, [dY y0]⟩]) (Bs' := [⟨101, [dY z0]⟩]) (cx := a4k N) (by kernel_rfl) (d7r N) Tryz.func83 (by kernel_rfl) (by kernel_rfl) (d8P N) rfl rfl rfl rfl (t := 4) rfl (rf := c6w (fun r0' z'0 => some (r0', z'0))) (r := (r0, z0)) ?_ ?_
 . exact (c9x ..).trans h
 . intro d m' dd hx
   unfold c6w at hx
   split at hx
   . rename_i s _
     rcases j8 hx with ⟨_, hx⟩ | ⟨hs, hx⟩
     . cases hx
     . cases hx
       exact ⟨⟨_, rfl, hs⟩, _, rfl⟩
   . cases hx
end En
end
end Go.Proofs.YtkoilndpfifapaaGreatDoor
