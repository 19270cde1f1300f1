/- Several texts in one. -/
import Derived.Test.YtkoilndpfifapaaGreatDoorZ4
import Derived.Test.YtkoilndpfifapaaGreatDoorZ8
import Derived.Test.YtkoilndpfifapaaGreatDoorZ6

set_option linter.unusedSimpArgs false
set_option linter.unusedVariables false
set_option linter.unusedSectionVars false
open BitVec renaming ofInt → GS, toNat_ofInt → IR
open Bool renaming and_eq_true → FS
open Eq renaming trans → Gr
open Go.IntKind renaming i64 → FK, u8 → FX, wrap_i64 → Hm
open List renaming flatMap_cons → Ha, length_append → FT, length_cons → FO, length_nil → Gc, length_map → Gh, append_assoc → Gq, mem_of_getElem? → Ga, cons_append → Gv, nil_append → Is
open Nat renaming beq → FY, eq_of_beq_eq_true → FM
namespace Go.Proofs.YtkoilndpfifapaaGreatDoor
noncomputable section
namespace En
open Go Go.Proofs
set_option maxRecDepth 100000
set_option maxHeartbeats 8000000
def a3r {R : Type} (N : Nat) (Aa : List V) (u : Int) (Lq : Int -> LB -> Option R) (K0 : LB -> Option R) (d : Int) (l3 : LB) : Option R := br (decide (d < u)) (br (decide (0 <= d) && decide (d < (Aa.length : Int))) (at? Aa d.toNat fun f => V.unInt FK f fun u => br (decide ((l3.length + [UInt8.ofNat (FX.wrap u).toNat].length) * 1 <= 140737488355328)) (Lq (FK.wrap (d + 1)) (l3 ++ [UInt8.ofNat (FX.wrap u).toNat])) none) none) (K0 l3)
def a5p {R : Type} (N : Nat) (Aa : List V) (u : Int) : Nat -> Int -> LB -> (LB -> Option R) -> Option R | 0, _, _, _ => none | t + 1, d, l3, K0 => a3r N Aa u (fun d l3 => a5p N Aa u t d l3 K0) K0 d l3
def b2U {R : Type} (N : Nat) (ds : List D) (m : Mem) (K : Ex -> List D -> Mem -> Option R) : Option R :=
 match ds, m with
 | [(.ptr 1 0 0), (.v (.sl 3 Aa) .no), (.v (.int .i64 u) .no), (.v (.int .i64 d) .no)], mm6 l3 => a5p N Aa u N d l3 (fun a0 => K (.exit 0) [] (mm6 a0))
 | _, _ => none
def d5Q {R : Type} (N : Nat) (f : List V) (U : LB) (K0 : LB -> Option R) : Option R := a5p N f (f.length : Int) N 0 U fun w => K0 w
def H6 (N : Nat) (f : List V) (U : LB) : Option (LB) := d5Q N f U (fun z0 => some z0)
def c8I (N : Nat) : Cx := cl [] [] [⟨1, [0, 6, 7, 8], [], b2U N⟩]
theorem d0a (N : Nat) : p9 (c8I N) 24 (s4 Tryz.f65 0) := by
 refine j7 (rid := 1) (by kernel_rfl) rfl rfl fun R ds m K r h => ?_
 change b2U N ds m K = _ at h
 unfold b2U at h
 split at h
 . rename_i Aa u d l3
   exact ⟨N, Gr (lpI (fun (e : (LB -> Option R)) L (s : Int × LB) => a3r N Aa u (fun d l3 => L (d, l3)) e s.1 s.2) (fun e t s => a5p N Aa u t s.1 s.2 e) (fun s => [(.ptr 1 0 0), (.v (.sl 3 Aa) .no), (.v (.int .i64 u) .no), (.v (.int .i64 s.1) .no)]) (fun s => mm6 s.2) (fun _ _ => rfl) (fun _ _ _ => rfl) (e := _) (fun L s => by kernel_rfl) N (d, l3)) h⟩
 . cases h
def J1 (N : Nat) : MEnt := vE 65 (.p 0 (.v (.l 3) .z)) [(96, [.o 5])] .z true (H6 N)
theorem J7 (N : Nat) : MEO (J1 N) := vk (cx := c8I N) (D4 trivial trivial) Tryz.func65 (j6 (k := 1) (by kernel_rfl) ⟨trivial, d0a N⟩) (by kernel_rfl) fun h => by kernel_rfl
def a1e {R : Type} (N : Nat) (Aa : List V) (u : Int) (Lq : Int -> LB -> Option R) (K0 : LB -> Option R) (d : Int) (l3 : LB) : Option R := br (decide (d < u)) (br (decide (0 <= d) && decide (d < (Aa.length : Int))) (at? Aa d.toNat fun f => V.unInt FK f fun u => j3 (H6 N [V.int FK (G8 FK u 8), V.int FK u] l3) fun l2 => Lq (FK.wrap (d + 1)) l2) none) (K0 l3)
def a3x {R : Type} (N : Nat) (Aa : List V) (u : Int) : Nat -> Int -> LB -> (LB -> Option R) -> Option R | 0, _, _, _ => none | t + 1, d, l3, K0 => a1e N Aa u (fun d l3 => a3x N Aa u t d l3 K0) K0 d l3
def a9E {R : Type} (N : Nat) (ds : List D) (m : Mem) (K : Ex -> List D -> Mem -> Option R) : Option R :=
 match ds, m with
 | [(.ptr 1 0 0), (.v (.sl 3 Aa) .no), (.v (.int .i64 u) .no), (.v (.int .i64 d) .no)], mm6 l3 => a3x N Aa u N d l3 (fun a0 => K (.exit 0) [] (mm6 a0))
 | _, _ => none
def c7H {R : Type} (N : Nat) (f : List V) (U : LB) (K0 : LB -> Option R) : Option R := a3x N f (f.length : Int) N 0 U fun w => K0 w
def a4h (N : Nat) (f : List V) (U : LB) : Option (LB) := c7H N f U (fun z0 => some z0)
def c2X (N : Nat) : Cx := cl [] [J1 N] [⟨1, [0, 6, 7, 8], [], a9E N⟩]
theorem c4F (N : Nat) : p9 (c2X N) 21 (s4 Tryz.f126 0) := by
 refine j7 (rid := 1) (by kernel_rfl) rfl rfl fun R ds m K r h => ?_
 change a9E N ds m K = _ at h
 unfold a9E at h
 split at h
 . rename_i Aa u d l3
   exact ⟨N, Gr (lpI (fun (e : (LB -> Option R)) L (s : Int × LB) => a1e N Aa u (fun d l3 => L (d, l3)) e s.1 s.2) (fun e t s => a3x N Aa u t s.1 s.2 e) (fun s => [(.ptr 1 0 0), (.v (.sl 3 Aa) .no), (.v (.int .i64 u) .no), (.v (.int .i64 s.1) .no)]) (fun s => mm6 s.2) (fun _ _ => rfl) (fun _ _ _ => rfl) (e := _) (fun L s => by kernel_rfl) N (d, l3)) h⟩
 . cases h
def b9V (N : Nat) : MEnt := vE 126 (.p 0 (.v (.l 3) .z)) [(96, [.o 5])] .z true (a4h N)
theorem c2o (N : Nat) : MEO (b9V N) := vk (cx := c2X N) (D4 trivial ⟨J7 N, trivial⟩) Tryz.func126 (j6 (k := 1) (by kernel_rfl) ⟨trivial, c4F N⟩) (by kernel_rfl) fun h => by kernel_rfl
def a6h (N : Nat) (f : Bool) (x1 : Int) : Option (Int) := br f (some x1) (some 0)
def d6g (N : Nat) : Cx := cz [] []
def b9a (N : Nat) : Ent := pE 119 (.v .b (.v fI .z)) (.v fI .z) (a6h N)
theorem c0S (N : Nat) : EO (b9a N) := pk0 (cx := d6g N) (A9 trivial trivial) Tryz.func119 (by kernel_rfl) fun h => by kernel_rfl
def d6U {R : Type} (N : Nat) (f x1 : Int) (U : LB) (K0 : LB -> Option R) : Option R := j3 (H6 N [V.int FK f, V.int FK x1] U) fun w => K0 w
def a7v (N : Nat) (f x1 : Int) (U : LB) : Option (LB) := d6U N f x1 U (fun z0 => some z0)
def d9z (N : Nat) : Cx := cz [] [J1 N]
def b3G (N : Nat) : MEnt := vE 120 (.p 0 (.a (.v fI (.v fI .z)) .z)) [(96, [.o 5])] .z true (a7v N)
theorem b1T (N : Nat) : MEO (b3G N) := vk0 (cx := d9z N) (A9 trivial ⟨J7 N, trivial⟩) Tryz.func120 (by kernel_rfl) fun h => by kernel_rfl
def d7B {R : Type} (N : Nat) (f x1 x2 : Int) (U : LB) (K0 : LB -> Option R) : Option R := j3 (H6 N [V.int FK f] U) fun w => br (decide (f = 5)) (j3 (a7v N x1 x2 w) fun l1 => K0 l1) (K0 w)
def b4c (N : Nat) (f x1 x2 : Int) (U : LB) : Option (LB) := d7B N f x1 x2 U (fun z0 => some z0)
def e0J (N : Nat) : Cx := cz [] [J1 N, b3G N]
def b5l (N : Nat) : MEnt := vE 74 (.p 0 (.a (.v fI (.v fI (.v fI .z))) .z)) [(96, [.o 5])] .z true (b4c N)
theorem b1Q (N : Nat) : MEO (b5l N) := vk0 (cx := e0J N) (A9 trivial ⟨J7 N, b1T N, trivial⟩) Tryz.func74 (by kernel_rfl) fun h => by kernel_rfl
def d4X {R : Type} (N : Nat) (f : Int) (U : LB) (K0 : LB -> Option R) : Option R := j3 (H6 N [V.int FK f] U) fun w => K0 w
def b9A (N : Nat) (f : Int) (U : LB) : Option (LB) := d4X N f U (fun z0 => some z0)
def e1E (N : Nat) : Cx := cz [] [J1 N]
def b8L (N : Nat) : MEnt := vE 123 (.p 0 (.v fI .z)) [(96, [.o 5])] .z true (b9A N)
theorem b9X (N : Nat) : MEO (b8L N) := vk0 (cx := e1E N) (A9 trivial ⟨J7 N, trivial⟩) Tryz.func123 (by kernel_rfl) fun h => by kernel_rfl
def c1N {R : Type} (s : Int -> LB -> Option (LB)) (dst : Nat) (ds : List D) (m : Mem) (K : List D -> Mem -> Option R) : Option R :=
 match ds with
 | [.v (.int .u8 f) .no, .ptr (As + 1) Av 0] => (match m.box? As Av with
   | some ⟨_, [.ptr hk hs _]⟩ => cond (true) (a0u [(As, Av), (As + hk, hs)] m fun Bs => (match Bs with
     | [⟨128, [.ptr tk ts 0]⟩, ⟨96, [.v (.bytes U) (.own (.slot 0) 5)]⟩] => cond (FY hk tk && FY hs ts) (j3 (s f U) fun z0 => J6 [(As, Av), (As + hk, hs)] [⟨128, [.ptr hk hs 0]⟩, ⟨96, [.v (.bytes z0) (.own (.slot 0) 5)]⟩] m fun m' => K [] m') none
     | _ => none)) none
   | _ => none)
 | _ => none
def L8 {α : Type} (K : LB -> Option α) (rs : List D) (m : Mem) : Option α :=
 match rs, m with
 | [], [_, [(0, ⟨128, [.ptr 0 1 0]⟩), (1, ⟨96, [.v (.bytes z0) (.own (.slot 0) 5)]⟩)]] => K z0
 | _, _ => none
def d3o {R : Type} (N : Nat) (f : Int) (U : LB) (K0 : LB -> Option R) : Option R := j3 (H6 N [V.int FK (FK.wrap f)] U) fun w => K0 w
def b3f (N : Nat) : Int -> LB -> Option (LB) := fun f U => d3o N f U (fun z0 => some z0)
def d5y (N : Nat) : Cx := cxO [] [J1 N]
theorem d4D {R : Type} (N : Nat) (f U K : _) : M2 (R := R) (d5y N) Tryz.f118 [.v (.int .u8 f) .no, .ptr 1 0 0] [J4 0 [⟨128, [.ptr 0 1 0]⟩, ⟨96, [.v (.bytes U) (.own (.slot 0) 5)]⟩]] (L8 K) = d3o N f U (fun z0 => K z0) := by
 kernel_rfl
abbrev e2E (s : Int -> LB -> Option (LB)) : Prop := ∀ {f U z0}, s f U = some z0 -> VR2 118 [.v (.int .u8 f) .no, .ptr 1 0 0] [⟨128, [.ptr 0 1 0]⟩, ⟨96, [.v (.bytes U) (.own (.slot 0) 5)]⟩] [] [⟨128, [.ptr 0 1 0]⟩, ⟨96, [.v (.bytes z0) (.own (.slot 0) 5)]⟩]
theorem d3w (s : Int -> LB -> Option (LB)) (hs : e2E s) : MEO ⟨118, c1N s⟩ := by
 refine ⟨K6 Tryz.func118 (by kernel_rfl) (c := s6 Tryz.f118) (by kernel_rfl), fun R dst ds m K r h => ?_⟩
 simp only [c1N] at h
 split at h
 . split at h
   . rcases j8 h with ⟨hc, hq⟩ | ⟨_, hq⟩
     . clear h
       obtain ⟨Bs, a1, a2, a3, h⟩ := F9 hq
       split at h
       . rcases j8 h with ⟨hc, hk⟩ | ⟨_, hk⟩
         . simp only [FS] at hc
           obtain ⟨c3, c4⟩ := hc
           have c3 := FM c3
           have c4 := FM c4
           subst c3 c4
           obtain ⟨z0, h1, h2⟩ := L2 hk
           rw [F5] at h2
           exact ⟨_, _, h2, hs h1 _ _ m dst _ _ a1 a2 a3 rfl rfl ⟨M8 _, G0 _ rfl, trivial⟩ (F2 rfl (J8 rfl) (F1 rfl)) (F2 rfl (J8 rfl) (F1 rfl))⟩
         . cases hk
       . cases h
     . cases hq
   . cases h
 . cases h
open Classical in
theorem e2x (N : Nat) : e2E (b3f N) := fun {f U z0} h => by
 refine S7 (cx := d5y N) (by kernel_rfl) (a9u trivial ⟨J7 N, trivial⟩) Tryz.func118 (by kernel_rfl) (by kernel_rfl) (lz (by kernel_rfl)) (by rfl) (rf := L8 (fun Z0 => some Z0)) (r := z0) ?_ ?_
 . exact (d4D ..).trans h
 . intro rs' m' hx
   unfold L8 at hx
   split at hx
   . cases hx; exact ⟨rfl, rfl, _, rfl⟩
   . cases hx
def b9k {R : Type} (s : LB -> LB -> Option (LB)) (dst : Nat) (ds : List D) (m : Mem) (K : List D -> Mem -> Option R) : Option R :=
 match ds with
 | [.ptr (Bf + 1) Bg 0, dY f, .clos 118 [.ptr (As + 1) Av 0]] => (match m.box? As Av with
   | some ⟨_, [.ptr hk hs _]⟩ => cond (FY Bf (As + hk) && FY Bg hs) (a0u [(As, Av), (As + hk, hs)] m fun Bs => (match Bs with
     | [⟨128, [.ptr tk ts 0]⟩, ⟨96, [.v (.bytes U) (.own (.slot 0) 5)]⟩] => cond (FY hk tk && FY hs ts) (j3 (s f U) fun z0 => J6 [(As, Av), (As + hk, hs)] [⟨128, [.ptr hk hs 0]⟩, ⟨96, [.v (.bytes z0) (.own (.slot 0) 5)]⟩] m fun m' => K [] m') none
     | _ => none)) none
   | _ => none)
 | _ => none
def Z9 {R : Type} (N : Nat) (w : LB) (u : Int) (Lq : Int -> LB -> Option R) (K0 : LB -> Option R) (d : Int) (l3 : LB) : Option R := br (decide (d < u)) (br (decide (0 <= d) && decide (d < (w.length : Int))) (at? w d.toNat fun u0 => j3 (b3f N (u0.toNat : Int) l3) fun l1 => Lq (FK.wrap (d + 1)) l1) none) (K0 l3)
def a2Z {R : Type} (N : Nat) (w : LB) (u : Int) : Nat -> Int -> LB -> (LB -> Option R) -> Option R | 0, _, _, _ => none | t + 1, d, l3, K0 => Z9 N w u (fun d l3 => a2Z N w u t d l3 K0) K0 d l3
def a9M {R : Type} (N : Nat) (ds : List D) (m : Mem) (K : Ex -> List D -> Mem -> Option R) : Option R :=
 match ds, m with
 | [(.clos 118 [(.ptr 1 0 0)]), (.v (.bytes w) .no), (.v (.int .i64 u) .no), (.v (.int .i64 d) .no)], [[], [(0, ⟨128, [(.ptr 0 1 0)]⟩), (1, ⟨96, [(.v (.bytes l3) (.own (.slot 0) 5))]⟩)]] => a2Z N w u N d l3 (fun a0 => K (.exit 0) [] [[], [(0, ⟨128, [(.ptr 0 1 0)]⟩), (1, ⟨96, [(.v (.bytes a0) (.own (.slot 0) 5))]⟩)]])
 | _, _ => none
def b9d {R : Type} (N : Nat) (f U : LB) (K0 : LB -> Option R) : Option R := j3 (H6 N [V.int FK (f.length : Int)] U) fun w => a2Z N f (f.length : Int) N 0 w fun l1 => K0 l1
def a8K (N : Nat) : LB -> LB -> Option (LB) := fun f U => b9d N f U (fun z0 => some z0)
def a1p (N : Nat) : Cx := { T := T, isPure := a4U [], pureK := fun g ds K => a1L [] g ds K, memK := fun g dst ds m K => V6 [J1 N, ⟨118, c1N (b3f N)⟩] g dst ds m K, meth := a3k [], keep := fun r => match r with | 2 => [2, 15, 16, 17] | _ => [], keepX := fun r => match r with | 2 => [] | _ => [], loopT := fun r ds m K => match r with | 2 => a9M N ds m K | _ => none, jumps := 9 }
theorem b9g {R : Type} (N : Nat) (w : LB) (u d : Int) (l3 : LB) (L : List D -> Mem -> Option R) (K : Ex -> List D -> Mem -> Option R) :
 W3 (fun st K => codeK (a1p N) (s4 Tryz.f117 0) st K) 25 [2, 15, 16, 17] [] L [(.clos 118 [(.ptr 1 0 0)]), (dY w), (dI u), (dI d)] [[], [(0, ⟨128, [(.ptr 0 1 0)]⟩), (1, ⟨96, [(.v (.bytes l3) (.own (.slot 0) 5))]⟩)]] K = Z9 N w u (fun d l3 => L [(.clos 118 [(.ptr 1 0 0)]), (dY w), (dI u), (dI d)] [[], [(0, ⟨128, [(.ptr 0 1 0)]⟩), (1, ⟨96, [(.v (.bytes l3) (.own (.slot 0) 5))]⟩)]]) (fun a0 => K (.exit 0) [] [[], [(0, ⟨128, [(.ptr 0 1 0)]⟩), (1, ⟨96, [(.v (.bytes a0) (.own (.slot 0) 5))]⟩)]]) d l3 := by
 kernel_rfl
theorem a9d {R : Type} (N : Nat) (w : LB) (u : Int) (K : Ex -> List D -> Mem -> Option R) : ∀ (t : Nat) (d : Int) (l3 : LB),
 P1 (fun st K => codeK (a1p N) (s4 Tryz.f117 0) st K) 25 [2, 15, 16, 17] [] t [(.clos 118 [(.ptr 1 0 0)]), (dY w), (dI u), (dI d)] [[], [(0, ⟨128, [(.ptr 0 1 0)]⟩), (1, ⟨96, [(.v (.bytes l3) (.own (.slot 0) 5))]⟩)]] K = a2Z N w u t d l3 (fun a0 => K (.exit 0) [] [[], [(0, ⟨128, [(.ptr 0 1 0)]⟩), (1, ⟨96, [(.v (.bytes a0) (.own (.slot 0) 5))]⟩)]])
 | 0, d, l3 => rfl
 | t + 1, d, l3 => (b9g N w u d l3 _ K).trans (congrArg (fun L => Z9 N w u L (fun a0 => K (.exit 0) [] [[], [(0, ⟨128, [(.ptr 0 1 0)]⟩), (1, ⟨96, [(.v (.bytes a0) (.own (.slot 0) 5))]⟩)]]) d l3) (funext fun d => funext fun l3 => a9d N w u K t d l3))
theorem c4Q {R : Type} (N : Nat) (f U K : _) : M2 (R := R) (a1p N) Tryz.f117 [.ptr 1 1 0, dY f, .clos 118 [.ptr 1 0 0]] [J4 0 [⟨128, [.ptr 0 1 0]⟩, ⟨96, [.v (.bytes U) (.own (.slot 0) 5)]⟩]] (L8 K) = b9d N f U (fun z0 => K z0) := by
 kernel_rfl
abbrev c8s (s : LB -> LB -> Option (LB)) : Prop := ∀ {f U z0}, s f U = some z0 -> VR2 117 [.ptr 1 1 0, dY f, .clos 118 [.ptr 1 0 0]] [⟨128, [.ptr 0 1 0]⟩, ⟨96, [.v (.bytes U) (.own (.slot 0) 5)]⟩] [] [⟨128, [.ptr 0 1 0]⟩, ⟨96, [.v (.bytes z0) (.own (.slot 0) 5)]⟩]
theorem d4z (s : LB -> LB -> Option (LB)) (hs : c8s s) : MEO ⟨117, b9k s⟩ := by
 refine ⟨K6 Tryz.func117 (by kernel_rfl) (c := s6 Tryz.f117) (by kernel_rfl), fun R dst ds m K r h => ?_⟩
 simp only [b9k] at h
 split at h
 . split at h
   . rcases j8 h with ⟨hc, hq⟩ | ⟨_, hq⟩
     . clear h
       simp only [FS] at hc
       obtain ⟨c1, c2⟩ := hc
       have c1 := FM c1
       have c2 := FM c2
       subst c1 c2
       obtain ⟨Bs, a1, a2, a3, h⟩ := F9 hq
       split at h
       . rcases j8 h with ⟨hc, hk⟩ | ⟨_, hk⟩
         . simp only [FS] at hc
           obtain ⟨c3, c4⟩ := hc
           have c3 := FM c3
           have c4 := FM c4
           subst c3 c4
           obtain ⟨z0, h1, h2⟩ := L2 hk
           rw [F5] at h2
           exact ⟨_, _, h2, hs h1 _ _ m dst _ _ a1 a2 a3 rfl rfl ⟨G0 _ rfl, M8 _, a0S ⟨G0 _ rfl, trivial⟩, trivial⟩ (F2 rfl (J8 rfl) (F1 rfl)) (F2 rfl (J8 rfl) (F1 rfl))⟩
         . cases hk
       . cases h
     . cases hq
   . cases h
 . cases h
theorem d7x (N : Nat) : CxOK Tryz.prog (a1p N) :=
 M3 (es := []) (me := [J1 N, ⟨118, c1N (b3f N)⟩]) (ms := []) a7F trivial ⟨J7 N, d3w _ (e2x N), trivial⟩ trivial rfl (fun _ _ _ _ => rfl) (fun _ _ _ _ _ _ => rfl) rfl
theorem c5k (N : Nat) : p9 (a1p N) 25 (s4 Tryz.f117 0) := by
 refine j7 (rid := 2) (by kernel_rfl) rfl rfl fun R ds m K r h => ?_
 have h : a9M N ds m K = some r := h
 unfold a9M at h
 split at h
 . exact ⟨N, Gr (a9d ..) h⟩
 . cases h
theorem d5F (N : Nat) : B8 (a1p N) Tryz.f117.ntmps (s6 Tryz.f117) :=
 j6 (k := 1) (by kernel_rfl) ⟨trivial, c5k N⟩
open Classical in
theorem e2f (N : Nat) : c8s (a8K N) := fun {f U z0} h => by
 refine S7 (cx := a1p N) (by kernel_rfl) (d7x N) Tryz.func117 (by kernel_rfl) (by kernel_rfl) (d5F N) (by rfl) (rf := L8 (fun Z0 => some Z0)) (r := z0) ?_ ?_
 . exact (c4Q ..).trans h
 . intro rs' m' hx
   unfold L8 at hx
   split at hx
   . cases hx; exact ⟨rfl, rfl, _, rfl⟩
   . cases hx
def d3H {R : Type} (N : Nat) (f U : LB) (K0 : LB -> Option R) : Option R := j3 (a8K N f U) fun w => K0 w
def a9G (N : Nat) (f U : LB) : Option (LB) := d3H N f U (fun z0 => some z0)
def e1C (N : Nat) : Cx := cz [] [⟨117, b9k (a8K N)⟩, ⟨118, c1N (b3f N)⟩]
def b8H (N : Nat) : MEnt := vE 66 (.p 0 (.v .y .z)) [(96, [.o 5])] .z true (a9G N)
theorem b9l (N : Nat) : MEO (b8H N) := vk0 (cx := e1C N) (A9 trivial ⟨d4z _ (e2f N), d3w _ (e2x N), trivial⟩) Tryz.func66 (by kernel_rfl) fun h => by kernel_rfl
def a2q {R : Type} (N : Nat) (j : Int) (Ab : List V) (d : Int) (Lq : Int -> LB -> Option R) (K0 : LB -> Option R) (i : Int) (l4 : LB) : Option R := br (decide (i < d)) (br (decide (0 <= i) && decide (i < (Ab.length : Int))) (at? Ab i.toNat fun f => f.unAgg fun l1 => e9 l1 fun x2 l3 => V.unInt FK x2 fun x => e9 l3 fun x5 l6 => V.unInt FK x5 fun n7 => D2 l6 (br (decide (j = 1)) (j3 (a7v N x n7 l4) fun l8 => Lq (FK.wrap (i + 1)) l8) none)) none) (K0 l4)
def a5B {R : Type} (N : Nat) (j : Int) (Ab : List V) (d : Int) : Nat -> Int -> LB -> (LB -> Option R) -> Option R | 0, _, _, _ => none | t + 1, i, l4, K0 => a2q N j Ab d (fun i l4 => a5B N j Ab d t i l4 K0) K0 i l4
def b2n {R : Type} (N : Nat) (ds : List D) (m : Mem) (K : Ex -> List D -> Mem -> Option R) : Option R :=
 match ds, m with
 | [(.fn j [120] 1 0), (.v (.sl 42 Ab) .no), (.v (.int .i64 d) .no), (.v (.int .i64 i) .no)], mm6 l4 => a5B N j Ab d N i l4 (fun a0 => K (.exit 0) [] (mm6 a0))
 | _, _ => none
def d4h {R : Type} (N : Nat) (f : List V) (U : LB) (K0 : LB -> Option R) : Option R := j3 (H6 N [V.int FK (f.length : Int)] U) fun w => a5B N 1 f (f.length : Int) N 0 w fun l1 => K0 l1
def b8c (N : Nat) (f : List V) (U : LB) : Option (LB) := d4h N f U (fun z0 => some z0)
def c8F (N : Nat) : Cx := cl [] [J1 N, b3G N] [⟨2, [2, 15, 16, 17], [], b2n N⟩]
theorem d1G (N : Nat) : p9 (c8F N) 25 (s4 Tryz.f121 0) := by
 refine j7 (rid := 2) (by kernel_rfl) rfl rfl fun R ds m K r h => ?_
 change b2n N ds m K = _ at h
 unfold b2n at h
 split at h
 . rename_i j Ab d i l4
   exact ⟨N, Gr (lpI (fun (e : (LB -> Option R)) L (s : Int × LB) => a2q N j Ab d (fun i l4 => L (i, l4)) e s.1 s.2) (fun e t s => a5B N j Ab d t s.1 s.2 e) (fun s => [(.fn j [120] 1 0), (.v (.sl 42 Ab) .no), (.v (.int .i64 d) .no), (.v (.int .i64 s.1) .no)]) (fun s => mm6 s.2) (fun _ _ => rfl) (fun _ _ _ => rfl) (e := _) (fun L s => by kernel_rfl) N (i, l4)) h⟩
 . cases h
def d6Z (N : Nat) : MEnt := vE 121 (.p 0 (.v (.l 42) (.m 120 0 .z))) [(96, [.o 5])] .z true (b8c N)
theorem d9r (N : Nat) : MEO (d6Z N) := vk (cx := c8F N) (D4 trivial ⟨J7 N, b1T N, trivial⟩) Tryz.func121 (j6 (k := 1) (by kernel_rfl) ⟨trivial, d1G N⟩) (by kernel_rfl) fun h => by kernel_rfl
def a2M {R : Type} (N : Nat) (j : Int) (Ab : List V) (d : Int) (Lq : Int -> LB -> Option R) (K0 : LB -> Option R) (i : Int) (l4 : LB) : Option R := br (decide (i < d)) (br (decide (0 <= i) && decide (i < (Ab.length : Int))) (at? Ab i.toNat fun f => f.unAgg fun l1 => e9 l1 fun x2 l3 => V.unInt FK x2 fun x => e9 l3 fun x5 l6 => V.unInt FK x5 fun n7 => e9 l6 fun x8 l9 => V.unInt FK x8 fun na => D2 l9 (br (decide (j = 1)) (j3 (b4c N x n7 na l4) fun Ay => Lq (FK.wrap (i + 1)) Ay) none)) none) (K0 l4)
def a5L {R : Type} (N : Nat) (j : Int) (Ab : List V) (d : Int) : Nat -> Int -> LB -> (LB -> Option R) -> Option R | 0, _, _, _ => none | t + 1, i, l4, K0 => a2M N j Ab d (fun i l4 => a5L N j Ab d t i l4 K0) K0 i l4
def b5q {R : Type} (N : Nat) (ds : List D) (m : Mem) (K : Ex -> List D -> Mem -> Option R) : Option R :=
 match ds, m with
 | [(.fn j [74] 1 0), (.v (.sl 44 Ab) .no), (.v (.int .i64 d) .no), (.v (.int .i64 i) .no)], mm6 l4 => a5L N j Ab d N i l4 (fun a0 => K (.exit 0) [] (mm6 a0))
 | _, _ => none
def d7l {R : Type} (N : Nat) (f : List V) (U : LB) (K0 : LB -> Option R) : Option R := j3 (H6 N [V.int FK (f.length : Int)] U) fun w => a5L N 1 f (f.length : Int) N 0 w fun l1 => K0 l1
def a9Y (N : Nat) (f : List V) (U : LB) : Option (LB) := d7l N f U (fun z0 => some z0)
def c7w (N : Nat) : Cx := cl [] [J1 N, b5l N] [⟨2, [2, 15, 16, 17], [], b5q N⟩]
theorem d0q (N : Nat) : p9 (c7w N) 25 (s4 Tryz.f73 0) := by
 refine j7 (rid := 2) (by kernel_rfl) rfl rfl fun R ds m K r h => ?_
 change b5q N ds m K = _ at h
 unfold b5q at h
 split at h
 . rename_i j Ab d i l4
   exact ⟨N, Gr (lpI (fun (e : (LB -> Option R)) L (s : Int × LB) => a2M N j Ab d (fun i l4 => L (i, l4)) e s.1 s.2) (fun e t s => a5L N j Ab d t s.1 s.2 e) (fun s => [(.fn j [74] 1 0), (.v (.sl 44 Ab) .no), (.v (.int .i64 d) .no), (.v (.int .i64 s.1) .no)]) (fun s => mm6 s.2) (fun _ _ => rfl) (fun _ _ _ => rfl) (e := _) (fun L s => by kernel_rfl) N (i, l4)) h⟩
 . cases h
def c0i (N : Nat) : MEnt := vE 73 (.p 0 (.v (.l 44) (.m 74 0 .z))) [(96, [.o 5])] .z true (a9Y N)
theorem b8I (N : Nat) : MEO (c0i N) := vk (cx := c7w N) (D4 trivial ⟨J7 N, b1Q N, trivial⟩) Tryz.func73 (j6 (k := 1) (by kernel_rfl) ⟨trivial, d0q N⟩) (by kernel_rfl) fun h => by kernel_rfl
def a2K {R : Type} (N : Nat) (j : Int) (Ab : List V) (d : Int) (Lq : Int -> LB -> Option R) (K0 : LB -> Option R) (i : Int) (l4 : LB) : Option R := br (decide (i < d)) (br (decide (0 <= i) && decide (i < (Ab.length : Int))) (at? Ab i.toNat fun f => V.unInt FK f fun u => br (decide (j = 1)) (j3 (b9A N u l4) fun l2 => Lq (FK.wrap (i + 1)) l2) none) none) (K0 l4)
def a4T {R : Type} (N : Nat) (j : Int) (Ab : List V) (d : Int) : Nat -> Int -> LB -> (LB -> Option R) -> Option R | 0, _, _, _ => none | t + 1, i, l4, K0 => a2K N j Ab d (fun i l4 => a4T N j Ab d t i l4 K0) K0 i l4
def b3V {R : Type} (N : Nat) (ds : List D) (m : Mem) (K : Ex -> List D -> Mem -> Option R) : Option R :=
 match ds, m with
 | [(.fn j [123] 1 0), (.v (.sl 3 Ab) .no), (.v (.int .i64 d) .no), (.v (.int .i64 i) .no)], mm6 l4 => a4T N j Ab d N i l4 (fun a0 => K (.exit 0) [] (mm6 a0))
 | _, _ => none
def d5I {R : Type} (N : Nat) (f : List V) (U : LB) (K0 : LB -> Option R) : Option R := j3 (H6 N [V.int FK (f.length : Int)] U) fun w => a4T N 1 f (f.length : Int) N 0 w fun l1 => K0 l1
def b4o (N : Nat) (f : List V) (U : LB) : Option (LB) := d5I N f U (fun z0 => some z0)
def c8d (N : Nat) : Cx := cl [] [J1 N, b8L N] [⟨2, [2, 15, 16, 17], [], b3V N⟩]
theorem c9R (N : Nat) : p9 (c8d N) 25 (s4 Tryz.f122 0) := by
 refine j7 (rid := 2) (by kernel_rfl) rfl rfl fun R ds m K r h => ?_
 change b3V N ds m K = _ at h
 unfold b3V at h
 split at h
 . rename_i j Ab d i l4
   exact ⟨N, Gr (lpI (fun (e : (LB -> Option R)) L (s : Int × LB) => a2K N j Ab d (fun i l4 => L (i, l4)) e s.1 s.2) (fun e t s => a4T N j Ab d t s.1 s.2 e) (fun s => [(.fn j [123] 1 0), (.v (.sl 3 Ab) .no), (.v (.int .i64 d) .no), (.v (.int .i64 s.1) .no)]) (fun s => mm6 s.2) (fun _ _ => rfl) (fun _ _ _ => rfl) (e := _) (fun L s => by kernel_rfl) N (i, l4)) h⟩
 . cases h
def c5J (N : Nat) : MEnt := vE 122 (.p 0 (.v (.l 3) (.m 123 0 .z))) [(96, [.o 5])] .z true (b4o N)
theorem c8H (N : Nat) : MEO (c5J N) := vk (cx := c8d N) (D4 trivial ⟨J7 N, b9X N, trivial⟩) Tryz.func122 (j6 (k := 1) (by kernel_rfl) ⟨trivial, c9R N⟩) (by kernel_rfl) fun h => by kernel_rfl
def c1l {R : Type} (s : Int -> Int -> List V -> LB -> Option (LB)) (dst : Nat) (ds : List D) (m : Mem) (K : List D -> Mem -> Option R) : Option R :=
 match ds with
 | [.agg [dI f, dI x1, .v (.sl 3 x2) .no], .ptr (As + 1) Av 0] => (match m.box? As Av with
   | some ⟨_, [.ptr hk hs _]⟩ => cond (true) (a0u [(As, Av), (As + hk, hs)] m fun Bs => (match Bs with
     | [⟨128, [.ptr tk ts 0]⟩, ⟨96, [.v (.bytes U) (.own (.slot 0) 5)]⟩] => cond (FY hk tk && FY hs ts) (j3 (s f x1 x2 U) fun z0 => J6 [(As, Av), (As + hk, hs)] [⟨128, [.ptr hk hs 0]⟩, ⟨96, [.v (.bytes z0) (.own (.slot 0) 5)]⟩] m fun m' => K [] m') none
     | _ => none)) none
   | _ => none)
 | _ => none
def d2Q {R : Type} (N : Nat) (f x1 : Int) (x2 : List V) (U : LB) (K0 : LB -> Option R) : Option R := j3 (a7v N f x1 U) fun w => j3 (b4o N x2 w) fun l1 => K0 l1
def b5i (N : Nat) : Int -> Int -> List V -> LB -> Option (LB) := fun f x1 x2 U => d2Q N f x1 x2 U (fun z0 => some z0)
def d4S (N : Nat) : Cx := cxO [] [b3G N, c5J N, b8L N]
theorem d7n {R : Type} (N : Nat) (f x1 x2 U K : _) : M2 (R := R) (d4S N) Tryz.f125 [.agg [dI f, dI x1, .v (.sl 3 x2) .no], .ptr 1 0 0] [J4 0 [⟨128, [.ptr 0 1 0]⟩, ⟨96, [.v (.bytes U) (.own (.slot 0) 5)]⟩]] (L8 K) = d2Q N f x1 x2 U (fun z0 => K z0) := by
 kernel_rfl
abbrev e2H (s : Int -> Int -> List V -> LB -> Option (LB)) : Prop := ∀ {f x1 x2 U z0}, s f x1 x2 U = some z0 -> VR2 125 [.agg [dI f, dI x1, .v (.sl 3 x2) .no], .ptr 1 0 0] [⟨128, [.ptr 0 1 0]⟩, ⟨96, [.v (.bytes U) (.own (.slot 0) 5)]⟩] [] [⟨128, [.ptr 0 1 0]⟩, ⟨96, [.v (.bytes z0) (.own (.slot 0) 5)]⟩]
theorem d3u (s : Int -> Int -> List V -> LB -> Option (LB)) (hs : e2H s) : MEO ⟨125, c1l s⟩ := by
 refine ⟨K6 Tryz.func125 (by kernel_rfl) (c := s6 Tryz.f125) (by kernel_rfl), fun R dst ds m K r h => ?_⟩
 simp only [c1l] at h
 split at h
 . split at h
   . rcases j8 h with ⟨hc, hq⟩ | ⟨_, hq⟩
     . clear h
       obtain ⟨Bs, a1, a2, a3, h⟩ := F9 hq
       split at h
       . rcases j8 h with ⟨hc, hk⟩ | ⟨_, hk⟩
         . simp only [FS] at hc
           obtain ⟨c3, c4⟩ := hc
           have c3 := FM c3
           have c4 := FM c4
           subst c3 c4
           obtain ⟨z0, h1, h2⟩ := L2 hk
           rw [F5] at h2
           exact ⟨_, _, h2, hs h1 _ _ m dst _ _ a1 a2 a3 rfl rfl ⟨a5F ⟨M8 _, M8 _, M8 _, trivial⟩, G0 _ rfl, trivial⟩ (F2 rfl (J8 rfl) (F1 rfl)) (F2 rfl (J8 rfl) (F1 rfl))⟩
         . cases hk
       . cases h
     . cases hq
   . cases h
 . cases h
open Classical in
theorem e2B (N : Nat) : e2H (b5i N) := fun {f x1 x2 U z0} h => by
 refine S7 (cx := d4S N) (by kernel_rfl) (a9u trivial ⟨b1T N, c8H N, b9X N, trivial⟩) Tryz.func125 (by kernel_rfl) (by kernel_rfl) (lz (by kernel_rfl)) (by rfl) (rf := L8 (fun Z0 => some Z0)) (r := z0) ?_ ?_
 . exact (d7n ..).trans h
 . intro rs' m' hx
   unfold L8 at hx
   split at hx
   . cases hx; exact ⟨rfl, rfl, _, rfl⟩
   . cases hx
def b8f {R : Type} (s : List V -> LB -> Option (LB)) (dst : Nat) (ds : List D) (m : Mem) (K : List D -> Mem -> Option R) : Option R :=
 match ds with
 | [.ptr (Bf + 1) Bg 0, .v (.sl 105 f) .no, .clos 125 [.ptr (As + 1) Av 0]] => (match m.box? As Av with
   | some ⟨_, [.ptr hk hs _]⟩ => cond (FY Bf (As + hk) && FY Bg hs) (a0u [(As, Av), (As + hk, hs)] m fun Bs => (match Bs with
     | [⟨128, [.ptr tk ts 0]⟩, ⟨96, [.v (.bytes U) (.own (.slot 0) 5)]⟩] => cond (FY hk tk && FY hs ts) (j3 (s f U) fun z0 => J6 [(As, Av), (As + hk, hs)] [⟨128, [.ptr hk hs 0]⟩, ⟨96, [.v (.bytes z0) (.own (.slot 0) 5)]⟩] m fun m' => K [] m') none
     | _ => none)) none
   | _ => none)
 | _ => none
def Y4 {R : Type} (N : Nat) (Aa : List V) (u : Int) (Lq : Int -> LB -> Option R) (K0 : LB -> Option R) (d : Int) (l3 : LB) : Option R := br (decide (d < u)) (br (decide (0 <= d) && decide (d < (Aa.length : Int))) (at? Aa d.toNat fun f => f.unAgg fun l1 => e9 l1 fun x2 l3_1 => V.unInt FK x2 fun x => e9 l3_1 fun x5 l6 => V.unInt FK x5 fun n7 => e9 l6 fun x8 l9 => V.unSl 3 x8 fun la => D2 l9 (j3 (b5i N x n7 la l3) fun Ay => Lq (FK.wrap (d + 1)) Ay)) none) (K0 l3)
def a3A {R : Type} (N : Nat) (Aa : List V) (u : Int) : Nat -> Int -> LB -> (LB -> Option R) -> Option R | 0, _, _, _ => none | t + 1, d, l3, K0 => Y4 N Aa u (fun d l3 => a3A N Aa u t d l3 K0) K0 d l3
def a9X {R : Type} (N : Nat) (ds : List D) (m : Mem) (K : Ex -> List D -> Mem -> Option R) : Option R :=
 match ds, m with
 | [(.clos 125 [(.ptr 1 0 0)]), (.v (.sl 105 Aa) .no), (.v (.int .i64 u) .no), (.v (.int .i64 d) .no)], [[], [(0, ⟨128, [(.ptr 0 1 0)]⟩), (1, ⟨96, [(.v (.bytes l3) (.own (.slot 0) 5))]⟩)]] => a3A N Aa u N d l3 (fun a0 => K (.exit 0) [] [[], [(0, ⟨128, [(.ptr 0 1 0)]⟩), (1, ⟨96, [(.v (.bytes a0) (.own (.slot 0) 5))]⟩)]])
 | _, _ => none
def b9O {R : Type} (N : Nat) (f : List V) (U : LB) (K0 : LB -> Option R) : Option R := j3 (H6 N [V.int FK (f.length : Int)] U) fun w => a3A N f (f.length : Int) N 0 w fun l1 => K0 l1
def a8p (N : Nat) : List V -> LB -> Option (LB) := fun f U => b9O N f U (fun z0 => some z0)
def a1z (N : Nat) : Cx := { T := T, isPure := a4U [], pureK := fun g ds K => a1L [] g ds K, memK := fun g dst ds m K => V6 [J1 N, ⟨125, c1l (b5i N)⟩] g dst ds m K, meth := a3k [], keep := fun r => match r with | 2 => [2, 15, 16, 17] | _ => [], keepX := fun r => match r with | 2 => [] | _ => [], loopT := fun r ds m K => match r with | 2 => a9X N ds m K | _ => none, jumps := 9 }
theorem b9F {R : Type} (N : Nat) (Aa : List V) (u d : Int) (l3 : LB) (L : List D -> Mem -> Option R) (K : Ex -> List D -> Mem -> Option R) :
 W3 (fun st K => codeK (a1z N) (s4 Tryz.f124 0) st K) 25 [2, 15, 16, 17] [] L [(.clos 125 [(.ptr 1 0 0)]), (.v (.sl 105 Aa) .no), (dI u), (dI d)] [[], [(0, ⟨128, [(.ptr 0 1 0)]⟩), (1, ⟨96, [(.v (.bytes l3) (.own (.slot 0) 5))]⟩)]] K = Y4 N Aa u (fun d l3 => L [(.clos 125 [(.ptr 1 0 0)]), (.v (.sl 105 Aa) .no), (dI u), (dI d)] [[], [(0, ⟨128, [(.ptr 0 1 0)]⟩), (1, ⟨96, [(.v (.bytes l3) (.own (.slot 0) 5))]⟩)]]) (fun a0 => K (.exit 0) [] [[], [(0, ⟨128, [(.ptr 0 1 0)]⟩), (1, ⟨96, [(.v (.bytes a0) (.own (.slot 0) 5))]⟩)]]) d l3 := by
 kernel_rfl
theorem a8j {R : Type} (N : Nat) (Aa : List V) (u : Int) (K : Ex -> List D -> Mem -> Option R) : ∀ (t : Nat) (d : Int) (l3 : LB),
 P1 (fun st K => codeK (a1z N) (s4 Tryz.f124 0) st K) 25 [2, 15, 16, 17] [] t [(.clos 125 [(.ptr 1 0 0)]), (.v (.sl 105 Aa) .no), (dI u), (dI d)] [[], [(0, ⟨128, [(.ptr 0 1 0)]⟩), (1, ⟨96, [(.v (.bytes l3) (.own (.slot 0) 5))]⟩)]] K = a3A N Aa u t d l3 (fun a0 => K (.exit 0) [] [[], [(0, ⟨128, [(.ptr 0 1 0)]⟩), (1, ⟨96, [(.v (.bytes a0) (.own (.slot 0) 5))]⟩)]])
 | 0, d, l3 => rfl
 | t + 1, d, l3 => (b9F N Aa u d l3 _ K).trans (congrArg (fun L => Y4 N Aa u L (fun a0 => K (.exit 0) [] [[], [(0, ⟨128, [(.ptr 0 1 0)]⟩), (1, ⟨96, [(.v (.bytes a0) (.own (.slot 0) 5))]⟩)]]) d l3) (funext fun d => funext fun l3 => a8j N Aa u K t d l3))
theorem c4n {R : Type} (N : Nat) (f U K : _) : M2 (R := R) (a1z N) Tryz.f124 [.ptr 1 1 0, .v (.sl 105 f) .no, .clos 125 [.ptr 1 0 0]] [J4 0 [⟨128, [.ptr 0 1 0]⟩, ⟨96, [.v (.bytes U) (.own (.slot 0) 5)]⟩]] (L8 K) = b9O N f U (fun z0 => K z0) := by
 kernel_rfl
abbrev c8v (s : List V -> LB -> Option (LB)) : Prop := ∀ {f U z0}, s f U = some z0 -> VR2 124 [.ptr 1 1 0, .v (.sl 105 f) .no, .clos 125 [.ptr 1 0 0]] [⟨128, [.ptr 0 1 0]⟩, ⟨96, [.v (.bytes U) (.own (.slot 0) 5)]⟩] [] [⟨128, [.ptr 0 1 0]⟩, ⟨96, [.v (.bytes z0) (.own (.slot 0) 5)]⟩]
theorem d6D (s : List V -> LB -> Option (LB)) (hs : c8v s) : MEO ⟨124, b8f s⟩ := by
 refine ⟨K6 Tryz.func124 (by kernel_rfl) (c := s6 Tryz.f124) (by kernel_rfl), fun R dst ds m K r h => ?_⟩
 simp only [b8f] at h
 split at h
 . split at h
   . rcases j8 h with ⟨hc, hq⟩ | ⟨_, hq⟩
     . clear h
       simp only [FS] at hc
       obtain ⟨c1, c2⟩ := hc
       have c1 := FM c1
       have c2 := FM c2
       subst c1 c2
       obtain ⟨Bs, a1, a2, a3, h⟩ := F9 hq
       split at h
       . rcases j8 h with ⟨hc, hk⟩ | ⟨_, hk⟩
         . simp only [FS] at hc
           obtain ⟨c3, c4⟩ := hc
           have c3 := FM c3
           have c4 := FM c4
           subst c3 c4
           obtain ⟨z0, h1, h2⟩ := L2 hk
           rw [F5] at h2
           exact ⟨_, _, h2, hs h1 _ _ m dst _ _ a1 a2 a3 rfl rfl ⟨G0 _ rfl, M8 _, a0S ⟨G0 _ rfl, trivial⟩, trivial⟩ (F2 rfl (J8 rfl) (F1 rfl)) (F2 rfl (J8 rfl) (F1 rfl))⟩
         . cases hk
       . cases h
     . cases hq
   . cases h
 . cases h
theorem d5U (N : Nat) : CxOK Tryz.prog (a1z N) :=
 M3 (es := []) (me := [J1 N, ⟨125, c1l (b5i N)⟩]) (ms := []) a7F trivial ⟨J7 N, d3u _ (e2B N), trivial⟩ trivial rfl (fun _ _ _ _ => rfl) (fun _ _ _ _ _ _ => rfl) rfl
theorem c4s (N : Nat) : p9 (a1z N) 25 (s4 Tryz.f124 0) := by
 refine j7 (rid := 2) (by kernel_rfl) rfl rfl fun R ds m K r h => ?_
 have h : a9X N ds m K = some r := h
 unfold a9X at h
 split at h
 . exact ⟨N, Gr (a8j ..) h⟩
 . cases h
theorem d5r (N : Nat) : B8 (a1z N) Tryz.f124.ntmps (s6 Tryz.f124) :=
 j6 (k := 1) (by kernel_rfl) ⟨trivial, c4s N⟩
open Classical in
theorem e0Q (N : Nat) : c8v (a8p N) := fun {f U z0} h => by
 refine S7 (cx := a1z N) (by kernel_rfl) (d5U N) Tryz.func124 (by kernel_rfl) (by kernel_rfl) (d5r N) (by rfl) (rf := L8 (fun Z0 => some Z0)) (r := z0) ?_ ?_
 . exact (c4n ..).trans h
 . intro rs' m' hx
   unfold L8 at hx
   split at hx
   . cases hx; exact ⟨rfl, rfl, _, rfl⟩
   . cases hx
def c3F {R : Type} (N : Nat) (f x1 : Int) (x2 : Bool) (x3 x4 x5 x6 : List V) (U : LB) (K0 : LB -> Option R) : Option R := j3 (a6h N x2 1) fun j => j3 (H6 N [V.int FK j] U) fun l1 => j3 (a7v N f x1 l1) fun l2 => j3 (b8c N x3 l2) fun l3 => j3 (a9Y N x4 l3) fun l4 => j3 (b4o N x5 l4) fun l5 => j3 (a8p N x6 l5) fun l6 => K0 l6
def a8D (N : Nat) (f x1 : Int) (x2 : Bool) (x3 x4 x5 x6 : List V) (U : LB) : Option (LB) := c3F N f x1 x2 x3 x4 x5 x6 U (fun z0 => some z0)
def c9Y (N : Nat) : Cx := cz [b9a N] [J1 N, b3G N, d6Z N, c0i N, c5J N, ⟨124, b8f (a8p N)⟩, b5l N, b8L N, ⟨125, c1l (b5i N)⟩]
def b4Z (N : Nat) : MEnt := vE 70 sh8 [(96, [.o 5])] .z true (a8D N)
theorem b6X (N : Nat) : MEO (b4Z N) := vk0 (cx := c9Y N) (A9 ⟨c0S N, trivial⟩ ⟨J7 N, b1T N, d9r N, b8I N, c8H N, d6D _ (e0Q N), b1Q N, b9X N, d3u _ (e2B N), trivial⟩) Tryz.func70 (by kernel_rfl) fun h => by kernel_rfl
def c1E {R : Type} (s : Int -> Int -> Int -> Int -> LB -> Option (LB)) (dst : Nat) (ds : List D) (m : Mem) (K : List D -> Mem -> Option R) : Option R :=
 match ds with
 | [.agg [dI f, dI x1, dI x2, dI x3], .ptr (As + 1) Av 0] => (match m.box? As Av with
   | some ⟨_, [.ptr hk hs _]⟩ => cond (true) (a0u [(As, Av), (As + hk, hs)] m fun Bs => (match Bs with
     | [⟨128, [.ptr tk ts 0]⟩, ⟨96, [.v (.bytes U) (.own (.slot 0) 5)]⟩] => cond (FY hk tk && FY hs ts) (j3 (s f x1 x2 x3 U) fun z0 => J6 [(As, Av), (As + hk, hs)] [⟨128, [.ptr hk hs 0]⟩, ⟨96, [.v (.bytes z0) (.own (.slot 0) 5)]⟩] m fun m' => K [] m') none
     | _ => none)) none
   | _ => none)
 | _ => none
def d2R {R : Type} (N : Nat) (f x1 x2 x3 : Int) (U : LB) (K0 : LB -> Option R) : Option R := j3 (a4h N [V.int FK f, V.int FK x1, V.int FK x2, V.int FK x3] U) fun w => K0 w
def b5E (N : Nat) : Int -> Int -> Int -> Int -> LB -> Option (LB) := fun f x1 x2 x3 U => d2R N f x1 x2 x3 U (fun z0 => some z0)
def d4C (N : Nat) : Cx := cxO [] [b9V N]
theorem d2s {R : Type} (N : Nat) (f x1 x2 x3 U K : _) : M2 (R := R) (d4C N) Tryz.f128 [.agg [dI f, dI x1, dI x2, dI x3], .ptr 1 0 0] [J4 0 [⟨128, [.ptr 0 1 0]⟩, ⟨96, [.v (.bytes U) (.own (.slot 0) 5)]⟩]] (L8 K) = d2R N f x1 x2 x3 U (fun z0 => K z0) := by
 kernel_rfl
abbrev e2t (s : Int -> Int -> Int -> Int -> LB -> Option (LB)) : Prop := ∀ {f x1 x2 x3 U z0}, s f x1 x2 x3 U = some z0 -> VR2 128 [.agg [dI f, dI x1, dI x2, dI x3], .ptr 1 0 0] [⟨128, [.ptr 0 1 0]⟩, ⟨96, [.v (.bytes U) (.own (.slot 0) 5)]⟩] [] [⟨128, [.ptr 0 1 0]⟩, ⟨96, [.v (.bytes z0) (.own (.slot 0) 5)]⟩]
theorem d2g (s : Int -> Int -> Int -> Int -> LB -> Option (LB)) (hs : e2t s) : MEO ⟨128, c1E s⟩ := by
 refine ⟨K6 Tryz.func128 (by kernel_rfl) (c := s6 Tryz.f128) (by kernel_rfl), fun R dst ds m K r h => ?_⟩
 simp only [c1E] at h
 split at h
 . split at h
   . rcases j8 h with ⟨hc, hq⟩ | ⟨_, hq⟩
     . clear h
       obtain ⟨Bs, a1, a2, a3, h⟩ := F9 hq
       split at h
       . rcases j8 h with ⟨hc, hk⟩ | ⟨_, hk⟩
         . simp only [FS] at hc
           obtain ⟨c3, c4⟩ := hc
           have c3 := FM c3
           have c4 := FM c4
           subst c3 c4
           obtain ⟨z0, h1, h2⟩ := L2 hk
           rw [F5] at h2
           exact ⟨_, _, h2, hs h1 _ _ m dst _ _ a1 a2 a3 rfl rfl ⟨a5F ⟨M8 _, M8 _, M8 _, M8 _, trivial⟩, G0 _ rfl, trivial⟩ (F2 rfl (J8 rfl) (F1 rfl)) (F2 rfl (J8 rfl) (F1 rfl))⟩
         . cases hk
       . cases h
     . cases hq
   . cases h
 . cases h
open Classical in
theorem e2R (N : Nat) : e2t (b5E N) := fun {f x1 x2 x3 U z0} h => by
 refine S7 (cx := d4C N) (by kernel_rfl) (a9u trivial ⟨c2o N, trivial⟩) Tryz.func128 (by kernel_rfl) (by kernel_rfl) (lz (by kernel_rfl)) (by rfl) (rf := L8 (fun Z0 => some Z0)) (r := z0) ?_ ?_
 . exact (d2s ..).trans h
 . intro rs' m' hx
   unfold L8 at hx
   split at hx
   . cases hx; exact ⟨rfl, rfl, _, rfl⟩
   . cases hx
def c5w {R : Type} (s : List V -> LB -> Option (LB)) (dst : Nat) (ds : List D) (m : Mem) (K : List D -> Mem -> Option R) : Option R :=
 match ds with
 | [.ptr (Bf + 1) Bg 0, .v (.sl 107 f) .no, .clos 128 [.ptr (As + 1) Av 0]] => (match m.box? As Av with
   | some ⟨_, [.ptr hk hs _]⟩ => cond (FY Bf (As + hk) && FY Bg hs) (a0u [(As, Av), (As + hk, hs)] m fun Bs => (match Bs with
     | [⟨128, [.ptr tk ts 0]⟩, ⟨96, [.v (.bytes U) (.own (.slot 0) 5)]⟩] => cond (FY hk tk && FY hs ts) (j3 (s f U) fun z0 => J6 [(As, Av), (As + hk, hs)] [⟨128, [.ptr hk hs 0]⟩, ⟨96, [.v (.bytes z0) (.own (.slot 0) 5)]⟩] m fun m' => K [] m') none
     | _ => none)) none
   | _ => none)
 | _ => none
def a1w {R : Type} (N : Nat) (Aa : List V) (u : Int) (Lq : Int -> LB -> Option R) (K0 : LB -> Option R) (d : Int) (l3 : LB) : Option R := br (decide (d < u)) (br (decide (0 <= d) && decide (d < (Aa.length : Int))) (at? Aa d.toNat fun f => f.unAgg fun l1 => e9 l1 fun x2 l3_1 => V.unInt FK x2 fun x => e9 l3_1 fun x5 l6 => V.unInt FK x5 fun n7 => e9 l6 fun x8 l9 => V.unInt FK x8 fun na => e9 l9 fun xb Ax => V.unInt FK xb fun nd => D2 Ax (j3 (b5E N x n7 na nd l3) fun AL => Lq (FK.wrap (d + 1)) AL)) none) (K0 l3)
def a5U {R : Type} (N : Nat) (Aa : List V) (u : Int) : Nat -> Int -> LB -> (LB -> Option R) -> Option R | 0, _, _, _ => none | t + 1, d, l3, K0 => a1w N Aa u (fun d l3 => a5U N Aa u t d l3 K0) K0 d l3
def b4t {R : Type} (N : Nat) (ds : List D) (m : Mem) (K : Ex -> List D -> Mem -> Option R) : Option R :=
 match ds, m with
 | [(.clos 128 [(.ptr 1 0 0)]), (.v (.sl 107 Aa) .no), (.v (.int .i64 u) .no), (.v (.int .i64 d) .no)], [[], [(0, ⟨128, [(.ptr 0 1 0)]⟩), (1, ⟨96, [(.v (.bytes l3) (.own (.slot 0) 5))]⟩)]] => a5U N Aa u N d l3 (fun a0 => K (.exit 0) [] [[], [(0, ⟨128, [(.ptr 0 1 0)]⟩), (1, ⟨96, [(.v (.bytes a0) (.own (.slot 0) 5))]⟩)]])
 | _, _ => none
def c4p {R : Type} (N : Nat) (f : List V) (U : LB) (K0 : LB -> Option R) : Option R := j3 (H6 N [V.int FK (f.length : Int)] U) fun w => a5U N f (f.length : Int) N 0 w fun l1 => K0 l1
def b3e (N : Nat) : List V -> LB -> Option (LB) := fun f U => c4p N f U (fun z0 => some z0)
def a4r (N : Nat) : Cx := { T := T, isPure := a4U [], pureK := fun g ds K => a1L [] g ds K, memK := fun g dst ds m K => V6 [J1 N, ⟨128, c1E (b5E N)⟩] g dst ds m K, meth := a3k [], keep := fun r => match r with | 2 => [2, 15, 16, 17] | _ => [], keepX := fun r => match r with | 2 => [] | _ => [], loopT := fun r ds m K => match r with | 2 => b4t N ds m K | _ => none, jumps := 9 }
theorem c0D {R : Type} (N : Nat) (Aa : List V) (u d : Int) (l3 : LB) (L : List D -> Mem -> Option R) (K : Ex -> List D -> Mem -> Option R) :
 W3 (fun st K => codeK (a4r N) (s4 Tryz.f127 0) st K) 25 [2, 15, 16, 17] [] L [(.clos 128 [(.ptr 1 0 0)]), (.v (.sl 107 Aa) .no), (dI u), (dI d)] [[], [(0, ⟨128, [(.ptr 0 1 0)]⟩), (1, ⟨96, [(.v (.bytes l3) (.own (.slot 0) 5))]⟩)]] K = a1w N Aa u (fun d l3 => L [(.clos 128 [(.ptr 1 0 0)]), (.v (.sl 107 Aa) .no), (dI u), (dI d)] [[], [(0, ⟨128, [(.ptr 0 1 0)]⟩), (1, ⟨96, [(.v (.bytes l3) (.own (.slot 0) 5))]⟩)]]) (fun a0 => K (.exit 0) [] [[], [(0, ⟨128, [(.ptr 0 1 0)]⟩), (1, ⟨96, [(.v (.bytes a0) (.own (.slot 0) 5))]⟩)]]) d l3 := by
 kernel_rfl
theorem b0P {R : Type} (N : Nat) (Aa : List V) (u : Int) (K : Ex -> List D -> Mem -> Option R) : ∀ (t : Nat) (d : Int) (l3 : LB),
 P1 (fun st K => codeK (a4r N) (s4 Tryz.f127 0) st K) 25 [2, 15, 16, 17] [] t [(.clos 128 [(.ptr 1 0 0)]), (.v (.sl 107 Aa) .no), (dI u), (dI d)] [[], [(0, ⟨128, [(.ptr 0 1 0)]⟩), (1, ⟨96, [(.v (.bytes l3) (.own (.slot 0) 5))]⟩)]] K = a5U N Aa u t d l3 (fun a0 => K (.exit 0) [] [[], [(0, ⟨128, [(.ptr 0 1 0)]⟩), (1, ⟨96, [(.v (.bytes a0) (.own (.slot 0) 5))]⟩)]])
 | 0, d, l3 => rfl
 | t + 1, d, l3 => (c0D N Aa u d l3 _ K).trans (congrArg (fun L => a1w N Aa u L (fun a0 => K (.exit 0) [] [[], [(0, ⟨128, [(.ptr 0 1 0)]⟩), (1, ⟨96, [(.v (.bytes a0) (.own (.slot 0) 5))]⟩)]]) d l3) (funext fun d => funext fun l3 => b0P N Aa u K t d l3))
theorem d0r {R : Type} (N : Nat) (f U K : _) : M2 (R := R) (a4r N) Tryz.f127 [.ptr 1 1 0, .v (.sl 107 f) .no, .clos 128 [.ptr 1 0 0]] [J4 0 [⟨128, [.ptr 0 1 0]⟩, ⟨96, [.v (.bytes U) (.own (.slot 0) 5)]⟩]] (L8 K) = c4p N f U (fun z0 => K z0) := by
 kernel_rfl
abbrev d6c (s : List V -> LB -> Option (LB)) : Prop := ∀ {f U z0}, s f U = some z0 -> VR2 127 [.ptr 1 1 0, .v (.sl 107 f) .no, .clos 128 [.ptr 1 0 0]] [⟨128, [.ptr 0 1 0]⟩, ⟨96, [.v (.bytes U) (.own (.slot 0) 5)]⟩] [] [⟨128, [.ptr 0 1 0]⟩, ⟨96, [.v (.bytes z0) (.own (.slot 0) 5)]⟩]
theorem d8R (s : List V -> LB -> Option (LB)) (hs : d6c s) : MEO ⟨127, c5w s⟩ := by
 refine ⟨K6 Tryz.func127 (by kernel_rfl) (c := s6 Tryz.f127) (by kernel_rfl), fun R dst ds m K r h => ?_⟩
 simp only [c5w] at h
 split at h
 . split at h
   . rcases j8 h with ⟨hc, hq⟩ | ⟨_, hq⟩
     . clear h
       simp only [FS] at hc
       obtain ⟨c1, c2⟩ := hc
       have c1 := FM c1
       have c2 := FM c2
       subst c1 c2
       obtain ⟨Bs, a1, a2, a3, h⟩ := F9 hq
       split at h
       . rcases j8 h with ⟨hc, hk⟩ | ⟨_, hk⟩
         . simp only [FS] at hc
           obtain ⟨c3, c4⟩ := hc
           have c3 := FM c3
           have c4 := FM c4
           subst c3 c4
           obtain ⟨z0, h1, h2⟩ := L2 hk
           rw [F5] at h2
           exact ⟨_, _, h2, hs h1 _ _ m dst _ _ a1 a2 a3 rfl rfl ⟨G0 _ rfl, M8 _, a0S ⟨G0 _ rfl, trivial⟩, trivial⟩ (F2 rfl (J8 rfl) (F1 rfl)) (F2 rfl (J8 rfl) (F1 rfl))⟩
         . cases hk
       . cases h
     . cases hq
   . cases h
 . cases h
theorem d8t (N : Nat) : CxOK Tryz.prog (a4r N) :=
 M3 (es := []) (me := [J1 N, ⟨128, c1E (b5E N)⟩]) (ms := []) a7F trivial ⟨J7 N, d2g _ (e2R N), trivial⟩ trivial rfl (fun _ _ _ _ => rfl) (fun _ _ _ _ _ _ => rfl) rfl
theorem d1W (N : Nat) : p9 (a4r N) 25 (s4 Tryz.f127 0) := by
 refine j7 (rid := 2) (by kernel_rfl) rfl rfl fun R ds m K r h => ?_
 have h : b4t N ds m K = some r := h
 unfold b4t at h
 split at h
 . exact ⟨N, Gr (b0P ..) h⟩
 . cases h
theorem e0v (N : Nat) : B8 (a4r N) Tryz.f127.ntmps (s6 Tryz.f127) :=
 j6 (k := 1) (by kernel_rfl) ⟨trivial, d1W N⟩
open Classical in
theorem e3L (N : Nat) : d6c (b3e N) := fun {f U z0} h => by
 refine S7 (cx := a4r N) (by kernel_rfl) (d8t N) Tryz.func127 (by kernel_rfl) (by kernel_rfl) (e0v N) (by rfl) (rf := L8 (fun Z0 => some Z0)) (r := z0) ?_ ?_
 . exact (d0r ..).trans h
 . intro rs' m' hx
   unfold L8 at hx
   split at hx
   . cases hx; exact ⟨rfl, rfl, _, rfl⟩
   . cases hx
def b6n {R : Type} (N : Nat) (f x1 : Bool) (x2 : Int) (x3 : List V) (x4 x5 x6 x7 x8 : Int) (x9 xa : List V) (U : LB) (K0 : LB -> Option R) : Option R := j3 (a6h N f 1) fun j => j3 (a6h N x1 2) fun u => j3 (H6 N [V.int FK (FK.wrap (j + u)), V.int FK x2] U) fun l2 => j3 (a9Y N x3 l2) fun l3 => j3 (b4c N x4 x5 x6 l3) fun l4 => j3 (H6 N [V.int FK x7, V.int FK x8] l4) fun l5 => s7 (a3a N x9) fun l6 n7 => j3 (a4h N [V.int FK (l6.length : Int)] l5) fun l8 => br (decide ((l8.length + l6.length) * 1 <= 140737488355328)) (j3 (b3e N xa (l8 ++ l6)) fun l9 => K0 l9) none
def a6y (N : Nat) (f x1 : Bool) (x2 : Int) (x3 : List V) (x4 x5 x6 x7 x8 : Int) (x9 xa : List V) (U : LB) : Option (LB) := b6n N f x1 x2 x3 x4 x5 x6 x7 x8 x9 xa U (fun z0 => some z0)
def c6q (N : Nat) : Cx := cz [b9a N, a9I N] [J1 N, b5l N, b9V N, c0i N, ⟨127, c5w (b3e N)⟩, ⟨128, c1E (b5E N)⟩] true
def b0k (N : Nat) : MEnt := vE 72 sh9 [(96, [.o 5])] .z true (a6y N)
theorem b5y (N : Nat) : MEO (b0k N) := vk0 (cx := c6q N) (A9 ⟨c0S N, b4A N, trivial⟩ ⟨J7 N, b1Q N, c2o N, b8I N, d8R _ (e3L N), d2g _ (e2R N), trivial⟩) Tryz.func72 (by kernel_rfl) fun h => by kernel_rfl
def c0X {R : Type} (s : LB -> Int -> Int -> LB -> Option (LB)) (dst : Nat) (ds : List D) (m : Mem) (K : List D -> Mem -> Option R) : Option R :=
 match ds with
 | [.agg [dY f, dI x1, dI x2], .ptr (As + 1) Av 0] => (match m.box? As Av with
   | some ⟨_, [.ptr hk hs _]⟩ => cond (true) (a0u [(As, Av), (As + hk, hs)] m fun Bs => (match Bs with
     | [⟨128, [.ptr tk ts 0]⟩, ⟨96, [.v (.bytes U) (.own (.slot 0) 5)]⟩] => cond (FY hk tk && FY hs ts) (j3 (s f x1 x2 U) fun z0 => J6 [(As, Av), (As + hk, hs)] [⟨128, [.ptr hk hs 0]⟩, ⟨96, [.v (.bytes z0) (.own (.slot 0) 5)]⟩] m fun m' => K [] m') none
     | _ => none)) none
   | _ => none)
 | _ => none
def d7i {R : Type} (N : Nat) (f : LB) (x1 x2 : Int) (U : LB) (K0 : LB -> Option R) : Option R := j3 (a9G N f U) fun w => j3 (H6 N [V.int FK x1, V.int FK x2] w) fun l1 => K0 l1
def b5s (N : Nat) : LB -> Int -> Int -> LB -> Option (LB) := fun f x1 x2 U => d7i N f x1 x2 U (fun z0 => some z0)
def d4B (N : Nat) : Cx := cxO [] [b8H N, J1 N]
theorem d3X {R : Type} (N : Nat) (f x1 x2 U K : _) : M2 (R := R) (d4B N) Tryz.f68 [.agg [dY f, dI x1, dI x2], .ptr 1 0 0] [J4 0 [⟨128, [.ptr 0 1 0]⟩, ⟨96, [.v (.bytes U) (.own (.slot 0) 5)]⟩]] (L8 K) = d7i N f x1 x2 U (fun z0 => K z0) := by
 kernel_rfl
abbrev e2N (s : LB -> Int -> Int -> LB -> Option (LB)) : Prop := ∀ {f x1 x2 U z0}, s f x1 x2 U = some z0 -> VR2 68 [.agg [dY f, dI x1, dI x2], .ptr 1 0 0] [⟨128, [.ptr 0 1 0]⟩, ⟨96, [.v (.bytes U) (.own (.slot 0) 5)]⟩] [] [⟨128, [.ptr 0 1 0]⟩, ⟨96, [.v (.bytes z0) (.own (.slot 0) 5)]⟩]
theorem d6V (s : LB -> Int -> Int -> LB -> Option (LB)) (hs : e2N s) : MEO ⟨68, c0X s⟩ := by
 refine ⟨K6 Tryz.func68 (by kernel_rfl) (c := s6 Tryz.f68) (by kernel_rfl), fun R dst ds m K r h => ?_⟩
 simp only [c0X] at h
 split at h
 . split at h
   . rcases j8 h with ⟨hc, hq⟩ | ⟨_, hq⟩
     . clear h
       obtain ⟨Bs, a1, a2, a3, h⟩ := F9 hq
       split at h
       . rcases j8 h with ⟨hc, hk⟩ | ⟨_, hk⟩
         . simp only [FS] at hc
           obtain ⟨c3, c4⟩ := hc
           have c3 := FM c3
           have c4 := FM c4
           subst c3 c4
           obtain ⟨z0, h1, h2⟩ := L2 hk
           rw [F5] at h2
           exact ⟨_, _, h2, hs h1 _ _ m dst _ _ a1 a2 a3 rfl rfl ⟨a5F ⟨M8 _, M8 _, M8 _, trivial⟩, G0 _ rfl, trivial⟩ (F2 rfl (J8 rfl) (F1 rfl)) (F2 rfl (J8 rfl) (F1 rfl))⟩
         . cases hk
       . cases h
     . cases hq
   . cases h
 . cases h
open Classical in
theorem e2F (N : Nat) : e2N (b5s N) := fun {f x1 x2 U z0} h => by
 refine S7 (cx := d4B N) (by kernel_rfl) (a9u trivial ⟨b9l N, J7 N, trivial⟩) Tryz.func68 (by kernel_rfl) (by kernel_rfl) (lz (by kernel_rfl)) (by rfl) (rf := L8 (fun Z0 => some Z0)) (r := z0) ?_ ?_
 . exact (d3X ..).trans h
 . intro rs' m' hx
   unfold L8 at hx
   split at hx
   . cases hx; exact ⟨rfl, rfl, _, rfl⟩
   . cases hx
def c4I {R : Type} (s : List V -> LB -> Option (LB)) (dst : Nat) (ds : List D) (m : Mem) (K : List D -> Mem -> Option R) : Option R :=
 match ds with
 | [.ptr (Bf + 1) Bg 0, .v (.sl 58 f) .no, .clos 68 [.ptr (As + 1) Av 0]] => (match m.box? As Av with
   | some ⟨_, [.ptr hk hs _]⟩ => cond (FY Bf (As + hk) && FY Bg hs) (a0u [(As, Av), (As + hk, hs)] m fun Bs => (match Bs with
     | [⟨128, [.ptr tk ts 0]⟩, ⟨96, [.v (.bytes U) (.own (.slot 0) 5)]⟩] => cond (FY hk tk && FY hs ts) (j3 (s f U) fun z0 => J6 [(As, Av), (As + hk, hs)] [⟨128, [.ptr hk hs 0]⟩, ⟨96, [.v (.bytes z0) (.own (.slot 0) 5)]⟩] m fun m' => K [] m') none
     | _ => none)) none
   | _ => none)
 | _ => none
def a1y {R : Type} (N : Nat) (Aa : List V) (u : Int) (Lq : Int -> LB -> Option R) (K0 : LB -> Option R) (d : Int) (l3 : LB) : Option R := br (decide (d < u)) (br (decide (0 <= d) && decide (d < (Aa.length : Int))) (at? Aa d.toNat fun f => f.unAgg fun l1 => e9 l1 fun x2 l3_1 => x2.unBytes fun l4 => e9 l3_1 fun x5 l6 => V.unInt FK x5 fun n7 => e9 l6 fun x8 l9 => V.unInt FK x8 fun na => D2 l9 (j3 (b5s N l4 n7 na l3) fun Ay => Lq (FK.wrap (d + 1)) Ay)) none) (K0 l3)
def a5c {R : Type} (N : Nat) (Aa : List V) (u : Int) : Nat -> Int -> LB -> (LB -> Option R) -> Option R | 0, _, _, _ => none | t + 1, d, l3, K0 => a1y N Aa u (fun d l3 => a5c N Aa u t d l3 K0) K0 d l3
def b4y {R : Type} (N : Nat) (ds : List D) (m : Mem) (K : Ex -> List D -> Mem -> Option R) : Option R :=
 match ds, m with
 | [(.clos 68 [(.ptr 1 0 0)]), (.v (.sl 58 Aa) .no), (.v (.int .i64 u) .no), (.v (.int .i64 d) .no)], [[], [(0, ⟨128, [(.ptr 0 1 0)]⟩), (1, ⟨96, [(.v (.bytes l3) (.own (.slot 0) 5))]⟩)]] => a5c N Aa u N d l3 (fun a0 => K (.exit 0) [] [[], [(0, ⟨128, [(.ptr 0 1 0)]⟩), (1, ⟨96, [(.v (.bytes a0) (.own (.slot 0) 5))]⟩)]])
 | _, _ => none
def c5x {R : Type} (N : Nat) (f : List V) (U : LB) (K0 : LB -> Option R) : Option R := j3 (H6 N [V.int FK (f.length : Int)] U) fun w => a5c N f (f.length : Int) N 0 w fun l1 => K0 l1
def b5A (N : Nat) : List V -> LB -> Option (LB) := fun f U => c5x N f U (fun z0 => some z0)
def a4d (N : Nat) : Cx := { T := T, isPure := a4U [], pureK := fun g ds K => a1L [] g ds K, memK := fun g dst ds m K => V6 [J1 N, ⟨68, c0X (b5s N)⟩] g dst ds m K, meth := a3k [], keep := fun r => match r with | 2 => [2, 15, 16, 17] | _ => [], keepX := fun r => match r with | 2 => [] | _ => [], loopT := fun r ds m K => match r with | 2 => b4y N ds m K | _ => none, jumps := 9 }
theorem c1h {R : Type} (N : Nat) (Aa : List V) (u d : Int) (l3 : LB) (L : List D -> Mem -> Option R) (K : Ex -> List D -> Mem -> Option R) :
 W3 (fun st K => codeK (a4d N) (s4 Tryz.f67 0) st K) 25 [2, 15, 16, 17] [] L [(.clos 68 [(.ptr 1 0 0)]), (.v (.sl 58 Aa) .no), (dI u), (dI d)] [[], [(0, ⟨128, [(.ptr 0 1 0)]⟩), (1, ⟨96, [(.v (.bytes l3) (.own (.slot 0) 5))]⟩)]] K = a1y N Aa u (fun d l3 => L [(.clos 68 [(.ptr 1 0 0)]), (.v (.sl 58 Aa) .no), (dI u), (dI d)] [[], [(0, ⟨128, [(.ptr 0 1 0)]⟩), (1, ⟨96, [(.v (.bytes l3) (.own (.slot 0) 5))]⟩)]]) (fun a0 => K (.exit 0) [] [[], [(0, ⟨128, [(.ptr 0 1 0)]⟩), (1, ⟨96, [(.v (.bytes a0) (.own (.slot 0) 5))]⟩)]]) d l3 := by
 kernel_rfl
theorem b0S {R : Type} (N : Nat) (Aa : List V) (u : Int) (K : Ex -> List D -> Mem -> Option R) : ∀ (t : Nat) (d : Int) (l3 : LB),
 P1 (fun st K => codeK (a4d N) (s4 Tryz.f67 0) st K) 25 [2, 15, 16, 17] [] t [(.clos 68 [(.ptr 1 0 0)]), (.v (.sl 58 Aa) .no), (dI u), (dI d)] [[], [(0, ⟨128, [(.ptr 0 1 0)]⟩), (1, ⟨96, [(.v (.bytes l3) (.own (.slot 0) 5))]⟩)]] K = a5c N Aa u t d l3 (fun a0 => K (.exit 0) [] [[], [(0, ⟨128, [(.ptr 0 1 0)]⟩), (1, ⟨96, [(.v (.bytes a0) (.own (.slot 0) 5))]⟩)]])
 | 0, d, l3 => rfl
 | t + 1, d, l3 => (c1h N Aa u d l3 _ K).trans (congrArg (fun L => a1y N Aa u L (fun a0 => K (.exit 0) [] [[], [(0, ⟨128, [(.ptr 0 1 0)]⟩), (1, ⟨96, [(.v (.bytes a0) (.own (.slot 0) 5))]⟩)]]) d l3) (funext fun d => funext fun l3 => b0S N Aa u K t d l3))
theorem d1A {R : Type} (N : Nat) (f U K : _) : M2 (R := R) (a4d N) Tryz.f67 [.ptr 1 1 0, .v (.sl 58 f) .no, .clos 68 [.ptr 1 0 0]] [J4 0 [⟨128, [.ptr 0 1 0]⟩, ⟨96, [.v (.bytes U) (.own (.slot 0) 5)]⟩]] (L8 K) = c5x N f U (fun z0 => K z0) := by
 kernel_rfl
abbrev d2t (s : List V -> LB -> Option (LB)) : Prop := ∀ {f U z0}, s f U = some z0 -> VR2 67 [.ptr 1 1 0, .v (.sl 58 f) .no, .clos 68 [.ptr 1 0 0]] [⟨128, [.ptr 0 1 0]⟩, ⟨96, [.v (.bytes U) (.own (.slot 0) 5)]⟩] [] [⟨128, [.ptr 0 1 0]⟩, ⟨96, [.v (.bytes z0) (.own (.slot 0) 5)]⟩]
theorem d9p (s : List V -> LB -> Option (LB)) (hs : d2t s) : MEO ⟨67, c4I s⟩ := by
 refine ⟨K6 Tryz.func67 (by kernel_rfl) (c := s6 Tryz.f67) (by kernel_rfl), fun R dst ds m K r h => ?_⟩
 simp only [c4I] at h
 split at h
 . split at h
   . rcases j8 h with ⟨hc, hq⟩ | ⟨_, hq⟩
     . clear h
       simp only [FS] at hc
       obtain ⟨c1, c2⟩ := hc
       have c1 := FM c1
       have c2 := FM c2
       subst c1 c2
       obtain ⟨Bs, a1, a2, a3, h⟩ := F9 hq
       split at h
       . rcases j8 h with ⟨hc, hk⟩ | ⟨_, hk⟩
         . simp only [FS] at hc
           obtain ⟨c3, c4⟩ := hc
           have c3 := FM c3
           have c4 := FM c4
           subst c3 c4
           obtain ⟨z0, h1, h2⟩ := L2 hk
           rw [F5] at h2
           exact ⟨_, _, h2, hs h1 _ _ m dst _ _ a1 a2 a3 rfl rfl ⟨G0 _ rfl, M8 _, a0S ⟨G0 _ rfl, trivial⟩, trivial⟩ (F2 rfl (J8 rfl) (F1 rfl)) (F2 rfl (J8 rfl) (F1 rfl))⟩
         . cases hk
       . cases h
     . cases hq
   . cases h
 . cases h
theorem d8G (N : Nat) : CxOK Tryz.prog (a4d N) :=
 M3 (es := []) (me := [J1 N, ⟨68, c0X (b5s N)⟩]) (ms := []) a7F trivial ⟨J7 N, d6V _ (e2F N), trivial⟩ trivial rfl (fun _ _ _ _ => rfl) (fun _ _ _ _ _ _ => rfl) rfl
theorem d1x (N : Nat) : p9 (a4d N) 25 (s4 Tryz.f67 0) := by
 refine j7 (rid := 2) (by kernel_rfl) rfl rfl fun R ds m K r h => ?_
 have h : b4y N ds m K = some r := h
 unfold b4y at h
 split at h
 . exact ⟨N, Gr (b0S ..) h⟩
 . cases h
theorem e1U (N : Nat) : B8 (a4d N) Tryz.f67.ntmps (s6 Tryz.f67) :=
 j6 (k := 1) (by kernel_rfl) ⟨trivial, d1x N⟩
open Classical in
theorem e3S (N : Nat) : d2t (b5A N) := fun {f U z0} h => by
 refine S7 (cx := a4d N) (by kernel_rfl) (d8G N) Tryz.func67 (by kernel_rfl) (by kernel_rfl) (e1U N) (by rfl) (rf := L8 (fun Z0 => some Z0)) (r := z0) ?_ ?_
 . exact (d1A ..).trans h
 . intro rs' m' hx
   unfold L8 at hx
   split at hx
   . cases hx; exact ⟨rfl, rfl, _, rfl⟩
   . cases hx
def c2p {R : Type} (s : LB -> Int -> Int -> LB -> Option (LB)) (dst : Nat) (ds : List D) (m : Mem) (K : List D -> Mem -> Option R) : Option R :=
 match ds with
 | [.agg [dY f, dI x1, dI x2], .ptr (As + 1) Av 0] => (match m.box? As Av with
   | some ⟨_, [.ptr hk hs _]⟩ => cond (true) (a0u [(As, Av), (As + hk, hs)] m fun Bs => (match Bs with
     | [⟨128, [.ptr tk ts 0]⟩, ⟨96, [.v (.bytes U) (.own (.slot 0) 5)]⟩] => cond (FY hk tk && FY hs ts) (j3 (s f x1 x2 U) fun z0 => J6 [(As, Av), (As + hk, hs)] [⟨128, [.ptr hk hs 0]⟩, ⟨96, [.v (.bytes z0) (.own (.slot 0) 5)]⟩] m fun m' => K [] m') none
     | _ => none)) none
   | _ => none)
 | _ => none
def d6T {R : Type} (N : Nat) (f : LB) (x1 x2 : Int) (U : LB) (K0 : LB -> Option R) : Option R := j3 (a9G N f U) fun w => j3 (H6 N [V.int FK x1, V.int FK x2] w) fun l1 => K0 l1
def b2Y (N : Nat) : LB -> Int -> Int -> LB -> Option (LB) := fun f x1 x2 U => d6T N f x1 x2 U (fun z0 => some z0)
def d4l (N : Nat) : Cx := cxO [] [b8H N, J1 N]
theorem d6W {R : Type} (N : Nat) (f x1 x2 U K : _) : M2 (R := R) (d4l N) Tryz.f76 [.agg [dY f, dI x1, dI x2], .ptr 1 0 0] [J4 0 [⟨128, [.ptr 0 1 0]⟩, ⟨96, [.v (.bytes U) (.own (.slot 0) 5)]⟩]] (L8 K) = d6T N f x1 x2 U (fun z0 => K z0) := by
 kernel_rfl
abbrev e2v (s : LB -> Int -> Int -> LB -> Option (LB)) : Prop := ∀ {f x1 x2 U z0}, s f x1 x2 U = some z0 -> VR2 76 [.agg [dY f, dI x1, dI x2], .ptr 1 0 0] [⟨128, [.ptr 0 1 0]⟩, ⟨96, [.v (.bytes U) (.own (.slot 0) 5)]⟩] [] [⟨128, [.ptr 0 1 0]⟩, ⟨96, [.v (.bytes z0) (.own (.slot 0) 5)]⟩]
theorem d3K (s : LB -> Int -> Int -> LB -> Option (LB)) (hs : e2v s) : MEO ⟨76, c2p s⟩ := by
 refine ⟨K6 Tryz.func76 (by kernel_rfl) (c := s6 Tryz.f76) (by kernel_rfl), fun R dst ds m K r h => ?_⟩
 simp only [c2p] at h
 split at h
 . split at h
   . rcases j8 h with ⟨hc, hq⟩ | ⟨_, hq⟩
     . clear h
       obtain ⟨Bs, a1, a2, a3, h⟩ := F9 hq
       split at h
       . rcases j8 h with ⟨hc, hk⟩ | ⟨_, hk⟩
         . simp only [FS] at hc
           obtain ⟨c3, c4⟩ := hc
           have c3 := FM c3
           have c4 := FM c4
           subst c3 c4
           obtain ⟨z0, h1, h2⟩ := L2 hk
           rw [F5] at h2
           exact ⟨_, _, h2, hs h1 _ _ m dst _ _ a1 a2 a3 rfl rfl ⟨a5F ⟨M8 _, M8 _, M8 _, trivial⟩, G0 _ rfl, trivial⟩ (F2 rfl (J8 rfl) (F1 rfl)) (F2 rfl (J8 rfl) (F1 rfl))⟩
         . cases hk
       . cases h
     . cases hq
   . cases h
 . cases h
open Classical in
theorem e2S (N : Nat) : e2v (b2Y N) := fun {f x1 x2 U z0} h => by
 refine S7 (cx := d4l N) (by kernel_rfl) (a9u trivial ⟨b9l N, J7 N, trivial⟩) Tryz.func76 (by kernel_rfl) (by kernel_rfl) (lz (by kernel_rfl)) (by rfl) (rf := L8 (fun Z0 => some Z0)) (r := z0) ?_ ?_
 . exact (d6W ..).trans h
 . intro rs' m' hx
   unfold L8 at hx
   split at hx
   . cases hx; exact ⟨rfl, rfl, _, rfl⟩
   . cases hx
def c4M {R : Type} (s : List V -> LB -> Option (LB)) (dst : Nat) (ds : List D) (m : Mem) (K : List D -> Mem -> Option R) : Option R :=
 match ds with
 | [.ptr (Bf + 1) Bg 0, .v (.sl 67 f) .no, .clos 76 [.ptr (As + 1) Av 0]] => (match m.box? As Av with
   | some ⟨_, [.ptr hk hs _]⟩ => cond (FY Bf (As + hk) && FY Bg hs) (a0u [(As, Av), (As + hk, hs)] m fun Bs => (match Bs with
     | [⟨128, [.ptr tk ts 0]⟩, ⟨96, [.v (.bytes U) (.own (.slot 0) 5)]⟩] => cond (FY hk tk && FY hs ts) (j3 (s f U) fun z0 => J6 [(As, Av), (As + hk, hs)] [⟨128, [.ptr hk hs 0]⟩, ⟨96, [.v (.bytes z0) (.own (.slot 0) 5)]⟩] m fun m' => K [] m') none
     | _ => none)) none
   | _ => none)
 | _ => none
def a1h {R : Type} (N : Nat) (Aa : List V) (u : Int) (Lq : Int -> LB -> Option R) (K0 : LB -> Option R) (d : Int) (l3 : LB) : Option R := br (decide (d < u)) (br (decide (0 <= d) && decide (d < (Aa.length : Int))) (at? Aa d.toNat fun f => f.unAgg fun l1 => e9 l1 fun x2 l3_1 => x2.unBytes fun l4 => e9 l3_1 fun x5 l6 => V.unInt FK x5 fun n7 => e9 l6 fun x8 l9 => V.unInt FK x8 fun na => D2 l9 (j3 (b2Y N l4 n7 na l3) fun Ay => Lq (FK.wrap (d + 1)) Ay)) none) (K0 l3)
def a5t {R : Type} (N : Nat) (Aa : List V) (u : Int) : Nat -> Int -> LB -> (LB -> Option R) -> Option R | 0, _, _, _ => none | t + 1, d, l3, K0 => a1h N Aa u (fun d l3 => a5t N Aa u t d l3 K0) K0 d l3
def b4e {R : Type} (N : Nat) (ds : List D) (m : Mem) (K : Ex -> List D -> Mem -> Option R) : Option R :=
 match ds, m with
 | [(.clos 76 [(.ptr 1 0 0)]), (.v (.sl 67 Aa) .no), (.v (.int .i64 u) .no), (.v (.int .i64 d) .no)], [[], [(0, ⟨128, [(.ptr 0 1 0)]⟩), (1, ⟨96, [(.v (.bytes l3) (.own (.slot 0) 5))]⟩)]] => a5t N Aa u N d l3 (fun a0 => K (.exit 0) [] [[], [(0, ⟨128, [(.ptr 0 1 0)]⟩), (1, ⟨96, [(.v (.bytes a0) (.own (.slot 0) 5))]⟩)]])
 | _, _ => none
def c4R {R : Type} (N : Nat) (f : List V) (U : LB) (K0 : LB -> Option R) : Option R := j3 (H6 N [V.int FK (f.length : Int)] U) fun w => a5t N f (f.length : Int) N 0 w fun l1 => K0 l1
def b5v (N : Nat) : List V -> LB -> Option (LB) := fun f U => c4R N f U (fun z0 => some z0)
def a3Y (N : Nat) : Cx := { T := T, isPure := a4U [], pureK := fun g ds K => a1L [] g ds K, memK := fun g dst ds m K => V6 [J1 N, ⟨76, c2p (b2Y N)⟩] g dst ds m K, meth := a3k [], keep := fun r => match r with | 2 => [2, 15, 16, 17] | _ => [], keepX := fun r => match r with | 2 => [] | _ => [], loopT := fun r ds m K => match r with | 2 => b4e N ds m K | _ => none, jumps := 9 }
theorem c3r {R : Type} (N : Nat) (Aa : List V) (u d : Int) (l3 : LB) (L : List D -> Mem -> Option R) (K : Ex -> List D -> Mem -> Option R) :
 W3 (fun st K => codeK (a3Y N) (s4 Tryz.f75 0) st K) 25 [2, 15, 16, 17] [] L [(.clos 76 [(.ptr 1 0 0)]), (.v (.sl 67 Aa) .no), (dI u), (dI d)] [[], [(0, ⟨128, [(.ptr 0 1 0)]⟩), (1, ⟨96, [(.v (.bytes l3) (.own (.slot 0) 5))]⟩)]] K = a1h N Aa u (fun d l3 => L [(.clos 76 [(.ptr 1 0 0)]), (.v (.sl 67 Aa) .no), (dI u), (dI d)] [[], [(0, ⟨128, [(.ptr 0 1 0)]⟩), (1, ⟨96, [(.v (.bytes l3) (.own (.slot 0) 5))]⟩)]]) (fun a0 => K (.exit 0) [] [[], [(0, ⟨128, [(.ptr 0 1 0)]⟩), (1, ⟨96, [(.v (.bytes a0) (.own (.slot 0) 5))]⟩)]]) d l3 := by
 kernel_rfl
theorem b0L {R : Type} (N : Nat) (Aa : List V) (u : Int) (K : Ex -> List D -> Mem -> Option R) : ∀ (t : Nat) (d : Int) (l3 : LB),
 P1 (fun st K => codeK (a3Y N) (s4 Tryz.f75 0) st K) 25 [2, 15, 16, 17] [] t [(.clos 76 [(.ptr 1 0 0)]), (.v (.sl 67 Aa) .no), (dI u), (dI d)] [[], [(0, ⟨128, [(.ptr 0 1 0)]⟩), (1, ⟨96, [(.v (.bytes l3) (.own (.slot 0) 5))]⟩)]] K = a5t N Aa u t d l3 (fun a0 => K (.exit 0) [] [[], [(0, ⟨128, [(.ptr 0 1 0)]⟩), (1, ⟨96, [(.v (.bytes a0) (.own (.slot 0) 5))]⟩)]])
 | 0, d, l3 => rfl
 | t + 1, d, l3 => (c3r N Aa u d l3 _ K).trans (congrArg (fun L => a1h N Aa u L (fun a0 => K (.exit 0) [] [[], [(0, ⟨128, [(.ptr 0 1 0)]⟩), (1, ⟨96, [(.v (.bytes a0) (.own (.slot 0) 5))]⟩)]]) d l3) (funext fun d => funext fun l3 => b0L N Aa u K t d l3))
theorem d1T {R : Type} (N : Nat) (f U K : _) : M2 (R := R) (a3Y N) Tryz.f75 [.ptr 1 1 0, .v (.sl 67 f) .no, .clos 76 [.ptr 1 0 0]] [J4 0 [⟨128, [.ptr 0 1 0]⟩, ⟨96, [.v (.bytes U) (.own (.slot 0) 5)]⟩]] (L8 K) = c4R N f U (fun z0 => K z0) := by
 kernel_rfl
abbrev d3U (s : List V -> LB -> Option (LB)) : Prop := ∀ {f U z0}, s f U = some z0 -> VR2 75 [.ptr 1 1 0, .v (.sl 67 f) .no, .clos 76 [.ptr 1 0 0]] [⟨128, [.ptr 0 1 0]⟩, ⟨96, [.v (.bytes U) (.own (.slot 0) 5)]⟩] [] [⟨128, [.ptr 0 1 0]⟩, ⟨96, [.v (.bytes z0) (.own (.slot 0) 5)]⟩]
theorem e1X (s : List V -> LB -> Option (LB)) (hs : d3U s) : MEO ⟨75, c4M s⟩ := by
 refine ⟨K6 Tryz.func75 (by kernel_rfl) (c := s6 Tryz.f75) (by kernel_rfl), fun R dst ds m K r h => ?_⟩
 simp only [c4M] at h
 split at h
 . split at h
   . rcases j8 h with ⟨hc, hq⟩ | ⟨_, hq⟩
     . clear h
       simp only [FS] at hc
       obtain ⟨c1, c2⟩ := hc
       have c1 := FM c1
       have c2 := FM c2
       subst c1 c2
       obtain ⟨Bs, a1, a2, a3, h⟩ := F9 hq
       split at h
       . rcases j8 h with ⟨hc, hk⟩ | ⟨_, hk⟩
         . simp only [FS] at hc
           obtain ⟨c3, c4⟩ := hc
           have c3 := FM c3
           have c4 := FM c4
           subst c3 c4
           obtain ⟨z0, h1, h2⟩ := L2 hk
           rw [F5] at h2
           exact ⟨_, _, h2, hs h1 _ _ m dst _ _ a1 a2 a3 rfl rfl ⟨G0 _ rfl, M8 _, a0S ⟨G0 _ rfl, trivial⟩, trivial⟩ (F2 rfl (J8 rfl) (F1 rfl)) (F2 rfl (J8 rfl) (F1 rfl))⟩
         . cases hk
       . cases h
     . cases hq
   . cases h
 . cases h
theorem e2b (N : Nat) : CxOK Tryz.prog (a3Y N) :=
 M3 (es := []) (me := [J1 N, ⟨76, c2p (b2Y N)⟩]) (ms := []) a7F trivial ⟨J7 N, d3K _ (e2S N), trivial⟩ trivial rfl (fun _ _ _ _ => rfl) (fun _ _ _ _ _ _ => rfl) rfl
theorem c9w (N : Nat) : p9 (a3Y N) 25 (s4 Tryz.f75 0) := by
 refine j7 (rid := 2) (by kernel_rfl) rfl rfl fun R ds m K r h => ?_
 have h : b4e N ds m K = some r := h
 unfold b4e at h
 split at h
 . exact ⟨N, Gr (b0L ..) h⟩
 . cases h
theorem d8P (N : Nat) : B8 (a3Y N) Tryz.f75.ntmps (s6 Tryz.f75) :=
 j6 (k := 1) (by kernel_rfl) ⟨trivial, c9w N⟩
open Classical in
theorem e3c (N : Nat) : d3U (b5v N) := fun {f U z0} h => by
 refine S7 (cx := a3Y N) (by kernel_rfl) (e2b N) Tryz.func75 (by kernel_rfl) (by kernel_rfl) (d8P N) (by rfl) (rf := L8 (fun Z0 => some Z0)) (r := z0) ?_ ?_
 . exact (d1T ..).trans h
 . intro rs' m' hx
   unfold L8 at hx
   split at hx
   . cases hx; exact ⟨rfl, rfl, _, rfl⟩
   . cases hx
def a2u {R : Type} (N : Nat) (j : Int) (Ab : List V) (d : Int) (Lq : Int -> LB -> Option R) (K0 : LB -> Option R) (i : Int) (l4 : LB) : Option R := br (decide (i < d)) (br (decide (0 <= i) && decide (i < (Ab.length : Int))) (at? Ab i.toNat fun f => f.unAgg fun l1 => e9 l1 fun x2 l3 => V.unInt FK x2 fun x => e9 l3 fun x5 l6 => V.unInt FK x5 fun n7 => e9 l6 fun x8 l9 => x8.unBool fun AA => e9 l9 fun xb Ax => V.unSl 42 xb fun ld => e9 Ax fun xe AC => V.unSl 44 xe fun lg => e9 AC fun xh AO => V.unSl 3 xh fun lj => e9 AO fun xk ll => V.unSl 105 xk fun AP => D2 ll (br (decide (j = 1)) (j3 (a8D N x n7 AA ld lg lj AP l4) fun ln => Lq (FK.wrap (i + 1)) ln) none)) none) (K0 l4)
def a4Q {R : Type} (N : Nat) (j : Int) (Ab : List V) (d : Int) : Nat -> Int -> LB -> (LB -> Option R) -> Option R | 0, _, _, _ => none | t + 1, i, l4, K0 => a2u N j Ab d (fun i l4 => a4Q N j Ab d t i l4 K0) K0 i l4
def b4F {R : Type} (N : Nat) (ds : List D) (m : Mem) (K : Ex -> List D -> Mem -> Option R) : Option R :=
 match ds, m with
 | [(.fn j [70] 1 0), (.v (.sl 64 Ab) .no), (.v (.int .i64 d) .no), (.v (.int .i64 i) .no)], mm6 l4 => a4Q N j Ab d N i l4 (fun a0 => K (.exit 0) [] (mm6 a0))
 | _, _ => none
def d2T {R : Type} (N : Nat) (f : List V) (U : LB) (K0 : LB -> Option R) : Option R := j3 (H6 N [V.int FK (f.length : Int)] U) fun w => a4Q N 1 f (f.length : Int) N 0 w fun l1 => K0 l1
def b9Q (N : Nat) (f : List V) (U : LB) : Option (LB) := d2T N f U (fun z0 => some z0)
def c8L (N : Nat) : Cx := cl [] [J1 N, b4Z N] [⟨2, [2, 15, 16, 17], [], b4F N⟩]
theorem d1L (N : Nat) : p9 (c8L N) 25 (s4 Tryz.f69 0) := by
 refine j7 (rid := 2) (by kernel_rfl) rfl rfl fun R ds m K r h => ?_
 change b4F N ds m K = _ at h
 unfold b4F at h
 split at h
 . rename_i j Ab d i l4
   exact ⟨N, Gr (lpI (fun (e : (LB -> Option R)) L (s : Int × LB) => a2u N j Ab d (fun i l4 => L (i, l4)) e s.1 s.2) (fun e t s => a4Q N j Ab d t s.1 s.2 e) (fun s => [(.fn j [70] 1 0), (.v (.sl 64 Ab) .no), (.v (.int .i64 d) .no), (.v (.int .i64 s.1) .no)]) (fun s => mm6 s.2) (fun _ _ => rfl) (fun _ _ _ => rfl) (e := _) (fun L s => by kernel_rfl) N (i, l4)) h⟩
 . cases h
def d5g (N : Nat) : MEnt := vE 69 (.p 0 (.v (.l 64) (.m 70 0 .z))) [(96, [.o 5])] .z true (b9Q N)
theorem d8p (N : Nat) : MEO (d5g N) := vk (cx := c8L N) (D4 trivial ⟨J7 N, b6X N, trivial⟩) Tryz.func69 (j6 (k := 1) (by kernel_rfl) ⟨trivial, d1L N⟩) (by kernel_rfl) fun h => by kernel_rfl
def a2Q {R : Type} (N : Nat) (j : Int) (Ab : List V) (d : Int) (Lq : Int -> LB -> Option R) (K0 : LB -> Option R) (i : Int) (l4 : LB) : Option R := br (decide (i < d)) (br (decide (0 <= i) && decide (i < (Ab.length : Int))) (at? Ab i.toNat fun f => f.unAgg fun l1 => e9 l1 fun x2 l3 => x2.unBool fun b4 => e9 l3 fun x5 l6 => x5.unBool fun b7 => e9 l6 fun x8 l9 => V.unInt FK x8 fun na => e9 l9 fun xb Ax => V.unSl 44 xb fun ld => e9 Ax fun xe AC => V.unInt FK xe fun ng => e9 AC fun xh AO => V.unInt FK xh fun nj => e9 AO fun xk ll => V.unInt FK xk fun AB => e9 ll fun xn Bc => V.unInt FK xn fun AE => e9 Bc fun xq lr => V.unInt FK xq fun ns => e9 lr fun Bz lu => V.unSl 54 Bz fun AU => e9 lu fun xw lx => V.unSl 107 xw fun ly => D2 lx (br (decide (j = 1)) (j3 (a6y N b4 b7 na ld ng nj AB AE ns AU ly l4) fun Bm => Lq (FK.wrap (i + 1)) Bm) none)) none) (K0 l4)
def a4O {R : Type} (N : Nat) (j : Int) (Ab : List V) (d : Int) : Nat -> Int -> LB -> (LB -> Option R) -> Option R | 0, _, _, _ => none | t + 1, i, l4, K0 => a2Q N j Ab d (fun i l4 => a4O N j Ab d t i l4 K0) K0 i l4
def b2q {R : Type} (N : Nat) (ds : List D) (m : Mem) (K : Ex -> List D -> Mem -> Option R) : Option R :=
 match ds, m with
 | [(.fn j [72] 1 0), (.v (.sl 47 Ab) .no), (.v (.int .i64 d) .no), (.v (.int .i64 i) .no)], mm6 l4 => a4O N j Ab d N i l4 (fun a0 => K (.exit 0) [] (mm6 a0))
 | _, _ => none
def d2N {R : Type} (N : Nat) (f : List V) (U : LB) (K0 : LB -> Option R) : Option R := j3 (H6 N [V.int FK (f.length : Int)] U) fun w => a4O N 1 f (f.length : Int) N 0 w fun l1 => K0 l1
def c0j (N : Nat) (f : List V) (U : LB) : Option (LB) := d2N N f U (fun z0 => some z0)
def c7S (N : Nat) : Cx := cl [] [J1 N, b0k N] [⟨2, [2, 15, 16, 17], [], b2q N⟩]
theorem d1w (N : Nat) : p9 (c7S N) 25 (s4 Tryz.f71 0) := by
 refine j7 (rid := 2) (by kernel_rfl) rfl rfl fun R ds m K r h => ?_
 change b2q N ds m K = _ at h
 unfold b2q at h
 split at h
 . rename_i j Ab d i l4
   exact ⟨N, Gr (lpI (fun (e : (LB -> Option R)) L (s : Int × LB) => a2Q N j Ab d (fun i l4 => L (i, l4)) e s.1 s.2) (fun e t s => a4O N j Ab d t s.1 s.2 e) (fun s => [(.fn j [72] 1 0), (.v (.sl 47 Ab) .no), (.v (.int .i64 d) .no), (.v (.int .i64 s.1) .no)]) (fun s => mm6 s.2) (fun _ _ => rfl) (fun _ _ _ => rfl) (e := _) (fun L s => by kernel_rfl) N (i, l4)) h⟩
 . cases h
def d6y (N : Nat) : MEnt := vE 71 (.p 0 (.v (.l 47) (.m 72 0 .z))) [(96, [.o 5])] .z true (c0j N)
theorem d8a (N : Nat) : MEO (d6y N) := vk (cx := c7S N) (D4 trivial ⟨J7 N, b5y N, trivial⟩) Tryz.func71 (j6 (k := 1) (by kernel_rfl) ⟨trivial, d1w N⟩) (by kernel_rfl) fun h => by kernel_rfl
def c3p {R : Type} (N : Nat) (f : LB) (x1 x2 : Int) (x3 x4 x5 x6 x7 : List V) (U : LB) (K0 : LB -> Option R) : Option R := j3 (H6 N [V.int FK 83, V.int FK 67, V.int FK 49] U) fun w => j3 (a9G N f w) fun l1 => j3 (H6 N [V.int FK x1, V.int FK x2] l1) fun l2 => j3 (b5A N x3 l2) fun l3 => j3 (b9Q N x4 l3) fun l4 => j3 (c0j N x5 l4) fun l5 => j3 (a9Y N x6 l5) fun l6 => j3 (b5v N x7 l6) fun l7 => K0 l7
def b3X (N : Nat) (f : LB) (x1 x2 : Int) (x3 x4 x5 x6 x7 : List V) (U : LB) : Option (LB) := c3p N f x1 x2 x3 x4 x5 x6 x7 U (fun z0 => some z0)
def d1j (N : Nat) : Cx := cz [] [b8H N, J1 N, ⟨67, c4I (b5A N)⟩, d5g N, d6y N, c0i N, ⟨75, c4M (b5v N)⟩, ⟨68, c0X (b5s N)⟩, b4Z N, b0k N, b5l N, ⟨76, c2p (b2Y N)⟩]
def c3I (N : Nat) : MEnt := vE 35 e7U [(96, [.o 5])] .z true (b3X N)
theorem d1O (N : Nat) : MEO (c3I N) := vk0 (cx := d1j N) (A9 trivial ⟨b9l N, J7 N, d9p _ (e3S N), d8p N, d8a N, b8I N, e1X _ (e3c N), d6V _ (e2F N), b6X N, b5y N, b1Q N, d3K _ (e2S N), trivial⟩) Tryz.func35 (by kernel_rfl) fun h => by kernel_rfl
def a2r (N : Nat) (f : LB) (x1 x2 : Int) (x3 x4 x5 x6 x7 : List V) : Option (LB) := j3 (b3X N f x1 x2 x3 x4 x5 x6 x7 []) fun w => some w
def c4l (N : Nat) : Cx := cz [] [c3I N]
def b0s (N : Nat) : Ent := pE 14 b5R (.v .y .z) (a2r N)
theorem b3o (N : Nat) : EO (b0s N) := pk0 (cx := c4l N) (A9 trivial ⟨d1O N, trivial⟩) Tryz.func14 (by kernel_rfl) fun h => by kernel_rfl
end En

namespace En
open Go
def wN (n : Int) : List UInt8 := [C6 n]
def wW (n : Int) : List UInt8 := [C6 (n / 256), C6 n]
def a9L (b : List UInt8) : List UInt8 := C6 b.length :: b
def wL {α : Type} (wr : α -> List UInt8) (l : List α) : List UInt8 := C6 l.length :: l.flatMap wr
def wRf (r : Rf) : List UInt8 := [C6 r.p, C6 r.c]
def wTp (t : Tp) : List UInt8 := C6 t.k :: (if t.k = 5 then wRf t.r else [])
def wIl (x : Il) : List UInt8 := wRf x.i ++ wL wN x.ms
def wCl (c : Cl) : List UInt8 := C6 (if c.itf then 1 else 0) :: (wRf c.sup ++ (wL wRf c.ext ++ (wL wTp c.fs ++ (wL wN c.vs ++ wL wIl c.is))))
def wHd (h : Hd) : List UInt8 := wW h.f ++ (wW h.t ++ (wW h.g ++ wW h.w))
def wMt (m : Mt) : List UInt8 := C6 ((if m.st then 1 else 0) + (if m.ab then 2 else 0)) :: C6 m.cls :: (wL wTp m.ps ++ (wTp m.r ++ (C6 m.lo :: C6 m.sk :: (wW (a2H m.code).1.length ++ ((a2H m.code).1 ++ wL wHd m.hs)))))
def wIm (x : Im) : List UInt8 := a9L x.aid ++ [C6 x.ma, C6 x.mi]
def wAp (x : Ap) : List UInt8 := a9L x.aid ++ [C6 x.cl, C6 x.ins]
def wPk (p : Pk) : List UInt8 := 83 :: 67 :: 49 :: (a9L p.aid ++ (C6 p.ma :: C6 p.mi :: (wL wIm p.ims ++ (wL wCl p.cls ++ (wL wMt p.mts ++ (wL wTp p.sts ++ wL wAp p.aps))))))
section
variable (N : Nat) {R : Type}
theorem d2k {β R : Type} {vs : List β} {i : Nat} {y : β} (h : vs[i]? = some y) (K : β -> Option R) (A : Option R) :
 br (decide ((i : Int) < (vs.length : Int))) (br (decide (0 <= (i : Int)) && decide ((i : Int) < (vs.length : Int))) (at? vs (i : Int).toNat K) none) A = K y := by
 have hi : i < vs.length := (List.getElem?_eq_some_iff.1 h).1
 have h1 : ((i : Int) < (vs.length : Int)) := by omega
 rw [j5, if_pos h1, decide_eq_true h1, Bool.and_true, j5, if_pos (by omega), Int.toNat_natCast]
 unfold at?
 rw [h]
theorem put_eq (l : List Int) (out : List UInt8) (h : l.length < N) (hl : l.length <= 1000) (hb : out.length + l.length <= 100000000) : H6 N (l.map nV) out = some (out ++ l.flatMap wN) := by
 have hf : (l.flatMap wN).length = l.length := by
  clear h hl hb
  induction l with
  | nil => rfl
  | cons a l ih => rw [Ha, FT, ih]; simp [wN]; omega
 unfold H6 d5Q
 refine Q9 (fun t i out => a5p N (l.map nV) ((l.map nV).length : Int) t i out fun l0 => some l0) some l wN 100000000 (fun t i x out hx hb => ?_) (fun t out => ?_) N out h (by omega)
 . show a3r N (l.map nV) _ _ _ _ _ = _
   unfold a3r
   rw [C8 hx]
   simp only [nV, p5]
   rw [j5, if_pos (by simp [wN] at hb ⊢; omega), C7 (C3 hx) (by omega), wu8, a9z]
   rfl
 . show a3r N (l.map nV) _ _ _ _ _ = _
   unfold a3r
   rw [C0]
theorem a8W (hN : 1000 < N) (a : Int) (out : List UInt8) (hb : out.length <= 99999990) : H6 N [V.int .i64 a] out = some (out ++ [C6 a]) := put_eq N [a] out (by simp only [FT, FO, Gc]; omega) (by simp) (by simp only [FT, FO, Gc]; omega)
theorem c5G (hN : 1000 < N) (a b : Int) (out : List UInt8) (hb : out.length <= 99999990) : H6 N [V.int .i64 a, V.int .i64 b] out = some (out ++ [C6 a, C6 b]) := put_eq N [a, b] out (by simp only [FT, FO, Gc]; omega) (by simp) (by simp only [FT, FO, Gc]; omega)
theorem e7z (hN : 1000 < N) (a b c : Int) (out : List UInt8) (hb : out.length <= 99999990) : H6 N [V.int .i64 a, V.int .i64 b, V.int .i64 c] out = some (out ++ [C6 a, C6 b, C6 c]) := put_eq N [a, b, c] out (by simp only [FT, FO, Gc]; omega) (by simp) (by simp only [FT, FO, Gc]; omega)
theorem c8P (hN : 1000 < N) (l : List Int) (out : List UInt8) (hl : l.length <= 900) (hb : out.length + (l.flatMap wW).length <= 99999980) : a4h N (l.map nV) out = some (out ++ l.flatMap wW) := by
 unfold a4h c7H
 refine Q9 (fun t i out => a3x N (l.map nV) ((l.map nV).length : Int) t i out fun l0 => some l0) some l wW 99999980 (fun t i x out hx hb => ?_) (fun t out => ?_) N out (by omega) hb
 . show a1e N (l.map nV) _ _ _ _ _ = _
   unfold a1e
   rw [C8 hx]
   simp only [nV, p5]
   rw [c5G N hN _ _ _ (by omega), j4, C7 (C3 hx) (by omega), e4Y]
   rfl
 . show a1e N (l.map nV) _ _ _ _ _ = _
   unfold a1e
   rw [C0]
theorem b9v (hN : 1000 < N) (r : Rf) (out : List UInt8) (hb : out.length + (wRf r).length <= 99999980) : a7v N r.p r.c out = some (out ++ wRf r) := by
 unfold a7v d6U
 rw [c5G N hN _ _ _ (by omega)]
 rfl
theorem d5h (hN : 1000 < N) (t : Tp) (out : List UInt8) (hb : out.length + (wTp t).length <= 99999980) : b4c N t.k t.r.p t.r.c out = some (out ++ wTp t) := by
 unfold b4c d7B
 unfold wTp at hb ⊢
 simp only [FO] at hb
 rw [a8W N hN _ _ (by omega), j4, j5]
 by_cases h : t.k = 5
 . rw [if_pos h] at hb ⊢
   rw [if_pos h, b9v N hN _ _ (by simp only [FT, FO, Gc]; omega), j4]
   simp
 . rw [if_neg h, if_neg h]
theorem e3f (hN : 1000 < N) (n : Int) (out : List UInt8) (hb : out.length + (wN n).length <= 99999980) : b9A N n out = some (out ++ wN n) := by
 unfold b9A d4X
 rw [a8W N hN _ _ (by omega)]
 rfl
theorem e4a (hN : 1000 < N) (u : UInt8) (out : List UInt8) (hb : out.length <= 99999980) : b3f N (u.toNat : Int) out = some (out ++ [u]) := by
 unfold b3f d3o
 have e : FK.wrap (u.toNat : Int) = u.toNat := by rw [Hm]; have := u.toNat_lt; omega
 rw [e, a8W N hN _ _ (by omega), j4, d4G]
theorem e1Y (hN : 1000 < N) (b out : List UInt8) (hl : b.length <= 900) (hb : out.length + (a9L b).length <= 99999980) : a8K N b out = some (out ++ a9L b) := by
 unfold a8K b9d
 unfold a9L at hb ⊢
 simp only [FO] at hb
 rw [a8W N hN _ _ (by omega), j4]
 have hf : ∀ b : List UInt8, b.flatMap (fun u => [u]) = b := fun b => by induction b with | nil => rfl | cons a b ih => rw [Ha, ih]; rfl
 have := Q9 (fun t i out => a2Z N b (b.length : Int) t i out fun l0 => some l0) some b (fun u => [u]) 99999980 (fun t i x out hx hb => ?_) (fun t out => ?_) N (out ++ [C6 b.length]) (by omega) (by rw [hf]; simp; omega)
 . rw [hf] at this
   rw [this]; simp
 . show Z9 N b _ _ _ _ _ = _
   unfold Z9
   rw [d2k hx]
   rw [e4a N hN _ _ (by simp at hb; omega), j4, C7 (C3 hx) (by omega)]
 . show Z9 N b _ _ _ _ _ = _
   unfold Z9
   rw [j5, if_neg (by omega)]
theorem c6d (hN : 1000 < N) (b out : List UInt8) (hl : b.length <= 900) (hb : out.length + (a9L b).length <= 99999980) : a9G N b out = some (out ++ a9L b) := by
 unfold a9G d3H
 rw [e1Y N hN _ _ hl hb]
 rfl
theorem e1u (hN : 1000 < N) (l : List Rf) (out : List UInt8) (hl : l.length <= 900) (hb : out.length + (wL wRf l).length <= 99999980) : b8c N (l.map rfV) out = some (out ++ wL wRf l) := by
 unfold b8c d4h
 unfold wL at hb ⊢
 simp only [FO] at hb
 rw [a8W N hN _ _ (by omega), j4]
 have := Q9 (fun t i out => a5B N 1 (l.map rfV) ((l.map rfV).length : Int) t i out fun l0 => some l0) some l wRf 99999980 (fun t i x out hx hb => ?_) (fun t out => ?_) N (out ++ [C6 l.length]) (by omega) (by simp only [FT, FO, Gc]; omega)
 . rw [Gh] at this ⊢
   rw [this]; simp
 . show a2q N 1 (l.map rfV) _ _ _ _ _ = _
   unfold a2q
   rw [C8 hx]
   simp only [rfV, p7, o8, p5, o9, o6, A8, p8, j5, if_true]
   rw [b9v N hN x _ hb, j4, C7 (C3 hx) (by omega)]
 . show a2q N 1 (l.map rfV) _ _ _ _ _ = _
   unfold a2q
   rw [C0]
theorem b9R (hN : 1000 < N) (l : List Tp) (out : List UInt8) (hl : l.length <= 900) (hb : out.length + (wL wTp l).length <= 99999980) : a9Y N (l.map tpV) out = some (out ++ wL wTp l) := by
 unfold a9Y d7l
 unfold wL at hb ⊢
 simp only [FO] at hb
 rw [a8W N hN _ _ (by omega), j4]
 have := Q9 (fun t i out => a5L N 1 (l.map tpV) ((l.map tpV).length : Int) t i out fun l0 => some l0) some l wTp 99999980 (fun t i x out hx hb => ?_) (fun t out => ?_) N (out ++ [C6 l.length]) (by omega) (by simp only [FT, FO, Gc]; omega)
 . rw [Gh] at this ⊢
   rw [this]; simp
 . show a2M N 1 (l.map tpV) _ _ _ _ _ = _
   unfold a2M
   rw [C8 hx]
   simp only [tpV, p7, o8, p5, o9, o6, A8, p8, j5, if_true]
   rw [d5h N hN x _ hb, j4, C7 (C3 hx) (by omega)]
 . show a2M N 1 (l.map tpV) _ _ _ _ _ = _
   unfold a2M
   rw [C0]
theorem c9g (hN : 1000 < N) (l : List Int) (out : List UInt8) (hl : l.length <= 900) (hb : out.length + (wL wN l).length <= 99999980) : b4o N (l.map nV) out = some (out ++ wL wN l) := by
 unfold b4o d5I
 unfold wL at hb ⊢
 simp only [FO] at hb
 rw [a8W N hN _ _ (by omega), j4]
 have := Q9 (fun t i out => a4T N 1 (l.map nV) ((l.map nV).length : Int) t i out fun l0 => some l0) some l wN 99999980 (fun t i x out hx hb => ?_) (fun t out => ?_) N (out ++ [C6 l.length]) (by omega) (by simp only [FT, FO, Gc]; omega)
 . rw [Gh] at this ⊢
   rw [this]; simp
 . show a2K N 1 (l.map nV) _ _ _ _ _ = _
   unfold a2K
   rw [C8 hx]
   simp only [nV, p7, o8, p5, o9, o6, A8, p8, j5, if_true]
   rw [e3f N hN x _ hb, j4, C7 (C3 hx) (by omega)]
 . show a2K N 1 (l.map nV) _ _ _ _ _ = _
   unfold a2K
   rw [C0]
def e3u (x : Il) : Prop := x.ms.length <= 900
theorem e3Y (hN : 1000 < N) (x : Il) (hx : e3u x) (out : List UInt8) (hb : out.length + (wIl x).length <= 99999980) : b5i N x.i.p x.i.c (x.ms.map nV) out = some (out ++ wIl x) := by
 unfold b5i d2Q
 unfold wIl at hb ⊢
 rw [FT] at hb
 rw [b9v N hN _ _ (by omega), j4, c9g N hN _ _ hx (by rw [FT]; omega), j4, Gq]
theorem d2x (hN : 1000 < N) (l : List Il) (out : List UInt8) (hl : l.length <= 900) (hy : ∀ x ∈ l, e3u x) (hb : out.length + (wL wIl l).length <= 99999980) : a8p N (l.map ilV) out = some (out ++ wL wIl l) := by
 unfold a8p b9O
 unfold wL at hb ⊢
 simp only [FO] at hb
 rw [a8W N hN _ _ (by omega), j4]
 have := Q9 (fun t i out => a3A N (l.map ilV) ((l.map ilV).length : Int) t i out fun l0 => some l0) some l wIl 99999980 (fun t i x out hx hb => ?_) (fun t out => ?_) N (out ++ [C6 l.length]) (by omega) (by simp only [FT, FO, Gc]; omega)
 . rw [Gh] at this ⊢
   rw [this]; simp
 . show Y4 N (l.map ilV) _ _ _ _ _ = _
   unfold Y4
   rw [C8 hx]
   simp only [ilV, p7, o8, p5, o9, o6, A8, p8]
   rw [e3Y N hN x (hy x (Ga hx)) _ hb, j4, C7 (C3 hx) (by omega)]
 . show Y4 N (l.map ilV) _ _ _ _ _ = _
   unfold Y4
   rw [C0]
def d7s (c : Cl) : Prop := c.ext.length <= 900 /\ c.fs.length <= 900 /\ c.vs.length <= 900 /\ c.is.length <= 900 /\ ∀ x ∈ c.is, e3u x
theorem c0a (b : Bool) (n : Int) : a6h N b n = some (if b then n else 0) := by
 unfold a6h
 cases b <;> rfl
theorem d1q (hN : 1000 < N) (c : Cl) (hc : d7s c) (out : List UInt8) (hb : out.length + (wCl c).length <= 99999980) : a8D N c.sup.p c.sup.c c.itf (c.ext.map rfV) (c.fs.map tpV) (c.vs.map nV) (c.is.map ilV) out = some (out ++ wCl c) := by
 obtain ⟨h1, h2, h3, h4, h5⟩ := hc
 unfold a8D c3F
 unfold wCl at hb ⊢
 simp only [FO, FT] at hb
 rw [c0a, j4, a8W N hN _ _ (by omega), j4, b9v N hN _ _ (by simp only [FT, FO, Gc]; omega), j4, e1u N hN _ _ h1 (by simp only [FT, FO, Gc]; omega), j4, b9R N hN _ _ h2 (by simp only [FT, FO, Gc]; omega), j4, c9g N hN _ _ h3 (by simp only [FT, FO, Gc]; omega), j4, d2x N hN _ _ h4 h5 (by simp only [FT, FO, Gc]; omega), j4]
 simp [Gq]
theorem e3I (hN : 1000 < N) (h : Hd) (out : List UInt8) (hb : out.length + (wHd h).length <= 99999980) : b5E N h.f h.t h.g h.w out = some (out ++ wHd h) := by
 unfold b5E d2R
 have := c8P N hN [h.f, h.t, h.g, h.w] out (by simp) (by simpa [wHd] using hb)
 have e : a4h N [V.int .i64 h.f, V.int .i64 h.t, V.int .i64 h.g, V.int .i64 h.w] out = some (out ++ wHd h) := by
  refine this.trans ?_
  simp [wHd]
 rw [e]
 rfl
theorem e0c (hN : 1000 < N) (l : List Hd) (out : List UInt8) (hl : l.length <= 900) (hb : out.length + (wL wHd l).length <= 99999980) : b3e N (l.map hdV) out = some (out ++ wL wHd l) := by
 unfold b3e c4p
 unfold wL at hb ⊢
 simp only [FO] at hb
 rw [a8W N hN _ _ (by omega), j4]
 have := Q9 (fun t i out => a5U N (l.map hdV) ((l.map hdV).length : Int) t i out fun l0 => some l0) some l wHd 99999980 (fun t i x out hx hb => ?_) (fun t out => ?_) N (out ++ [C6 l.length]) (by omega) (by simp only [FT, FO, Gc]; omega)
 . rw [Gh] at this ⊢
   rw [this]; simp
 . show a1w N (l.map hdV) _ _ _ _ _ = _
   unfold a1w
   rw [C8 hx]
   simp only [hdV, p7, o8, p5, o9, o6, A8, p8]
   rw [e3I N hN x _ hb, j4, C7 (C3 hx) (by omega)]
 . show a1w N (l.map hdV) _ _ _ _ _ = _
   unfold a1w
   rw [C0]
def d5c (m : Mt) : Prop := m.ps.length <= 900 /\ m.code.length <= 900 /\ m.hs.length <= 900
theorem c7b (hN : 1000 < N) (m : Mt) (hm : d5c m) (out : List UInt8) (hb : out.length + (wMt m).length <= 99999980) : a6y N m.st m.ab m.cls (m.ps.map tpV) m.r.k m.r.r.p m.r.r.c m.lo m.sk (iE m.code) (m.hs.map hdV) out = some (out ++ wMt m) := by
 obtain ⟨h1, h2, h3⟩ := hm
 unfold a6y b6n
 unfold wMt at hb ⊢
 simp only [FO, FT] at hb
 have e0 : FK.wrap ((if m.st = true then 1 else 0) + (if m.ab = true then 2 else 0)) = (if m.st = true then 1 else 0) + (if m.ab = true then 2 else 0) := by
  rw [Hm]
  cases m.st <;> cases m.ab <;> simp
 have e1 : ∀ o : List UInt8, o.length + (wW ((a2H m.code).1.length : Int)).length <= 99999980 -> a4h N [V.int .i64 ((a2H m.code).1.length : Int)] o = some (o ++ wW ((a2H m.code).1.length : Int)) := fun o ho => by
  have := c8P N hN [((a2H m.code).1.length : Int)] o (by simp) (by simpa using ho)
  simpa [nV] using this
 rw [c0a, j4, c0a, j4, e0, c5G N hN _ _ _ (by omega), j4, b9R N hN _ _ h1 (by simp only [FT, FO, Gc]; omega), j4, d5h N hN m.r _ (by simp only [FT, FO, Gc]; omega), j4, c5G N hN _ _ _ (by simp only [FT, FO, Gc]; omega), j4, b2F N (by omega) _ (by omega) (by omega)]
 rw [show a2H m.code = ((a2H m.code).1, (a2H m.code).2) from rfl, o7]
 simp only
 rw [e1 _ (by simp only [FT, FO, Gc]; omega), j4, j5, if_pos (by simp only [FT, FO, Gc]; omega), e0c N hN _ _ h3 (by simp only [FT, FO, Gc]; omega), j4]
 simp [Gq]
theorem e4e (hN : 1000 < N) (x : Im) (hx : x.aid.length <= 900) (out : List UInt8) (hb : out.length + (wIm x).length <= 99999980) : b5s N x.aid x.ma x.mi out = some (out ++ wIm x) := by
 unfold b5s d7i
 unfold wIm at hb ⊢
 simp only [FO, FT] at hb
 rw [c6d N hN _ _ hx (by omega), j4, c5G N hN _ _ _ (by simp only [FT, FO, Gc]; omega), j4, Gq]
theorem e3n (hN : 1000 < N) (x : Ap) (hx : x.aid.length <= 900) (out : List UInt8) (hb : out.length + (wAp x).length <= 99999980) : b2Y N x.aid x.cl x.ins out = some (out ++ wAp x) := by
 unfold b2Y d6T
 unfold wAp at hb ⊢
 simp only [FO, FT] at hb
 rw [c6d N hN _ _ hx (by omega), j4, c5G N hN _ _ _ (by simp only [FT, FO, Gc]; omega), j4, Gq]
theorem e1a (hN : 1000 < N) (l : List Im) (out : List UInt8) (hl : l.length <= 900) (hy : ∀ x ∈ l, x.aid.length <= 900) (hb : out.length + (wL wIm l).length <= 99999980) : b5A N (l.map imV) out = some (out ++ wL wIm l) := by
 unfold b5A c5x
 unfold wL at hb ⊢
 simp only [FO] at hb
 rw [a8W N hN _ _ (by omega), j4]
 have := Q9 (fun t i out => a5c N (l.map imV) ((l.map imV).length : Int) t i out fun l0 => some l0) some l wIm 99999980 (fun t i x out hx hb => ?_) (fun t out => ?_) N (out ++ [C6 l.length]) (by omega) (by simp only [FT, FO, Gc]; omega)
 . rw [Gh] at this ⊢
   rw [this]; simp
 . show a1y N (l.map imV) _ _ _ _ _ = _
   unfold a1y
   rw [C8 hx]
   simp only [imV, p7, o8, p5, o9, o6, A8, p8]
   rw [e4e N hN x (hy x (Ga hx)) _ hb, j4, C7 (C3 hx) (by omega)]
 . show a1y N (l.map imV) _ _ _ _ _ = _
   unfold a1y
   rw [C0]
theorem d9n (hN : 1000 < N) (l : List Ap) (out : List UInt8) (hl : l.length <= 900) (hy : ∀ x ∈ l, x.aid.length <= 900) (hb : out.length + (wL wAp l).length <= 99999980) : b5v N (l.map apV) out = some (out ++ wL wAp l) := by
 unfold b5v c4R
 unfold wL at hb ⊢
 simp only [FO] at hb
 rw [a8W N hN _ _ (by omega), j4]
 have := Q9 (fun t i out => a5t N (l.map apV) ((l.map apV).length : Int) t i out fun l0 => some l0) some l wAp 99999980 (fun t i x out hx hb => ?_) (fun t out => ?_) N (out ++ [C6 l.length]) (by omega) (by simp only [FT, FO, Gc]; omega)
 . rw [Gh] at this ⊢
   rw [this]; simp
 . show a1h N (l.map apV) _ _ _ _ _ = _
   unfold a1h
   rw [C8 hx]
   simp only [apV, p7, o8, p5, o9, o6, A8, p8]
   rw [e3n N hN x (hy x (Ga hx)) _ hb, j4, C7 (C3 hx) (by omega)]
 . show a1h N (l.map apV) _ _ _ _ _ = _
   unfold a1h
   rw [C0]
theorem e0z (hN : 1000 < N) (l : List Cl) (out : List UInt8) (hl : l.length <= 900) (hy : ∀ x ∈ l, d7s x) (hb : out.length + (wL wCl l).length <= 99999980) : b9Q N (l.map clV) out = some (out ++ wL wCl l) := by
 unfold b9Q d2T
 unfold wL at hb ⊢
 simp only [FO] at hb
 rw [a8W N hN _ _ (by omega), j4]
 have := Q9 (fun t i out => a4Q N 1 (l.map clV) ((l.map clV).length : Int) t i out fun l0 => some l0) some l wCl 99999980 (fun t i x out hx hb => ?_) (fun t out => ?_) N (out ++ [C6 l.length]) (by omega) (by simp only [FT, FO, Gc]; omega)
 . rw [Gh] at this ⊢
   rw [this]; simp
 . show a2u N 1 (l.map clV) _ _ _ _ _ = _
   unfold a2u
   rw [C8 hx]
   simp only [clV, p7, o8, p5, o9, o6, A8, p8, j5, if_true]
   rw [d1q N hN x (hy x (Ga hx)) _ hb, j4, C7 (C3 hx) (by omega)]
 . show a2u N 1 (l.map clV) _ _ _ _ _ = _
   unfold a2u
   rw [C0]
theorem d8m (hN : 1000 < N) (l : List Mt) (out : List UInt8) (hl : l.length <= 900) (hy : ∀ x ∈ l, d5c x) (hb : out.length + (wL wMt l).length <= 99999980) : c0j N (l.map mtV) out = some (out ++ wL wMt l) := by
 unfold c0j d2N
 unfold wL at hb ⊢
 simp only [FO] at hb
 rw [a8W N hN _ _ (by omega), j4]
 have := Q9 (fun t i out => a4O N 1 (l.map mtV) ((l.map mtV).length : Int) t i out fun l0 => some l0) some l wMt 99999980 (fun t i x out hx hb => ?_) (fun t out => ?_) N (out ++ [C6 l.length]) (by omega) (by simp only [FT, FO, Gc]; omega)
 . rw [Gh] at this ⊢
   rw [this]; simp
 . show a2Q N 1 (l.map mtV) _ _ _ _ _ = _
   unfold a2Q
   rw [C8 hx]
   simp only [mtV, p7, o8, p5, o9, o6, A8, p8, j5, if_true]
   rw [c7b N hN x (hy x (Ga hx)) _ hb, j4, C7 (C3 hx) (by omega)]
 . show a2Q N 1 (l.map mtV) _ _ _ _ _ = _
   unfold a2Q
   rw [C0]
def d8f (p : Pk) : Prop := p.aid.length <= 900 /\ (p.ims.length <= 900 /\ ∀ x ∈ p.ims, x.aid.length <= 900) /\ (p.cls.length <= 900 /\ ∀ x ∈ p.cls, d7s x) /\ (p.mts.length <= 900 /\ ∀ x ∈ p.mts, d5c x) /\ p.sts.length <= 900 /\ (p.aps.length <= 900 /\ ∀ x ∈ p.aps, x.aid.length <= 900)
theorem b2W (hN : 1000 < N) (p : Pk) (hp : d8f p) (hb : (wPk p).length <= 99999980) : a2r N p.aid p.ma p.mi (p.ims.map imV) (p.cls.map clV) (p.mts.map mtV) (p.sts.map tpV) (p.aps.map apV) = some (wPk p) := by
 obtain ⟨h1, ⟨h2, h3⟩, ⟨h4, h5⟩, ⟨h6, h7⟩, h8, h9, h10⟩ := hp
 unfold a2r b3X c3p
 unfold wPk at hb ⊢
 simp only [FO, FT] at hb
 rw [e7z N hN _ _ _ _ (by simp), j4, c6d N hN _ _ h1 (by simp only [FT, FO, Gc]; omega), j4, c5G N hN _ _ _ (by simp only [FT, FO, Gc]; omega), j4, e1a N hN _ _ h2 h3 (by simp only [FT, FO, Gc]; omega), j4, e0z N hN _ _ h4 h5 (by simp only [FT, FO, Gc]; omega), j4, d8m N hN _ _ h6 h7 (by simp only [FT, FO, Gc]; omega), j4, b9R N hN _ _ h8 (by simp only [FT, FO, Gc]; omega), j4, d9n N hN _ _ h9 h10 (by simp only [FT, FO, Gc]; omega), j4, j4]
 have e : C6 83 = 83 /\ C6 67 = 67 /\ C6 49 = 49 := by decide
 obtain ⟨e1, e2, e3⟩ := e
 simp [Gq, e1, e2, e3]
end
end En
namespace En
open Go
section
variable (N : Nat) {R : Type}
def U8 (n : Int) : Prop := 0 <= n /\ n <= 255
theorem e1c {n : Int} (h : U8 n) : ((C6 n).toNat : Int) = n := by rw [P8]; unfold U8 at h; omega
theorem wrap_u8 (u : UInt8) : FK.wrap (u.toNat : Int) = u.toNat := by rw [Hm]; have := u.toNat_lt; omega
theorem a9i (n : Nat) (a rest : List UInt8) (h : a.length = n) : W0 N (n : Int) (a ++ rest) = some (a, rest) := by
 unfold W0 c2j
 have h1 : ¬ (((a ++ rest).length : Int) < (n : Int)) := by rw [FT]; omega
 have h2 : (0 : Int) <= n /\ (n : Int) <= ((a ++ rest).length : Int) := by rw [FT]; omega
 rw [j5, if_neg h1, j5, if_pos rfl, decide_eq_true h2.1, decide_eq_true h2.2]
 simp only [Bool.and_self, b0y]
 rw [Int.toNat_natCast, ← h, List.take_left, List.drop_left]
theorem d6i (u : UInt8) (rest : List UInt8) : D5 N (u :: rest) = some ((u.toNat : Int), rest) := by
 unfold D5 d5u
 rw [show W0 N 1 (u :: rest) = some ([u], rest) from a9i N 1 [u] rest rfl, o7]
 show br (decide ((0 : Int) < 1)) (some (FK.wrap (u.toNat : Int), rest)) none = _
 rw [wrap_u8]; rfl
theorem W9 {n : Int} (h : U8 n) (rest : List UInt8) : D5 N (C6 n :: rest) = some (n, rest) := by rw [d6i, e1c h]
theorem d3t (k q y : Nat) (hy : y < 2 ^ k) (h : q * 2 ^ k + y < 4294967296) : j9 .or .i64 ((q * 2 ^ k : Nat) : Int) (y : Int) = ((q * 2 ^ k + y : Nat) : Int) := by
 have e1 : (GS FK.bits ((q * 2 ^ k : Nat) : Int)).toNat = q * 2 ^ k := by
  rw [IR]
  show (((q * 2 ^ k : Nat) : Int) % (18446744073709551616 : Nat)).toNat = _
  omega
 have e2 : (GS FK.bits (y : Int)).toNat = y := by
  rw [IR]
  show ((y : Int) % (18446744073709551616 : Nat)).toNat = _
  omega
 have e3 : q * 2 ^ k ||| y = q * 2 ^ k + y := by
  rw [Nat.mul_comm, ← Nat.two_pow_add_eq_or_of_lt hy]
 show FK.wrap ((GS FK.bits ((q * 2 ^ k : Nat) : Int) ||| GS FK.bits (y : Int)).toNat : Int) = _
 rw [BitVec.toNat_or, e1, e2, e3, Hm]
 omega
def U16 (n : Int) : Prop := 0 <= n /\ n <= 65535
theorem c2z {n : Int} (h : U16 n) (rest : List UInt8) : T1 N (wW n ++ rest) = some (n, rest) := by
 unfold T1 c9j
 rw [show W0 N 2 (wW n ++ rest) = some (wW n, rest) from a9i N 2 (wW n) rest rfl, o7]
 show br (decide ((0 : Int) < 2)) (br (decide ((1 : Int) < 2)) (some (j9 BinOp.or FK (a0q FK (FK.wrap ((C6 (n / 256)).toNat : Int)) 8) (FK.wrap ((C6 n).toNat : Int)), rest)) none) none = _
 rw [wrap_u8, wrap_u8]
 unfold U16 at h
 obtain ⟨a, rfl⟩ : ∃ a : Nat, n = a := ⟨n.toNat, by omega⟩
 have e1 : ((C6 ((a : Int) / 256)).toNat : Int) = ((a / 256 : Nat) : Int) := by rw [P8]; omega
 have e2 : ((C6 (a : Int)).toNat : Int) = ((a % 256 : Nat) : Int) := by rw [P8]; omega
 have e3 : a0q FK ((a / 256 : Nat) : Int) 8 = ((a / 256 * 2 ^ 8 : Nat) : Int) := by
  show FK.wrap (((a / 256 : Nat) : Int) * 2 ^ (min (8 : Int).toNat FK.bits)) = _
  rw [Hm]
  show ((((a / 256 : Nat) : Int) * 256 + _) % _ - _) = _
  omega
 rw [e1, e2, e3, d3t 8 (a / 256) (a % 256) (by omega) (by omega)]
 have e4 : a / 256 * 2 ^ 8 + a % 256 = a := by omega
 rw [e4]; rfl
theorem e3k (b rest : List UInt8) (h : b.length <= 200) : b0f N (a9L b ++ rest) = some (b, rest) := by
 unfold b0f d3m a9L
 rw [Gv, W9 N (by unfold U8; omega), o7, a9i N b.length b rest rfl, o7]
 have e : a0h N b = some b := by
  unfold a0h
  rw [j5, if_pos (by omega)]
 rw [e, j4]
theorem d8v {r : Rf} (h1 : U8 r.p) (h2 : U8 r.c) (rest : List UInt8) : a7q N (wRf r ++ rest) = some (r.p, r.c, rest) := by
 unfold a7q d2B wRf
 show (s7 (D5 N (C6 r.p :: (C6 r.c :: rest))) _) = _
 rw [W9 N h1, o7, W9 N h2, o7]
def GTp (t : Tp) : Prop := (t.k = 5 /\ U8 t.r.p /\ U8 t.r.c) ∨ (0 <= t.k /\ t.k < 5 /\ t.r.p = 0 /\ t.r.c = 0)
theorem e5T {t : Tp} (h : GTp t) (rest : List UInt8) : b3k N (wTp t ++ rest) = some (t.k, t.r.p, t.r.c, rest) := by
 unfold b3k d5A wTp
 rcases h with ⟨h1, h2, h3⟩ | ⟨h1, h2, h3, h4⟩
 . rw [if_pos h1, Gv, W9 N (by unfold U8; omega), o7, j5, if_neg (by omega), j5, if_pos h1, d8v N h2 h3, K5]
 . rw [if_neg (by omega), Gv, Is, W9 N (by unfold U8; omega), o7, j5, if_neg (by omega), j5, if_neg (by omega), h3, h4]
theorem e5P {n : Int} (h : n = -1 ∨ (0 <= n /\ n <= 254)) (rest : List UInt8) : b1B N (wN n ++ rest) = some (n, rest) := by
 unfold b1B c7q wN
 show (s7 (D5 N (C6 n :: rest)) _) = _
 rcases h with rfl | h
 . rw [show C6 (-1) = 255 from by decide, d6i, o7]; rfl
 . rw [W9 N (by unfold U8; omega), o7, j5, if_neg (by omega)]
theorem e7D {n : Int} (h : U8 n) (rest : List UInt8) : D5 N (wN n ++ rest) = some (n, rest) := W9 N h rest
theorem e0d (hN : 1000 < N) (l : List Int) (rest : List UInt8) (hl : l.length <= 250) (hg : ∀ x ∈ l, U8 x) : b7M N (wL wN l ++ rest) = some (l.map nV, rest) := by
 unfold b7M d5Z wL
 rw [Gv, W9 N (by unfold U8; omega), o7]
 refine a0k (fun t acc i bs => a5X N 1 (l.length : Int) t acc i bs fun l2 l3 => some (l2, l3)) (fun a b => some (a, b)) nV wN l (fun t i x acc rest hx ha => ?_) (fun t acc rest => ?_) N rest (by omega)
 . have hi := C3 hx
   show a3B N 1 (l.length : Int) _ _ _ _ _ = _
   unfold a3B
   rw [j5, if_pos (by omega), j5, if_pos rfl, e7D N (hg x (Ga hx)) rest, o7]
   rw [j5, if_pos (by simp only [FO, Gc]; omega), C7 hi (by omega)]
   rfl
 . show a3B N 1 (l.length : Int) _ _ _ _ _ = _
   unfold a3B
   rw [j5, if_neg (by omega)]
theorem d6x (hN : 1000 < N) (l : List Int) (rest : List UInt8) (hl : l.length <= 250) (hg : ∀ x ∈ l, x = -1 ∨ (0 <= x /\ x <= 254)) : b1V N (wL wN l ++ rest) = some (l.map nV, rest) := by
 unfold b1V c8g wL
 rw [Gv, W9 N (by unfold U8; omega), o7]
 refine a0k (fun t acc i bs => a2y N 1 (l.length : Int) t acc i bs fun l2 l3 => some (l2, l3)) (fun a b => some (a, b)) nV wN l (fun t i x acc rest hx ha => ?_) (fun t acc rest => ?_) N rest (by omega)
 . have hi := C3 hx
   show a1d N 1 (l.length : Int) _ _ _ _ _ = _
   unfold a1d
   rw [j5, if_pos (by omega), j5, if_pos rfl, e5P N (hg x (Ga hx)) rest, o7]
   rw [j5, if_pos (by simp only [FO, Gc]; omega), C7 hi (by omega)]
   rfl
 . show a1d N 1 (l.length : Int) _ _ _ _ _ = _
   unfold a1d
   rw [j5, if_neg (by omega)]
def GRf (r : Rf) : Prop := U8 r.p /\ U8 r.c
theorem d8A (hN : 1000 < N) (l : List Rf) (rest : List UInt8) (hl : l.length <= 250) (hg : ∀ x ∈ l, GRf x) : b9p N (wL wRf l ++ rest) = some (l.map rfV, rest) := by
 unfold b9p d2H wL
 rw [Gv, W9 N (by unfold U8; omega), o7]
 refine a0k (fun t acc i bs => a5r N 1 (l.length : Int) t acc i bs fun l2 l3 => some (l2, l3)) (fun a b => some (a, b)) rfV wRf l (fun t i x acc rest hx ha => ?_) (fun t acc rest => ?_) N rest (by omega)
 . have hi := C3 hx
   show a2R N 1 (l.length : Int) _ _ _ _ _ = _
   unfold a2R
   rw [j5, if_pos (by omega), j5, if_pos rfl, d8v N (hg x (Ga hx)).1 (hg x (Ga hx)).2 rest, K5]
   rw [j5, if_pos (by simp only [FO, Gc]; omega), C7 hi (by omega)]
   rfl
 . show a2R N 1 (l.length : Int) _ _ _ _ _ = _
   unfold a2R
   rw [j5, if_neg (by omega)]
theorem b8z (hN : 1000 < N) (l : List Tp) (rest : List UInt8) (hl : l.length <= 250) (hg : ∀ x ∈ l, GTp x) : a9T N (wL wTp l ++ rest) = some (l.map tpV, rest) := by
 unfold a9T d2A wL
 rw [Gv, W9 N (by unfold U8; omega), o7]
 refine a0k (fun t acc i bs => a5b N 1 (l.length : Int) t acc i bs fun l2 l3 => some (l2, l3)) (fun a b => some (a, b)) tpV wTp l (fun t i x acc rest hx ha => ?_) (fun t acc rest => ?_) N rest (by omega)
 . have hi := C3 hx
   show a2G N 1 (l.length : Int) _ _ _ _ _ = _
   unfold a2G
   rw [j5, if_pos (by omega), j5, if_pos rfl, e5T N (hg x (Ga hx)) rest, R2]
   rw [j5, if_pos (by simp only [FO, Gc]; omega), C7 hi (by omega)]
   rfl
 . show a2G N 1 (l.length : Int) _ _ _ _ _ = _
   unfold a2G
   rw [j5, if_neg (by omega)]
def GIl (x : Il) : Prop := GRf x.i /\ x.ms.length <= 250 /\ ∀ n ∈ x.ms, U8 n
theorem e6F (hN : 1000 < N) {x : Il} (h : GIl x) (rest : List UInt8) : b1N N (wIl x ++ rest) = some (x.i.p, x.i.c, x.ms.map nV, rest) := by
 unfold b1N c9b wIl
 rw [Gq, d8v N h.1.1 h.1.2, K5, e0d N hN _ _ h.2.1 h.2.2, o7]
theorem d5v (hN : 1000 < N) (l : List Il) (rest : List UInt8) (hl : l.length <= 250) (hg : ∀ x ∈ l, GIl x) : b1S N (wL wIl l ++ rest) = some (l.map ilV, rest) := by
 unfold b1S c7D wL
 rw [Gv, W9 N (by unfold U8; omega), o7]
 refine a0k (fun t acc i bs => a2F N 1 (l.length : Int) t acc i bs fun l2 l3 => some (l2, l3)) (fun a b => some (a, b)) ilV wIl l (fun t i x acc rest hx ha => ?_) (fun t acc rest => ?_) N rest (by omega)
 . have hi := C3 hx
   show a0W N 1 (l.length : Int) _ _ _ _ _ = _
   unfold a0W
   rw [j5, if_pos (by omega), j5, if_pos rfl, e6F N hN (hg x (Ga hx)) rest, R2]
   rw [j5, if_pos (by simp only [FO, Gc]; omega), C7 hi (by omega)]
   rfl
 . show a0W N 1 (l.length : Int) _ _ _ _ _ = _
   unfold a0W
   rw [j5, if_neg (by omega)]
def GCl (c : Cl) : Prop := GRf c.sup /\ (c.ext.length <= 250 /\ ∀ x ∈ c.ext, GRf x) /\ (c.fs.length <= 250 /\ ∀ x ∈ c.fs, GTp x) /\ (c.vs.length <= 250 /\ ∀ x ∈ c.vs, x = -1 ∨ (0 <= x /\ x <= 254)) /\ (c.is.length <= 250 /\ ∀ x ∈ c.is, GIl x)
theorem e3P (hN : 1000 < N) {c : Cl} (h : GCl c) (rest : List UInt8) : a8b N (wCl c ++ rest) = some (c.sup.p, c.sup.c, c.itf, c.ext.map rfV, c.fs.map tpV, c.vs.map nV, c.is.map ilV, rest) := by
 obtain ⟨h1, ⟨h2, h3⟩, ⟨h4, h5⟩, ⟨h6, h7⟩, h8, h9⟩ := h
 unfold a8b c1C wCl
 simp only [Gv, Gq]
 rw [W9 N (by unfold U8; split <;> omega), o7, j5, if_neg (by split <;> omega), d8v N h1.1 h1.2, K5, d8A N hN _ _ h2 h3, o7, b8z N hN _ _ h4 h5, o7, d6x N hN _ _ h6 h7, o7, d5v N hN _ _ h8 h9, o7]
 cases c.itf <;> rfl
def GHd (h : Hd) : Prop := U16 h.f /\ U16 h.t /\ U16 h.g /\ U16 h.w
theorem e7F {h : Hd} (g : GHd h) (rest : List UInt8) : c0k N (wHd h ++ rest) = some (h.f, h.t, h.g, h.w, rest) := by
 obtain ⟨h1, h2, h3, h4⟩ := g
 unfold c0k d3v wHd
 simp only [Gq]
 rw [c2z N h1, o7, c2z N h2, o7, c2z N h3, o7, c2z N h4, o7]
theorem e0p (hN : 1000 < N) (l : List Hd) (rest : List UInt8) (hl : l.length <= 250) (hg : ∀ x ∈ l, GHd x) : b8M N (wL wHd l ++ rest) = some (l.map hdV, rest) := by
 unfold b8M d5R wL
 rw [Gv, W9 N (by unfold U8; omega), o7]
 refine a0k (fun t acc i bs => a4K N 1 (l.length : Int) t acc i bs fun l2 l3 => some (l2, l3)) (fun a b => some (a, b)) hdV wHd l (fun t i x acc rest hx ha => ?_) (fun t acc rest => ?_) N rest (by omega)
 . have hi := C3 hx
   show a3t N 1 (l.length : Int) _ _ _ _ _ = _
   unfold a3t
   rw [j5, if_pos (by omega), j5, if_pos rfl, e7F N (hg x (Ga hx)) rest, a0l]
   rw [j5, if_pos (by simp only [FO, Gc]; omega), C7 hi (by omega)]
   rfl
 . show a3t N 1 (l.length : Int) _ _ _ _ _ = _
   unfold a3t
   rw [j5, if_neg (by omega)]
def GMt (m : Mt) : Prop := U8 m.cls /\ (m.ps.length <= 250 /\ ∀ x ∈ m.ps, GTp x) /\ GTp m.r /\ U8 m.lo /\ U8 m.sk /\ (m.code.length <= 256 /\ N0 m.code = 0 /\ (N2 m.code).length <= 65535) /\ (m.hs.length <= 250 /\ ∀ x ∈ m.hs, GHd x)
theorem b6p : ∀ l : List In, l.length <= (N2 l).length
 | [] => Nat.zero_le _
 | i :: l => by
   have := b6p l
   have h : 1 <= (b5O i).length := by unfold b5O; simp
   simp only [N2, FT, FO]; omega
theorem b6E (a b : Bool) : (!decide (j9 BinOp.and FK ((if a = true then 1 else 0) + (if b = true then 2 else 0)) 1 = 0)) = a /\ (!decide (j9 BinOp.and FK ((if a = true then 1 else 0) + (if b = true then 2 else 0)) 2 = 0)) = b := by
 cases a <;> cases b <;> decide +kernel
theorem d9G (hN : 70000 < N) {m : Mt} (h : GMt m) (rest : List UInt8) : a6A N (wMt m ++ rest) = some (m.st, m.ab, m.cls, m.ps.map tpV, m.r.k, m.r.r.p, m.r.r.c, m.lo, m.sk, iE m.code, m.hs.map hdV, rest) := by
 obtain ⟨h1, ⟨h2, h3⟩, h4, h5, h6, ⟨h7, h8, h9⟩, h10, h11⟩ := h
 have e : a2H m.code = (N2 m.code, 0) := by unfold a2H; rw [if_neg (by omega), if_pos h8]
 unfold a6A b7i wMt
 rw [e]
 simp only [Gv, Gq]
 rw [W9 N (by unfold U8; split <;> split <;> omega), o7, j5, if_neg (by split <;> split <;> omega), W9 N h1, o7, b8z N (by omega) _ _ h2 h3, o7, e5T N h4, R2, W9 N h5, o7, W9 N h6, o7, c2z N (by unfold U16; omega), o7, a9i N _ _ _ rfl, o7, c6G N (by omega) _ (by omega), c1v _ _ _ (by have := b6p m.code; omega) (by simp; omega) h8]
 unfold d7A
 rw [o7, L9, j5]
 simp only [Is]
 rw [if_pos trivial, e0p N (by omega) _ _ h10 h11, o7, (b6E m.st m.ab).1, (b6E m.st m.ab).2]
theorem e7h {x : Im} (h1 : x.aid.length <= 200) (h2 : U8 x.ma) (h3 : U8 x.mi) (rest : List UInt8) : b8e N (wIm x ++ rest) = some (x.aid, x.ma, x.mi, rest) := by
 unfold b8e d5H wIm
 rw [Gq, e3k N _ _ h1, o7]
 show (s7 (D5 N (C6 x.ma :: (C6 x.mi :: rest))) _) = _
 rw [W9 N h2, o7, W9 N h3, o7]
theorem e7I {x : Ap} (h1 : x.aid.length <= 200) (h2 : U8 x.cl) (h3 : U8 x.ins) (rest : List UInt8) : b8B N (wAp x ++ rest) = some (x.aid, x.cl, x.ins, rest) := by
 unfold b8B d4P wAp
 rw [Gq, e3k N _ _ h1, o7]
 show (s7 (D5 N (C6 x.cl :: (C6 x.ins :: rest))) _) = _
 rw [W9 N h2, o7, W9 N h3, o7]
def GIm (x : Im) : Prop := x.aid.length <= 200 /\ U8 x.ma /\ U8 x.mi
def GAp (x : Ap) : Prop := x.aid.length <= 200 /\ U8 x.cl /\ U8 x.ins
theorem d8y (hN : 1000 < N) (l : List Im) (rest : List UInt8) (hl : l.length <= 250) (hg : ∀ x ∈ l, GIm x) : b8k N (wL wIm l ++ rest) = some (l.map imV, rest) := by
 unfold b8k d3I wL
 rw [Gv, W9 N (by unfold U8; omega), o7]
 refine a0k (fun t acc i bs => a4R N 1 (l.length : Int) t acc i bs fun l2 l3 => some (l2, l3)) (fun a b => some (a, b)) imV wIm l (fun t i x acc rest hx ha => ?_) (fun t acc rest => ?_) N rest (by omega)
 . have hi := C3 hx
   show a3s N 1 (l.length : Int) _ _ _ _ _ = _
   unfold a3s
   rw [j5, if_pos (by omega), j5, if_pos rfl, e7h N (hg x (Ga hx)).1 (hg x (Ga hx)).2.1 (hg x (Ga hx)).2.2 rest, R2]
   rw [j5, if_pos (by simp only [FO, Gc]; omega), C7 hi (by omega)]
   rfl
 . show a3s N 1 (l.length : Int) _ _ _ _ _ = _
   unfold a3s
   rw [j5, if_neg (by omega)]
theorem e0i (hN : 1000 < N) (l : List Ap) (rest : List UInt8) (hl : l.length <= 250) (hg : ∀ x ∈ l, GAp x) : b8N N (wL wAp l ++ rest) = some (l.map apV, rest) := by
 unfold b8N d5n wL
 rw [Gv, W9 N (by unfold U8; omega), o7]
 refine a0k (fun t acc i bs => a4E N 1 (l.length : Int) t acc i bs fun l2 l3 => some (l2, l3)) (fun a b => some (a, b)) apV wAp l (fun t i x acc rest hx ha => ?_) (fun t acc rest => ?_) N rest (by omega)
 . have hi := C3 hx
   show a2O N 1 (l.length : Int) _ _ _ _ _ = _
   unfold a2O
   rw [j5, if_pos (by omega), j5, if_pos rfl, e7I N (hg x (Ga hx)).1 (hg x (Ga hx)).2.1 (hg x (Ga hx)).2.2 rest, R2]
   rw [j5, if_pos (by simp only [FO, Gc]; omega), C7 hi (by omega)]
   rfl
 . show a2O N 1 (l.length : Int) _ _ _ _ _ = _
   unfold a2O
   rw [j5, if_neg (by omega)]
theorem e1B (hN : 1000 < N) (l : List Cl) (rest : List UInt8) (hl : l.length <= 250) (hg : ∀ x ∈ l, GCl x) : b9o N (wL wCl l ++ rest) = some (l.map clV, rest) := by
 unfold b9o d2E wL
 rw [Gv, W9 N (by unfold U8; omega), o7]
 refine a0k (fun t acc i bs => a5m N 1 (l.length : Int) t acc i bs fun l2 l3 => some (l2, l3)) (fun a b => some (a, b)) clV wCl l (fun t i x acc rest hx ha => ?_) (fun t acc rest => ?_) N rest (by omega)
 . have hi := C3 hx
   show a3z N 1 (l.length : Int) _ _ _ _ _ = _
   unfold a3z
   rw [j5, if_pos (by omega), j5, if_pos rfl, e3P N hN (hg x (Ga hx)) rest, d9P]
   rw [j5, if_pos (by simp only [FO, Gc]; omega), C7 hi (by omega)]
   rfl
 . show a3z N 1 (l.length : Int) _ _ _ _ _ = _
   unfold a3z
   rw [j5, if_neg (by omega)]
theorem e0U (hN : 70000 < N) (l : List Mt) (rest : List UInt8) (hl : l.length <= 250) (hg : ∀ x ∈ l, GMt x) : a9F N (wL wMt l ++ rest) = some (l.map mtV, rest) := by
 unfold a9F c5K wL
 rw [Gv, W9 N (by unfold U8; omega), o7]
 refine a0k (fun t acc i bs => a4L N 1 (l.length : Int) t acc i bs fun l2 l3 => some (l2, l3)) (fun a b => some (a, b)) mtV wMt l (fun t i x acc rest hx ha => ?_) (fun t acc rest => ?_) N rest (by omega)
 . have hi := C3 hx
   show a1r N 1 (l.length : Int) _ _ _ _ _ = _
   unfold a1r
   rw [j5, if_pos (by omega), j5, if_pos rfl, d9G N hN (hg x (Ga hx)) rest, d6h]
   rw [j5, if_pos (by simp only [FO, Gc]; omega), C7 hi (by omega)]
   rfl
 . show a1r N 1 (l.length : Int) _ _ _ _ _ = _
   unfold a1r
   rw [j5, if_neg (by omega)]
def GPk (p : Pk) : Prop := p.aid.length <= 200 /\ U8 p.ma /\ U8 p.mi /\ (p.ims.length <= 250 /\ ∀ x ∈ p.ims, GIm x) /\ (p.cls.length <= 250 /\ ∀ x ∈ p.cls, GCl x) /\ (p.mts.length <= 250 /\ ∀ x ∈ p.mts, GMt x) /\ (p.sts.length <= 250 /\ ∀ x ∈ p.sts, GTp x) /\ (p.aps.length <= 250 /\ ∀ x ∈ p.aps, GAp x)
theorem c5F (t : Nat) (r : List UInt8) (K : List UInt8 -> Option R) : G9 N [V.int FK 83, V.int FK 67, V.int FK 49] 3 [] 0 0 [] [] [] [] [] (t + 4) 0 (83 :: 67 :: 49 :: r) K = K r := by
 have s0 : ∀ (t : Nat) (r : List UInt8), G9 N [V.int FK 83, V.int FK 67, V.int FK 49] 3 [] 0 0 [] [] [] [] [] (t + 1) 0 (83 :: r) K = G9 N [V.int FK 83, V.int FK 67, V.int FK 49] 3 [] 0 0 [] [] [] [] [] t 1 r K := fun t r => by
  show O5 N _ 3 [] 0 0 [] [] [] [] [] _ K 0 (83 :: r) = _
  unfold O5
  show s7 (D5 N (83 :: r)) (fun a b => br (!decide (a = 83)) none (G9 N [V.int FK 83, V.int FK 67, V.int FK 49] 3 [] 0 0 [] [] [] [] [] t (FK.wrap (0 + 1)) b K)) = _
  rw [d6i, o7]; rfl
 have s1 : ∀ (t : Nat) (r : List UInt8), G9 N [V.int FK 83, V.int FK 67, V.int FK 49] 3 [] 0 0 [] [] [] [] [] (t + 1) 1 (67 :: r) K = G9 N [V.int FK 83, V.int FK 67, V.int FK 49] 3 [] 0 0 [] [] [] [] [] t 2 r K := fun t r => by
  show O5 N _ 3 [] 0 0 [] [] [] [] [] _ K 1 (67 :: r) = _
  unfold O5
  show s7 (D5 N (67 :: r)) (fun a b => br (!decide (a = 67)) none (G9 N [V.int FK 83, V.int FK 67, V.int FK 49] 3 [] 0 0 [] [] [] [] [] t (FK.wrap (1 + 1)) b K)) = _
  rw [d6i, o7]; rfl
 have s2 : ∀ (t : Nat) (r : List UInt8), G9 N [V.int FK 83, V.int FK 67, V.int FK 49] 3 [] 0 0 [] [] [] [] [] (t + 1) 2 (49 :: r) K = G9 N [V.int FK 83, V.int FK 67, V.int FK 49] 3 [] 0 0 [] [] [] [] [] t 3 r K := fun t r => by
  show O5 N _ 3 [] 0 0 [] [] [] [] [] _ K 2 (49 :: r) = _
  unfold O5
  show s7 (D5 N (49 :: r)) (fun a b => br (!decide (a = 49)) none (G9 N [V.int FK 83, V.int FK 67, V.int FK 49] 3 [] 0 0 [] [] [] [] [] t (FK.wrap (2 + 1)) b K)) = _
  rw [d6i, o7]; rfl
 rw [s0, s1, s2]
 rfl
theorem d3b (hN : 70000 < N) {p : Pk} (h : GPk p) : a3u N (wPk p) = some (p.aid, p.ma, p.mi, p.ims.map imV, p.cls.map clV, p.mts.map mtV, p.sts.map tpV, p.aps.map apV, []) := by
 obtain ⟨h1, h2, h3, ⟨h4, h5⟩, ⟨h6, h7⟩, ⟨h8, h9⟩, ⟨h10, h11⟩, h12, h13⟩ := h
 unfold a3u b4T
 unfold wPk
 obtain ⟨t, rfl⟩ : ∃ t, N = t + 4 := ⟨N - 4, by omega⟩
 rw [c5F (t + 4) t _ _, e3k _ _ _ h1, o7, W9 _ h2, o7, W9 _ h3, o7, d8y _ (by omega) _ _ h4 h5, o7, e1B _ (by omega) _ _ h6 h7, o7, e0U _ hN _ _ h8 h9, o7, b8z _ (by omega) _ _ h10 h11, o7]
 have e := e0i (t + 4) (by omega) p.aps [] h12 h13
 rw [List.append_nil] at e
 rw [e, o7]
 rfl
end
end En
end
end Go.Proofs.YtkoilndpfifapaaGreatDoor
