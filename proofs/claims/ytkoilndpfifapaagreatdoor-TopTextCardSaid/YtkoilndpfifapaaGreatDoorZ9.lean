/- Texts. -/
import Derived.Test.YtkoilndpfifapaaGreatDoorZ8

set_option linter.unusedSimpArgs false
set_option linter.unusedVariables false
set_option linter.unusedSectionVars false
open BitVec renaming ofInt → GT, toNat_ofInt → IS
open Bool renaming and_eq_true → FT
open Eq renaming trans → Gs
open Go.IntKind renaming i64 → FK, u8 → FY, wrap_i64 → Ho
open List renaming flatMap_cons → Hb, length_append → FU, length_cons → FO, length_nil → Gd, length_map → Gi, append_assoc → Gr, mem_of_getElem? → Gb, cons_append → Gw, nil_append → It
open Nat renaming beq → FZ, eq_of_beq_eq_true → FM
namespace Go.Proofs.YtkoilndpfifapaaGreatDoor
noncomputable section
namespace En
open Go Go.Proofs
set_option maxRecDepth 100000
set_option maxHeartbeats 8000000
def a2S {R : Type} (N : Nat) (Aa : List V) (u : Int) (Lq : Int -> LB -> Option R) (K0 : LB -> Option R) (d : Int) (l3 : LB) : Option R := br (decide (d < u)) (br (decide (0 <= d) && decide (d < (Aa.length : Int))) (at? Aa d.toNat fun f => V.unInt FK f fun u => br (decide ((l3.length + [UInt8.ofNat (FY.wrap u).toNat].length) * 1 <= 140737488355328)) (Lq (FK.wrap (d + 1)) (l3 ++ [UInt8.ofNat (FY.wrap u).toNat])) none) none) (K0 l3)
def a5Y {R : Type} (N : Nat) (Aa : List V) (u : Int) : Nat -> Int -> LB -> (LB -> Option R) -> Option R | 0, _, _, _ => none | t + 1, d, l3, K0 => a2S N Aa u (fun d l3 => a5Y N Aa u t d l3 K0) K0 d l3
def b3f {R : Type} (N : Nat) (ds : List D) (m : Mem) (K : Ex -> List D -> Mem -> Option R) : Option R :=
 match ds, m with
 | [(.ptr 1 0 0), (.v (.sl 3 Aa) .no), (.v (.int .i64 u) .no), (.v (.int .i64 d) .no)], [[], [(0, ⟨96, [(.v (.bytes l3) (.own (.slot 0) 5))]⟩)]] => a5Y N Aa u N d l3 (fun a0 => K (.exit 0) [] (mm6 a0))
 | _, _ => none
def d1R {R : Type} (N : Nat) (f : List V) (U : LB) (K0 : LB -> Option R) : Option R := a5Y N f (f.length : Int) N 0 U fun w => K0 w
def H6 (N : Nat) (f : List V) (U : LB) : Option (LB) := d1R N f U (fun z0 => some z0)
def c7c (N : Nat) : Cx := cl [] [] [⟨1, [0, 6, 7, 8], [], b3f N⟩]
theorem c8Z (N : Nat) : p9 (c7c N) 24 (s4 Tryz.f65 0) := by
 refine j7 (rid := 1) (by kernel_rfl) rfl rfl fun R ds m K r h => ?_
 change b3f N ds m K = _ at h
 unfold b3f at h
 split at h
 . rename_i Aa u d l3
   exact ⟨N, Gs (lpI (fun (e : (LB -> Option R)) L (s : Int × LB) => a2S N Aa u (fun d l3 => L (d, l3)) e s.1 s.2) (fun e t s => a5Y N Aa u t s.1 s.2 e) (fun s => [(.ptr 1 0 0), (.v (.sl 3 Aa) .no), (.v (.int .i64 u) .no), (.v (.int .i64 s.1) .no)]) (fun s => mm6 s.2) (fun _ _ => rfl) (fun _ _ _ => rfl) (e := _) (fun L s => by kernel_rfl) N (d, l3)) h⟩
 . cases h
def J1 (N : Nat) : MEnt := vE 65 (.p 0 (.v (.l 3) .z)) [(96, [.o 5])] .z true (H6 N)
theorem J7 (N : Nat) : MEO (J1 N) := vk (cx := c7c N) (D4 trivial trivial) Tryz.func65 (j6 (k := 1) (by kernel_rfl) ⟨trivial, c8Z N⟩) (by kernel_rfl) fun h => by kernel_rfl
def a0R {R : Type} (N : Nat) (Aa : List V) (u : Int) (Lq : Int -> LB -> Option R) (K0 : LB -> Option R) (d : Int) (l3 : LB) : Option R := br (decide (d < u)) (br (decide (0 <= d) && decide (d < (Aa.length : Int))) (at? Aa d.toNat fun f => V.unInt FK f fun u => j3 (H6 N [V.int FK (G8 FK u 8), V.int FK u] l3) fun l2 => Lq (FK.wrap (d + 1)) l2) none) (K0 l3)
def a3c {R : Type} (N : Nat) (Aa : List V) (u : Int) : Nat -> Int -> LB -> (LB -> Option R) -> Option R | 0, _, _, _ => none | t + 1, d, l3, K0 => a0R N Aa u (fun d l3 => a3c N Aa u t d l3 K0) K0 d l3
def b0g {R : Type} (N : Nat) (ds : List D) (m : Mem) (K : Ex -> List D -> Mem -> Option R) : Option R :=
 match ds, m with
 | [(.ptr 1 0 0), (.v (.sl 3 Aa) .no), (.v (.int .i64 u) .no), (.v (.int .i64 d) .no)], [[], [(0, ⟨96, [(.v (.bytes l3) (.own (.slot 0) 5))]⟩)]] => a3c N Aa u N d l3 (fun a0 => K (.exit 0) [] (mm6 a0))
 | _, _ => none
def c8Q {R : Type} (N : Nat) (f : List V) (U : LB) (K0 : LB -> Option R) : Option R := a3c N f (f.length : Int) N 0 U fun w => K0 w
def a3D (N : Nat) (f : List V) (U : LB) : Option (LB) := c8Q N f U (fun z0 => some z0)
def c3A (N : Nat) : Cx := cl [] [J1 N] [⟨1, [0, 6, 7, 8], [], b0g N⟩]
theorem c5N (N : Nat) : p9 (c3A N) 21 (s4 Tryz.f126 0) := by
 refine j7 (rid := 1) (by kernel_rfl) rfl rfl fun R ds m K r h => ?_
 change b0g N ds m K = _ at h
 unfold b0g at h
 split at h
 . rename_i Aa u d l3
   exact ⟨N, Gs (lpI (fun (e : (LB -> Option R)) L (s : Int × LB) => a0R N Aa u (fun d l3 => L (d, l3)) e s.1 s.2) (fun e t s => a3c N Aa u t s.1 s.2 e) (fun s => [(.ptr 1 0 0), (.v (.sl 3 Aa) .no), (.v (.int .i64 u) .no), (.v (.int .i64 s.1) .no)]) (fun s => mm6 s.2) (fun _ _ => rfl) (fun _ _ _ => rfl) (e := _) (fun L s => by kernel_rfl) N (d, l3)) h⟩
 . cases h
def b7R (N : Nat) : MEnt := vE 126 (.p 0 (.v (.l 3) .z)) [(96, [.o 5])] .z true (a3D N)
theorem c0M (N : Nat) : MEO (b7R N) := vk (cx := c3A N) (D4 trivial ⟨J7 N, trivial⟩) Tryz.func126 (j6 (k := 1) (by kernel_rfl) ⟨trivial, c5N N⟩) (by kernel_rfl) fun h => by kernel_rfl
def a6p (N : Nat) (f : Bool) (x1 : Int) : Option (Int) := br f (some x1) (some 0)
def b8c (N : Nat) : Ent := pE 119 (.v .b (.v fI .z)) (.v fI .z) (a6p N)
theorem c1y (N : Nat) : EO (b8c N) := pk0 (cx := cz [] []) (A9 trivial trivial) Tryz.func119 (by kernel_rfl) fun h => by kernel_rfl
def d6s {R : Type} (N : Nat) (f x1 : Int) (U : LB) (K0 : LB -> Option R) : Option R := j3 (H6 N [V.int FK f, V.int FK x1] U) fun w => K0 w
def a7M (N : Nat) (f x1 : Int) (U : LB) : Option (LB) := d6s N f x1 U (fun z0 => some z0)
def b3v (N : Nat) : MEnt := vE 120 (.p 0 (.a (.v fI (.v fI .z)) .z)) [(96, [.o 5])] .z true (a7M N)
theorem b1I (N : Nat) : MEO (b3v N) := vk0 (cx := cz [] [J1 N]) (A9 trivial ⟨J7 N, trivial⟩) Tryz.func120 (by kernel_rfl) fun h => by kernel_rfl
def d3v {R : Type} (N : Nat) (f x1 x2 : Int) (U : LB) (K0 : LB -> Option R) : Option R := j3 (H6 N [V.int FK f] U) fun w => br (decide (f = 5)) (j3 (a7M N x1 x2 w) fun l1 => K0 l1) (K0 w)
def b2C (N : Nat) (f x1 x2 : Int) (U : LB) : Option (LB) := d3v N f x1 x2 U (fun z0 => some z0)
def b3R (N : Nat) : MEnt := vE 74 (.p 0 (.a (.v fI (.v fI (.v fI .z))) .z)) [(96, [.o 5])] .z true (b2C N)
theorem b1W (N : Nat) : MEO (b3R N) := vk0 (cx := cz [] [J1 N, b3v N]) (A9 trivial ⟨J7 N, b1I N, trivial⟩) Tryz.func74 (by kernel_rfl) fun h => by kernel_rfl
def d5D {R : Type} (N : Nat) (f : Int) (U : LB) (K0 : LB -> Option R) : Option R := j3 (H6 N [V.int FK f] U) fun w => K0 w
def b7U (N : Nat) (f : Int) (U : LB) : Option (LB) := d5D N f U (fun z0 => some z0)
def b8m (N : Nat) : MEnt := vE 123 (.p 0 (.v fI .z)) [(96, [.o 5])] .z true (b7U N)
theorem b9f (N : Nat) : MEO (b8m N) := vk0 (cx := cz [] [J1 N]) (A9 trivial ⟨J7 N, trivial⟩) Tryz.func123 (by kernel_rfl) fun h => by kernel_rfl
def c0U {R : Type} (s : Int -> LB -> Option (LB)) (dst : Nat) (ds : List D) (m : Mem) (K : List D -> Mem -> Option R) : Option R :=
 match ds with
 | [.v (.int .u8 f) .no, .ptr (As + 1) Av 0] => (match m.box? As Av with
   | some ⟨_, [.ptr hk hs _]⟩ => cond (true) (a0s [(As, Av), (As + hk, hs)] m fun Bs => (match Bs with
     | [⟨128, [.ptr tk ts 0]⟩, ⟨96, [.v (.bytes U) (.own (.slot 0) 5)]⟩] => cond (FZ hk tk && FZ hs ts) (j3 (s f U) fun z0 => J5 [(As, Av), (As + hk, hs)] [⟨128, [.ptr hk hs 0]⟩, ⟨96, [.v (.bytes z0) (.own (.slot 0) 5)]⟩] m fun m' => K [] m') none
     | _ => none)) none
   | _ => none)
 | _ => none
def L8 {α : Type} (K : LB -> Option α) (rs : List D) (m : Mem) : Option α :=
 match rs, m with
 | [], [_, [(0, ⟨128, [.ptr 0 1 0]⟩), (1, ⟨96, [.v (.bytes z0) (.own (.slot 0) 5)]⟩)]] => K z0
 | _, _ => none
def d4N {R : Type} (N : Nat) (f : Int) (U : LB) (K0 : LB -> Option R) : Option R := j3 (H6 N [V.int FK (FK.wrap f)] U) fun w => K0 w
def b2r (N : Nat) : Int -> LB -> Option (LB) := fun f U => d4N N f U (fun z0 => some z0)
def d3L (N : Nat) : Cx := cxO [] [J1 N]
theorem d4v {R : Type} (N : Nat) (f U K : _) : M4 (R := R) (d3L N) Tryz.f118 [.v (.int .u8 f) .no, .ptr 1 0 0] [J4 0 [⟨128, [.ptr 0 1 0]⟩, ⟨96, [.v (.bytes U) (.own (.slot 0) 5)]⟩]] (L8 K) = d4N N f U (fun z0 => K z0) := by
 kernel_rfl
abbrev e1i (s : Int -> LB -> Option (LB)) : Prop := ∀ {f U z0}, s f U = some z0 -> VR2 118 [.v (.int .u8 f) .no, .ptr 1 0 0] [⟨128, [.ptr 0 1 0]⟩, ⟨96, [.v (.bytes U) (.own (.slot 0) 5)]⟩] [] [⟨128, [.ptr 0 1 0]⟩, ⟨96, [.v (.bytes z0) (.own (.slot 0) 5)]⟩]
theorem d5s (s : Int -> LB -> Option (LB)) (hs : e1i s) : MEO ⟨118, c0U s⟩ := by
 refine ⟨K6 Tryz.func118 (by kernel_rfl) (c := s6 Tryz.f118) (by kernel_rfl), fun R dst ds m K r h => ?_⟩
 simp only [c0U] at h
 split at h
 . split at h
   . rcases j8 h with ⟨hc, hq⟩ | ⟨_, hq⟩
     . clear h
       obtain ⟨Bs, a1, a2, a3, h⟩ := F8 hq
       split at h
       . rcases j8 h with ⟨hc, hk⟩ | ⟨_, hk⟩
         . simp only [FT] at hc
           obtain ⟨c3, c4⟩ := hc
           have c3 := FM c3
           have c4 := FM c4
           subst c3 c4
           obtain ⟨z0, h1, h2⟩ := L2 hk
           rw [F5] at h2
           exact ⟨_, _, h2, hs h1 _ _ m dst _ _ a1 a2 a3 rfl rfl ⟨M8 _, G0 _ rfl, trivial⟩ (F0 rfl (J6 rfl) (F1 rfl)) (F0 rfl (J6 rfl) (F1 rfl))⟩
         . cases hk
       . cases h
     . cases hq
   . cases h
 . cases h
open Classical in
theorem e1d (N : Nat) : e1i (b2r N) := fun {f U z0} h => by
 refine S3 (cx := d3L N) (by kernel_rfl) (a9l trivial ⟨J7 N, trivial⟩) Tryz.func118 (by kernel_rfl) (by kernel_rfl) (lz (by kernel_rfl)) (by rfl) (rf := L8 (fun Z0 => some Z0)) (r := z0) ?_ ?_
 . exact (d4v ..).trans h
 . intro rs' m' hx
   unfold L8 at hx
   split at hx
   . cases hx; exact ⟨rfl, rfl, _, rfl⟩
   . cases hx
def b7M {R : Type} (s : LB -> LB -> Option (LB)) (dst : Nat) (ds : List D) (m : Mem) (K : List D -> Mem -> Option R) : Option R :=
 match ds with
 | [.ptr (Bf + 1) Bg 0, .v (.bytes f) .no, .clos 118 [.ptr (As + 1) Av 0]] => (match m.box? As Av with
   | some ⟨_, [.ptr hk hs _]⟩ => cond (FZ Bf (As + hk) && FZ Bg hs) (a0s [(As, Av), (As + hk, hs)] m fun Bs => (match Bs with
     | [⟨128, [.ptr tk ts 0]⟩, ⟨96, [.v (.bytes U) (.own (.slot 0) 5)]⟩] => cond (FZ hk tk && FZ hs ts) (j3 (s f U) fun z0 => J5 [(As, Av), (As + hk, hs)] [⟨128, [.ptr hk hs 0]⟩, ⟨96, [.v (.bytes z0) (.own (.slot 0) 5)]⟩] m fun m' => K [] m') none
     | _ => none)) none
   | _ => none)
 | _ => none
def Z7 {R : Type} (N : Nat) (w : LB) (u : Int) (Lq : Int -> LB -> Option R) (K0 : LB -> Option R) (d : Int) (l3 : LB) : Option R := br (decide (d < u)) (br (decide (0 <= d) && decide (d < (w.length : Int))) (at? w d.toNat fun u0 => j3 (b2r N (u0.toNat : Int) l3) fun l1 => Lq (FK.wrap (d + 1)) l1) none) (K0 l3)
def a3r {R : Type} (N : Nat) (w : LB) (u : Int) : Nat -> Int -> LB -> (LB -> Option R) -> Option R | 0, _, _, _ => none | t + 1, d, l3, K0 => Z7 N w u (fun d l3 => a3r N w u t d l3 K0) K0 d l3
def a9A {R : Type} (N : Nat) (ds : List D) (m : Mem) (K : Ex -> List D -> Mem -> Option R) : Option R :=
 match ds, m with
 | [(.clos 118 [(.ptr 1 0 0)]), (.v (.bytes w) .no), (.v (.int .i64 u) .no), (.v (.int .i64 d) .no)], [[], [(0, ⟨128, [(.ptr 0 1 0)]⟩), (1, ⟨96, [(.v (.bytes l3) (.own (.slot 0) 5))]⟩)]] => a3r N w u N d l3 (fun a0 => K (.exit 0) [] [[], [(0, ⟨128, [(.ptr 0 1 0)]⟩), (1, ⟨96, [(.v (.bytes a0) (.own (.slot 0) 5))]⟩)]])
 | _, _ => none
def b9b {R : Type} (N : Nat) (f U : LB) (K0 : LB -> Option R) : Option R := j3 (H6 N [V.int FK (f.length : Int)] U) fun w => a3r N f (f.length : Int) N 0 w fun l1 => K0 l1
def a9e (N : Nat) : LB -> LB -> Option (LB) := fun f U => b9b N f U (fun z0 => some z0)
def a1u (N : Nat) : Cx := { T := T, isPure := a5b [], pureK := fun g ds K => a1K [] g ds K, memK := fun g dst ds m K => W4 [J1 N, ⟨118, c0U (b2r N)⟩] g dst ds m K, meth := a2E [], keep := fun r => match r with | 2 => [2, 15, 16, 17] | _ => [], keepX := fun r => match r with | 2 => [] | _ => [], loopT := fun r ds m K => match r with | 2 => a9A N ds m K | _ => none, jumps := 9 }
theorem b9A {R : Type} (N : Nat) (w : LB) (u d : Int) (l3 : LB) (L : List D -> Mem -> Option R) (K : Ex -> List D -> Mem -> Option R) :
 W3 (fun st K => codeK (a1u N) (s4 Tryz.f117 0) st K) 25 [2, 15, 16, 17] [] L [(.clos 118 [(.ptr 1 0 0)]), (dY w), (dI u), (dI d)] [[], [(0, ⟨128, [(.ptr 0 1 0)]⟩), (1, ⟨96, [(.v (.bytes l3) (.own (.slot 0) 5))]⟩)]] K = Z7 N w u (fun d l3 => L [(.clos 118 [(.ptr 1 0 0)]), (dY w), (dI u), (dI d)] [[], [(0, ⟨128, [(.ptr 0 1 0)]⟩), (1, ⟨96, [(.v (.bytes l3) (.own (.slot 0) 5))]⟩)]]) (fun a0 => K (.exit 0) [] [[], [(0, ⟨128, [(.ptr 0 1 0)]⟩), (1, ⟨96, [(.v (.bytes a0) (.own (.slot 0) 5))]⟩)]]) d l3 := by
 kernel_rfl
theorem a9h {R : Type} (N : Nat) (w : LB) (u : Int) (K : Ex -> List D -> Mem -> Option R) : ∀ (t : Nat) (d : Int) (l3 : LB),
 O9 (fun st K => codeK (a1u N) (s4 Tryz.f117 0) st K) 25 [2, 15, 16, 17] [] t [(.clos 118 [(.ptr 1 0 0)]), (dY w), (dI u), (dI d)] [[], [(0, ⟨128, [(.ptr 0 1 0)]⟩), (1, ⟨96, [(.v (.bytes l3) (.own (.slot 0) 5))]⟩)]] K = a3r N w u t d l3 (fun a0 => K (.exit 0) [] [[], [(0, ⟨128, [(.ptr 0 1 0)]⟩), (1, ⟨96, [(.v (.bytes a0) (.own (.slot 0) 5))]⟩)]])
 | 0, d, l3 => rfl
 | t + 1, d, l3 => (b9A N w u d l3 _ K).trans (congrArg (fun L => Z7 N w u L (fun a0 => K (.exit 0) [] [[], [(0, ⟨128, [(.ptr 0 1 0)]⟩), (1, ⟨96, [(.v (.bytes a0) (.own (.slot 0) 5))]⟩)]]) d l3) (funext fun d => funext fun l3 => a9h N w u K t d l3))
theorem c6t {R : Type} (N : Nat) (f U K : _) : M4 (R := R) (a1u N) Tryz.f117 [.ptr 1 1 0, dY f, .clos 118 [.ptr 1 0 0]] [J4 0 [⟨128, [.ptr 0 1 0]⟩, ⟨96, [.v (.bytes U) (.own (.slot 0) 5)]⟩]] (L8 K) = b9b N f U (fun z0 => K z0) := by
 kernel_rfl
abbrev c7K (s : LB -> LB -> Option (LB)) : Prop := ∀ {f U z0}, s f U = some z0 -> VR2 117 [.ptr 1 1 0, dY f, .clos 118 [.ptr 1 0 0]] [⟨128, [.ptr 0 1 0]⟩, ⟨96, [.v (.bytes U) (.own (.slot 0) 5)]⟩] [] [⟨128, [.ptr 0 1 0]⟩, ⟨96, [.v (.bytes z0) (.own (.slot 0) 5)]⟩]
theorem d3E (s : LB -> LB -> Option (LB)) (hs : c7K s) : MEO ⟨117, b7M s⟩ := by
 refine ⟨K6 Tryz.func117 (by kernel_rfl) (c := s6 Tryz.f117) (by kernel_rfl), fun R dst ds m K r h => ?_⟩
 simp only [b7M] at h
 split at h
 . split at h
   . rcases j8 h with ⟨hc, hq⟩ | ⟨_, hq⟩
     . clear h
       simp only [FT] at hc
       obtain ⟨c1, c2⟩ := hc
       have c1 := FM c1
       have c2 := FM c2
       subst c1 c2
       obtain ⟨Bs, a1, a2, a3, h⟩ := F8 hq
       split at h
       . rcases j8 h with ⟨hc, hk⟩ | ⟨_, hk⟩
         . simp only [FT] at hc
           obtain ⟨c3, c4⟩ := hc
           have c3 := FM c3
           have c4 := FM c4
           subst c3 c4
           obtain ⟨z0, h1, h2⟩ := L2 hk
           rw [F5] at h2
           exact ⟨_, _, h2, hs h1 _ _ m dst _ _ a1 a2 a3 rfl rfl ⟨G0 _ rfl, M8 _, a0X ⟨G0 _ rfl, trivial⟩, trivial⟩ (F0 rfl (J6 rfl) (F1 rfl)) (F0 rfl (J6 rfl) (F1 rfl))⟩
         . cases hk
       . cases h
     . cases hq
   . cases h
 . cases h
theorem d6z (N : Nat) : CxOK Tryz.prog (a1u N) :=
 M3 (es := []) (me := [J1 N, ⟨118, c0U (b2r N)⟩]) (ms := []) a7s trivial ⟨J7 N, d5s _ (e1d N), trivial⟩ trivial rfl (fun _ _ _ _ => rfl) (fun _ _ _ _ _ _ => rfl) rfl
theorem c5H (N : Nat) : p9 (a1u N) 25 (s4 Tryz.f117 0) := by
 refine j7 (rid := 2) (by kernel_rfl) rfl rfl fun R ds m K r h => ?_
 have h : a9A N ds m K = some r := h
 unfold a9A at h
 split at h
 . exact ⟨N, Gs (a9h ..) h⟩
 . cases h
theorem d2m (N : Nat) : B8 (a1u N) Tryz.f117.ntmps (s6 Tryz.f117) :=
 j6 (k := 1) (by kernel_rfl) ⟨trivial, c5H N⟩
open Classical in
theorem d7z (N : Nat) : c7K (a9e N) := fun {f U z0} h => by
 refine S3 (cx := a1u N) (by kernel_rfl) (d6z N) Tryz.func117 (by kernel_rfl) (by kernel_rfl) (d2m N) (by rfl) (rf := L8 (fun Z0 => some Z0)) (r := z0) ?_ ?_
 . exact (c6t ..).trans h
 . intro rs' m' hx
   unfold L8 at hx
   split at hx
   . cases hx; exact ⟨rfl, rfl, _, rfl⟩
   . cases hx
def d5O {R : Type} (N : Nat) (f U : LB) (K0 : LB -> Option R) : Option R := j3 (a9e N f U) fun w => K0 w
def a9X (N : Nat) (f U : LB) : Option (LB) := d5O N f U (fun z0 => some z0)
def b9k (N : Nat) : MEnt := vE 66 (.p 0 (.v .y .z)) [(96, [.o 5])] .z true (a9X N)
theorem b8D (N : Nat) : MEO (b9k N) := vk0 (cx := cz [] [⟨117, b7M (a9e N)⟩, ⟨118, c0U (b2r N)⟩]) (A9 trivial ⟨d3E _ (d7z N), d5s _ (e1d N), trivial⟩) Tryz.func66 (by kernel_rfl) fun h => by kernel_rfl
def a3j {R : Type} (N : Nat) (j : Int) (Ab : List V) (d : Int) (Lq : Int -> LB -> Option R) (K0 : LB -> Option R) (i : Int) (l4 : LB) : Option R := br (decide (i < d)) (br (decide (0 <= i) && decide (i < (Ab.length : Int))) (at? Ab i.toNat fun f => f.unAgg fun l1 => e9 l1 fun x2 l3 => V.unInt FK x2 fun x => e9 l3 fun x5 l6 => V.unInt FK x5 fun n7 => D2 l6 (br (decide (j = 1)) (j3 (a7M N x n7 l4) fun l8 => Lq (FK.wrap (i + 1)) l8) none)) none) (K0 l4)
def a5R {R : Type} (N : Nat) (j : Int) (Ab : List V) (d : Int) : Nat -> Int -> LB -> (LB -> Option R) -> Option R | 0, _, _, _ => none | t + 1, i, l4, K0 => a3j N j Ab d (fun i l4 => a5R N j Ab d t i l4 K0) K0 i l4
def b2Y {R : Type} (N : Nat) (ds : List D) (m : Mem) (K : Ex -> List D -> Mem -> Option R) : Option R :=
 match ds, m with
 | [(.fn j [120] 1 0), (.v (.sl 42 Ab) .no), (.v (.int .i64 d) .no), (.v (.int .i64 i) .no)], [[], [(0, ⟨96, [(.v (.bytes l4) (.own (.slot 0) 5))]⟩)]] => a5R N j Ab d N i l4 (fun a0 => K (.exit 0) [] (mm6 a0))
 | _, _ => none
def d2d {R : Type} (N : Nat) (f : List V) (U : LB) (K0 : LB -> Option R) : Option R := j3 (H6 N [V.int FK (f.length : Int)] U) fun w => a5R N 1 f (f.length : Int) N 0 w fun l1 => K0 l1
def b9c (N : Nat) (f : List V) (U : LB) : Option (LB) := d2d N f U (fun z0 => some z0)
def c8k (N : Nat) : Cx := cl [] [J1 N, b3v N] [⟨2, [2, 15, 16, 17], [], b2Y N⟩]
theorem d0t (N : Nat) : p9 (c8k N) 25 (s4 Tryz.f121 0) := by
 refine j7 (rid := 2) (by kernel_rfl) rfl rfl fun R ds m K r h => ?_
 change b2Y N ds m K = _ at h
 unfold b2Y at h
 split at h
 . rename_i j Ab d i l4
   exact ⟨N, Gs (lpI (fun (e : (LB -> Option R)) L (s : Int × LB) => a3j N j Ab d (fun i l4 => L (i, l4)) e s.1 s.2) (fun e t s => a5R N j Ab d t s.1 s.2 e) (fun s => [(.fn j [120] 1 0), (.v (.sl 42 Ab) .no), (.v (.int .i64 d) .no), (.v (.int .i64 s.1) .no)]) (fun s => mm6 s.2) (fun _ _ => rfl) (fun _ _ _ => rfl) (e := _) (fun L s => by kernel_rfl) N (i, l4)) h⟩
 . cases h
def d3W (N : Nat) : MEnt := vE 121 (.p 0 (.v (.l 42) (.m 120 0 .z))) [(96, [.o 5])] .z true (b9c N)
theorem d7J (N : Nat) : MEO (d3W N) := vk (cx := c8k N) (D4 trivial ⟨J7 N, b1I N, trivial⟩) Tryz.func121 (j6 (k := 1) (by kernel_rfl) ⟨trivial, d0t N⟩) (by kernel_rfl) fun h => by kernel_rfl
def a2L {R : Type} (N : Nat) (j : Int) (Ab : List V) (d : Int) (Lq : Int -> LB -> Option R) (K0 : LB -> Option R) (i : Int) (l4 : LB) : Option R := br (decide (i < d)) (br (decide (0 <= i) && decide (i < (Ab.length : Int))) (at? Ab i.toNat fun f => f.unAgg fun l1 => e9 l1 fun x2 l3 => V.unInt FK x2 fun x => e9 l3 fun x5 l6 => V.unInt FK x5 fun n7 => e9 l6 fun x8 l9 => V.unInt FK x8 fun na => D2 l9 (br (decide (j = 1)) (j3 (b2C N x n7 na l4) fun Ay => Lq (FK.wrap (i + 1)) Ay) none)) none) (K0 l4)
def a5w {R : Type} (N : Nat) (j : Int) (Ab : List V) (d : Int) : Nat -> Int -> LB -> (LB -> Option R) -> Option R | 0, _, _, _ => none | t + 1, i, l4, K0 => a2L N j Ab d (fun i l4 => a5w N j Ab d t i l4 K0) K0 i l4
def b2x {R : Type} (N : Nat) (ds : List D) (m : Mem) (K : Ex -> List D -> Mem -> Option R) : Option R :=
 match ds, m with
 | [(.fn j [74] 1 0), (.v (.sl 44 Ab) .no), (.v (.int .i64 d) .no), (.v (.int .i64 i) .no)], [[], [(0, ⟨96, [(.v (.bytes l4) (.own (.slot 0) 5))]⟩)]] => a5w N j Ab d N i l4 (fun a0 => K (.exit 0) [] (mm6 a0))
 | _, _ => none
def d4T {R : Type} (N : Nat) (f : List V) (U : LB) (K0 : LB -> Option R) : Option R := j3 (H6 N [V.int FK (f.length : Int)] U) fun w => a5w N 1 f (f.length : Int) N 0 w fun l1 => K0 l1
def a9y (N : Nat) (f : List V) (U : LB) : Option (LB) := d4T N f U (fun z0 => some z0)
def c7R (N : Nat) : Cx := cl [] [J1 N, b3R N] [⟨2, [2, 15, 16, 17], [], b2x N⟩]
theorem c9l (N : Nat) : p9 (c7R N) 25 (s4 Tryz.f73 0) := by
 refine j7 (rid := 2) (by kernel_rfl) rfl rfl fun R ds m K r h => ?_
 change b2x N ds m K = _ at h
 unfold b2x at h
 split at h
 . rename_i j Ab d i l4
   exact ⟨N, Gs (lpI (fun (e : (LB -> Option R)) L (s : Int × LB) => a2L N j Ab d (fun i l4 => L (i, l4)) e s.1 s.2) (fun e t s => a5w N j Ab d t s.1 s.2 e) (fun s => [(.fn j [74] 1 0), (.v (.sl 44 Ab) .no), (.v (.int .i64 d) .no), (.v (.int .i64 s.1) .no)]) (fun s => mm6 s.2) (fun _ _ => rfl) (fun _ _ _ => rfl) (e := _) (fun L s => by kernel_rfl) N (i, l4)) h⟩
 . cases h
def b8l (N : Nat) : MEnt := vE 73 (.p 0 (.v (.l 44) (.m 74 0 .z))) [(96, [.o 5])] .z true (a9y N)
theorem b7Y (N : Nat) : MEO (b8l N) := vk (cx := c7R N) (D4 trivial ⟨J7 N, b1W N, trivial⟩) Tryz.func73 (j6 (k := 1) (by kernel_rfl) ⟨trivial, c9l N⟩) (by kernel_rfl) fun h => by kernel_rfl
def a2q {R : Type} (N : Nat) (j : Int) (Ab : List V) (d : Int) (Lq : Int -> LB -> Option R) (K0 : LB -> Option R) (i : Int) (l4 : LB) : Option R := br (decide (i < d)) (br (decide (0 <= i) && decide (i < (Ab.length : Int))) (at? Ab i.toNat fun f => V.unInt FK f fun u => br (decide (j = 1)) (j3 (b7U N u l4) fun l2 => Lq (FK.wrap (i + 1)) l2) none) none) (K0 l4)
def a5B {R : Type} (N : Nat) (j : Int) (Ab : List V) (d : Int) : Nat -> Int -> LB -> (LB -> Option R) -> Option R | 0, _, _, _ => none | t + 1, i, l4, K0 => a2q N j Ab d (fun i l4 => a5B N j Ab d t i l4 K0) K0 i l4
def b3q {R : Type} (N : Nat) (ds : List D) (m : Mem) (K : Ex -> List D -> Mem -> Option R) : Option R :=
 match ds, m with
 | [(.fn j [123] 1 0), (.v (.sl 3 Ab) .no), (.v (.int .i64 d) .no), (.v (.int .i64 i) .no)], [[], [(0, ⟨96, [(.v (.bytes l4) (.own (.slot 0) 5))]⟩)]] => a5B N j Ab d N i l4 (fun a0 => K (.exit 0) [] (mm6 a0))
 | _, _ => none
def d5S {R : Type} (N : Nat) (f : List V) (U : LB) (K0 : LB -> Option R) : Option R := j3 (H6 N [V.int FK (f.length : Int)] U) fun w => a5B N 1 f (f.length : Int) N 0 w fun l1 => K0 l1
def b2k (N : Nat) (f : List V) (U : LB) : Option (LB) := d5S N f U (fun z0 => some z0)
def c7o (N : Nat) : Cx := cl [] [J1 N, b8m N] [⟨2, [2, 15, 16, 17], [], b3q N⟩]
theorem d0M (N : Nat) : p9 (c7o N) 25 (s4 Tryz.f122 0) := by
 refine j7 (rid := 2) (by kernel_rfl) rfl rfl fun R ds m K r h => ?_
 change b3q N ds m K = _ at h
 unfold b3q at h
 split at h
 . rename_i j Ab d i l4
   exact ⟨N, Gs (lpI (fun (e : (LB -> Option R)) L (s : Int × LB) => a2q N j Ab d (fun i l4 => L (i, l4)) e s.1 s.2) (fun e t s => a5B N j Ab d t s.1 s.2 e) (fun s => [(.fn j [123] 1 0), (.v (.sl 3 Ab) .no), (.v (.int .i64 d) .no), (.v (.int .i64 s.1) .no)]) (fun s => mm6 s.2) (fun _ _ => rfl) (fun _ _ _ => rfl) (e := _) (fun L s => by kernel_rfl) N (i, l4)) h⟩
 . cases h
def c4z (N : Nat) : MEnt := vE 122 (.p 0 (.v (.l 3) (.m 123 0 .z))) [(96, [.o 5])] .z true (b2k N)
theorem c8i (N : Nat) : MEO (c4z N) := vk (cx := c7o N) (D4 trivial ⟨J7 N, b9f N, trivial⟩) Tryz.func122 (j6 (k := 1) (by kernel_rfl) ⟨trivial, d0M N⟩) (by kernel_rfl) fun h => by kernel_rfl
def c0F {R : Type} (s : Int -> Int -> List V -> LB -> Option (LB)) (dst : Nat) (ds : List D) (m : Mem) (K : List D -> Mem -> Option R) : Option R :=
 match ds with
 | [.agg [.v (.int .i64 f) .no, .v (.int .i64 x1) .no, .v (.sl 3 x2) .no], .ptr (As + 1) Av 0] => (match m.box? As Av with
   | some ⟨_, [.ptr hk hs _]⟩ => cond (true) (a0s [(As, Av), (As + hk, hs)] m fun Bs => (match Bs with
     | [⟨128, [.ptr tk ts 0]⟩, ⟨96, [.v (.bytes U) (.own (.slot 0) 5)]⟩] => cond (FZ hk tk && FZ hs ts) (j3 (s f x1 x2 U) fun z0 => J5 [(As, Av), (As + hk, hs)] [⟨128, [.ptr hk hs 0]⟩, ⟨96, [.v (.bytes z0) (.own (.slot 0) 5)]⟩] m fun m' => K [] m') none
     | _ => none)) none
   | _ => none)
 | _ => none
def d2n {R : Type} (N : Nat) (f x1 : Int) (x2 : List V) (U : LB) (K0 : LB -> Option R) : Option R := j3 (a7M N f x1 U) fun w => j3 (b2k N x2 w) fun l1 => K0 l1
def b2i (N : Nat) : Int -> Int -> List V -> LB -> Option (LB) := fun f x1 x2 U => d2n N f x1 x2 U (fun z0 => some z0)
def d6O (N : Nat) : Cx := cxO [] [b3v N, c4z N, b8m N]
theorem d1S {R : Type} (N : Nat) (f x1 x2 U K : _) : M4 (R := R) (d6O N) Tryz.f125 [.agg [dI f, dI x1, .v (.sl 3 x2) .no], .ptr 1 0 0] [J4 0 [⟨128, [.ptr 0 1 0]⟩, ⟨96, [.v (.bytes U) (.own (.slot 0) 5)]⟩]] (L8 K) = d2n N f x1 x2 U (fun z0 => K z0) := by
 kernel_rfl
abbrev e1n (s : Int -> Int -> List V -> LB -> Option (LB)) : Prop := ∀ {f x1 x2 U z0}, s f x1 x2 U = some z0 -> VR2 125 [.agg [dI f, dI x1, .v (.sl 3 x2) .no], .ptr 1 0 0] [⟨128, [.ptr 0 1 0]⟩, ⟨96, [.v (.bytes U) (.own (.slot 0) 5)]⟩] [] [⟨128, [.ptr 0 1 0]⟩, ⟨96, [.v (.bytes z0) (.own (.slot 0) 5)]⟩]
theorem d2i (s : Int -> Int -> List V -> LB -> Option (LB)) (hs : e1n s) : MEO ⟨125, c0F s⟩ := by
 refine ⟨K6 Tryz.func125 (by kernel_rfl) (c := s6 Tryz.f125) (by kernel_rfl), fun R dst ds m K r h => ?_⟩
 simp only [c0F] at h
 split at h
 . split at h
   . rcases j8 h with ⟨hc, hq⟩ | ⟨_, hq⟩
     . clear h
       obtain ⟨Bs, a1, a2, a3, h⟩ := F8 hq
       split at h
       . rcases j8 h with ⟨hc, hk⟩ | ⟨_, hk⟩
         . simp only [FT] at hc
           obtain ⟨c3, c4⟩ := hc
           have c3 := FM c3
           have c4 := FM c4
           subst c3 c4
           obtain ⟨z0, h1, h2⟩ := L2 hk
           rw [F5] at h2
           exact ⟨_, _, h2, hs h1 _ _ m dst _ _ a1 a2 a3 rfl rfl ⟨a5K ⟨M8 _, M8 _, M8 _, trivial⟩, G0 _ rfl, trivial⟩ (F0 rfl (J6 rfl) (F1 rfl)) (F0 rfl (J6 rfl) (F1 rfl))⟩
         . cases hk
       . cases h
     . cases hq
   . cases h
 . cases h
open Classical in
theorem e1q (N : Nat) : e1n (b2i N) := fun {f x1 x2 U z0} h => by
 refine S3 (cx := d6O N) (by kernel_rfl) (a9l trivial ⟨b1I N, c8i N, b9f N, trivial⟩) Tryz.func125 (by kernel_rfl) (by kernel_rfl) (lz (by kernel_rfl)) (by rfl) (rf := L8 (fun Z0 => some Z0)) (r := z0) ?_ ?_
 . exact (d1S ..).trans h
 . intro rs' m' hx
   unfold L8 at hx
   split at hx
   . cases hx; exact ⟨rfl, rfl, _, rfl⟩
   . cases hx
def c0h {R : Type} (s : List V -> LB -> Option (LB)) (dst : Nat) (ds : List D) (m : Mem) (K : List D -> Mem -> Option R) : Option R :=
 match ds with
 | [.ptr (Bf + 1) Bg 0, .v (.sl 105 f) .no, .clos 125 [.ptr (As + 1) Av 0]] => (match m.box? As Av with
   | some ⟨_, [.ptr hk hs _]⟩ => cond (FZ Bf (As + hk) && FZ Bg hs) (a0s [(As, Av), (As + hk, hs)] m fun Bs => (match Bs with
     | [⟨128, [.ptr tk ts 0]⟩, ⟨96, [.v (.bytes U) (.own (.slot 0) 5)]⟩] => cond (FZ hk tk && FZ hs ts) (j3 (s f U) fun z0 => J5 [(As, Av), (As + hk, hs)] [⟨128, [.ptr hk hs 0]⟩, ⟨96, [.v (.bytes z0) (.own (.slot 0) 5)]⟩] m fun m' => K [] m') none
     | _ => none)) none
   | _ => none)
 | _ => none
def Z3 {R : Type} (N : Nat) (Aa : List V) (u : Int) (Lq : Int -> LB -> Option R) (K0 : LB -> Option R) (d : Int) (l3 : LB) : Option R := br (decide (d < u)) (br (decide (0 <= d) && decide (d < (Aa.length : Int))) (at? Aa d.toNat fun f => f.unAgg fun l1 => e9 l1 fun x2 l3_1 => V.unInt FK x2 fun x => e9 l3_1 fun x5 l6 => V.unInt FK x5 fun n7 => e9 l6 fun x8 l9 => V.unSl 3 x8 fun la => D2 l9 (j3 (b2i N x n7 la l3) fun Ay => Lq (FK.wrap (d + 1)) Ay)) none) (K0 l3)
def a3l {R : Type} (N : Nat) (Aa : List V) (u : Int) : Nat -> Int -> LB -> (LB -> Option R) -> Option R | 0, _, _, _ => none | t + 1, d, l3, K0 => Z3 N Aa u (fun d l3 => a3l N Aa u t d l3 K0) K0 d l3
def a9N {R : Type} (N : Nat) (ds : List D) (m : Mem) (K : Ex -> List D -> Mem -> Option R) : Option R :=
 match ds, m with
 | [(.clos 125 [(.ptr 1 0 0)]), (.v (.sl 105 Aa) .no), (.v (.int .i64 u) .no), (.v (.int .i64 d) .no)], [[], [(0, ⟨128, [(.ptr 0 1 0)]⟩), (1, ⟨96, [(.v (.bytes l3) (.own (.slot 0) 5))]⟩)]] => a3l N Aa u N d l3 (fun a0 => K (.exit 0) [] [[], [(0, ⟨128, [(.ptr 0 1 0)]⟩), (1, ⟨96, [(.v (.bytes a0) (.own (.slot 0) 5))]⟩)]])
 | _, _ => none
def b9l {R : Type} (N : Nat) (f : List V) (U : LB) (K0 : LB -> Option R) : Option R := j3 (H6 N [V.int FK (f.length : Int)] U) fun w => a3l N f (f.length : Int) N 0 w fun l1 => K0 l1
def a7Z (N : Nat) : List V -> LB -> Option (LB) := fun f U => b9l N f U (fun z0 => some z0)
def a1w (N : Nat) : Cx := { T := T, isPure := a5b [], pureK := fun g ds K => a1K [] g ds K, memK := fun g dst ds m K => W4 [J1 N, ⟨125, c0F (b2i N)⟩] g dst ds m K, meth := a2E [], keep := fun r => match r with | 2 => [2, 15, 16, 17] | _ => [], keepX := fun r => match r with | 2 => [] | _ => [], loopT := fun r ds m K => match r with | 2 => a9N N ds m K | _ => none, jumps := 9 }
theorem b8h {R : Type} (N : Nat) (Aa : List V) (u d : Int) (l3 : LB) (L : List D -> Mem -> Option R) (K : Ex -> List D -> Mem -> Option R) :
 W3 (fun st K => codeK (a1w N) (s4 Tryz.f124 0) st K) 25 [2, 15, 16, 17] [] L [(.clos 125 [(.ptr 1 0 0)]), (.v (.sl 105 Aa) .no), (dI u), (dI d)] [[], [(0, ⟨128, [(.ptr 0 1 0)]⟩), (1, ⟨96, [(.v (.bytes l3) (.own (.slot 0) 5))]⟩)]] K = Z3 N Aa u (fun d l3 => L [(.clos 125 [(.ptr 1 0 0)]), (.v (.sl 105 Aa) .no), (dI u), (dI d)] [[], [(0, ⟨128, [(.ptr 0 1 0)]⟩), (1, ⟨96, [(.v (.bytes l3) (.own (.slot 0) 5))]⟩)]]) (fun a0 => K (.exit 0) [] [[], [(0, ⟨128, [(.ptr 0 1 0)]⟩), (1, ⟨96, [(.v (.bytes a0) (.own (.slot 0) 5))]⟩)]]) d l3 := by
 kernel_rfl
theorem a8z {R : Type} (N : Nat) (Aa : List V) (u : Int) (K : Ex -> List D -> Mem -> Option R) : ∀ (t : Nat) (d : Int) (l3 : LB),
 O9 (fun st K => codeK (a1w N) (s4 Tryz.f124 0) st K) 25 [2, 15, 16, 17] [] t [(.clos 125 [(.ptr 1 0 0)]), (.v (.sl 105 Aa) .no), (dI u), (dI d)] [[], [(0, ⟨128, [(.ptr 0 1 0)]⟩), (1, ⟨96, [(.v (.bytes l3) (.own (.slot 0) 5))]⟩)]] K = a3l N Aa u t d l3 (fun a0 => K (.exit 0) [] [[], [(0, ⟨128, [(.ptr 0 1 0)]⟩), (1, ⟨96, [(.v (.bytes a0) (.own (.slot 0) 5))]⟩)]])
 | 0, d, l3 => rfl
 | t + 1, d, l3 => (b8h N Aa u d l3 _ K).trans (congrArg (fun L => Z3 N Aa u L (fun a0 => K (.exit 0) [] [[], [(0, ⟨128, [(.ptr 0 1 0)]⟩), (1, ⟨96, [(.v (.bytes a0) (.own (.slot 0) 5))]⟩)]]) d l3) (funext fun d => funext fun l3 => a8z N Aa u K t d l3))
theorem c4y {R : Type} (N : Nat) (f U K : _) : M4 (R := R) (a1w N) Tryz.f124 [.ptr 1 1 0, .v (.sl 105 f) .no, .clos 125 [.ptr 1 0 0]] [J4 0 [⟨128, [.ptr 0 1 0]⟩, ⟨96, [.v (.bytes U) (.own (.slot 0) 5)]⟩]] (L8 K) = b9l N f U (fun z0 => K z0) := by
 kernel_rfl
abbrev c8t (s : List V -> LB -> Option (LB)) : Prop := ∀ {f U z0}, s f U = some z0 -> VR2 124 [.ptr 1 1 0, .v (.sl 105 f) .no, .clos 125 [.ptr 1 0 0]] [⟨128, [.ptr 0 1 0]⟩, ⟨96, [.v (.bytes U) (.own (.slot 0) 5)]⟩] [] [⟨128, [.ptr 0 1 0]⟩, ⟨96, [.v (.bytes z0) (.own (.slot 0) 5)]⟩]
theorem d4C (s : List V -> LB -> Option (LB)) (hs : c8t s) : MEO ⟨124, c0h s⟩ := by
 refine ⟨K6 Tryz.func124 (by kernel_rfl) (c := s6 Tryz.f124) (by kernel_rfl), fun R dst ds m K r h => ?_⟩
 simp only [c0h] at h
 split at h
 . split at h
   . rcases j8 h with ⟨hc, hq⟩ | ⟨_, hq⟩
     . clear h
       simp only [FT] at hc
       obtain ⟨c1, c2⟩ := hc
       have c1 := FM c1
       have c2 := FM c2
       subst c1 c2
       obtain ⟨Bs, a1, a2, a3, h⟩ := F8 hq
       split at h
       . rcases j8 h with ⟨hc, hk⟩ | ⟨_, hk⟩
         . simp only [FT] at hc
           obtain ⟨c3, c4⟩ := hc
           have c3 := FM c3
           have c4 := FM c4
           subst c3 c4
           obtain ⟨z0, h1, h2⟩ := L2 hk
           rw [F5] at h2
           exact ⟨_, _, h2, hs h1 _ _ m dst _ _ a1 a2 a3 rfl rfl ⟨G0 _ rfl, M8 _, a0X ⟨G0 _ rfl, trivial⟩, trivial⟩ (F0 rfl (J6 rfl) (F1 rfl)) (F0 rfl (J6 rfl) (F1 rfl))⟩
         . cases hk
       . cases h
     . cases hq
   . cases h
 . cases h
theorem d4P (N : Nat) : CxOK Tryz.prog (a1w N) :=
 M3 (es := []) (me := [J1 N, ⟨125, c0F (b2i N)⟩]) (ms := []) a7s trivial ⟨J7 N, d2i _ (e1q N), trivial⟩ trivial rfl (fun _ _ _ _ => rfl) (fun _ _ _ _ _ _ => rfl) rfl
theorem c4u (N : Nat) : p9 (a1w N) 25 (s4 Tryz.f124 0) := by
 refine j7 (rid := 2) (by kernel_rfl) rfl rfl fun R ds m K r h => ?_
 have h : a9N N ds m K = some r := h
 unfold a9N at h
 split at h
 . exact ⟨N, Gs (a8z ..) h⟩
 . cases h
theorem d4q (N : Nat) : B8 (a1w N) Tryz.f124.ntmps (s6 Tryz.f124) :=
 j6 (k := 1) (by kernel_rfl) ⟨trivial, c4u N⟩
open Classical in
theorem d7F (N : Nat) : c8t (a7Z N) := fun {f U z0} h => by
 refine S3 (cx := a1w N) (by kernel_rfl) (d4P N) Tryz.func124 (by kernel_rfl) (by kernel_rfl) (d4q N) (by rfl) (rf := L8 (fun Z0 => some Z0)) (r := z0) ?_ ?_
 . exact (c4y ..).trans h
 . intro rs' m' hx
   unfold L8 at hx
   split at hx
   . cases hx; exact ⟨rfl, rfl, _, rfl⟩
   . cases hx
def c1j {R : Type} (N : Nat) (f x1 : Int) (x2 : Bool) (x3 x4 x5 x6 : List V) (U : LB) (K0 : LB -> Option R) : Option R := j3 (a6p N x2 1) fun j => j3 (H6 N [V.int FK j] U) fun l1 => j3 (a7M N f x1 l1) fun l2 => j3 (b9c N x3 l2) fun l3 => j3 (a9y N x4 l3) fun l4 => j3 (b2k N x5 l4) fun l5 => j3 (a7Z N x6 l5) fun l6 => K0 l6
def a7V (N : Nat) (f x1 : Int) (x2 : Bool) (x3 x4 x5 x6 : List V) (U : LB) : Option (LB) := c1j N f x1 x2 x3 x4 x5 x6 U (fun z0 => some z0)
def b2n (N : Nat) : MEnt := vE 70 sh8 [(96, [.o 5])] .z true (a7V N)
theorem b5Y (N : Nat) : MEO (b2n N) := vk0 (cx := cz [b8c N] [J1 N, b3v N, d3W N, b8l N, c4z N, ⟨124, c0h (a7Z N)⟩, b3R N, b8m N, ⟨125, c0F (b2i N)⟩]) (A9 ⟨c1y N, trivial⟩ ⟨J7 N, b1I N, d7J N, b7Y N, c8i N, d4C _ (d7F N), b1W N, b9f N, d2i _ (e1q N), trivial⟩) Tryz.func70 (by kernel_rfl) fun h => by kernel_rfl
def c0G {R : Type} (s : Int -> Int -> Int -> Int -> LB -> Option (LB)) (dst : Nat) (ds : List D) (m : Mem) (K : List D -> Mem -> Option R) : Option R :=
 match ds with
 | [.agg [.v (.int .i64 f) .no, .v (.int .i64 x1) .no, .v (.int .i64 x2) .no, .v (.int .i64 x3) .no], .ptr (As + 1) Av 0] => (match m.box? As Av with
   | some ⟨_, [.ptr hk hs _]⟩ => cond (true) (a0s [(As, Av), (As + hk, hs)] m fun Bs => (match Bs with
     | [⟨128, [.ptr tk ts 0]⟩, ⟨96, [.v (.bytes U) (.own (.slot 0) 5)]⟩] => cond (FZ hk tk && FZ hs ts) (j3 (s f x1 x2 x3 U) fun z0 => J5 [(As, Av), (As + hk, hs)] [⟨128, [.ptr hk hs 0]⟩, ⟨96, [.v (.bytes z0) (.own (.slot 0) 5)]⟩] m fun m' => K [] m') none
     | _ => none)) none
   | _ => none)
 | _ => none
def d5c {R : Type} (N : Nat) (f x1 x2 x3 : Int) (U : LB) (K0 : LB -> Option R) : Option R := j3 (a3D N [V.int FK f, V.int FK x1, V.int FK x2, V.int FK x3] U) fun w => K0 w
def b3I (N : Nat) : Int -> Int -> Int -> Int -> LB -> Option (LB) := fun f x1 x2 x3 U => d5c N f x1 x2 x3 U (fun z0 => some z0)
def d2R (N : Nat) : Cx := cxO [] [b7R N]
theorem d3T {R : Type} (N : Nat) (f x1 x2 x3 U K : _) : M4 (R := R) (d2R N) Tryz.f128 [.agg [dI f, dI x1, dI x2, dI x3], .ptr 1 0 0] [J4 0 [⟨128, [.ptr 0 1 0]⟩, ⟨96, [.v (.bytes U) (.own (.slot 0) 5)]⟩]] (L8 K) = d5c N f x1 x2 x3 U (fun z0 => K z0) := by
 kernel_rfl
abbrev e1f (s : Int -> Int -> Int -> Int -> LB -> Option (LB)) : Prop := ∀ {f x1 x2 x3 U z0}, s f x1 x2 x3 U = some z0 -> VR2 128 [.agg [dI f, dI x1, dI x2, dI x3], .ptr 1 0 0] [⟨128, [.ptr 0 1 0]⟩, ⟨96, [.v (.bytes U) (.own (.slot 0) 5)]⟩] [] [⟨128, [.ptr 0 1 0]⟩, ⟨96, [.v (.bytes z0) (.own (.slot 0) 5)]⟩]
theorem d3l (s : Int -> Int -> Int -> Int -> LB -> Option (LB)) (hs : e1f s) : MEO ⟨128, c0G s⟩ := by
 refine ⟨K6 Tryz.func128 (by kernel_rfl) (c := s6 Tryz.f128) (by kernel_rfl), fun R dst ds m K r h => ?_⟩
 simp only [c0G] at h
 split at h
 . split at h
   . rcases j8 h with ⟨hc, hq⟩ | ⟨_, hq⟩
     . clear h
       obtain ⟨Bs, a1, a2, a3, h⟩ := F8 hq
       split at h
       . rcases j8 h with ⟨hc, hk⟩ | ⟨_, hk⟩
         . simp only [FT] at hc
           obtain ⟨c3, c4⟩ := hc
           have c3 := FM c3
           have c4 := FM c4
           subst c3 c4
           obtain ⟨z0, h1, h2⟩ := L2 hk
           rw [F5] at h2
           exact ⟨_, _, h2, hs h1 _ _ m dst _ _ a1 a2 a3 rfl rfl ⟨a5K ⟨M8 _, M8 _, M8 _, M8 _, trivial⟩, G0 _ rfl, trivial⟩ (F0 rfl (J6 rfl) (F1 rfl)) (F0 rfl (J6 rfl) (F1 rfl))⟩
         . cases hk
       . cases h
     . cases hq
   . cases h
 . cases h
open Classical in
theorem e0Y (N : Nat) : e1f (b3I N) := fun {f x1 x2 x3 U z0} h => by
 refine S3 (cx := d2R N) (by kernel_rfl) (a9l trivial ⟨c0M N, trivial⟩) Tryz.func128 (by kernel_rfl) (by kernel_rfl) (lz (by kernel_rfl)) (by rfl) (rf := L8 (fun Z0 => some Z0)) (r := z0) ?_ ?_
 . exact (d3T ..).trans h
 . intro rs' m' hx
   unfold L8 at hx
   split at hx
   . cases hx; exact ⟨rfl, rfl, _, rfl⟩
   . cases hx
def c6b {R : Type} (s : List V -> LB -> Option (LB)) (dst : Nat) (ds : List D) (m : Mem) (K : List D -> Mem -> Option R) : Option R :=
 match ds with
 | [.ptr (Bf + 1) Bg 0, .v (.sl 107 f) .no, .clos 128 [.ptr (As + 1) Av 0]] => (match m.box? As Av with
   | some ⟨_, [.ptr hk hs _]⟩ => cond (FZ Bf (As + hk) && FZ Bg hs) (a0s [(As, Av), (As + hk, hs)] m fun Bs => (match Bs with
     | [⟨128, [.ptr tk ts 0]⟩, ⟨96, [.v (.bytes U) (.own (.slot 0) 5)]⟩] => cond (FZ hk tk && FZ hs ts) (j3 (s f U) fun z0 => J5 [(As, Av), (As + hk, hs)] [⟨128, [.ptr hk hs 0]⟩, ⟨96, [.v (.bytes z0) (.own (.slot 0) 5)]⟩] m fun m' => K [] m') none
     | _ => none)) none
   | _ => none)
 | _ => none
def a1p {R : Type} (N : Nat) (Aa : List V) (u : Int) (Lq : Int -> LB -> Option R) (K0 : LB -> Option R) (d : Int) (l3 : LB) : Option R := br (decide (d < u)) (br (decide (0 <= d) && decide (d < (Aa.length : Int))) (at? Aa d.toNat fun f => f.unAgg fun l1 => e9 l1 fun x2 l3_1 => V.unInt FK x2 fun x => e9 l3_1 fun x5 l6 => V.unInt FK x5 fun n7 => e9 l6 fun x8 l9 => V.unInt FK x8 fun na => e9 l9 fun xb Ax => V.unInt FK xb fun nd => D2 Ax (j3 (b3I N x n7 na nd l3) fun AL => Lq (FK.wrap (d + 1)) AL)) none) (K0 l3)
def a5A {R : Type} (N : Nat) (Aa : List V) (u : Int) : Nat -> Int -> LB -> (LB -> Option R) -> Option R | 0, _, _, _ => none | t + 1, d, l3, K0 => a1p N Aa u (fun d l3 => a5A N Aa u t d l3 K0) K0 d l3
def b4t {R : Type} (N : Nat) (ds : List D) (m : Mem) (K : Ex -> List D -> Mem -> Option R) : Option R :=
 match ds, m with
 | [(.clos 128 [(.ptr 1 0 0)]), (.v (.sl 107 Aa) .no), (.v (.int .i64 u) .no), (.v (.int .i64 d) .no)], [[], [(0, ⟨128, [(.ptr 0 1 0)]⟩), (1, ⟨96, [(.v (.bytes l3) (.own (.slot 0) 5))]⟩)]] => a5A N Aa u N d l3 (fun a0 => K (.exit 0) [] [[], [(0, ⟨128, [(.ptr 0 1 0)]⟩), (1, ⟨96, [(.v (.bytes a0) (.own (.slot 0) 5))]⟩)]])
 | _, _ => none
def c5R {R : Type} (N : Nat) (f : List V) (U : LB) (K0 : LB -> Option R) : Option R := j3 (H6 N [V.int FK (f.length : Int)] U) fun w => a5A N f (f.length : Int) N 0 w fun l1 => K0 l1
def b2I (N : Nat) : List V -> LB -> Option (LB) := fun f U => c5R N f U (fun z0 => some z0)
def a3P (N : Nat) : Cx := { T := T, isPure := a5b [], pureK := fun g ds K => a1K [] g ds K, memK := fun g dst ds m K => W4 [J1 N, ⟨128, c0G (b3I N)⟩] g dst ds m K, meth := a2E [], keep := fun r => match r with | 2 => [2, 15, 16, 17] | _ => [], keepX := fun r => match r with | 2 => [] | _ => [], loopT := fun r ds m K => match r with | 2 => b4t N ds m K | _ => none, jumps := 9 }
theorem c0E {R : Type} (N : Nat) (Aa : List V) (u d : Int) (l3 : LB) (L : List D -> Mem -> Option R) (K : Ex -> List D -> Mem -> Option R) :
 W3 (fun st K => codeK (a3P N) (s4 Tryz.f127 0) st K) 25 [2, 15, 16, 17] [] L [(.clos 128 [(.ptr 1 0 0)]), (.v (.sl 107 Aa) .no), (dI u), (dI d)] [[], [(0, ⟨128, [(.ptr 0 1 0)]⟩), (1, ⟨96, [(.v (.bytes l3) (.own (.slot 0) 5))]⟩)]] K = a1p N Aa u (fun d l3 => L [(.clos 128 [(.ptr 1 0 0)]), (.v (.sl 107 Aa) .no), (dI u), (dI d)] [[], [(0, ⟨128, [(.ptr 0 1 0)]⟩), (1, ⟨96, [(.v (.bytes l3) (.own (.slot 0) 5))]⟩)]]) (fun a0 => K (.exit 0) [] [[], [(0, ⟨128, [(.ptr 0 1 0)]⟩), (1, ⟨96, [(.v (.bytes a0) (.own (.slot 0) 5))]⟩)]]) d l3 := by
 kernel_rfl
theorem b1m {R : Type} (N : Nat) (Aa : List V) (u : Int) (K : Ex -> List D -> Mem -> Option R) : ∀ (t : Nat) (d : Int) (l3 : LB),
 O9 (fun st K => codeK (a3P N) (s4 Tryz.f127 0) st K) 25 [2, 15, 16, 17] [] t [(.clos 128 [(.ptr 1 0 0)]), (.v (.sl 107 Aa) .no), (dI u), (dI d)] [[], [(0, ⟨128, [(.ptr 0 1 0)]⟩), (1, ⟨96, [(.v (.bytes l3) (.own (.slot 0) 5))]⟩)]] K = a5A N Aa u t d l3 (fun a0 => K (.exit 0) [] [[], [(0, ⟨128, [(.ptr 0 1 0)]⟩), (1, ⟨96, [(.v (.bytes a0) (.own (.slot 0) 5))]⟩)]])
 | 0, d, l3 => rfl
 | t + 1, d, l3 => (c0E N Aa u d l3 _ K).trans (congrArg (fun L => a1p N Aa u L (fun a0 => K (.exit 0) [] [[], [(0, ⟨128, [(.ptr 0 1 0)]⟩), (1, ⟨96, [(.v (.bytes a0) (.own (.slot 0) 5))]⟩)]]) d l3) (funext fun d => funext fun l3 => b1m N Aa u K t d l3))
theorem c9D {R : Type} (N : Nat) (f U K : _) : M4 (R := R) (a3P N) Tryz.f127 [.ptr 1 1 0, .v (.sl 107 f) .no, .clos 128 [.ptr 1 0 0]] [J4 0 [⟨128, [.ptr 0 1 0]⟩, ⟨96, [.v (.bytes U) (.own (.slot 0) 5)]⟩]] (L8 K) = c5R N f U (fun z0 => K z0) := by
 kernel_rfl
abbrev d2x (s : List V -> LB -> Option (LB)) : Prop := ∀ {f U z0}, s f U = some z0 -> VR2 127 [.ptr 1 1 0, .v (.sl 107 f) .no, .clos 128 [.ptr 1 0 0]] [⟨128, [.ptr 0 1 0]⟩, ⟨96, [.v (.bytes U) (.own (.slot 0) 5)]⟩] [] [⟨128, [.ptr 0 1 0]⟩, ⟨96, [.v (.bytes z0) (.own (.slot 0) 5)]⟩]
theorem d7Z (s : List V -> LB -> Option (LB)) (hs : d2x s) : MEO ⟨127, c6b s⟩ := by
 refine ⟨K6 Tryz.func127 (by kernel_rfl) (c := s6 Tryz.f127) (by kernel_rfl), fun R dst ds m K r h => ?_⟩
 simp only [c6b] at h
 split at h
 . split at h
   . rcases j8 h with ⟨hc, hq⟩ | ⟨_, hq⟩
     . clear h
       simp only [FT] at hc
       obtain ⟨c1, c2⟩ := hc
       have c1 := FM c1
       have c2 := FM c2
       subst c1 c2
       obtain ⟨Bs, a1, a2, a3, h⟩ := F8 hq
       split at h
       . rcases j8 h with ⟨hc, hk⟩ | ⟨_, hk⟩
         . simp only [FT] at hc
           obtain ⟨c3, c4⟩ := hc
           have c3 := FM c3
           have c4 := FM c4
           subst c3 c4
           obtain ⟨z0, h1, h2⟩ := L2 hk
           rw [F5] at h2
           exact ⟨_, _, h2, hs h1 _ _ m dst _ _ a1 a2 a3 rfl rfl ⟨G0 _ rfl, M8 _, a0X ⟨G0 _ rfl, trivial⟩, trivial⟩ (F0 rfl (J6 rfl) (F1 rfl)) (F0 rfl (J6 rfl) (F1 rfl))⟩
         . cases hk
       . cases h
     . cases hq
   . cases h
 . cases h
theorem d7B (N : Nat) : CxOK Tryz.prog (a3P N) :=
 M3 (es := []) (me := [J1 N, ⟨128, c0G (b3I N)⟩]) (ms := []) a7s trivial ⟨J7 N, d3l _ (e0Y N), trivial⟩ trivial rfl (fun _ _ _ _ => rfl) (fun _ _ _ _ _ _ => rfl) rfl
theorem d0W (N : Nat) : p9 (a3P N) 25 (s4 Tryz.f127 0) := by
 refine j7 (rid := 2) (by kernel_rfl) rfl rfl fun R ds m K r h => ?_
 have h : b4t N ds m K = some r := h
 unfold b4t at h
 split at h
 . exact ⟨N, Gs (b1m ..) h⟩
 . cases h
theorem d8E (N : Nat) : B8 (a3P N) Tryz.f127.ntmps (s6 Tryz.f127) :=
 j6 (k := 1) (by kernel_rfl) ⟨trivial, d0W N⟩
open Classical in
theorem e1T (N : Nat) : d2x (b2I N) := fun {f U z0} h => by
 refine S3 (cx := a3P N) (by kernel_rfl) (d7B N) Tryz.func127 (by kernel_rfl) (by kernel_rfl) (d8E N) (by rfl) (rf := L8 (fun Z0 => some Z0)) (r := z0) ?_ ?_
 . exact (c9D ..).trans h
 . intro rs' m' hx
   unfold L8 at hx
   split at hx
   . cases hx; exact ⟨rfl, rfl, _, rfl⟩
   . cases hx
def b6Z {R : Type} (N : Nat) (f x1 : Bool) (x2 : Int) (x3 : List V) (x4 x5 x6 x7 x8 : Int) (x9 xa : List V) (U : LB) (K0 : LB -> Option R) : Option R := j3 (a6p N f 1) fun j => j3 (a6p N x1 2) fun u => j3 (H6 N [V.int FK (FK.wrap (j + u)), V.int FK x2] U) fun l2 => j3 (a9y N x3 l2) fun l3 => j3 (b2C N x4 x5 x6 l3) fun l4 => j3 (H6 N [V.int FK x7, V.int FK x8] l4) fun l5 => s7 (a2y N x9) fun l6 n7 => j3 (a3D N [V.int FK (l6.length : Int)] l5) fun l8 => br (decide ((l8.length + l6.length) * 1 <= 140737488355328)) (j3 (b2I N xa (l8 ++ l6)) fun l9 => K0 l9) none
def a6e (N : Nat) (f x1 : Bool) (x2 : Int) (x3 : List V) (x4 x5 x6 x7 x8 : Int) (x9 xa : List V) (U : LB) : Option (LB) := b6Z N f x1 x2 x3 x4 x5 x6 x7 x8 x9 xa U (fun z0 => some z0)
def b0k (N : Nat) : MEnt := vE 72 sh9 [(96, [.o 5])] .z true (a6e N)
theorem b5d (N : Nat) : MEO (b0k N) := vk0 (cx := cz [b8c N, b0j N] [J1 N, b3R N, b7R N, b8l N, ⟨127, c6b (b2I N)⟩, ⟨128, c0G (b3I N)⟩] true) (A9 ⟨c1y N, b4L N, trivial⟩ ⟨J7 N, b1W N, c0M N, b7Y N, d7Z _ (e1T N), d3l _ (e0Y N), trivial⟩) Tryz.func72 (by kernel_rfl) fun h => by kernel_rfl
def c3u {R : Type} (s : LB -> Int -> Int -> LB -> Option (LB)) (dst : Nat) (ds : List D) (m : Mem) (K : List D -> Mem -> Option R) : Option R :=
 match ds with
 | [.agg [.v (.bytes f) .no, .v (.int .i64 x1) .no, .v (.int .i64 x2) .no], .ptr (As + 1) Av 0] => (match m.box? As Av with
   | some ⟨_, [.ptr hk hs _]⟩ => cond (true) (a0s [(As, Av), (As + hk, hs)] m fun Bs => (match Bs with
     | [⟨128, [.ptr tk ts 0]⟩, ⟨96, [.v (.bytes U) (.own (.slot 0) 5)]⟩] => cond (FZ hk tk && FZ hs ts) (j3 (s f x1 x2 U) fun z0 => J5 [(As, Av), (As + hk, hs)] [⟨128, [.ptr hk hs 0]⟩, ⟨96, [.v (.bytes z0) (.own (.slot 0) 5)]⟩] m fun m' => K [] m') none
     | _ => none)) none
   | _ => none)
 | _ => none
def d3f {R : Type} (N : Nat) (f : LB) (x1 x2 : Int) (U : LB) (K0 : LB -> Option R) : Option R := j3 (a9X N f U) fun w => j3 (H6 N [V.int FK x1, V.int FK x2] w) fun l1 => K0 l1
def b3M (N : Nat) : LB -> Int -> Int -> LB -> Option (LB) := fun f x1 x2 U => d3f N f x1 x2 U (fun z0 => some z0)
def d6n (N : Nat) : Cx := cxO [] [b9k N, J1 N]
theorem d6u {R : Type} (N : Nat) (f x1 x2 U K : _) : M4 (R := R) (d6n N) Tryz.f68 [.agg [dY f, dI x1, dI x2], .ptr 1 0 0] [J4 0 [⟨128, [.ptr 0 1 0]⟩, ⟨96, [.v (.bytes U) (.own (.slot 0) 5)]⟩]] (L8 K) = d3f N f x1 x2 U (fun z0 => K z0) := by
 kernel_rfl
abbrev e0N (s : LB -> Int -> Int -> LB -> Option (LB)) : Prop := ∀ {f x1 x2 U z0}, s f x1 x2 U = some z0 -> VR2 68 [.agg [dY f, dI x1, dI x2], .ptr 1 0 0] [⟨128, [.ptr 0 1 0]⟩, ⟨96, [.v (.bytes U) (.own (.slot 0) 5)]⟩] [] [⟨128, [.ptr 0 1 0]⟩, ⟨96, [.v (.bytes z0) (.own (.slot 0) 5)]⟩]
theorem d4b (s : LB -> Int -> Int -> LB -> Option (LB)) (hs : e0N s) : MEO ⟨68, c3u s⟩ := by
 refine ⟨K6 Tryz.func68 (by kernel_rfl) (c := s6 Tryz.f68) (by kernel_rfl), fun R dst ds m K r h => ?_⟩
 simp only [c3u] at h
 split at h
 . split at h
   . rcases j8 h with ⟨hc, hq⟩ | ⟨_, hq⟩
     . clear h
       obtain ⟨Bs, a1, a2, a3, h⟩ := F8 hq
       split at h
       . rcases j8 h with ⟨hc, hk⟩ | ⟨_, hk⟩
         . simp only [FT] at hc
           obtain ⟨c3, c4⟩ := hc
           have c3 := FM c3
           have c4 := FM c4
           subst c3 c4
           obtain ⟨z0, h1, h2⟩ := L2 hk
           rw [F5] at h2
           exact ⟨_, _, h2, hs h1 _ _ m dst _ _ a1 a2 a3 rfl rfl ⟨a5K ⟨M8 _, M8 _, M8 _, trivial⟩, G0 _ rfl, trivial⟩ (F0 rfl (J6 rfl) (F1 rfl)) (F0 rfl (J6 rfl) (F1 rfl))⟩
         . cases hk
       . cases h
     . cases hq
   . cases h
 . cases h
open Classical in
theorem e1h (N : Nat) : e0N (b3M N) := fun {f x1 x2 U z0} h => by
 refine S3 (cx := d6n N) (by kernel_rfl) (a9l trivial ⟨b8D N, J7 N, trivial⟩) Tryz.func68 (by kernel_rfl) (by kernel_rfl) (lz (by kernel_rfl)) (by rfl) (rf := L8 (fun Z0 => some Z0)) (r := z0) ?_ ?_
 . exact (d6u ..).trans h
 . intro rs' m' hx
   unfold L8 at hx
   split at hx
   . cases hx; exact ⟨rfl, rfl, _, rfl⟩
   . cases hx
def c6h {R : Type} (s : List V -> LB -> Option (LB)) (dst : Nat) (ds : List D) (m : Mem) (K : List D -> Mem -> Option R) : Option R :=
 match ds with
 | [.ptr (Bf + 1) Bg 0, .v (.sl 58 f) .no, .clos 68 [.ptr (As + 1) Av 0]] => (match m.box? As Av with
   | some ⟨_, [.ptr hk hs _]⟩ => cond (FZ Bf (As + hk) && FZ Bg hs) (a0s [(As, Av), (As + hk, hs)] m fun Bs => (match Bs with
     | [⟨128, [.ptr tk ts 0]⟩, ⟨96, [.v (.bytes U) (.own (.slot 0) 5)]⟩] => cond (FZ hk tk && FZ hs ts) (j3 (s f U) fun z0 => J5 [(As, Av), (As + hk, hs)] [⟨128, [.ptr hk hs 0]⟩, ⟨96, [.v (.bytes z0) (.own (.slot 0) 5)]⟩] m fun m' => K [] m') none
     | _ => none)) none
   | _ => none)
 | _ => none
def a1q {R : Type} (N : Nat) (Aa : List V) (u : Int) (Lq : Int -> LB -> Option R) (K0 : LB -> Option R) (d : Int) (l3 : LB) : Option R := br (decide (d < u)) (br (decide (0 <= d) && decide (d < (Aa.length : Int))) (at? Aa d.toNat fun f => f.unAgg fun l1 => e9 l1 fun x2 l3_1 => x2.unBytes fun l4 => e9 l3_1 fun x5 l6 => V.unInt FK x5 fun n7 => e9 l6 fun x8 l9 => V.unInt FK x8 fun na => D2 l9 (j3 (b3M N l4 n7 na l3) fun Ay => Lq (FK.wrap (d + 1)) Ay)) none) (K0 l3)
def a4S {R : Type} (N : Nat) (Aa : List V) (u : Int) : Nat -> Int -> LB -> (LB -> Option R) -> Option R | 0, _, _, _ => none | t + 1, d, l3, K0 => a1q N Aa u (fun d l3 => a4S N Aa u t d l3 K0) K0 d l3
def b3t {R : Type} (N : Nat) (ds : List D) (m : Mem) (K : Ex -> List D -> Mem -> Option R) : Option R :=
 match ds, m with
 | [(.clos 68 [(.ptr 1 0 0)]), (.v (.sl 58 Aa) .no), (.v (.int .i64 u) .no), (.v (.int .i64 d) .no)], [[], [(0, ⟨128, [(.ptr 0 1 0)]⟩), (1, ⟨96, [(.v (.bytes l3) (.own (.slot 0) 5))]⟩)]] => a4S N Aa u N d l3 (fun a0 => K (.exit 0) [] [[], [(0, ⟨128, [(.ptr 0 1 0)]⟩), (1, ⟨96, [(.v (.bytes a0) (.own (.slot 0) 5))]⟩)]])
 | _, _ => none
def c5T {R : Type} (N : Nat) (f : List V) (U : LB) (K0 : LB -> Option R) : Option R := j3 (H6 N [V.int FK (f.length : Int)] U) fun w => a4S N f (f.length : Int) N 0 w fun l1 => K0 l1
def b5c (N : Nat) : List V -> LB -> Option (LB) := fun f U => c5T N f U (fun z0 => some z0)
def a4o (N : Nat) : Cx := { T := T, isPure := a5b [], pureK := fun g ds K => a1K [] g ds K, memK := fun g dst ds m K => W4 [J1 N, ⟨68, c3u (b3M N)⟩] g dst ds m K, meth := a2E [], keep := fun r => match r with | 2 => [2, 15, 16, 17] | _ => [], keepX := fun r => match r with | 2 => [] | _ => [], loopT := fun r ds m K => match r with | 2 => b3t N ds m K | _ => none, jumps := 9 }
theorem c0L {R : Type} (N : Nat) (Aa : List V) (u d : Int) (l3 : LB) (L : List D -> Mem -> Option R) (K : Ex -> List D -> Mem -> Option R) :
 W3 (fun st K => codeK (a4o N) (s4 Tryz.f67 0) st K) 25 [2, 15, 16, 17] [] L [(.clos 68 [(.ptr 1 0 0)]), (.v (.sl 58 Aa) .no), (dI u), (dI d)] [[], [(0, ⟨128, [(.ptr 0 1 0)]⟩), (1, ⟨96, [(.v (.bytes l3) (.own (.slot 0) 5))]⟩)]] K = a1q N Aa u (fun d l3 => L [(.clos 68 [(.ptr 1 0 0)]), (.v (.sl 58 Aa) .no), (dI u), (dI d)] [[], [(0, ⟨128, [(.ptr 0 1 0)]⟩), (1, ⟨96, [(.v (.bytes l3) (.own (.slot 0) 5))]⟩)]]) (fun a0 => K (.exit 0) [] [[], [(0, ⟨128, [(.ptr 0 1 0)]⟩), (1, ⟨96, [(.v (.bytes a0) (.own (.slot 0) 5))]⟩)]]) d l3 := by
 kernel_rfl
theorem b0Q {R : Type} (N : Nat) (Aa : List V) (u : Int) (K : Ex -> List D -> Mem -> Option R) : ∀ (t : Nat) (d : Int) (l3 : LB),
 O9 (fun st K => codeK (a4o N) (s4 Tryz.f67 0) st K) 25 [2, 15, 16, 17] [] t [(.clos 68 [(.ptr 1 0 0)]), (.v (.sl 58 Aa) .no), (dI u), (dI d)] [[], [(0, ⟨128, [(.ptr 0 1 0)]⟩), (1, ⟨96, [(.v (.bytes l3) (.own (.slot 0) 5))]⟩)]] K = a4S N Aa u t d l3 (fun a0 => K (.exit 0) [] [[], [(0, ⟨128, [(.ptr 0 1 0)]⟩), (1, ⟨96, [(.v (.bytes a0) (.own (.slot 0) 5))]⟩)]])
 | 0, d, l3 => rfl
 | t + 1, d, l3 => (c0L N Aa u d l3 _ K).trans (congrArg (fun L => a1q N Aa u L (fun a0 => K (.exit 0) [] [[], [(0, ⟨128, [(.ptr 0 1 0)]⟩), (1, ⟨96, [(.v (.bytes a0) (.own (.slot 0) 5))]⟩)]]) d l3) (funext fun d => funext fun l3 => b0Q N Aa u K t d l3))
theorem c9e {R : Type} (N : Nat) (f U K : _) : M4 (R := R) (a4o N) Tryz.f67 [.ptr 1 1 0, .v (.sl 58 f) .no, .clos 68 [.ptr 1 0 0]] [J4 0 [⟨128, [.ptr 0 1 0]⟩, ⟨96, [.v (.bytes U) (.own (.slot 0) 5)]⟩]] (L8 K) = c5T N f U (fun z0 => K z0) := by
 kernel_rfl
abbrev d6D (s : List V -> LB -> Option (LB)) : Prop := ∀ {f U z0}, s f U = some z0 -> VR2 67 [.ptr 1 1 0, .v (.sl 58 f) .no, .clos 68 [.ptr 1 0 0]] [⟨128, [.ptr 0 1 0]⟩, ⟨96, [.v (.bytes U) (.own (.slot 0) 5)]⟩] [] [⟨128, [.ptr 0 1 0]⟩, ⟨96, [.v (.bytes z0) (.own (.slot 0) 5)]⟩]
theorem d9v (s : List V -> LB -> Option (LB)) (hs : d6D s) : MEO ⟨67, c6h s⟩ := by
 refine ⟨K6 Tryz.func67 (by kernel_rfl) (c := s6 Tryz.f67) (by kernel_rfl), fun R dst ds m K r h => ?_⟩
 simp only [c6h] at h
 split at h
 . split at h
   . rcases j8 h with ⟨hc, hq⟩ | ⟨_, hq⟩
     . clear h
       simp only [FT] at hc
       obtain ⟨c1, c2⟩ := hc
       have c1 := FM c1
       have c2 := FM c2
       subst c1 c2
       obtain ⟨Bs, a1, a2, a3, h⟩ := F8 hq
       split at h
       . rcases j8 h with ⟨hc, hk⟩ | ⟨_, hk⟩
         . simp only [FT] at hc
           obtain ⟨c3, c4⟩ := hc
           have c3 := FM c3
           have c4 := FM c4
           subst c3 c4
           obtain ⟨z0, h1, h2⟩ := L2 hk
           rw [F5] at h2
           exact ⟨_, _, h2, hs h1 _ _ m dst _ _ a1 a2 a3 rfl rfl ⟨G0 _ rfl, M8 _, a0X ⟨G0 _ rfl, trivial⟩, trivial⟩ (F0 rfl (J6 rfl) (F1 rfl)) (F0 rfl (J6 rfl) (F1 rfl))⟩
         . cases hk
       . cases h
     . cases hq
   . cases h
 . cases h
theorem d8m (N : Nat) : CxOK Tryz.prog (a4o N) :=
 M3 (es := []) (me := [J1 N, ⟨68, c3u (b3M N)⟩]) (ms := []) a7s trivial ⟨J7 N, d4b _ (e1h N), trivial⟩ trivial rfl (fun _ _ _ _ => rfl) (fun _ _ _ _ _ _ => rfl) rfl
theorem d0K (N : Nat) : p9 (a4o N) 25 (s4 Tryz.f67 0) := by
 refine j7 (rid := 2) (by kernel_rfl) rfl rfl fun R ds m K r h => ?_
 have h : b3t N ds m K = some r := h
 unfold b3t at h
 split at h
 . exact ⟨N, Gs (b0Q ..) h⟩
 . cases h
theorem d7C (N : Nat) : B8 (a4o N) Tryz.f67.ntmps (s6 Tryz.f67) :=
 j6 (k := 1) (by kernel_rfl) ⟨trivial, d0K N⟩
open Classical in
theorem e1K (N : Nat) : d6D (b5c N) := fun {f U z0} h => by
 refine S3 (cx := a4o N) (by kernel_rfl) (d8m N) Tryz.func67 (by kernel_rfl) (by kernel_rfl) (d7C N) (by rfl) (rf := L8 (fun Z0 => some Z0)) (r := z0) ?_ ?_
 . exact (c9e ..).trans h
 . intro rs' m' hx
   unfold L8 at hx
   split at hx
   . cases hx; exact ⟨rfl, rfl, _, rfl⟩
   . cases hx
def c1Z {R : Type} (s : LB -> Int -> Int -> LB -> Option (LB)) (dst : Nat) (ds : List D) (m : Mem) (K : List D -> Mem -> Option R) : Option R :=
 match ds with
 | [.agg [.v (.bytes f) .no, .v (.int .i64 x1) .no, .v (.int .i64 x2) .no], .ptr (As + 1) Av 0] => (match m.box? As Av with
   | some ⟨_, [.ptr hk hs _]⟩ => cond (true) (a0s [(As, Av), (As + hk, hs)] m fun Bs => (match Bs with
     | [⟨128, [.ptr tk ts 0]⟩, ⟨96, [.v (.bytes U) (.own (.slot 0) 5)]⟩] => cond (FZ hk tk && FZ hs ts) (j3 (s f x1 x2 U) fun z0 => J5 [(As, Av), (As + hk, hs)] [⟨128, [.ptr hk hs 0]⟩, ⟨96, [.v (.bytes z0) (.own (.slot 0) 5)]⟩] m fun m' => K [] m') none
     | _ => none)) none
   | _ => none)
 | _ => none
def d6j {R : Type} (N : Nat) (f : LB) (x1 x2 : Int) (U : LB) (K0 : LB -> Option R) : Option R := j3 (a9X N f U) fun w => j3 (H6 N [V.int FK x1, V.int FK x2] w) fun l1 => K0 l1
def b2B (N : Nat) : LB -> Int -> Int -> LB -> Option (LB) := fun f x1 x2 U => d6j N f x1 x2 U (fun z0 => some z0)
def d3Q (N : Nat) : Cx := cxO [] [b9k N, J1 N]
theorem d2S {R : Type} (N : Nat) (f x1 x2 U K : _) : M4 (R := R) (d3Q N) Tryz.f76 [.agg [dY f, dI x1, dI x2], .ptr 1 0 0] [J4 0 [⟨128, [.ptr 0 1 0]⟩, ⟨96, [.v (.bytes U) (.own (.slot 0) 5)]⟩]] (L8 K) = d6j N f x1 x2 U (fun z0 => K z0) := by
 kernel_rfl
abbrev e0O (s : LB -> Int -> Int -> LB -> Option (LB)) : Prop := ∀ {f x1 x2 U z0}, s f x1 x2 U = some z0 -> VR2 76 [.agg [dY f, dI x1, dI x2], .ptr 1 0 0] [⟨128, [.ptr 0 1 0]⟩, ⟨96, [.v (.bytes U) (.own (.slot 0) 5)]⟩] [] [⟨128, [.ptr 0 1 0]⟩, ⟨96, [.v (.bytes z0) (.own (.slot 0) 5)]⟩]
theorem d5a (s : LB -> Int -> Int -> LB -> Option (LB)) (hs : e0O s) : MEO ⟨76, c1Z s⟩ := by
 refine ⟨K6 Tryz.func76 (by kernel_rfl) (c := s6 Tryz.f76) (by kernel_rfl), fun R dst ds m K r h => ?_⟩
 simp only [c1Z] at h
 split at h
 . split at h
   . rcases j8 h with ⟨hc, hq⟩ | ⟨_, hq⟩
     . clear h
       obtain ⟨Bs, a1, a2, a3, h⟩ := F8 hq
       split at h
       . rcases j8 h with ⟨hc, hk⟩ | ⟨_, hk⟩
         . simp only [FT] at hc
           obtain ⟨c3, c4⟩ := hc
           have c3 := FM c3
           have c4 := FM c4
           subst c3 c4
           obtain ⟨z0, h1, h2⟩ := L2 hk
           rw [F5] at h2
           exact ⟨_, _, h2, hs h1 _ _ m dst _ _ a1 a2 a3 rfl rfl ⟨a5K ⟨M8 _, M8 _, M8 _, trivial⟩, G0 _ rfl, trivial⟩ (F0 rfl (J6 rfl) (F1 rfl)) (F0 rfl (J6 rfl) (F1 rfl))⟩
         . cases hk
       . cases h
     . cases hq
   . cases h
 . cases h
open Classical in
theorem e1a (N : Nat) : e0O (b2B N) := fun {f x1 x2 U z0} h => by
 refine S3 (cx := d3Q N) (by kernel_rfl) (a9l trivial ⟨b8D N, J7 N, trivial⟩) Tryz.func76 (by kernel_rfl) (by kernel_rfl) (lz (by kernel_rfl)) (by rfl) (rf := L8 (fun Z0 => some Z0)) (r := z0) ?_ ?_
 . exact (d2S ..).trans h
 . intro rs' m' hx
   unfold L8 at hx
   split at hx
   . cases hx; exact ⟨rfl, rfl, _, rfl⟩
   . cases hx
def c4E {R : Type} (s : List V -> LB -> Option (LB)) (dst : Nat) (ds : List D) (m : Mem) (K : List D -> Mem -> Option R) : Option R :=
 match ds with
 | [.ptr (Bf + 1) Bg 0, .v (.sl 67 f) .no, .clos 76 [.ptr (As + 1) Av 0]] => (match m.box? As Av with
   | some ⟨_, [.ptr hk hs _]⟩ => cond (FZ Bf (As + hk) && FZ Bg hs) (a0s [(As, Av), (As + hk, hs)] m fun Bs => (match Bs with
     | [⟨128, [.ptr tk ts 0]⟩, ⟨96, [.v (.bytes U) (.own (.slot 0) 5)]⟩] => cond (FZ hk tk && FZ hs ts) (j3 (s f U) fun z0 => J5 [(As, Av), (As + hk, hs)] [⟨128, [.ptr hk hs 0]⟩, ⟨96, [.v (.bytes z0) (.own (.slot 0) 5)]⟩] m fun m' => K [] m') none
     | _ => none)) none
   | _ => none)
 | _ => none
def a1h {R : Type} (N : Nat) (Aa : List V) (u : Int) (Lq : Int -> LB -> Option R) (K0 : LB -> Option R) (d : Int) (l3 : LB) : Option R := br (decide (d < u)) (br (decide (0 <= d) && decide (d < (Aa.length : Int))) (at? Aa d.toNat fun f => f.unAgg fun l1 => e9 l1 fun x2 l3_1 => x2.unBytes fun l4 => e9 l3_1 fun x5 l6 => V.unInt FK x5 fun n7 => e9 l6 fun x8 l9 => V.unInt FK x8 fun na => D2 l9 (j3 (b2B N l4 n7 na l3) fun Ay => Lq (FK.wrap (d + 1)) Ay)) none) (K0 l3)
def a4O {R : Type} (N : Nat) (Aa : List V) (u : Int) : Nat -> Int -> LB -> (LB -> Option R) -> Option R | 0, _, _, _ => none | t + 1, d, l3, K0 => a1h N Aa u (fun d l3 => a4O N Aa u t d l3 K0) K0 d l3
def b4C {R : Type} (N : Nat) (ds : List D) (m : Mem) (K : Ex -> List D -> Mem -> Option R) : Option R :=
 match ds, m with
 | [(.clos 76 [(.ptr 1 0 0)]), (.v (.sl 67 Aa) .no), (.v (.int .i64 u) .no), (.v (.int .i64 d) .no)], [[], [(0, ⟨128, [(.ptr 0 1 0)]⟩), (1, ⟨96, [(.v (.bytes l3) (.own (.slot 0) 5))]⟩)]] => a4O N Aa u N d l3 (fun a0 => K (.exit 0) [] [[], [(0, ⟨128, [(.ptr 0 1 0)]⟩), (1, ⟨96, [(.v (.bytes a0) (.own (.slot 0) 5))]⟩)]])
 | _, _ => none
def c5b {R : Type} (N : Nat) (f : List V) (U : LB) (K0 : LB -> Option R) : Option R := j3 (H6 N [V.int FK (f.length : Int)] U) fun w => a4O N f (f.length : Int) N 0 w fun l1 => K0 l1
def b3A (N : Nat) : List V -> LB -> Option (LB) := fun f U => c5b N f U (fun z0 => some z0)
def a3U (N : Nat) : Cx := { T := T, isPure := a5b [], pureK := fun g ds K => a1K [] g ds K, memK := fun g dst ds m K => W4 [J1 N, ⟨76, c1Z (b2B N)⟩] g dst ds m K, meth := a2E [], keep := fun r => match r with | 2 => [2, 15, 16, 17] | _ => [], keepX := fun r => match r with | 2 => [] | _ => [], loopT := fun r ds m K => match r with | 2 => b4C N ds m K | _ => none, jumps := 9 }
theorem c2e {R : Type} (N : Nat) (Aa : List V) (u d : Int) (l3 : LB) (L : List D -> Mem -> Option R) (K : Ex -> List D -> Mem -> Option R) :
 W3 (fun st K => codeK (a3U N) (s4 Tryz.f75 0) st K) 25 [2, 15, 16, 17] [] L [(.clos 76 [(.ptr 1 0 0)]), (.v (.sl 67 Aa) .no), (dI u), (dI d)] [[], [(0, ⟨128, [(.ptr 0 1 0)]⟩), (1, ⟨96, [(.v (.bytes l3) (.own (.slot 0) 5))]⟩)]] K = a1h N Aa u (fun d l3 => L [(.clos 76 [(.ptr 1 0 0)]), (.v (.sl 67 Aa) .no), (dI u), (dI d)] [[], [(0, ⟨128, [(.ptr 0 1 0)]⟩), (1, ⟨96, [(.v (.bytes l3) (.own (.slot 0) 5))]⟩)]]) (fun a0 => K (.exit 0) [] [[], [(0, ⟨128, [(.ptr 0 1 0)]⟩), (1, ⟨96, [(.v (.bytes a0) (.own (.slot 0) 5))]⟩)]]) d l3 := by
 kernel_rfl
theorem b1h {R : Type} (N : Nat) (Aa : List V) (u : Int) (K : Ex -> List D -> Mem -> Option R) : ∀ (t : Nat) (d : Int) (l3 : LB),
 O9 (fun st K => codeK (a3U N) (s4 Tryz.f75 0) st K) 25 [2, 15, 16, 17] [] t [(.clos 76 [(.ptr 1 0 0)]), (.v (.sl 67 Aa) .no), (dI u), (dI d)] [[], [(0, ⟨128, [(.ptr 0 1 0)]⟩), (1, ⟨96, [(.v (.bytes l3) (.own (.slot 0) 5))]⟩)]] K = a4O N Aa u t d l3 (fun a0 => K (.exit 0) [] [[], [(0, ⟨128, [(.ptr 0 1 0)]⟩), (1, ⟨96, [(.v (.bytes a0) (.own (.slot 0) 5))]⟩)]])
 | 0, d, l3 => rfl
 | t + 1, d, l3 => (c2e N Aa u d l3 _ K).trans (congrArg (fun L => a1h N Aa u L (fun a0 => K (.exit 0) [] [[], [(0, ⟨128, [(.ptr 0 1 0)]⟩), (1, ⟨96, [(.v (.bytes a0) (.own (.slot 0) 5))]⟩)]]) d l3) (funext fun d => funext fun l3 => b1h N Aa u K t d l3))
theorem c9g {R : Type} (N : Nat) (f U K : _) : M4 (R := R) (a3U N) Tryz.f75 [.ptr 1 1 0, .v (.sl 67 f) .no, .clos 76 [.ptr 1 0 0]] [J4 0 [⟨128, [.ptr 0 1 0]⟩, ⟨96, [.v (.bytes U) (.own (.slot 0) 5)]⟩]] (L8 K) = c5b N f U (fun z0 => K z0) := by
 kernel_rfl
abbrev d4S (s : List V -> LB -> Option (LB)) : Prop := ∀ {f U z0}, s f U = some z0 -> VR2 75 [.ptr 1 1 0, .v (.sl 67 f) .no, .clos 76 [.ptr 1 0 0]] [⟨128, [.ptr 0 1 0]⟩, ⟨96, [.v (.bytes U) (.own (.slot 0) 5)]⟩] [] [⟨128, [.ptr 0 1 0]⟩, ⟨96, [.v (.bytes z0) (.own (.slot 0) 5)]⟩]
theorem d9c (s : List V -> LB -> Option (LB)) (hs : d4S s) : MEO ⟨75, c4E s⟩ := by
 refine ⟨K6 Tryz.func75 (by kernel_rfl) (c := s6 Tryz.f75) (by kernel_rfl), fun R dst ds m K r h => ?_⟩
 simp only [c4E] at h
 split at h
 . split at h
   . rcases j8 h with ⟨hc, hq⟩ | ⟨_, hq⟩
     . clear h
       simp only [FT] at hc
       obtain ⟨c1, c2⟩ := hc
       have c1 := FM c1
       have c2 := FM c2
       subst c1 c2
       obtain ⟨Bs, a1, a2, a3, h⟩ := F8 hq
       split at h
       . rcases j8 h with ⟨hc, hk⟩ | ⟨_, hk⟩
         . simp only [FT] at hc
           obtain ⟨c3, c4⟩ := hc
           have c3 := FM c3
           have c4 := FM c4
           subst c3 c4
           obtain ⟨z0, h1, h2⟩ := L2 hk
           rw [F5] at h2
           exact ⟨_, _, h2, hs h1 _ _ m dst _ _ a1 a2 a3 rfl rfl ⟨G0 _ rfl, M8 _, a0X ⟨G0 _ rfl, trivial⟩, trivial⟩ (F0 rfl (J6 rfl) (F1 rfl)) (F0 rfl (J6 rfl) (F1 rfl))⟩
         . cases hk
       . cases h
     . cases hq
   . cases h
 . cases h
theorem d9h (N : Nat) : CxOK Tryz.prog (a3U N) :=
 M3 (es := []) (me := [J1 N, ⟨76, c1Z (b2B N)⟩]) (ms := []) a7s trivial ⟨J7 N, d5a _ (e1a N), trivial⟩ trivial rfl (fun _ _ _ _ => rfl) (fun _ _ _ _ _ _ => rfl) rfl
theorem d0x (N : Nat) : p9 (a3U N) 25 (s4 Tryz.f75 0) := by
 refine j7 (rid := 2) (by kernel_rfl) rfl rfl fun R ds m K r h => ?_
 have h : b4C N ds m K = some r := h
 unfold b4C at h
 split at h
 . exact ⟨N, Gs (b1h ..) h⟩
 . cases h
theorem e0a (N : Nat) : B8 (a3U N) Tryz.f75.ntmps (s6 Tryz.f75) :=
 j6 (k := 1) (by kernel_rfl) ⟨trivial, d0x N⟩
open Classical in
theorem e2k (N : Nat) : d4S (b3A N) := fun {f U z0} h => by
 refine S3 (cx := a3U N) (by kernel_rfl) (d9h N) Tryz.func75 (by kernel_rfl) (by kernel_rfl) (e0a N) (by rfl) (rf := L8 (fun Z0 => some Z0)) (r := z0) ?_ ?_
 . exact (c9g ..).trans h
 . intro rs' m' hx
   unfold L8 at hx
   split at hx
   . cases hx; exact ⟨rfl, rfl, _, rfl⟩
   . cases hx
def a2Q {R : Type} (N : Nat) (j : Int) (Ab : List V) (d : Int) (Lq : Int -> LB -> Option R) (K0 : LB -> Option R) (i : Int) (l4 : LB) : Option R := br (decide (i < d)) (br (decide (0 <= i) && decide (i < (Ab.length : Int))) (at? Ab i.toNat fun f => f.unAgg fun l1 => e9 l1 fun x2 l3 => V.unInt FK x2 fun x => e9 l3 fun x5 l6 => V.unInt FK x5 fun n7 => e9 l6 fun x8 l9 => x8.unBool fun AA => e9 l9 fun xb Ax => V.unSl 42 xb fun ld => e9 Ax fun xe AC => V.unSl 44 xe fun lg => e9 AC fun xh AO => V.unSl 3 xh fun lj => e9 AO fun xk ll => V.unSl 105 xk fun AP => D2 ll (br (decide (j = 1)) (j3 (a7V N x n7 AA ld lg lj AP l4) fun ln => Lq (FK.wrap (i + 1)) ln) none)) none) (K0 l4)
def a6b {R : Type} (N : Nat) (j : Int) (Ab : List V) (d : Int) : Nat -> Int -> LB -> (LB -> Option R) -> Option R | 0, _, _, _ => none | t + 1, i, l4, K0 => a2Q N j Ab d (fun i l4 => a6b N j Ab d t i l4 K0) K0 i l4
def b2Q {R : Type} (N : Nat) (ds : List D) (m : Mem) (K : Ex -> List D -> Mem -> Option R) : Option R :=
 match ds, m with
 | [(.fn j [70] 1 0), (.v (.sl 64 Ab) .no), (.v (.int .i64 d) .no), (.v (.int .i64 i) .no)], [[], [(0, ⟨96, [(.v (.bytes l4) (.own (.slot 0) 5))]⟩)]] => a6b N j Ab d N i l4 (fun a0 => K (.exit 0) [] (mm6 a0))
 | _, _ => none
def d4o {R : Type} (N : Nat) (f : List V) (U : LB) (K0 : LB -> Option R) : Option R := j3 (H6 N [V.int FK (f.length : Int)] U) fun w => a6b N 1 f (f.length : Int) N 0 w fun l1 => K0 l1
def b8a (N : Nat) (f : List V) (U : LB) : Option (LB) := d4o N f U (fun z0 => some z0)
def c8h (N : Nat) : Cx := cl [] [J1 N, b2n N] [⟨2, [2, 15, 16, 17], [], b2Q N⟩]
theorem d0N (N : Nat) : p9 (c8h N) 25 (s4 Tryz.f69 0) := by
 refine j7 (rid := 2) (by kernel_rfl) rfl rfl fun R ds m K r h => ?_
 change b2Q N ds m K = _ at h
 unfold b2Q at h
 split at h
 . rename_i j Ab d i l4
   exact ⟨N, Gs (lpI (fun (e : (LB -> Option R)) L (s : Int × LB) => a2Q N j Ab d (fun i l4 => L (i, l4)) e s.1 s.2) (fun e t s => a6b N j Ab d t s.1 s.2 e) (fun s => [(.fn j [70] 1 0), (.v (.sl 64 Ab) .no), (.v (.int .i64 d) .no), (.v (.int .i64 s.1) .no)]) (fun s => mm6 s.2) (fun _ _ => rfl) (fun _ _ _ => rfl) (e := _) (fun L s => by kernel_rfl) N (i, l4)) h⟩
 . cases h
def d1L (N : Nat) : MEnt := vE 69 (.p 0 (.v (.l 64) (.m 70 0 .z))) [(96, [.o 5])] .z true (b8a N)
theorem d8z (N : Nat) : MEO (d1L N) := vk (cx := c8h N) (D4 trivial ⟨J7 N, b5Y N, trivial⟩) Tryz.func69 (j6 (k := 1) (by kernel_rfl) ⟨trivial, d0N N⟩) (by kernel_rfl) fun h => by kernel_rfl
def a3t {R : Type} (N : Nat) (j : Int) (Ab : List V) (d : Int) (Lq : Int -> LB -> Option R) (K0 : LB -> Option R) (i : Int) (l4 : LB) : Option R := br (decide (i < d)) (br (decide (0 <= i) && decide (i < (Ab.length : Int))) (at? Ab i.toNat fun f => f.unAgg fun l1 => e9 l1 fun x2 l3 => x2.unBool fun b4 => e9 l3 fun x5 l6 => x5.unBool fun b7 => e9 l6 fun x8 l9 => V.unInt FK x8 fun na => e9 l9 fun xb Ax => V.unSl 44 xb fun ld => e9 Ax fun xe AC => V.unInt FK xe fun ng => e9 AC fun xh AO => V.unInt FK xh fun nj => e9 AO fun xk ll => V.unInt FK xk fun AB => e9 ll fun xn Bc => V.unInt FK xn fun AE => e9 Bc fun xq lr => V.unInt FK xq fun ns => e9 lr fun Bz lu => V.unSl 54 Bz fun AT => e9 lu fun xw lx => V.unSl 107 xw fun ly => D2 lx (br (decide (j = 1)) (j3 (a6e N b4 b7 na ld ng nj AB AE ns AT ly l4) fun Bm => Lq (FK.wrap (i + 1)) Bm) none)) none) (K0 l4)
def a5p {R : Type} (N : Nat) (j : Int) (Ab : List V) (d : Int) : Nat -> Int -> LB -> (LB -> Option R) -> Option R | 0, _, _, _ => none | t + 1, i, l4, K0 => a3t N j Ab d (fun i l4 => a5p N j Ab d t i l4 K0) K0 i l4
def b5a {R : Type} (N : Nat) (ds : List D) (m : Mem) (K : Ex -> List D -> Mem -> Option R) : Option R :=
 match ds, m with
 | [(.fn j [72] 1 0), (.v (.sl 47 Ab) .no), (.v (.int .i64 d) .no), (.v (.int .i64 i) .no)], [[], [(0, ⟨96, [(.v (.bytes l4) (.own (.slot 0) 5))]⟩)]] => a5p N j Ab d N i l4 (fun a0 => K (.exit 0) [] (mm6 a0))
 | _, _ => none
def d3p {R : Type} (N : Nat) (f : List V) (U : LB) (K0 : LB -> Option R) : Option R := j3 (H6 N [V.int FK (f.length : Int)] U) fun w => a5p N 1 f (f.length : Int) N 0 w fun l1 => K0 l1
def b9F (N : Nat) (f : List V) (U : LB) : Option (LB) := d3p N f U (fun z0 => some z0)
def c8F (N : Nat) : Cx := cl [] [J1 N, b0k N] [⟨2, [2, 15, 16, 17], [], b5a N⟩]
theorem d0U (N : Nat) : p9 (c8F N) 25 (s4 Tryz.f71 0) := by
 refine j7 (rid := 2) (by kernel_rfl) rfl rfl fun R ds m K r h => ?_
 change b5a N ds m K = _ at h
 unfold b5a at h
 split at h
 . rename_i j Ab d i l4
   exact ⟨N, Gs (lpI (fun (e : (LB -> Option R)) L (s : Int × LB) => a3t N j Ab d (fun i l4 => L (i, l4)) e s.1 s.2) (fun e t s => a5p N j Ab d t s.1 s.2 e) (fun s => [(.fn j [72] 1 0), (.v (.sl 47 Ab) .no), (.v (.int .i64 d) .no), (.v (.int .i64 s.1) .no)]) (fun s => mm6 s.2) (fun _ _ => rfl) (fun _ _ _ => rfl) (e := _) (fun L s => by kernel_rfl) N (i, l4)) h⟩
 . cases h
def d1G (N : Nat) : MEnt := vE 71 (.p 0 (.v (.l 47) (.m 72 0 .z))) [(96, [.o 5])] .z true (b9F N)
theorem d8U (N : Nat) : MEO (d1G N) := vk (cx := c8F N) (D4 trivial ⟨J7 N, b5d N, trivial⟩) Tryz.func71 (j6 (k := 1) (by kernel_rfl) ⟨trivial, d0U N⟩) (by kernel_rfl) fun h => by kernel_rfl
def c3t {R : Type} (N : Nat) (f : LB) (x1 x2 : Int) (x3 x4 x5 x6 x7 : List V) (U : LB) (K0 : LB -> Option R) : Option R := j3 (H6 N [V.int FK 83, V.int FK 67, V.int FK 49] U) fun w => j3 (a9X N f w) fun l1 => j3 (H6 N [V.int FK x1, V.int FK x2] l1) fun l2 => j3 (b5c N x3 l2) fun l3 => j3 (b8a N x4 l3) fun l4 => j3 (b9F N x5 l4) fun l5 => j3 (a9y N x6 l5) fun l6 => j3 (b3A N x7 l6) fun l7 => K0 l7
def b5g (N : Nat) (f : LB) (x1 x2 : Int) (x3 x4 x5 x6 x7 : List V) (U : LB) : Option (LB) := c3t N f x1 x2 x3 x4 x5 x6 x7 U (fun z0 => some z0)
def c3D (N : Nat) : MEnt := vE 35 e6u [(96, [.o 5])] .z true (b5g N)
theorem d0n (N : Nat) : MEO (c3D N) := vk0 (cx := cz [] [b9k N, J1 N, ⟨67, c6h (b5c N)⟩, d1L N, d1G N, b8l N, ⟨75, c4E (b3A N)⟩, ⟨68, c3u (b3M N)⟩, b2n N, b0k N, b3R N, ⟨76, c1Z (b2B N)⟩]) (A9 trivial ⟨b8D N, J7 N, d9v _ (e1K N), d8z N, d8U N, b7Y N, d9c _ (e2k N), d4b _ (e1h N), b5Y N, b5d N, b1W N, d5a _ (e1a N), trivial⟩) Tryz.func35 (by kernel_rfl) fun h => by kernel_rfl
def a3z (N : Nat) (f : LB) (x1 x2 : Int) (x3 x4 x5 x6 x7 : List V) : Option (LB) := j3 (b5g N f x1 x2 x3 x4 x5 x6 x7 []) fun w => some w
def b0u (N : Nat) : Ent := pE 14 b5F (.v .y .z) (a3z N)
theorem b3P (N : Nat) : EO (b0u N) := pk0 (cx := cz [] [c3D N]) (A9 trivial ⟨d0n N, trivial⟩) Tryz.func14 (by kernel_rfl) fun h => by kernel_rfl
end En

namespace En
open Go
def wN (n : Int) : List UInt8 := [C5 n]
def wW (n : Int) : List UInt8 := [C5 (n / 256), C5 n]
def b0E (b : List UInt8) : List UInt8 := C5 b.length :: b
def wL {α : Type} (wr : α -> List UInt8) (l : List α) : List UInt8 := C5 l.length :: l.flatMap wr
def wRf (r : Rf) : List UInt8 := [C5 r.p, C5 r.c]
def wTp (t : Tp) : List UInt8 := C5 t.k :: (if t.k = 5 then wRf t.r else [])
def wIl (x : Il) : List UInt8 := wRf x.i ++ wL wN x.ms
def wCl (c : Cl) : List UInt8 := C5 (if c.itf then 1 else 0) :: (wRf c.sup ++ (wL wRf c.ext ++ (wL wTp c.fs ++ (wL wN c.vs ++ wL wIl c.is))))
def wHd (h : Hd) : List UInt8 := wW h.f ++ (wW h.t ++ (wW h.g ++ wW h.w))
def wMt (m : Mt) : List UInt8 := C5 ((if m.st then 1 else 0) + (if m.ab then 2 else 0)) :: C5 m.cls :: (wL wTp m.ps ++ (wTp m.r ++ (C5 m.lo :: C5 m.sk :: (wW (a3s m.code).1.length ++ ((a3s m.code).1 ++ wL wHd m.hs)))))
def wIm (x : Im) : List UInt8 := b0E x.aid ++ [C5 x.ma, C5 x.mi]
def wAp (x : Ap) : List UInt8 := b0E x.aid ++ [C5 x.cl, C5 x.ins]
def wPk (p : Pk) : List UInt8 := 83 :: 67 :: 49 :: (b0E p.aid ++ (C5 p.ma :: C5 p.mi :: (wL wIm p.ims ++ (wL wCl p.cls ++ (wL wMt p.mts ++ (wL wTp p.sts ++ wL wAp p.aps))))))
section
variable (N : Nat) {R : Type}
theorem d2O {β R : Type} {vs : List β} {i : Nat} {y : β} (h : vs[i]? = some y) (K : β -> Option R) (A : Option R) :
 br (decide ((i : Int) < (vs.length : Int))) (br (decide (0 <= (i : Int)) && decide ((i : Int) < (vs.length : Int))) (at? vs (i : Int).toNat K) none) A = K y := by
 have hi : i < vs.length := (List.getElem?_eq_some_iff.1 h).1
 have h1 : ((i : Int) < (vs.length : Int)) := by omega
 rw [j5, if_pos h1, decide_eq_true h1, Bool.and_true, j5, if_pos (by omega), Int.toNat_natCast]
 unfold at?
 rw [h]
theorem put_eq (l : List Int) (out : List UInt8) (h : l.length < N) (hl : l.length <= 1000) (hb : out.length + l.length <= 100000000) : H6 N (l.map nV) out = some (out ++ l.flatMap wN) := by
 have hf : (l.flatMap wN).length = l.length := by
  clear h hl hb
  induction l with
  | nil => rfl
  | cons a l ih => rw [Hb, FU, ih]; simp [wN]; omega
 unfold H6 d1R
 refine R3 (fun t i out => a5Y N (l.map nV) ((l.map nV).length : Int) t i out fun l0 => some l0) some l wN 100000000 (fun t i x out hx hb => ?_) (fun t out => ?_) N out h (by omega)
 . show a2S N (l.map nV) _ _ _ _ _ = _
   unfold a2S
   rw [C8 hx]
   simp only [nV, p5]
   rw [j5, if_pos (by simp [wN] at hb ⊢; omega), C7 (C3 hx) (by omega), wu8, b0C]
   rfl
 . show a2S N (l.map nV) _ _ _ _ _ = _
   unfold a2S
   rw [C0]
theorem a8t (hN : 1000 < N) (a : Int) (out : List UInt8) (hb : out.length <= 99999990) : H6 N [V.int .i64 a] out = some (out ++ [C5 a]) := put_eq N [a] out (by simp only [FU, FO, Gd]; omega) (by simp) (by simp only [FU, FO, Gd]; omega)
theorem c4S (hN : 1000 < N) (a b : Int) (out : List UInt8) (hb : out.length <= 99999990) : H6 N [V.int .i64 a, V.int .i64 b] out = some (out ++ [C5 a, C5 b]) := put_eq N [a, b] out (by simp only [FU, FO, Gd]; omega) (by simp) (by simp only [FU, FO, Gd]; omega)
theorem e6k (hN : 1000 < N) (a b c : Int) (out : List UInt8) (hb : out.length <= 99999990) : H6 N [V.int .i64 a, V.int .i64 b, V.int .i64 c] out = some (out ++ [C5 a, C5 b, C5 c]) := put_eq N [a, b, c] out (by simp only [FU, FO, Gd]; omega) (by simp) (by simp only [FU, FO, Gd]; omega)
theorem c8c (hN : 1000 < N) (l : List Int) (out : List UInt8) (hl : l.length <= 900) (hb : out.length + (l.flatMap wW).length <= 99999980) : a3D N (l.map nV) out = some (out ++ l.flatMap wW) := by
 unfold a3D c8Q
 refine R3 (fun t i out => a3c N (l.map nV) ((l.map nV).length : Int) t i out fun l0 => some l0) some l wW 99999980 (fun t i x out hx hb => ?_) (fun t out => ?_) N out (by omega) hb
 . show a0R N (l.map nV) _ _ _ _ _ = _
   unfold a0R
   rw [C8 hx]
   simp only [nV, p5]
   rw [c4S N hN _ _ _ (by omega), j4, C7 (C3 hx) (by omega), e5G]
   rfl
 . show a0R N (l.map nV) _ _ _ _ _ = _
   unfold a0R
   rw [C0]
theorem b9a (hN : 1000 < N) (r : Rf) (out : List UInt8) (hb : out.length + (wRf r).length <= 99999980) : a7M N r.p r.c out = some (out ++ wRf r) := by
 unfold a7M d6s
 rw [c4S N hN _ _ _ (by omega)]
 rfl
theorem d5b (hN : 1000 < N) (t : Tp) (out : List UInt8) (hb : out.length + (wTp t).length <= 99999980) : b2C N t.k t.r.p t.r.c out = some (out ++ wTp t) := by
 unfold b2C d3v
 unfold wTp at hb ⊢
 simp only [FO] at hb
 rw [a8t N hN _ _ (by omega), j4, j5]
 by_cases h : t.k = 5
 . rw [if_pos h] at hb ⊢
   rw [if_pos h, b9a N hN _ _ (by simp only [FU, FO, Gd]; omega), j4]
   simp
 . rw [if_neg h, if_neg h]
theorem e2g (hN : 1000 < N) (n : Int) (out : List UInt8) (hb : out.length + (wN n).length <= 99999980) : b7U N n out = some (out ++ wN n) := by
 unfold b7U d5D
 rw [a8t N hN _ _ (by omega)]
 rfl
theorem e2G (hN : 1000 < N) (u : UInt8) (out : List UInt8) (hb : out.length <= 99999980) : b2r N (u.toNat : Int) out = some (out ++ [u]) := by
 unfold b2r d4N
 have e : FK.wrap (u.toNat : Int) = u.toNat := by rw [Ho]; have := u.toNat_lt; omega
 rw [e, a8t N hN _ _ (by omega), j4, d6M]
theorem d7L (hN : 1000 < N) (b out : List UInt8) (hl : b.length <= 900) (hb : out.length + (b0E b).length <= 99999980) : a9e N b out = some (out ++ b0E b) := by
 unfold a9e b9b
 unfold b0E at hb ⊢
 simp only [FO] at hb
 rw [a8t N hN _ _ (by omega), j4]
 have hf : ∀ b : List UInt8, b.flatMap (fun u => [u]) = b := fun b => by induction b with | nil => rfl | cons a b ih => rw [Hb, ih]; rfl
 have := R3 (fun t i out => a3r N b (b.length : Int) t i out fun l0 => some l0) some b (fun u => [u]) 99999980 (fun t i x out hx hb => ?_) (fun t out => ?_) N (out ++ [C5 b.length]) (by omega) (by rw [hf]; simp; omega)
 . rw [hf] at this
   rw [this]; simp
 . show Z7 N b _ _ _ _ _ = _
   unfold Z7
   rw [d2O hx]
   rw [e2G N hN _ _ (by simp at hb; omega), j4, C7 (C3 hx) (by omega)]
 . show Z7 N b _ _ _ _ _ = _
   unfold Z7
   rw [j5, if_neg (by omega)]
theorem c3U (hN : 1000 < N) (b out : List UInt8) (hl : b.length <= 900) (hb : out.length + (b0E b).length <= 99999980) : a9X N b out = some (out ++ b0E b) := by
 unfold a9X d5O
 rw [d7L N hN _ _ hl hb]
 rfl
theorem d7P (hN : 1000 < N) (l : List Rf) (out : List UInt8) (hl : l.length <= 900) (hb : out.length + (wL wRf l).length <= 99999980) : b9c N (l.map rfV) out = some (out ++ wL wRf l) := by
 unfold b9c d2d
 unfold wL at hb ⊢
 simp only [FO] at hb
 rw [a8t N hN _ _ (by omega), j4]
 have := R3 (fun t i out => a5R N 1 (l.map rfV) ((l.map rfV).length : Int) t i out fun l0 => some l0) some l wRf 99999980 (fun t i x out hx hb => ?_) (fun t out => ?_) N (out ++ [C5 l.length]) (by omega) (by simp only [FU, FO, Gd]; omega)
 . rw [Gi] at this ⊢
   rw [this]; simp
 . show a3j N 1 (l.map rfV) _ _ _ _ _ = _
   unfold a3j
   rw [C8 hx]
   simp only [rfV, p8, o9, p5, o8, o6, A8, p7, j5, if_true]
   rw [b9a N hN x _ hb, j4, C7 (C3 hx) (by omega)]
 . show a3j N 1 (l.map rfV) _ _ _ _ _ = _
   unfold a3j
   rw [C0]
theorem b9m (hN : 1000 < N) (l : List Tp) (out : List UInt8) (hl : l.length <= 900) (hb : out.length + (wL wTp l).length <= 99999980) : a9y N (l.map tpV) out = some (out ++ wL wTp l) := by
 unfold a9y d4T
 unfold wL at hb ⊢
 simp only [FO] at hb
 rw [a8t N hN _ _ (by omega), j4]
 have := R3 (fun t i out => a5w N 1 (l.map tpV) ((l.map tpV).length : Int) t i out fun l0 => some l0) some l wTp 99999980 (fun t i x out hx hb => ?_) (fun t out => ?_) N (out ++ [C5 l.length]) (by omega) (by simp only [FU, FO, Gd]; omega)
 . rw [Gi] at this ⊢
   rw [this]; simp
 . show a2L N 1 (l.map tpV) _ _ _ _ _ = _
   unfold a2L
   rw [C8 hx]
   simp only [tpV, p8, o9, p5, o8, o6, A8, p7, j5, if_true]
   rw [d5b N hN x _ hb, j4, C7 (C3 hx) (by omega)]
 . show a2L N 1 (l.map tpV) _ _ _ _ _ = _
   unfold a2L
   rw [C0]
theorem c8J (hN : 1000 < N) (l : List Int) (out : List UInt8) (hl : l.length <= 900) (hb : out.length + (wL wN l).length <= 99999980) : b2k N (l.map nV) out = some (out ++ wL wN l) := by
 unfold b2k d5S
 unfold wL at hb ⊢
 simp only [FO] at hb
 rw [a8t N hN _ _ (by omega), j4]
 have := R3 (fun t i out => a5B N 1 (l.map nV) ((l.map nV).length : Int) t i out fun l0 => some l0) some l wN 99999980 (fun t i x out hx hb => ?_) (fun t out => ?_) N (out ++ [C5 l.length]) (by omega) (by simp only [FU, FO, Gd]; omega)
 . rw [Gi] at this ⊢
   rw [this]; simp
 . show a2q N 1 (l.map nV) _ _ _ _ _ = _
   unfold a2q
   rw [C8 hx]
   simp only [nV, p8, o9, p5, o8, o6, A8, p7, j5, if_true]
   rw [e2g N hN x _ hb, j4, C7 (C3 hx) (by omega)]
 . show a2q N 1 (l.map nV) _ _ _ _ _ = _
   unfold a2q
   rw [C0]
def e2l (x : Il) : Prop := x.ms.length <= 900
theorem e2L (hN : 1000 < N) (x : Il) (hx : e2l x) (out : List UInt8) (hb : out.length + (wIl x).length <= 99999980) : b2i N x.i.p x.i.c (x.ms.map nV) out = some (out ++ wIl x) := by
 unfold b2i d2n
 unfold wIl at hb ⊢
 rw [FU] at hb
 rw [b9a N hN _ _ (by omega), j4, c8J N hN _ _ hx (by rw [FU]; omega), j4, Gr]
theorem d2X (hN : 1000 < N) (l : List Il) (out : List UInt8) (hl : l.length <= 900) (hy : ∀ x ∈ l, e2l x) (hb : out.length + (wL wIl l).length <= 99999980) : a7Z N (l.map ilV) out = some (out ++ wL wIl l) := by
 unfold a7Z b9l
 unfold wL at hb ⊢
 simp only [FO] at hb
 rw [a8t N hN _ _ (by omega), j4]
 have := R3 (fun t i out => a3l N (l.map ilV) ((l.map ilV).length : Int) t i out fun l0 => some l0) some l wIl 99999980 (fun t i x out hx hb => ?_) (fun t out => ?_) N (out ++ [C5 l.length]) (by omega) (by simp only [FU, FO, Gd]; omega)
 . rw [Gi] at this ⊢
   rw [this]; simp
 . show Z3 N (l.map ilV) _ _ _ _ _ = _
   unfold Z3
   rw [C8 hx]
   simp only [ilV, p8, o9, p5, o8, o6, A8, p7]
   rw [e2L N hN x (hy x (Gb hx)) _ hb, j4, C7 (C3 hx) (by omega)]
 . show Z3 N (l.map ilV) _ _ _ _ _ = _
   unfold Z3
   rw [C0]
def d2A (c : Cl) : Prop := c.ext.length <= 900 /\ c.fs.length <= 900 /\ c.vs.length <= 900 /\ c.is.length <= 900 /\ ∀ x ∈ c.is, e2l x
theorem b9Z (b : Bool) (n : Int) : a6p N b n = some (if b then n else 0) := by
 unfold a6p
 cases b <;> rfl
theorem d0s (hN : 1000 < N) (c : Cl) (hc : d2A c) (out : List UInt8) (hb : out.length + (wCl c).length <= 99999980) : a7V N c.sup.p c.sup.c c.itf (c.ext.map rfV) (c.fs.map tpV) (c.vs.map nV) (c.is.map ilV) out = some (out ++ wCl c) := by
 obtain ⟨h1, h2, h3, h4, h5⟩ := hc
 unfold a7V c1j
 unfold wCl at hb ⊢
 simp only [FO, FU] at hb
 rw [b9Z, j4, a8t N hN _ _ (by omega), j4, b9a N hN _ _ (by simp only [FU, FO, Gd]; omega), j4, d7P N hN _ _ h1 (by simp only [FU, FO, Gd]; omega), j4, b9m N hN _ _ h2 (by simp only [FU, FO, Gd]; omega), j4, c8J N hN _ _ h3 (by simp only [FU, FO, Gd]; omega), j4, d2X N hN _ _ h4 h5 (by simp only [FU, FO, Gd]; omega), j4]
 simp [Gr]
theorem e2J (hN : 1000 < N) (h : Hd) (out : List UInt8) (hb : out.length + (wHd h).length <= 99999980) : b3I N h.f h.t h.g h.w out = some (out ++ wHd h) := by
 unfold b3I d5c
 have := c8c N hN [h.f, h.t, h.g, h.w] out (by simp) (by simpa [wHd] using hb)
 have e : a3D N [V.int .i64 h.f, V.int .i64 h.t, V.int .i64 h.g, V.int .i64 h.w] out = some (out ++ wHd h) := by
  refine this.trans ?_
  simp [wHd]
 rw [e]
 rfl
theorem d7D (hN : 1000 < N) (l : List Hd) (out : List UInt8) (hl : l.length <= 900) (hb : out.length + (wL wHd l).length <= 99999980) : b2I N (l.map hdV) out = some (out ++ wL wHd l) := by
 unfold b2I c5R
 unfold wL at hb ⊢
 simp only [FO] at hb
 rw [a8t N hN _ _ (by omega), j4]
 have := R3 (fun t i out => a5A N (l.map hdV) ((l.map hdV).length : Int) t i out fun l0 => some l0) some l wHd 99999980 (fun t i x out hx hb => ?_) (fun t out => ?_) N (out ++ [C5 l.length]) (by omega) (by simp only [FU, FO, Gd]; omega)
 . rw [Gi] at this ⊢
   rw [this]; simp
 . show a1p N (l.map hdV) _ _ _ _ _ = _
   unfold a1p
   rw [C8 hx]
   simp only [hdV, p8, o9, p5, o8, o6, A8, p7]
   rw [e2J N hN x _ hb, j4, C7 (C3 hx) (by omega)]
 . show a1p N (l.map hdV) _ _ _ _ _ = _
   unfold a1p
   rw [C0]
def d6y (m : Mt) : Prop := m.ps.length <= 900 /\ m.code.length <= 900 /\ m.hs.length <= 900
theorem c6H (hN : 1000 < N) (m : Mt) (hm : d6y m) (out : List UInt8) (hb : out.length + (wMt m).length <= 99999980) : a6e N m.st m.ab m.cls (m.ps.map tpV) m.r.k m.r.r.p m.r.r.c m.lo m.sk (iE m.code) (m.hs.map hdV) out = some (out ++ wMt m) := by
 obtain ⟨h1, h2, h3⟩ := hm
 unfold a6e b6Z
 unfold wMt at hb ⊢
 simp only [FO, FU] at hb
 have e0 : FK.wrap ((if m.st = true then 1 else 0) + (if m.ab = true then 2 else 0)) = (if m.st = true then 1 else 0) + (if m.ab = true then 2 else 0) := by
  rw [Ho]
  cases m.st <;> cases m.ab <;> simp
 have e1 : ∀ o : List UInt8, o.length + (wW ((a3s m.code).1.length : Int)).length <= 99999980 -> a3D N [V.int .i64 ((a3s m.code).1.length : Int)] o = some (o ++ wW ((a3s m.code).1.length : Int)) := fun o ho => by
  have := c8c N hN [((a3s m.code).1.length : Int)] o (by simp) (by simpa using ho)
  simpa [nV] using this
 rw [b9Z, j4, b9Z, j4, e0, c4S N hN _ _ _ (by omega), j4, b9m N hN _ _ h1 (by simp only [FU, FO, Gd]; omega), j4, d5b N hN m.r _ (by simp only [FU, FO, Gd]; omega), j4, c4S N hN _ _ _ (by simp only [FU, FO, Gd]; omega), j4, b2o N (by omega) _ (by omega) (by omega)]
 rw [show a3s m.code = ((a3s m.code).1, (a3s m.code).2) from rfl, o7]
 simp only
 rw [e1 _ (by simp only [FU, FO, Gd]; omega), j4, j5, if_pos (by simp only [FU, FO, Gd]; omega), d7D N hN _ _ h3 (by simp only [FU, FO, Gd]; omega), j4]
 simp [Gr]
theorem e2E (hN : 1000 < N) (x : Im) (hx : x.aid.length <= 900) (out : List UInt8) (hb : out.length + (wIm x).length <= 99999980) : b3M N x.aid x.ma x.mi out = some (out ++ wIm x) := by
 unfold b3M d3f
 unfold wIm at hb ⊢
 simp only [FO, FU] at hb
 rw [c3U N hN _ _ hx (by omega), j4, c4S N hN _ _ _ (by simp only [FU, FO, Gd]; omega), j4, Gr]
theorem e2S (hN : 1000 < N) (x : Ap) (hx : x.aid.length <= 900) (out : List UInt8) (hb : out.length + (wAp x).length <= 99999980) : b2B N x.aid x.cl x.ins out = some (out ++ wAp x) := by
 unfold b2B d6j
 unfold wAp at hb ⊢
 simp only [FO, FU] at hb
 rw [c3U N hN _ _ hx (by omega), j4, c4S N hN _ _ _ (by simp only [FU, FO, Gd]; omega), j4, Gr]
theorem d7j (hN : 1000 < N) (l : List Im) (out : List UInt8) (hl : l.length <= 900) (hy : ∀ x ∈ l, x.aid.length <= 900) (hb : out.length + (wL wIm l).length <= 99999980) : b5c N (l.map imV) out = some (out ++ wL wIm l) := by
 unfold b5c c5T
 unfold wL at hb ⊢
 simp only [FO] at hb
 rw [a8t N hN _ _ (by omega), j4]
 have := R3 (fun t i out => a4S N (l.map imV) ((l.map imV).length : Int) t i out fun l0 => some l0) some l wIm 99999980 (fun t i x out hx hb => ?_) (fun t out => ?_) N (out ++ [C5 l.length]) (by omega) (by simp only [FU, FO, Gd]; omega)
 . rw [Gi] at this ⊢
   rw [this]; simp
 . show a1q N (l.map imV) _ _ _ _ _ = _
   unfold a1q
   rw [C8 hx]
   simp only [imV, p8, o9, p5, o8, o6, A8, p7]
   rw [e2E N hN x (hy x (Gb hx)) _ hb, j4, C7 (C3 hx) (by omega)]
 . show a1q N (l.map imV) _ _ _ _ _ = _
   unfold a1q
   rw [C0]
theorem d9X (hN : 1000 < N) (l : List Ap) (out : List UInt8) (hl : l.length <= 900) (hy : ∀ x ∈ l, x.aid.length <= 900) (hb : out.length + (wL wAp l).length <= 99999980) : b3A N (l.map apV) out = some (out ++ wL wAp l) := by
 unfold b3A c5b
 unfold wL at hb ⊢
 simp only [FO] at hb
 rw [a8t N hN _ _ (by omega), j4]
 have := R3 (fun t i out => a4O N (l.map apV) ((l.map apV).length : Int) t i out fun l0 => some l0) some l wAp 99999980 (fun t i x out hx hb => ?_) (fun t out => ?_) N (out ++ [C5 l.length]) (by omega) (by simp only [FU, FO, Gd]; omega)
 . rw [Gi] at this ⊢
   rw [this]; simp
 . show a1h N (l.map apV) _ _ _ _ _ = _
   unfold a1h
   rw [C8 hx]
   simp only [apV, p8, o9, p5, o8, o6, A8, p7]
   rw [e2S N hN x (hy x (Gb hx)) _ hb, j4, C7 (C3 hx) (by omega)]
 . show a1h N (l.map apV) _ _ _ _ _ = _
   unfold a1h
   rw [C0]
theorem d7N (hN : 1000 < N) (l : List Cl) (out : List UInt8) (hl : l.length <= 900) (hy : ∀ x ∈ l, d2A x) (hb : out.length + (wL wCl l).length <= 99999980) : b8a N (l.map clV) out = some (out ++ wL wCl l) := by
 unfold b8a d4o
 unfold wL at hb ⊢
 simp only [FO] at hb
 rw [a8t N hN _ _ (by omega), j4]
 have := R3 (fun t i out => a6b N 1 (l.map clV) ((l.map clV).length : Int) t i out fun l0 => some l0) some l wCl 99999980 (fun t i x out hx hb => ?_) (fun t out => ?_) N (out ++ [C5 l.length]) (by omega) (by simp only [FU, FO, Gd]; omega)
 . rw [Gi] at this ⊢
   rw [this]; simp
 . show a2Q N 1 (l.map clV) _ _ _ _ _ = _
   unfold a2Q
   rw [C8 hx]
   simp only [clV, p8, o9, p5, o8, o6, A8, p7, j5, if_true]
   rw [d0s N hN x (hy x (Gb hx)) _ hb, j4, C7 (C3 hx) (by omega)]
 . show a2Q N 1 (l.map clV) _ _ _ _ _ = _
   unfold a2Q
   rw [C0]
theorem d8o (hN : 1000 < N) (l : List Mt) (out : List UInt8) (hl : l.length <= 900) (hy : ∀ x ∈ l, d6y x) (hb : out.length + (wL wMt l).length <= 99999980) : b9F N (l.map mtV) out = some (out ++ wL wMt l) := by
 unfold b9F d3p
 unfold wL at hb ⊢
 simp only [FO] at hb
 rw [a8t N hN _ _ (by omega), j4]
 have := R3 (fun t i out => a5p N 1 (l.map mtV) ((l.map mtV).length : Int) t i out fun l0 => some l0) some l wMt 99999980 (fun t i x out hx hb => ?_) (fun t out => ?_) N (out ++ [C5 l.length]) (by omega) (by simp only [FU, FO, Gd]; omega)
 . rw [Gi] at this ⊢
   rw [this]; simp
 . show a3t N 1 (l.map mtV) _ _ _ _ _ = _
   unfold a3t
   rw [C8 hx]
   simp only [mtV, p8, o9, p5, o8, o6, A8, p7, j5, if_true]
   rw [c6H N hN x (hy x (Gb hx)) _ hb, j4, C7 (C3 hx) (by omega)]
 . show a3t N 1 (l.map mtV) _ _ _ _ _ = _
   unfold a3t
   rw [C0]
def d7T (p : Pk) : Prop := p.aid.length <= 900 /\ (p.ims.length <= 900 /\ ∀ x ∈ p.ims, x.aid.length <= 900) /\ (p.cls.length <= 900 /\ ∀ x ∈ p.cls, d2A x) /\ (p.mts.length <= 900 /\ ∀ x ∈ p.mts, d6y x) /\ p.sts.length <= 900 /\ (p.aps.length <= 900 /\ ∀ x ∈ p.aps, x.aid.length <= 900)
theorem b4Q (hN : 1000 < N) (p : Pk) (hp : d7T p) (hb : (wPk p).length <= 99999980) : a3z N p.aid p.ma p.mi (p.ims.map imV) (p.cls.map clV) (p.mts.map mtV) (p.sts.map tpV) (p.aps.map apV) = some (wPk p) := by
 obtain ⟨h1, ⟨h2, h3⟩, ⟨h4, h5⟩, ⟨h6, h7⟩, h8, h9, h10⟩ := hp
 unfold a3z b5g c3t
 unfold wPk at hb ⊢
 simp only [FO, FU] at hb
 rw [e6k N hN _ _ _ _ (by simp), j4, c3U N hN _ _ h1 (by simp only [FU, FO, Gd]; omega), j4, c4S N hN _ _ _ (by simp only [FU, FO, Gd]; omega), j4, d7j N hN _ _ h2 h3 (by simp only [FU, FO, Gd]; omega), j4, d7N N hN _ _ h4 h5 (by simp only [FU, FO, Gd]; omega), j4, d8o N hN _ _ h6 h7 (by simp only [FU, FO, Gd]; omega), j4, b9m N hN _ _ h8 (by simp only [FU, FO, Gd]; omega), j4, d9X N hN _ _ h9 h10 (by simp only [FU, FO, Gd]; omega), j4, j4]
 have e : C5 83 = 83 /\ C5 67 = 67 /\ C5 49 = 49 := by decide
 obtain ⟨e1, e2, e3⟩ := e
 simp [Gr, e1, e2, e3]
end
end En
namespace En
open Go
section
variable (N : Nat) {R : Type}
def U8 (n : Int) : Prop := 0 <= n /\ n <= 255
theorem d8b {n : Int} (h : U8 n) : ((C5 n).toNat : Int) = n := by rw [Q1]; unfold U8 at h; omega
theorem wrap_u8 (u : UInt8) : FK.wrap (u.toNat : Int) = u.toNat := by rw [Ho]; have := u.toNat_lt; omega
theorem a8F (n : Nat) (a rest : List UInt8) (h : a.length = n) : W2 N (n : Int) (a ++ rest) = some (a, rest) := by
 unfold W2 c0q
 have h1 : ¬ (((a ++ rest).length : Int) < (n : Int)) := by rw [FU]; omega
 have h2 : (0 : Int) <= n /\ (n : Int) <= ((a ++ rest).length : Int) := by rw [FU]; omega
 rw [j5, if_neg h1, j5, if_pos rfl, decide_eq_true h2.1, decide_eq_true h2.2]
 simp only [Bool.and_self, b0h]
 rw [Int.toNat_natCast, ← h, List.take_left, List.drop_left]
theorem d6N (u : UInt8) (rest : List UInt8) : D5 N (u :: rest) = some ((u.toNat : Int), rest) := by
 unfold D5 d2W
 rw [show W2 N 1 (u :: rest) = some ([u], rest) from a8F N 1 [u] rest rfl, o7]
 show br (decide ((0 : Int) < 1)) (some (FK.wrap (u.toNat : Int), rest)) none = _
 rw [wrap_u8]; rfl
theorem W9 {n : Int} (h : U8 n) (rest : List UInt8) : D5 N (C5 n :: rest) = some (n, rest) := by rw [d6N, d8b h]
theorem d3O (k q y : Nat) (hy : y < 2 ^ k) (h : q * 2 ^ k + y < 4294967296) : j9 .or .i64 ((q * 2 ^ k : Nat) : Int) (y : Int) = ((q * 2 ^ k + y : Nat) : Int) := by
 have e1 : (GT FK.bits ((q * 2 ^ k : Nat) : Int)).toNat = q * 2 ^ k := by
  rw [IS]
  show (((q * 2 ^ k : Nat) : Int) % (18446744073709551616 : Nat)).toNat = _
  omega
 have e2 : (GT FK.bits (y : Int)).toNat = y := by
  rw [IS]
  show ((y : Int) % (18446744073709551616 : Nat)).toNat = _
  omega
 have e3 : q * 2 ^ k ||| y = q * 2 ^ k + y := by
  rw [Nat.mul_comm, ← Nat.two_pow_add_eq_or_of_lt hy]
 show FK.wrap ((GT FK.bits ((q * 2 ^ k : Nat) : Int) ||| GT FK.bits (y : Int)).toNat : Int) = _
 rw [BitVec.toNat_or, e1, e2, e3, Ho]
 omega
def U16 (n : Int) : Prop := 0 <= n /\ n <= 65535
theorem c1R {n : Int} (h : U16 n) (rest : List UInt8) : S9 N (wW n ++ rest) = some (n, rest) := by
 unfold S9 c7k
 rw [show W2 N 2 (wW n ++ rest) = some (wW n, rest) from a8F N 2 (wW n) rest rfl, o7]
 show br (decide ((0 : Int) < 2)) (br (decide ((1 : Int) < 2)) (some (j9 BinOp.or FK (a0u FK (FK.wrap ((C5 (n / 256)).toNat : Int)) 8) (FK.wrap ((C5 n).toNat : Int)), rest)) none) none = _
 rw [wrap_u8, wrap_u8]
 unfold U16 at h
 obtain ⟨a, rfl⟩ : ∃ a : Nat, n = a := ⟨n.toNat, by omega⟩
 have e1 : ((C5 ((a : Int) / 256)).toNat : Int) = ((a / 256 : Nat) : Int) := by rw [Q1]; omega
 have e2 : ((C5 (a : Int)).toNat : Int) = ((a % 256 : Nat) : Int) := by rw [Q1]; omega
 have e3 : a0u FK ((a / 256 : Nat) : Int) 8 = ((a / 256 * 2 ^ 8 : Nat) : Int) := by
  show FK.wrap (((a / 256 : Nat) : Int) * 2 ^ (min (8 : Int).toNat FK.bits)) = _
  rw [Ho]
  show ((((a / 256 : Nat) : Int) * 256 + _) % _ - _) = _
  omega
 rw [e1, e2, e3, d3O 8 (a / 256) (a % 256) (by omega) (by omega)]
 have e4 : a / 256 * 2 ^ 8 + a % 256 = a := by omega
 rw [e4]; rfl
theorem e1E (b rest : List UInt8) (h : b.length <= 200) : b0s N (b0E b ++ rest) = some (b, rest) := by
 unfold b0s d3h b0E
 rw [Gw, W9 N (by unfold U8; omega), o7, a8F N b.length b rest rfl, o7]
 have e : a0j N b = some b := by
  unfold a0j
  rw [j5, if_pos (by omega)]
 rw [e, j4]
theorem d7m {r : Rf} (h1 : U8 r.p) (h2 : U8 r.c) (rest : List UInt8) : a7p N (wRf r ++ rest) = some (r.p, r.c, rest) := by
 unfold a7p d4R wRf
 show (s7 (D5 N (C5 r.p :: (C5 r.c :: rest))) _) = _
 rw [W9 N h1, o7, W9 N h2, o7]
def GTp (t : Tp) : Prop := (t.k = 5 /\ U8 t.r.p /\ U8 t.r.c) ∨ (0 <= t.k /\ t.k < 5 /\ t.r.p = 0 /\ t.r.c = 0)
theorem e3J {t : Tp} (h : GTp t) (rest : List UInt8) : b4K N (wTp t ++ rest) = some (t.k, t.r.p, t.r.c, rest) := by
 unfold b4K d1A wTp
 rcases h with ⟨h1, h2, h3⟩ | ⟨h1, h2, h3, h4⟩
 . rw [if_pos h1, Gw, W9 N (by unfold U8; omega), o7, j5, if_neg (by omega), j5, if_pos h1, d7m N h2 h3, K4]
 . rw [if_neg (by omega), Gw, It, W9 N (by unfold U8; omega), o7, j5, if_neg (by omega), j5, if_neg (by omega), h3, h4]
theorem e4k {n : Int} (h : n = -1 ∨ (0 <= n /\ n <= 254)) (rest : List UInt8) : b1v N (wN n ++ rest) = some (n, rest) := by
 unfold b1v c7D wN
 show (s7 (D5 N (C5 n :: rest)) _) = _
 rcases h with rfl | h
 . rw [show C5 (-1) = 255 from by decide, d6N, o7]; rfl
 . rw [W9 N (by unfold U8; omega), o7, j5, if_neg (by omega)]
theorem e6O {n : Int} (h : U8 n) (rest : List UInt8) : D5 N (wN n ++ rest) = some (n, rest) := W9 N h rest
theorem d7H (hN : 1000 < N) (l : List Int) (rest : List UInt8) (hl : l.length <= 250) (hg : ∀ x ∈ l, U8 x) : b9I N (wL wN l ++ rest) = some (l.map nV, rest) := by
 unfold b9I d4m wL
 rw [Gw, W9 N (by unfold U8; omega), o7]
 refine a0m (fun t acc i bs => a4V N 1 (l.length : Int) t acc i bs fun l2 l3 => some (l2, l3)) (fun a b => some (a, b)) nV wN l (fun t i x acc rest hx ha => ?_) (fun t acc rest => ?_) N rest (by omega)
 . have hi := C3 hx
   show a3h N 1 (l.length : Int) _ _ _ _ _ = _
   unfold a3h
   rw [j5, if_pos (by omega), j5, if_pos rfl, e6O N (hg x (Gb hx)) rest, o7]
   rw [j5, if_pos (by simp only [FO, Gd]; omega), C7 hi (by omega)]
   rfl
 . show a3h N 1 (l.length : Int) _ _ _ _ _ = _
   unfold a3h
   rw [j5, if_neg (by omega)]
theorem d6Q (hN : 1000 < N) (l : List Int) (rest : List UInt8) (hl : l.length <= 250) (hg : ∀ x ∈ l, x = -1 ∨ (0 <= x /\ x <= 254)) : b1z N (wL wN l ++ rest) = some (l.map nV, rest) := by
 unfold b1z c7Z wL
 rw [Gw, W9 N (by unfold U8; omega), o7]
 refine a0m (fun t acc i bs => a3p N 1 (l.length : Int) t acc i bs fun l2 l3 => some (l2, l3)) (fun a b => some (a, b)) nV wN l (fun t i x acc rest hx ha => ?_) (fun t acc rest => ?_) N rest (by omega)
 . have hi := C3 hx
   show a1b N 1 (l.length : Int) _ _ _ _ _ = _
   unfold a1b
   rw [j5, if_pos (by omega), j5, if_pos rfl, e4k N (hg x (Gb hx)) rest, o7]
   rw [j5, if_pos (by simp only [FO, Gd]; omega), C7 hi (by omega)]
   rfl
 . show a1b N 1 (l.length : Int) _ _ _ _ _ = _
   unfold a1b
   rw [j5, if_neg (by omega)]
def GRf (r : Rf) : Prop := U8 r.p /\ U8 r.c
theorem d7E (hN : 1000 < N) (l : List Rf) (rest : List UInt8) (hl : l.length <= 250) (hg : ∀ x ∈ l, GRf x) : b8Z N (wL wRf l ++ rest) = some (l.map rfV, rest) := by
 unfold b8Z d4r wL
 rw [Gw, W9 N (by unfold U8; omega), o7]
 refine a0m (fun t acc i bs => a5h N 1 (l.length : Int) t acc i bs fun l2 l3 => some (l2, l3)) (fun a b => some (a, b)) rfV wRf l (fun t i x acc rest hx ha => ?_) (fun t acc rest => ?_) N rest (by omega)
 . have hi := C3 hx
   show a2I N 1 (l.length : Int) _ _ _ _ _ = _
   unfold a2I
   rw [j5, if_pos (by omega), j5, if_pos rfl, d7m N (hg x (Gb hx)).1 (hg x (Gb hx)).2 rest, K4]
   rw [j5, if_pos (by simp only [FO, Gd]; omega), C7 hi (by omega)]
   rfl
 . show a2I N 1 (l.length : Int) _ _ _ _ _ = _
   unfold a2I
   rw [j5, if_neg (by omega)]
theorem b9R (hN : 1000 < N) (l : List Tp) (rest : List UInt8) (hl : l.length <= 250) (hg : ∀ x ∈ l, GTp x) : b0x N (wL wTp l ++ rest) = some (l.map tpV, rest) := by
 unfold b0x d3z wL
 rw [Gw, W9 N (by unfold U8; omega), o7]
 refine a0m (fun t acc i bs => a5t N 1 (l.length : Int) t acc i bs fun l2 l3 => some (l2, l3)) (fun a b => some (a, b)) tpV wTp l (fun t i x acc rest hx ha => ?_) (fun t acc rest => ?_) N rest (by omega)
 . have hi := C3 hx
   show a2Y N 1 (l.length : Int) _ _ _ _ _ = _
   unfold a2Y
   rw [j5, if_pos (by omega), j5, if_pos rfl, e3J N (hg x (Gb hx)) rest, R2]
   rw [j5, if_pos (by simp only [FO, Gd]; omega), C7 hi (by omega)]
   rfl
 . show a2Y N 1 (l.length : Int) _ _ _ _ _ = _
   unfold a2Y
   rw [j5, if_neg (by omega)]
def GIl (x : Il) : Prop := GRf x.i /\ x.ms.length <= 250 /\ ∀ n ∈ x.ms, U8 n
theorem e4A (hN : 1000 < N) {x : Il} (h : GIl x) (rest : List UInt8) : b2e N (wIl x ++ rest) = some (x.i.p, x.i.c, x.ms.map nV, rest) := by
 unfold b2e c7q wIl
 rw [Gr, d7m N h.1.1 h.1.2, K4, d7H N hN _ _ h.2.1 h.2.2, o7]
theorem d3D (hN : 1000 < N) (l : List Il) (rest : List UInt8) (hl : l.length <= 250) (hg : ∀ x ∈ l, GIl x) : b2c N (wL wIl l ++ rest) = some (l.map ilV, rest) := by
 unfold b2c c7j wL
 rw [Gw, W9 N (by unfold U8; omega), o7]
 refine a0m (fun t acc i bs => a3A N 1 (l.length : Int) t acc i bs fun l2 l3 => some (l2, l3)) (fun a b => some (a, b)) ilV wIl l (fun t i x acc rest hx ha => ?_) (fun t acc rest => ?_) N rest (by omega)
 . have hi := C3 hx
   show a1e N 1 (l.length : Int) _ _ _ _ _ = _
   unfold a1e
   rw [j5, if_pos (by omega), j5, if_pos rfl, e4A N hN (hg x (Gb hx)) rest, R2]
   rw [j5, if_pos (by simp only [FO, Gd]; omega), C7 hi (by omega)]
   rfl
 . show a1e N 1 (l.length : Int) _ _ _ _ _ = _
   unfold a1e
   rw [j5, if_neg (by omega)]
def GCl (c : Cl) : Prop := GRf c.sup /\ (c.ext.length <= 250 /\ ∀ x ∈ c.ext, GRf x) /\ (c.fs.length <= 250 /\ ∀ x ∈ c.fs, GTp x) /\ (c.vs.length <= 250 /\ ∀ x ∈ c.vs, x = -1 ∨ (0 <= x /\ x <= 254)) /\ (c.is.length <= 250 /\ ∀ x ∈ c.is, GIl x)
theorem e2e (hN : 1000 < N) {c : Cl} (h : GCl c) (rest : List UInt8) : a8W N (wCl c ++ rest) = some (c.sup.p, c.sup.c, c.itf, c.ext.map rfV, c.fs.map tpV, c.vs.map nV, c.is.map ilV, rest) := by
 obtain ⟨h1, ⟨h2, h3⟩, ⟨h4, h5⟩, ⟨h6, h7⟩, h8, h9⟩ := h
 unfold a8W c1f wCl
 simp only [Gw, Gr]
 rw [W9 N (by unfold U8; split <;> omega), o7, j5, if_neg (by split <;> omega), d7m N h1.1 h1.2, K4, d7E N hN _ _ h2 h3, o7, b9R N hN _ _ h4 h5, o7, d6Q N hN _ _ h6 h7, o7, d3D N hN _ _ h8 h9, o7]
 cases c.itf <;> rfl
def GHd (h : Hd) : Prop := U16 h.f /\ U16 h.t /\ U16 h.g /\ U16 h.w
theorem e6E {h : Hd} (g : GHd h) (rest : List UInt8) : b7H N (wHd h ++ rest) = some (h.f, h.t, h.g, h.w, rest) := by
 obtain ⟨h1, h2, h3, h4⟩ := g
 unfold b7H d1V wHd
 simp only [Gr]
 rw [c1R N h1, o7, c1R N h2, o7, c1R N h3, o7, c1R N h4, o7]
theorem d8K (hN : 1000 < N) (l : List Hd) (rest : List UInt8) (hl : l.length <= 250) (hg : ∀ x ∈ l, GHd x) : c0a N (wL wHd l ++ rest) = some (l.map hdV, rest) := by
 unfold c0a d6i wL
 rw [Gw, W9 N (by unfold U8; omega), o7]
 refine a0m (fun t acc i bs => a4B N 1 (l.length : Int) t acc i bs fun l2 l3 => some (l2, l3)) (fun a b => some (a, b)) hdV wHd l (fun t i x acc rest hx ha => ?_) (fun t acc rest => ?_) N rest (by omega)
 . have hi := C3 hx
   show a2U N 1 (l.length : Int) _ _ _ _ _ = _
   unfold a2U
   rw [j5, if_pos (by omega), j5, if_pos rfl, e6E N (hg x (Gb hx)) rest, a0o]
   rw [j5, if_pos (by simp only [FO, Gd]; omega), C7 hi (by omega)]
   rfl
 . show a2U N 1 (l.length : Int) _ _ _ _ _ = _
   unfold a2U
   rw [j5, if_neg (by omega)]
def GMt (m : Mt) : Prop := U8 m.cls /\ (m.ps.length <= 250 /\ ∀ x ∈ m.ps, GTp x) /\ GTp m.r /\ U8 m.lo /\ U8 m.sk /\ (m.code.length <= 256 /\ M7 m.code = 0 /\ (N3 m.code).length <= 65535) /\ (m.hs.length <= 250 /\ ∀ x ∈ m.hs, GHd x)
theorem b7n : ∀ l : List In, l.length <= (N3 l).length
 | [] => Nat.zero_le _
 | i :: l => by
   have := b7n l
   have h : 1 <= (b5S i).length := by unfold b5S; simp
   simp only [N3, FU, FO]; omega
theorem b6h (a b : Bool) : (!decide (j9 BinOp.and FK ((if a = true then 1 else 0) + (if b = true then 2 else 0)) 1 = 0)) = a /\ (!decide (j9 BinOp.and FK ((if a = true then 1 else 0) + (if b = true then 2 else 0)) 2 = 0)) = b := by
 cases a <;> cases b <;> decide +kernel
theorem d9M (hN : 70000 < N) {m : Mt} (h : GMt m) (rest : List UInt8) : a6f N (wMt m ++ rest) = some (m.st, m.ab, m.cls, m.ps.map tpV, m.r.k, m.r.r.p, m.r.r.c, m.lo, m.sk, iE m.code, m.hs.map hdV, rest) := by
 obtain ⟨h1, ⟨h2, h3⟩, h4, h5, h6, ⟨h7, h8, h9⟩, h10, h11⟩ := h
 have e : a3s m.code = (N3 m.code, 0) := by unfold a3s; rw [if_neg (by omega), if_pos h8]
 unfold a6f b6o wMt
 rw [e]
 simp only [Gw, Gr]
 rw [W9 N (by unfold U8; split <;> split <;> omega), o7, j5, if_neg (by split <;> split <;> omega), W9 N h1, o7, b9R N (by omega) _ _ h2 h3, o7, e3J N h4, R2, W9 N h5, o7, W9 N h6, o7, c1R N (by unfold U16; omega), o7, a8F N _ _ _ rfl, o7, c5j N (by omega) _ (by omega), c1K _ _ _ (by have := b7n m.code; omega) (by simp; omega) h8]
 unfold d5d
 rw [o7, L9, j5]
 simp only [It]
 rw [if_pos trivial, d8K N (by omega) _ _ h10 h11, o7, (b6h m.st m.ab).1, (b6h m.st m.ab).2]
theorem e6r {x : Im} (h1 : x.aid.length <= 200) (h2 : U8 x.ma) (h3 : U8 x.mi) (rest : List UInt8) : b8K N (wIm x ++ rest) = some (x.aid, x.ma, x.mi, rest) := by
 unfold b8K d1D wIm
 rw [Gr, e1E N _ _ h1, o7]
 show (s7 (D5 N (C5 x.ma :: (C5 x.mi :: rest))) _) = _
 rw [W9 N h2, o7, W9 N h3, o7]
theorem e6J {x : Ap} (h1 : x.aid.length <= 200) (h2 : U8 x.cl) (h3 : U8 x.ins) (rest : List UInt8) : b8x N (wAp x ++ rest) = some (x.aid, x.cl, x.ins, rest) := by
 unfold b8x d2D wAp
 rw [Gr, e1E N _ _ h1, o7]
 show (s7 (D5 N (C5 x.cl :: (C5 x.ins :: rest))) _) = _
 rw [W9 N h2, o7, W9 N h3, o7]
def GIm (x : Im) : Prop := x.aid.length <= 200 /\ U8 x.ma /\ U8 x.mi
def GAp (x : Ap) : Prop := x.aid.length <= 200 /\ U8 x.cl /\ U8 x.ins
theorem d7p (hN : 1000 < N) (l : List Im) (rest : List UInt8) (hl : l.length <= 250) (hg : ∀ x ∈ l, GIm x) : b9K N (wL wIm l ++ rest) = some (l.map imV, rest) := by
 unfold b9K d4Q wL
 rw [Gw, W9 N (by unfold U8; omega), o7]
 refine a0m (fun t acc i bs => a4K N 1 (l.length : Int) t acc i bs fun l2 l3 => some (l2, l3)) (fun a b => some (a, b)) imV wIm l (fun t i x acc rest hx ha => ?_) (fun t acc rest => ?_) N rest (by omega)
 . have hi := C3 hx
   show a3k N 1 (l.length : Int) _ _ _ _ _ = _
   unfold a3k
   rw [j5, if_pos (by omega), j5, if_pos rfl, e6r N (hg x (Gb hx)).1 (hg x (Gb hx)).2.1 (hg x (Gb hx)).2.2 rest, R2]
   rw [j5, if_pos (by simp only [FO, Gd]; omega), C7 hi (by omega)]
   rfl
 . show a3k N 1 (l.length : Int) _ _ _ _ _ = _
   unfold a3k
   rw [j5, if_neg (by omega)]
theorem d7Y (hN : 1000 < N) (l : List Ap) (rest : List UInt8) (hl : l.length <= 250) (hg : ∀ x ∈ l, GAp x) : b8j N (wL wAp l ++ rest) = some (l.map apV, rest) := by
 unfold b8j d1v wL
 rw [Gw, W9 N (by unfold U8; omega), o7]
 refine a0m (fun t acc i bs => a5u N 1 (l.length : Int) t acc i bs fun l2 l3 => some (l2, l3)) (fun a b => some (a, b)) apV wAp l (fun t i x acc rest hx ha => ?_) (fun t acc rest => ?_) N rest (by omega)
 . have hi := C3 hx
   show a2t N 1 (l.length : Int) _ _ _ _ _ = _
   unfold a2t
   rw [j5, if_pos (by omega), j5, if_pos rfl, e6J N (hg x (Gb hx)).1 (hg x (Gb hx)).2.1 (hg x (Gb hx)).2.2 rest, R2]
   rw [j5, if_pos (by simp only [FO, Gd]; omega), C7 hi (by omega)]
   rfl
 . show a2t N 1 (l.length : Int) _ _ _ _ _ = _
   unfold a2t
   rw [j5, if_neg (by omega)]
theorem d9x (hN : 1000 < N) (l : List Cl) (rest : List UInt8) (hl : l.length <= 250) (hg : ∀ x ∈ l, GCl x) : b9h N (wL wCl l ++ rest) = some (l.map clV, rest) := by
 unfold b9h d6m wL
 rw [Gw, W9 N (by unfold U8; omega), o7]
 refine a0m (fun t acc i bs => a4J N 1 (l.length : Int) t acc i bs fun l2 l3 => some (l2, l3)) (fun a b => some (a, b)) clV wCl l (fun t i x acc rest hx ha => ?_) (fun t acc rest => ?_) N rest (by omega)
 . have hi := C3 hx
   show a2P N 1 (l.length : Int) _ _ _ _ _ = _
   unfold a2P
   rw [j5, if_pos (by omega), j5, if_pos rfl, e2e N hN (hg x (Gb hx)) rest, d9B]
   rw [j5, if_pos (by simp only [FO, Gd]; omega), C7 hi (by omega)]
   rfl
 . show a2P N 1 (l.length : Int) _ _ _ _ _ = _
   unfold a2P
   rw [j5, if_neg (by omega)]
theorem d7l (hN : 70000 < N) (l : List Mt) (rest : List UInt8) (hl : l.length <= 250) (hg : ∀ x ∈ l, GMt x) : b0A N (wL wMt l ++ rest) = some (l.map mtV, rest) := by
 unfold b0A c6d wL
 rw [Gw, W9 N (by unfold U8; omega), o7]
 refine a0m (fun t acc i bs => a5O N 1 (l.length : Int) t acc i bs fun l2 l3 => some (l2, l3)) (fun a b => some (a, b)) mtV wMt l (fun t i x acc rest hx ha => ?_) (fun t acc rest => ?_) N rest (by omega)
 . have hi := C3 hx
   show a1v N 1 (l.length : Int) _ _ _ _ _ = _
   unfold a1v
   rw [j5, if_pos (by omega), j5, if_pos rfl, d9M N hN (hg x (Gb hx)) rest, d5Y]
   rw [j5, if_pos (by simp only [FO, Gd]; omega), C7 hi (by omega)]
   rfl
 . show a1v N 1 (l.length : Int) _ _ _ _ _ = _
   unfold a1v
   rw [j5, if_neg (by omega)]
def GPk (p : Pk) : Prop := p.aid.length <= 200 /\ U8 p.ma /\ U8 p.mi /\ (p.ims.length <= 250 /\ ∀ x ∈ p.ims, GIm x) /\ (p.cls.length <= 250 /\ ∀ x ∈ p.cls, GCl x) /\ (p.mts.length <= 250 /\ ∀ x ∈ p.mts, GMt x) /\ (p.sts.length <= 250 /\ ∀ x ∈ p.sts, GTp x) /\ (p.aps.length <= 250 /\ ∀ x ∈ p.aps, GAp x)
theorem c4v (t : Nat) (r : List UInt8) (K : List UInt8 -> Option R) : G9 N [V.int FK 83, V.int FK 67, V.int FK 49] 3 [] 0 0 [] [] [] [] [] (t + 4) 0 (83 :: 67 :: 49 :: r) K = K r := by
 have s0 : ∀ (t : Nat) (r : List UInt8), G9 N [V.int FK 83, V.int FK 67, V.int FK 49] 3 [] 0 0 [] [] [] [] [] (t + 1) 0 (83 :: r) K = G9 N [V.int FK 83, V.int FK 67, V.int FK 49] 3 [] 0 0 [] [] [] [] [] t 1 r K := fun t r => by
  show O4 N _ 3 [] 0 0 [] [] [] [] [] _ K 0 (83 :: r) = _
  unfold O4
  show s7 (D5 N (83 :: r)) (fun a b => br (!decide (a = 83)) none (G9 N [V.int FK 83, V.int FK 67, V.int FK 49] 3 [] 0 0 [] [] [] [] [] t (FK.wrap (0 + 1)) b K)) = _
  rw [d6N, o7]; rfl
 have s1 : ∀ (t : Nat) (r : List UInt8), G9 N [V.int FK 83, V.int FK 67, V.int FK 49] 3 [] 0 0 [] [] [] [] [] (t + 1) 1 (67 :: r) K = G9 N [V.int FK 83, V.int FK 67, V.int FK 49] 3 [] 0 0 [] [] [] [] [] t 2 r K := fun t r => by
  show O4 N _ 3 [] 0 0 [] [] [] [] [] _ K 1 (67 :: r) = _
  unfold O4
  show s7 (D5 N (67 :: r)) (fun a b => br (!decide (a = 67)) none (G9 N [V.int FK 83, V.int FK 67, V.int FK 49] 3 [] 0 0 [] [] [] [] [] t (FK.wrap (1 + 1)) b K)) = _
  rw [d6N, o7]; rfl
 have s2 : ∀ (t : Nat) (r : List UInt8), G9 N [V.int FK 83, V.int FK 67, V.int FK 49] 3 [] 0 0 [] [] [] [] [] (t + 1) 2 (49 :: r) K = G9 N [V.int FK 83, V.int FK 67, V.int FK 49] 3 [] 0 0 [] [] [] [] [] t 3 r K := fun t r => by
  show O4 N _ 3 [] 0 0 [] [] [] [] [] _ K 2 (49 :: r) = _
  unfold O4
  show s7 (D5 N (49 :: r)) (fun a b => br (!decide (a = 49)) none (G9 N [V.int FK 83, V.int FK 67, V.int FK 49] 3 [] 0 0 [] [] [] [] [] t (FK.wrap (2 + 1)) b K)) = _
  rw [d6N, o7]; rfl
 rw [s0, s1, s2]
 rfl
theorem d6b (hN : 70000 < N) {p : Pk} (h : GPk p) : a2B N (wPk p) = some (p.aid, p.ma, p.mi, p.ims.map imV, p.cls.map clV, p.mts.map mtV, p.sts.map tpV, p.aps.map apV, []) := by
 obtain ⟨h1, h2, h3, ⟨h4, h5⟩, ⟨h6, h7⟩, ⟨h8, h9⟩, ⟨h10, h11⟩, h12, h13⟩ := h
 unfold a2B b5b
 unfold wPk
 obtain ⟨t, rfl⟩ : ∃ t, N = t + 4 := ⟨N - 4, by omega⟩
 rw [c4v (t + 4) t _ _, e1E _ _ _ h1, o7, W9 _ h2, o7, W9 _ h3, o7, d7p _ (by omega) _ _ h4 h5, o7, d9x _ (by omega) _ _ h6 h7, o7, d7l _ hN _ _ h8 h9, o7, b9R _ (by omega) _ _ h10 h11, o7]
 have e := d7Y (t + 4) (by omega) p.aps [] h12 h13
 rw [List.append_nil] at e
 rw [e, o7]
 rfl
end
end En
end
end Go.Proofs.YtkoilndpfifapaaGreatDoor
