/- Texts. -/
import Derived.Test.YtkoilndpfifapaaGreatDoorZ7
import Derived.Test.YtkoilndpfifapaaGreatDoorZ6

set_option linter.unusedSimpArgs false
set_option linter.unusedVariables false
set_option linter.unusedSectionVars false
open And renaming intro → Gf
open Array renaming replicate → HM
open BitVec renaming ofInt → GT, toNat_ofInt → IS, toNat_or → KU
open Eq renaming trans → Gs
open Go renaming Clean → MI, World → Gc, Value → FX
open Go.BinOp renaming xor → Ga, or → Iz
open Go.IntKind renaming i64 → FK, u8 → FY, wrap_i64 → Ho, wrap_u8 → Mr, u32 → FL, wrap_u32 → Ma, i8 → KO
open Int renaming toNat → JG, toNat_natCast → GE, tmod_eq_emod_of_nonneg → Hw
open List renaming take → Gz, drop → Gj, cons_append → Gw, nil_append → It, append_assoc → Gr, drop_left → Kc, drop_drop → IC, length_cons → FO, mem_singleton → Jk, mem_append → Hc, getD_eq_getElem?_getD → FV, mem_of_getElem? → Gb, mem_cons → GH, append_nil → HY, length_drop → GZ, getElem?_map → Gn, getElem?_eq_getElem → FQ, getElem?_eq_some_iff → FN, drop_eq_getElem_cons → Ht, flatMap_cons → Hb, length_append → FU, length_take → GU, lookup → Oe, lookup_cons → II, lookup_nil → Jh
open Nat renaming blt → GS, pow_succ → LP, shiftLeft_eq → Mb, ble → GY, zero_add → GL
open UInt8 renaming ofNat → FR, toNat_ofNat' → Ip, toNat_inj → KT, toNat_sub → Mu
namespace Go.Proofs.YtkoilndpfifapaaGreatDoor
namespace En
open Go Go.Proofs
set_option maxRecDepth 100000
set_option maxHeartbeats 8000000
noncomputable def b1A (N : Nat) : Ent := pE 49 (.v fI (.v fI .z)) (.v .y (.v fI .z)) (a6d N)
theorem d2o (N : Nat) : EO (b1A N) := a1i (gz Tryz.func49 (by kernel_rfl)) rfl fun h t q => d8S N h.1 h.2.1 t.1 t.2 q
noncomputable def b1T {R : Type} (s : List V -> Option (LB)) (dst : Nat) (ds : List D) (m : Mem) (K : List D -> Mem -> Option R) : Option R :=
 match ds with
 | [.v (.sl 22 f) .no] => j3 (s f) fun r0 => K [.v (.bytes r0) (.own (.slot dst) 5)] m
 | _ => none
noncomputable def c0g (rs : List D) (_ : Mem) (dd : List Pos) : Option (LB) :=
 match rs with
 | [.v (.bytes r0) a] => c8O 5 a dd (some (r0))
 | _ => none
noncomputable def a0V {R : Type} (N : Nat) (Ab : List V) (d : Int) (Lq : LB -> Int -> Option R) (K0 : LB -> Option R) (w : LB) (i : Int) : Option R := br (decide (i < d)) (br (decide (0 <= i) && decide (i < (Ab.length : Int))) (at? Ab i.toNat fun f => f.unBytes fun l1 => br (decide ((w.length + l1.length) * 1 <= 140737488355328)) (Lq (w ++ l1) (FK.wrap (i + 1))) none) none) (K0 w)
noncomputable def Y9 {R : Type} (N : Nat) (Ab : List V) (d : Int) : Nat -> LB -> Int -> (LB -> Option R) -> Option R | 0, _, _, _ => none | t + 1, w, i, K0 => a0V N Ab d (fun w i => Y9 N Ab d t w i K0) K0 w i
noncomputable def a9o {R : Type} (N : Nat) (ds : List D) (m : Mem) (K : Ex -> List D -> Mem -> Option R) : Option R :=
 match ds, m with
 | [(.v (.bytes w) (.own (.slot 3) 5)), (.v (.sl 22 Ab) .no), (.v (.int .i64 d) .no), (.v (.int .i64 i) .no)], [[]] => Y9 N Ab d N w i (fun a0 => K (.exit 0) [(.v (.bytes a0) (.own (.slot 3) 5))] [[]])
 | _, _ => none
noncomputable def a2e (N : Nat) (f : List V) : Option (LB) := Y9 N f (f.length : Int) N [] 0 fun w => some w
noncomputable def a1E (N : Nat) : Cx := { T := T, isPure := a5b [], pureK := fun g ds K => a1K [] g ds K, memK := fun g dst ds m K => W4 [] g dst ds m K, meth := a2E [], keep := fun r => match r with | 3 => [3, 6, 7, 8] | _ => [], keepX := fun r => match r with | 3 => [3] | _ => [], loopT := fun r ds m K => match r with | 3 => a9o N ds m K | _ => none, jumps := 9 }
theorem b7Z {R : Type} (N : Nat) (Ab : List V) (d : Int) (w : LB) (i : Int) (L : List D -> Mem -> Option R) (K : Ex -> List D -> Mem -> Option R) :
 W3 (fun st K => codeK (a1E N) (s4 Tryz.f51 0) st K) 17 [3, 6, 7, 8] [3] L [(.v (.bytes w) (.own (.slot 3) 5)), (.v (.sl 22 Ab) .no), (dI d), (dI i)] [[]] K = a0V N Ab d (fun w i => L [(.v (.bytes w) (.own (.slot 3) 5)), (.v (.sl 22 Ab) .no), (dI d), (dI i)] [[]]) (fun a0 => K (.exit 0) [(.v (.bytes a0) (.own (.slot 3) 5))] [[]]) w i := by
 kernel_rfl
theorem a8X {R : Type} (N : Nat) (Ab : List V) (d : Int) (K : Ex -> List D -> Mem -> Option R) : ∀ (t : Nat) (w : LB) (i : Int),
 O9 (fun st K => codeK (a1E N) (s4 Tryz.f51 0) st K) 17 [3, 6, 7, 8] [3] t [(.v (.bytes w) (.own (.slot 3) 5)), (.v (.sl 22 Ab) .no), (dI d), (dI i)] [[]] K = Y9 N Ab d t w i (fun a0 => K (.exit 0) [(.v (.bytes a0) (.own (.slot 3) 5))] [[]])
 | 0, w, i => rfl
 | t + 1, w, i => (b7Z N Ab d w i _ K).trans (congrArg (fun L => a0V N Ab d L (fun a0 => K (.exit 0) [(.v (.bytes a0) (.own (.slot 3) 5))] [[]]) w i) (funext fun w => funext fun i => a8X N Ab d K t w i))
theorem c6c (N : Nat) (f : List V) : b4s (a1E N) Tryz.f51 [.v (.sl 22 f) .no] [] [2] c0g = a2e N f := by
 kernel_rfl
abbrev e0h (s : List V -> Option (LB)) : Prop := ∀ f r0, s f = some r0 -> ∀ (m : Mem) (dst : Nat), a0B Tryz.prog T 51 dst [.v (.sl 22 f) .no] m [.v (.bytes r0) (.own (.slot dst) 5)] m
theorem d4a (s : List V -> Option (LB)) (hs : e0h s) : MEO ⟨51, b1T s⟩ := by
 refine ⟨K6 Tryz.func51 (by kernel_rfl) (c := s6 Tryz.f51) (by kernel_rfl), fun R dst ds m K r h => ?_⟩
 simp only [b1T] at h
 split at h
 . obtain ⟨r0, h1, h2⟩ := L2 h
   exact ⟨_, _, h2, hs _ _ h1 m dst⟩
 . cases h
theorem d1M (N : Nat) : CxOK Tryz.prog (a1E N) :=
 M3 (es := []) (me := []) (ms := []) a7s trivial trivial trivial rfl (fun _ _ _ _ => rfl) (fun _ _ _ _ _ _ => rfl) rfl
theorem c4h (N : Nat) : p9 (a1E N) 17 (s4 Tryz.f51 0) := by
 refine j7 (rid := 3) (by kernel_rfl) rfl rfl fun R ds m K r h => ?_
 have h : a9o N ds m K = some r := h
 unfold a9o at h
 split at h
 . exact ⟨N, Gs (a8X ..) h⟩
 . cases h
theorem d4D (N : Nat) : B8 (a1E N) Tryz.f51.ntmps (s6 Tryz.f51) :=
 j6 (k := 1) (by kernel_rfl) ⟨trivial, c4h N⟩
theorem d8N (N : Nat) (f : List V) (r0 : LB) (h : a2e N f = some r0) : ∀ (m : Mem) (dst : Nat), a0B Tryz.prog T 51 dst [.v (.sl 22 f) .no] m [.v (.bytes r0) (.own (.slot dst) 5)] m := fun m dst =>
 b6V (cx := a1E N) (by kernel_rfl) (d1M N) Tryz.func51 (by kernel_rfl) (by kernel_rfl) (d4D N) rfl rfl rfl (ts := [2]) rfl (rf := c0g) ((c6c N f).trans h) (fun rs' m' dd hq => by
  unfold c0g at hq
  split at hq
  . obtain ⟨hq, ha⟩ := b4x hq
    cases hq
    exact ⟨_, _, rfl, rfl, rfl, ha⟩
  . cases hq) m dst
noncomputable def b3E {R : Type} (N : Nat) (j : Int) (Lq : List V -> LB -> Option R) (K0 : List V -> Option R) (Ab : List V) (l2 : LB) : Option R := br (decide (0 < (l2.length : Int))) (br (decide (0 <= match false with | true => max j (l2.length : Int) | false => min j (l2.length : Int)) && decide ((match false with | true => max j (l2.length : Int) | false => min j (l2.length : Int)) <= (l2.length : Int))) (j3 (a0j N (Gz (match false with | true => max j (l2.length : Int) | false => min j (l2.length : Int)).toNat l2)) fun w => br (decide ((Ab.length + [V.bytes w].length) * 24 <= 140737488355328)) (br (decide (0 <= match false with | true => max j (l2.length : Int) | false => min j (l2.length : Int)) && decide ((match false with | true => max j (l2.length : Int) | false => min j (l2.length : Int)) <= (l2.length : Int))) (Lq (Ab ++ [V.bytes w]) (Gj (match false with | true => max j (l2.length : Int) | false => min j (l2.length : Int)).toNat l2)) none) none) none) (K0 Ab)
noncomputable def T5 {R : Type} (N : Nat) (j : Int) : Nat -> List V -> LB -> (List V -> Option R) -> Option R | 0, _, _, _ => none | t + 1, Ab, l2, K0 => b3E N j (fun Ab l2 => T5 N j t Ab l2 K0) K0 Ab l2
noncomputable def a7m {R : Type} (N : Nat) (ds : List D) (m : Mem) (K : Ex -> List D -> Mem -> Option R) : Option R :=
 match ds, m with
 | [(.v (.int .i64 j) .no), (.v (.sl 22 Ab) (.own (.slot 6) 22)), (.v (.bytes l2) .no)], [[]] => T5 N j N Ab l2 (fun a0 => K (.exit 0) [(.v (.sl 22 a0) (.own (.slot 6) 22))] [[]])
 | _, _ => none
noncomputable def a8v (N : Nat) (f : LB) (x1 : Int) : Option (List V × Int) := br (decide (x1 < 1)) (some ([], 1)) (T5 N x1 N [] f fun w => some (w, 0))
noncomputable def b7C (N : Nat) : Cx := cl [c0l N] [] [⟨5, [1, 6, 7], [6], a7m N⟩]
theorem c3o (N : Nat) : p9 (b7C N) 30 (s4 Tryz.f50 0) := by
 refine j7 (rid := 5) (by kernel_rfl) rfl rfl fun R ds m K r h => ?_
 change a7m N ds m K = _ at h
 unfold a7m at h
 split at h
 . rename_i j Ab l2
   exact ⟨N, Gs (lpI (fun (e : (List V -> Option R)) L (s : List V × LB) => b3E N j (fun Ab l2 => L (Ab, l2)) e s.1 s.2) (fun e t s => T5 N j t s.1 s.2 e) (fun s => [(.v (.int .i64 j) .no), (.v (.sl 22 s.1) (.own (.slot 6) 22)), (.v (.bytes s.2) .no)]) (fun s => [[]]) (fun _ _ => rfl) (fun _ _ _ => rfl) (e := _) (fun L s => by kernel_rfl) N (Ab, l2)) h⟩
 . cases h
noncomputable def a7Y (N : Nat) : Ent := pE 50 (.v .y (.v fI .z)) (.v (.l 22) (.v fI .z)) (a8v N)
theorem c9O (N : Nat) : EO (a7Y N) := pk (cx := b7C N) (D4 ⟨c2Z N, trivial⟩ trivial) Tryz.func50 (j6 (k := 1) (by kernel_rfl) ⟨trivial, c3o N⟩) (by kernel_rfl) fun h => by kernel_rfl
noncomputable def d5t (N : Nat) : Ent := pE 98 (.v .y (.v .y .z)) (.v .y (.v fI .z)) (b5n N)
theorem d9C (N : Nat) : EO (d5t N) := a1i (gz Tryz.func98 (by kernel_rfl)) rfl fun h t q => e3a N h.1 h.2.1 t.1 t.2 q
noncomputable def d5R (N : Nat) : Ent := pE 97 (.v .y (.v fI .z)) (.v .y (.v fI .z)) (b4z N)
theorem d7i (N : Nat) : EO (d5R N) := a1i (gz Tryz.func97 (by kernel_rfl)) rfl fun h t q => e2n N h.1 h.2.1 t.1 t.2 q
noncomputable def b3G (N : Nat) (f x1 : LB) : Option (LB) := s7 (b5n N f x1) fun w u => some w
noncomputable def b8Q (N : Nat) : Ent := pE 54 (.v .y (.v .y .z)) (.v .y .z) (b3G N)
theorem d8w (N : Nat) : EO (b8Q N) := pk0 (cx := cz [d5t N] []) (A9 ⟨d9C N, trivial⟩ trivial) Tryz.func54 (by kernel_rfl) fun h => by kernel_rfl
noncomputable def b8U (N : Nat) (f : LB) : Option (LB) := s7 (b4z N f 8) fun w u => some w
noncomputable def b7F (N : Nat) : Ent := pE 52 (.v .y .z) (.v .y .z) (b8U N)
theorem d9p (N : Nat) : EO (b7F N) := pk0 (cx := cz [d5R N] []) (A9 ⟨d7i N, trivial⟩ trivial) Tryz.func52 (by kernel_rfl) fun h => by kernel_rfl
noncomputable def c4q {R : Type} (s : LB -> Int -> Option (LB × Int)) (dst : Nat) (ds : List D) (m : Mem) (K : List D -> Mem -> Option R) : Option R :=
 match ds with
 | [.v (.bytes f) .no, .v (.int .i64 x1) .no] => s7 (s f x1) fun r0 r1 => K [.v (.bytes r0) (.own (.slot dst) 5), dI r1] m
 | _ => none
noncomputable def c4k (rs : List D) (_ : Mem) (dd : List Pos) : Option (LB × Int) :=
 match rs with
 | [.v (.bytes r0) a, .v (.int .i64 r1) _] => c8O 5 a dd (some (r0, r1))
 | _ => none
noncomputable def a1H {R : Type} (N : Nat) (j : Int) (Lq : LB -> Option R) (K0 : LB -> Option R) (l1 : LB) : Option R := br (decide (j ≠ 0)) (br (!decide ((l1.length : Int).tmod j = 0)) (br (decide ((l1.length + 1) * 1 <= 140737488355328)) (Lq (l1 ++ [FR (JG 0)])) none) (K0 l1)) none
noncomputable def a1n {R : Type} (N : Nat) (j : Int) : Nat -> LB -> (LB -> Option R) -> Option R | 0, _, _ => none | t + 1, l1, K0 => a1H N j (fun l1 => a1n N j t l1 K0) K0 l1
noncomputable def b2S {R : Type} (N : Nat) (ds : List D) (m : Mem) (K : Ex -> List D -> Mem -> Option R) : Option R :=
 match ds, m with
 | [(.v (.int .i64 j) .no), (.v (.bytes l1) (.own (.slot 6) 5))], [[]] => a1n N j N l1 (fun a0 => K (.exit 0) [(.v (.bytes a0) (.own (.slot 6) 5))] [[]])
 | _, _ => none
noncomputable def b0w (N : Nat) (f : LB) (x1 : Int) : Option (LB × Int) := br (decide (x1 < 1)) (some ([], 1)) (br (decide (65536 < x1)) (some ([], 1)) (br (decide ((0 + f.length) * 1 <= 140737488355328)) (br (decide ((f.length + 1) * 1 <= 140737488355328)) (a1n N x1 N (f ++ [FR (JG 128)]) fun w => some (w, 0)) none) none))
noncomputable def a3N (N : Nat) : Cx := { T := T, isPure := a5b [], pureK := fun g ds K => a1K [] g ds K, memK := fun g dst ds m K => W4 [] g dst ds m K, meth := a2E [], keep := fun r => match r with | 4 => [1, 6] | _ => [], keepX := fun r => match r with | 4 => [6] | _ => [], loopT := fun r ds m K => match r with | 4 => b2S N ds m K | _ => none, jumps := 9 }
theorem c0Y {R : Type} (N : Nat) (j : Int) (l1 : LB) (L : List D -> Mem -> Option R) (K : Ex -> List D -> Mem -> Option R) :
 W3 (fun st K => codeK (a3N N) (s4 Tryz.f56 0) st K) 27 [1, 6] [6] L [(dI j), (.v (.bytes l1) (.own (.slot 6) 5))] [[]] K = a1H N j (fun l1 => L [(dI j), (.v (.bytes l1) (.own (.slot 6) 5))] [[]]) (fun a0 => K (.exit 0) [(.v (.bytes a0) (.own (.slot 6) 5))] [[]]) l1 := by
 kernel_rfl
theorem b0O {R : Type} (N : Nat) (j : Int) (K : Ex -> List D -> Mem -> Option R) : ∀ (t : Nat) (l1 : LB),
 O9 (fun st K => codeK (a3N N) (s4 Tryz.f56 0) st K) 27 [1, 6] [6] t [(dI j), (.v (.bytes l1) (.own (.slot 6) 5))] [[]] K = a1n N j t l1 (fun a0 => K (.exit 0) [(.v (.bytes a0) (.own (.slot 6) 5))] [[]])
 | 0, l1 => rfl
 | t + 1, l1 => (c0Y N j l1 _ K).trans (congrArg (fun L => a1H N j L (fun a0 => K (.exit 0) [(.v (.bytes a0) (.own (.slot 6) 5))] [[]]) l1) (funext fun l1 => b0O N j K t l1))
theorem d0V (N : Nat) (f : LB) (x1 : Int) : b4s (a3N N) Tryz.f56 [dY f, dI x1] [] [4, 5] c4k = b0w N f x1 := by
 kernel_rfl
abbrev e2H (s : LB -> Int -> Option (LB × Int)) : Prop := ∀ f x1 r0 r1, s f x1 = some (r0, r1) -> ∀ (m : Mem) (dst : Nat), a0B Tryz.prog T 56 dst [dY f, dI x1] m [.v (.bytes r0) (.own (.slot dst) 5), dI r1] m
theorem e0n (s : LB -> Int -> Option (LB × Int)) (hs : e2H s) : MEO ⟨56, c4q s⟩ := by
 refine ⟨K6 Tryz.func56 (by kernel_rfl) (c := s6 Tryz.f56) (by kernel_rfl), fun R dst ds m K r h => ?_⟩
 simp only [c4q] at h
 split at h
 . obtain ⟨r0, r1, h1, h2⟩ := a6E h
   exact ⟨_, _, h2, hs _ _ _ _ h1 m dst⟩
 . cases h
theorem d8F (N : Nat) : CxOK Tryz.prog (a3N N) :=
 M3 (es := []) (me := []) (ms := []) a7s trivial trivial trivial rfl (fun _ _ _ _ => rfl) (fun _ _ _ _ _ _ => rfl) rfl
theorem c9u (N : Nat) : p9 (a3N N) 27 (s4 Tryz.f56 0) := by
 refine j7 (rid := 4) (by kernel_rfl) rfl rfl fun R ds m K r h => ?_
 have h : b2S N ds m K = some r := h
 unfold b2S at h
 split at h
 . exact ⟨N, Gs (b0O ..) h⟩
 . cases h
theorem d8V (N : Nat) : B8 (a3N N) Tryz.f56.ntmps (s6 Tryz.f56) :=
 j6 (k := 1) (by kernel_rfl) ⟨trivial, c9u N⟩
theorem e2W (N : Nat) (f : LB) (x1 : Int) (r0 : LB) (r1 : Int) (h : b0w N f x1 = some (r0, r1)) : ∀ (m : Mem) (dst : Nat), a0B Tryz.prog T 56 dst [dY f, dI x1] m [.v (.bytes r0) (.own (.slot dst) 5), dI r1] m := fun m dst =>
 b6V (cx := a3N N) (by kernel_rfl) (d8F N) Tryz.func56 (by kernel_rfl) (by kernel_rfl) (d8V N) rfl rfl rfl (ts := [4, 5]) rfl (rf := c4k) ((d0V N f x1).trans h) (fun rs' m' dd hq => by
  unfold c4k at hq
  split at hq
  . obtain ⟨hq, ha⟩ := b4x hq
    cases hq
    exact ⟨_, _, rfl, rfl, rfl, ha⟩
  . cases hq) m dst
noncomputable def d6w (N : Nat) : Ent := pE 57 (.v fI (.v fI .z)) (.v .y (.v fI .z)) (b4v N)
theorem d9a (N : Nat) : EO (d6w N) := a1i (gz Tryz.func57 (by kernel_rfl)) rfl fun h t q => e2b N h.1 h.2.1 t.1 t.2 q
noncomputable def c1J {R : Type} (N : Nat) (w l1 : LB) (Lq : LB -> Int -> Option R) (K0 : LB -> Option R) (l2 : LB) (i : Int) : Option R := br (decide (i < 8)) (br (decide (0 <= i) && decide (i < (w.length : Int))) (at? w i.toNat fun u0 => br (decide (0 <= i) && decide (i < (l1.length : Int))) (at? l1 i.toNat fun u1 => br (decide ((l2.length + [FR (j9 Ga FY (u0.toNat : Int) (u1.toNat : Int)).toNat].length) * 1 <= 140737488355328)) (Lq (l2 ++ [FR (j9 Ga FY (u0.toNat : Int) (u1.toNat : Int)).toNat]) (FK.wrap (i + 1))) none) none) none) (K0 l2)
noncomputable def a1f {R : Type} (N : Nat) (w l1 : LB) : Nat -> LB -> Int -> (LB -> Option R) -> Option R | 0, _, _, _ => none | t + 1, l2, i, K0 => c1J N w l1 (fun l2 i => a1f N w l1 t l2 i K0) K0 l2 i
noncomputable def b4y {R : Type} (N : Nat) (ds : List D) (m : Mem) (K : Ex -> List D -> Mem -> Option R) : Option R :=
 match ds, m with
 | [(.v (.bytes w) .no), (.v (.bytes l1) .no), (.v (.bytes l2) (.own (.slot 5) 5)), (.v (.int .i64 i) .no)], [[]] => a1f N w l1 N l2 i (fun a0 => K (.exit 0) [(.v (.bytes a0) (.own (.slot 5) 5))] [[]])
 | _, _ => none
noncomputable def b5j (N : Nat) (f x1 : LB) : Option (LB) := a1f N f x1 N [] 0 fun w => some w
noncomputable def c8r (N : Nat) : Cx := cl [] [] [⟨3, [0, 1, 5, 6], [5], b4y N⟩]
theorem c9j (N : Nat) : p9 (c8r N) 24 (s4 Tryz.f59 0) := by
 refine j7 (rid := 3) (by kernel_rfl) rfl rfl fun R ds m K r h => ?_
 change b4y N ds m K = _ at h
 unfold b4y at h
 split at h
 . rename_i w l1 l2 i
   exact ⟨N, Gs (lpI (fun (e : (LB -> Option R)) L (s : LB × Int) => c1J N w l1 (fun l2 i => L (l2, i)) e s.1 s.2) (fun e t s => a1f N w l1 t s.1 s.2 e) (fun s => [(.v (.bytes w) .no), (.v (.bytes l1) .no), (.v (.bytes s.1) (.own (.slot 5) 5)), (.v (.int .i64 s.2) .no)]) (fun s => [[]]) (fun _ _ => rfl) (fun _ _ _ => rfl) (e := _) (fun L s => by kernel_rfl) N (l2, i)) h⟩
 . cases h
noncomputable def d3w (N : Nat) : Ent := pE 59 (.v .y (.v .y .z)) (.v .y .z) (b5j N)
theorem d8C (N : Nat) : EO (d3w N) := pk (cx := c8r N) (D4 trivial trivial) Tryz.func59 (j6 (k := 1) (by kernel_rfl) ⟨trivial, c9j N⟩) (by kernel_rfl) fun h => by kernel_rfl
noncomputable def b4h {R : Type} (N : Nat) (w l1 : LB) (d : Int) (l3 : LB) (Lq : LB -> Int -> Option R) (K0 : LB -> Option R) (l4 : LB) (O : Int) : Option R := br (decide (O < 8)) (br (decide (0 <= O) && decide (O < (l3.length : Int))) (at? l3 O.toNat fun u0 => br (decide ((l4.length + [FR (FY.wrap (255 - (u0.toNat : Int))).toNat].length) * 1 <= 140737488355328)) (Lq (l4 ++ [FR (FY.wrap (255 - (u0.toNat : Int))).toNat]) (FK.wrap (O + 1))) none) none) (K0 l4)
noncomputable def M9 {R : Type} (N : Nat) (w l1 : LB) (d : Int) (l3 : LB) : Nat -> LB -> Int -> (LB -> Option R) -> Option R | 0, _, _, _ => none | t + 1, l4, O, K0 => b4h N w l1 d l3 (fun l4 O => M9 N w l1 d l3 t l4 O K0) K0 l4 O
noncomputable def a7B {R : Type} (N : Nat) (ds : List D) (m : Mem) (K : Ex -> List D -> Mem -> Option R) : Option R :=
 match ds, m with
 | [(.v (.bytes w) (.own (.slot 3) 5)), (.v (.bytes l1) (.own (.slot 7) 5)), (.v (.int .i64 d) .no), (.v (.bytes l3) .no), (.v (.bytes l4) (.own (.slot 10) 5)), (.v (.int .i64 O) .no)], [[]] => M9 N w l1 d l3 N l4 O (fun a4 => K (.exit 2) [(.v (.bytes w) (.own (.slot 3) 5)), (.v (.bytes l1) (.own (.slot 7) 5)), (.v (.int .i64 d) .no), (.v (.bytes l3) .no), (.v (.bytes a4) (.own (.slot 10) 5))] [[]])
 | _, _ => none
noncomputable def a0T {R : Type} (N : Nat) (w : LB) (Lq : LB -> Int -> Option R) (K0 : LB -> Option R) (l1 : LB) (d : Int) : Option R := br (decide (d < (w.length : Int))) (br (decide (0 <= FK.wrap (d + 8)) && decide (FK.wrap (d + 8) <= (w.length : Int))) (br (decide (0 <= d) && decide (d <= ((FK.wrap (d + 8)).toNat : Int))) (M9 N w l1 d (Gj d.toNat (Gz (FK.wrap (d + 8)).toNat w)) N [] 0 fun l0_1 => s7 (a9L N l1 (Gj d.toNat (Gz (FK.wrap (d + 8)).toNat w))) fun l1_1 n2_1 => s7 (a9L N l1 l0_1) fun l3 x => br (decide (8 <= (l1.length : Int))) (j3 (b5j N l1_1 (Gz 8 l1)) fun l5 => br (decide ((0 + l5.length) * 1 <= 140737488355328)) (br (decide (8 <= (l1.length : Int))) (j3 (b5j N l3 (Gj 8 l1)) fun l6 => br (decide ((l5.length + l6.length) * 1 <= 140737488355328)) (Lq (l5 ++ l6) (FK.wrap (d + 8))) none) none) none) none) none) none) (K0 l1)
noncomputable def a0Y {R : Type} (N : Nat) (w : LB) : Nat -> LB -> Int -> (LB -> Option R) -> Option R | 0, _, _, _ => none | t + 1, l1, d, K0 => a0T N w (fun l1 d => a0Y N w t l1 d K0) K0 l1 d
noncomputable def a9R {R : Type} (N : Nat) (ds : List D) (m : Mem) (K : Ex -> List D -> Mem -> Option R) : Option R :=
 match ds, m with
 | [(.v (.bytes w) (.own (.slot 3) 5)), (.v (.bytes l1) (.own (.slot 7) 5)), (.v (.int .i64 d) .no)], [[]] => a0Y N w N l1 d (fun a0 => K (.exit 0) [(.v (.bytes a0) (.own (.slot 7) 5))] [[]])
 | _, _ => none
noncomputable def b8J (N : Nat) (f : LB) : Option (LB) := s7 (b0w N f 8) fun w u => s7 (b4v N (f.length : Int) 8) fun l2 i => br (decide ((w.length + l2.length) * 1 <= 140737488355328)) (a0Y N (w ++ l2) N ([0, 0, 0, 0, 0, 0, 0, 0, 0, 0, 0, 0, 0, 0, 0, 0] : LB) 0 fun l4 => some l4) none
noncomputable def b2H (N : Nat) : Cx := cl [d6w N, d1O N, d3w N] [⟨56, c4q (b0w N)⟩] [⟨6, [3, 7, 8], [7], a9R N⟩, ⟨11, [3, 7, 8, 9, 10, 11], [3, 7, 8, 9, 10], a7B N⟩]
theorem c4a (N : Nat) : p9 (b2H N) 80 (s4 Tryz.f31 0) := by
 refine j7 (rid := 6) (by kernel_rfl) rfl rfl fun R ds m K r h => ?_
 change a9R N ds m K = _ at h
 unfold a9R at h
 split at h
 . rename_i w l1 d
   exact ⟨N, Gs (lpI (fun (e : (LB -> Option R)) L (s : LB × Int) => a0T N w (fun l1 d => L (l1, d)) e s.1 s.2) (fun e t s => a0Y N w t s.1 s.2 e) (fun s => [(.v (.bytes w) (.own (.slot 3) 5)), (.v (.bytes s.1) (.own (.slot 7) 5)), (.v (.int .i64 s.2) .no)]) (fun s => [[]]) (fun _ _ => rfl) (fun _ _ _ => rfl) (e := _) (fun L s => by kernel_rfl) N (l1, d)) h⟩
 . cases h
theorem c2v (N : Nat) : p9 (b2H N) 80 (s4 Tryz.f31 1) := by
 refine j7 (rid := 11) (by kernel_rfl) rfl rfl fun R ds m K r h => ?_
 change a7B N ds m K = _ at h
 unfold a7B at h
 split at h
 . rename_i w l1 d l3 l4 O
   exact ⟨N, Gs (lpI (fun (e : (LB -> Option R)) L (s : LB × Int) => b4h N w l1 d l3 (fun l4 O => L (l4, O)) e s.1 s.2) (fun e t s => M9 N w l1 d l3 t s.1 s.2 e) (fun s => [(.v (.bytes w) (.own (.slot 3) 5)), (.v (.bytes l1) (.own (.slot 7) 5)), (.v (.int .i64 d) .no), (.v (.bytes l3) .no), (.v (.bytes s.1) (.own (.slot 10) 5)), (.v (.int .i64 s.2) .no)]) (fun s => [[]]) (fun _ _ => rfl) (fun _ _ _ => rfl) (e := _) (fun L s => by kernel_rfl) N (l4, O)) h⟩
 . cases h
noncomputable def c7b (N : Nat) : Ent := pE 31 (.v .y .z) (.v .y .z) (b8J N)
theorem d2u (N : Nat) : EO (c7b N) := pk (cx := b2H N) (D4 ⟨d9a N, e0q N, d8C N, trivial⟩ ⟨e0n _ (e2W N), trivial⟩) Tryz.func31 (j6 (k := 2) (by kernel_rfl) ⟨⟨trivial, c4a N⟩, c2v N⟩) (by kernel_rfl) fun h => by kernel_rfl
noncomputable def b1Z (N : Nat) (f : LB) : Option (LB) := j3 (b8J N f) fun w => some w
noncomputable def d5j (N : Nat) : Cx := cz [c7b N] []
theorem d9i (N : Nat) : POK Tryz.prog T 12 (.v .y .z) (.v .y .z) (b1Z N) := pok (cx := d5j N) fo (A9 ⟨d2u N, trivial⟩ trivial) (lz (by kernel_rfl)) Tryz.func12 (by kernel_rfl) rfl fun h => by kernel_rfl
theorem e0B (N : Nat) (f r0 : LB) (h : b1Z N f = some r0) : PRT 12 [dY f] [dY r0] := d9i N (f, ()) r0 h
end En

namespace En
open Go
structure In where
 op : Int
 a : Int
 b : Int
 c : Int
 deriving DecidableEq
def ftab : List (Int × Int × Int) := [(0,0,0), (1,0,0), (0,0,0), (2,0,0), (2,0,0), (2,3,0), (0,0,0), (0,0,0), (0,0,0), (0,0,0), (0,0,0), (0,0,0), (0,0,0), (0,0,0), (0,0,0), (0,0,0), (0,0,0), (0,0,0), (0,0,0), (0,0,0), (0,0,0),
 (4,0,0), (4,0,0), (4,0,0), (4,0,0), (4,0,0), (4,0,0), (4,0,0), (4,0,0), (4,0,0), (4,0,0), (4,0,0), (4,0,0), (5,6,0), (7,0,0), (0,0,0), (0,0,0), (0,0,0), (0,0,0), (0,0,0), (0,0,0), (0,0,0), (5,6,8), (5,6,8), (9,0,0), (9,0,0), (10,11,0), (5,6,12), (5,6,12), (0,0,0), (0,0,0), (5,6,0), (5,6,0), (13,0,0)]
def fm (op : Int) : Int × Int × Int := ftab.getD op.toNat (0, 0, 0)
def fA (op : Int) : Int := (fm op).1
def fB (op : Int) : Int := (fm op).2.1
def fC (op : Int) : Int := (fm op).2.2
def lim (f p : Int) : Int × Int :=
 if f = 1 then (-2147483648, 2147483647) else if f = 2 then (0, 15) else if f = 3 then (-128, 127) else if f = 4 then (0, 255) else if f = 5 then (0, 4) else if f = 10 then (0, 4)
 else if f = 6 then (if p = 255 then (0, 1) else (0, 31)) else if f = 7 then (2, 4) else if f = 8 then (0, 15) else if f = 9 then (0, 255) else if f = 11 then (0, 63) else if f = 12 then (0, 15) else if f = 13 then (0, 14) else (0, 0)
def oe (f n p : Int) : Int := if f = 0 then (if n = 0 then 0 else 4) else if (n < (lim f p).1 ∨ (lim f p).2 < n) /\ ¬ (f = 5 /\ n = 255) then 2 else 0
def chk (i : In) : Int :=
 if i.op < 0 then 4 else if 54 <= i.op then 4 else if oe (fA i.op) i.a i.a = 0 then (if oe (fB i.op) i.b i.a = 0 then oe (fC i.op) i.c i.a else oe (fB i.op) i.b i.a) else oe (fA i.op) i.a i.a
def Fm (x y z : Int) : Prop := (y = 0 /\ z = 0 /\ 0 <= x /\ x <= 13 /\ x ≠ 5 /\ x ≠ 6 /\ x ≠ 10 /\ x ≠ 11) ∨ (x = 2 /\ y = 3 /\ z = 0) ∨ (x = 5 /\ y = 6 /\ (z = 0 ∨ z = 8 ∨ z = 12)) ∨ (x = 10 /\ y = 11 /\ z = 0)
instance (x y z : Int) : Decidable (Fm x y z) := by unfold Fm; infer_instance
theorem e2C : ∀ k : Fin 54, Fm (fA (k.val : Int)) (fB (k.val : Int)) (fC (k.val : Int)) := by decide +kernel
theorem e0V {op : Int} (h0 : 0 <= op) (h1 : op < 54) : Fm (fA op) (fB op) (fC op) := by
 have := e2C ⟨op.toNat, by omega⟩
 have e : ((op.toNat : Nat) : Int) = op := by omega
 simpa only [e] using this
theorem d2C {P : Int -> Prop} (h : ∀ k : Fin 54, P (k.val : Int)) {op : Int} (h0 : 0 <= op) (h1 : op < 54) : P op := by
 have := h ⟨op.toNat, by omega⟩
 have e : ((op.toNat : Nat) : Int) = op := by omega
 simpa only [e] using this
theorem a6g {i : In} (h : chk i = 0) : 0 <= i.op /\ i.op < 54 := by
 unfold chk at h
 split at h
 . cases h
 . split at h
   . cases h
   . omega
theorem b0F {i : In} (h : chk i = 0) : oe (fA i.op) i.a i.a = 0 /\ oe (fB i.op) i.b i.a = 0 /\ oe (fC i.op) i.c i.a = 0 := by
 unfold chk at h
 split at h
 . cases h
 . split at h
   . cases h
   . split at h
     . rename_i h1
       split at h
       . rename_i h2; exact ⟨h1, h2, h⟩
       . rename_i h2; exact absurd h h2
     . rename_i h1; exact absurd h h1
theorem d7Q (p : Int) : lim 1 p = (-2147483648, 2147483647) := by
 unfold lim; rw [if_pos rfl]
set_option maxHeartbeats 4000000 in
theorem d9d {f : Int} (h1 : f ≠ 1) (p : Int) : lim f p ∈ [(0, 15), (-128, 127), (0, 255), (0, 4), (0, 1), (0, 31), (2, 4), (0, 63), (0, 14), ((0 : Int), (0 : Int))] := by
 unfold lim
 rw [if_neg h1]
 repeat' split
 all_goals decide
theorem c9z {f : Int} (h1 : f ≠ 1) (p : Int) : -128 <= (lim f p).1 /\ (lim f p).2 <= 255 := by
 have h : ∀ q ∈ [(0, 15), (-128, 127), (0, 255), (0, 4), (0, 1), (0, 31), (2, 4), (0, 63), (0, 14), ((0 : Int), (0 : Int))], -128 <= q.1 /\ q.2 <= 255 := by decide
 exact h _ (d9d h1 p)
theorem d1s (f p : Int) : -2147483648 <= (lim f p).1 /\ (lim f p).2 <= 2147483647 := by
 by_cases h1 : f = 1
 . subst h1
   rw [d7Q]
   simp only
   omega
 . have := c9z h1 p
   omega
theorem c2j {f n p : Int} (h : oe f n p = 0) : -2147483648 <= n /\ n <= 2147483647 := by
 have := d1s f p
 unfold oe at h
 split at h
 . split at h
   . omega
   . cases h
 . split at h
   . cases h
   . omega
theorem a4m {n p : Int} (h : oe 0 n p = 0) : n = 0 := by
 unfold oe at h
 rw [if_pos rfl] at h
 split at h
 . assumption
 . cases h
theorem e0e {f n p : Int} (h : oe f n p = 0) (h0 : f ≠ 0) (h1 : f ≠ 1) (h3 : f ≠ 3) : 0 <= n /\ n <= 255 := by
 have hl : 0 <= (lim f p).1 /\ (lim f p).2 <= 255 := by
  unfold lim
  rw [if_neg h1]
  by_cases h2 : f = 2
  . rw [if_pos h2]; exact ⟨by decide, by decide⟩
  rw [if_neg h2, if_neg h3]
  repeat' split
  all_goals exact ⟨by decide, by decide⟩
 unfold oe at h
 rw [if_neg h0] at h
 split at h
 . cases h
 . omega
theorem e0A {n p : Int} (h : oe 3 n p = 0) : -128 <= n /\ n <= 127 := by
 unfold oe at h
 rw [if_neg (by decide)] at h
 have e : lim 3 p = (-128, 127) := rfl
 rw [e] at h
 split at h
 . cases h
 . omega
theorem b8I {n p : Int} (h : oe 7 n p = 0) : 2 <= n /\ n <= 4 := by
 unfold oe at h
 rw [if_neg (by decide)] at h
 have e : lim 7 p = (2, 4) := rfl
 rw [e] at h
 split at h
 . cases h
 . omega
def C5 (n : Int) : UInt8 := FR (n % 256).toNat
theorem Q1 (n : Int) : ((C5 n).toNat : Int) = n % 256 := by
 unfold C5
 rw [Ip, Nat.mod_eq_of_lt (by omega)]; omega
theorem d6M (u : UInt8) : C5 (u.toNat : Int) = u := by
 apply KT.1
 have := Q1 (u.toNat : Int)
 have := u.toNat_lt
 omega
def R1 (f n : Int) : List UInt8 := if f = 0 then [] else if f = 1 then [C5 (n / 16777216), C5 (n / 65536), C5 (n / 256), C5 n] else [C5 n]
def b5S (i : In) : List UInt8 := C5 i.op :: (R1 (fA i.op) i.a ++ (R1 (fB i.op) i.b ++ R1 (fC i.op) i.c))
def wid (f : Int) : Nat := if f = 0 then 0 else if f = 1 then 4 else 1
theorem a5v (f n : Int) : (R1 f n).length = wid f := by
 unfold R1 wid
 repeat' split
 all_goals rfl
def s32 (n : Int) : Int := if n < 2147483648 then n else n - 4294967296
def s8 (n : Int) : Int := if n < 128 then n else n - 256
def a1m (f : Int) (l : List UInt8) : Int :=
 if f = 0 then 0 else if f = 1 then (match l with | w :: x :: y :: z :: _ => s32 (16777216 * w.toNat + 65536 * x.toNat + 256 * y.toNat + z.toNat) | _ => 0)
 else match l with | b :: _ => (if f = 3 then s8 b.toNat else b.toNat) | [] => 0
theorem d9w {n : Int} (h1 : -2147483648 <= n) (h2 : n <= 2147483647) : s32 (16777216 * (n / 16777216 % 256) + 65536 * (n / 65536 % 256) + 256 * (n / 256 % 256) + n % 256) = n := by
 unfold s32
 split <;> omega
theorem b9r {f n p : Int} (h : oe f n p = 0) (r : List UInt8) : a1m f (R1 f n ++ r) = n := by
 unfold a1m R1
 by_cases h0 : f = 0
 . subst h0; rw [if_pos rfl]; exact (a4m h).symm
 rw [if_neg h0, if_neg h0]
 by_cases h1 : f = 1
 . subst h1
   rw [if_pos rfl, if_pos rfl]
   have := c2j h
   simp only [Gw, Q1]
   exact d9w this.1 this.2
 rw [if_neg h1, if_neg h1]
 simp only [Gw, It, Q1]
 by_cases h3 : f = 3
 . subst h3
   rw [if_pos rfl]
   have := e0A h
   unfold s8
   split <;> omega
 . rw [if_neg h3]
   have := e0e h h0 h1 h3
   omega
def a9s : List UInt8 -> In × List UInt8 × Int
 | [] => (⟨0, 0, 0, 0⟩, [], 0)
 | b :: r =>
   if 54 <= b.toNat then (⟨0, 0, 0, 0⟩, [], 4)
   else if r.length < wid (fA b.toNat) + wid (fB b.toNat) + wid (fC b.toNat) then (⟨0, 0, 0, 0⟩, [], 5)
   else
    match (⟨b.toNat, a1m (fA b.toNat) r, a1m (fB b.toNat) (r.drop (wid (fA b.toNat))), a1m (fC b.toNat) (r.drop (wid (fA b.toNat) + wid (fB b.toNat)))⟩ : In) with
    | i => (i, r.drop (wid (fA b.toNat) + wid (fB b.toNat) + wid (fC b.toNat)), chk i)
theorem e0u {i : In} (h : chk i = 0) (r : List UInt8) : a9s (b5S i ++ r) = (i, r, 0) := by
 obtain ⟨h0, h1⟩ := a6g h
 obtain ⟨ha, hb, hc⟩ := b0F h
 have e : ((C5 i.op).toNat : Int) = i.op := by rw [Q1]; omega
 have e' : ¬ 54 <= (C5 i.op).toNat := by omega
 unfold a9s b5S
 simp only [Gw, Gr, e]
 rw [if_neg e', if_neg (by simp [a5v]; omega)]
 have d1 : (R1 (fA i.op) i.a ++ (R1 (fB i.op) i.b ++ (R1 (fC i.op) i.c ++ r))).drop (wid (fA i.op)) = R1 (fB i.op) i.b ++ (R1 (fC i.op) i.c ++ r) := by
  rw [← a5v (fA i.op) i.a]; exact Kc
 have d2 : (R1 (fA i.op) i.a ++ (R1 (fB i.op) i.b ++ (R1 (fC i.op) i.c ++ r))).drop (wid (fA i.op) + wid (fB i.op)) = R1 (fC i.op) i.c ++ r := by
  rw [← IC, d1, ← a5v (fB i.op) i.b]; exact Kc
 have d3 : (R1 (fA i.op) i.a ++ (R1 (fB i.op) i.b ++ (R1 (fC i.op) i.c ++ r))).drop (wid (fA i.op) + wid (fB i.op) + wid (fC i.op)) = r := by
  rw [← IC, d2, ← a5v (fC i.op) i.c]; exact Kc
 rw [d1, d2, d3, b9r ha, b9r hb, b9r hc]
 show (i, r, chk i) = _
 rw [h]
def M7 : List In -> Int
 | [] => 0
 | i :: l => if chk i = 0 then M7 l else chk i
def N3 : List In -> List UInt8
 | [] => []
 | i :: l => b5S i ++ N3 l
theorem a5W {i : In} {l : List In} (h : M7 (i :: l) = 0) : chk i = 0 /\ M7 l = 0 := by
 unfold M7 at h
 split at h
 . rename_i c; exact ⟨c, h⟩
 . rename_i c; exact absurd h c
def a3s (l : List In) : List UInt8 × Int := if 256 < l.length then ([], 3) else if M7 l = 0 then (N3 l, 0) else ([], M7 l)
def c2F : Nat -> List In -> List UInt8 -> List In × Int
 | 0, _, _ => ([], 0)
 | _ + 1, acc, [] => (acc, 0)
 | t + 1, acc, b :: r => if acc.length = 256 then ([], 3) else if (a9s (b :: r)).2.2 = 0 then c2F t (acc ++ [(a9s (b :: r)).1]) (a9s (b :: r)).2.1 else ([], (a9s (b :: r)).2.2)
theorem c1K : ∀ (l acc : List In) (t : Nat), l.length < t -> acc.length + l.length <= 256 -> M7 l = 0 -> c2F t acc (N3 l) = (acc ++ l, 0)
 | [], acc, t + 1, _, _, _ => by simp [N3, c2F]
 | i :: l, acc, t + 1, ht, hl, h => by
   obtain ⟨h1, h2⟩ := a5W h
   simp only [FO] at ht hl
   have hd := e0u h1 (N3 l)
   have ih := c1K l (acc ++ [i]) t (by omega) (by simp; omega) h2
   have : N3 (i :: l) = C5 i.op :: (R1 (fA i.op) i.a ++ (R1 (fB i.op) i.b ++ R1 (fC i.op) i.c) ++ N3 l) := rfl
   have hd' : a9s (C5 i.op :: (R1 (fA i.op) i.a ++ (R1 (fB i.op) i.b ++ R1 (fC i.op) i.c) ++ N3 l)) = (i, N3 l, 0) := hd
   rw [this]
   unfold c2F
   rw [hd', if_neg (by omega), if_pos rfl]
   simpa using ih
end En
namespace En
open Go
theorem c1n (d : UInt8) (m : Int) : N6 [d] m = if d.toNat < 48 ∨ 57 < d.toNat then none else some (if m <= 2147483648 then 10 * m + ((d.toNat : Int) - 48) else m) := by
 have e1 : (GS d.toNat 48 || GS 57 d.toNat) = decide (d.toNat < 48 ∨ 57 < d.toNat) := by
  rw [Bool.eq_iff_iff]; simp
 unfold N6
 rw [e1]
 by_cases h : d.toNat < 48 ∨ 57 < d.toNat
 . rw [decide_eq_true h, if_pos h]; rfl
 . rw [decide_eq_false h, if_neg h]
   by_cases c : m <= 2147483648
   . rw [decide_eq_true c, if_pos c]; rfl
   . rw [decide_eq_false c, if_neg c]; rfl
theorem b6j (d : UInt8) : ∀ (l : List UInt8) (n : Int), N6 (l ++ [d]) n = (N6 l n).bind fun m => N6 [d] m
 | [], n => rfl
 | b :: l, n => by
   rw [Gw]
   conv => lhs; unfold N6
   conv => rhs; arg 1; unfold N6
   cases GS b.toNat 48 || GS 57 b.toNat with
   | true => rfl
   | false => exact b6j d l _
theorem a3n {k : Nat} (h : k < 10) : (FR (48 + k)).toNat = 48 + k := by
 rw [Ip]; omega
theorem b2N {f u : Nat} (h : u < 10) : a4R (f + 1) u = [FR (48 + u)] := by
 unfold a4R
 have : GS u 10 = true := by simpa using h
 rw [this, cond_true]
theorem a9H {f u : Nat} (h : ¬ u < 10) : a4R (f + 1) u = a4R f (u / 10) ++ [FR (48 + u % 10)] := by
 conv => lhs; unfold a4R
 have : GS u 10 = false := by
  cases h0 : GS u 10 with
  | false => rfl
  | true => exact absurd (by simpa using h0) h
 rw [this, cond_false]
theorem pow_pos {f : Nat} {u : Nat} (h : u < 10 ^ f) (h0 : 0 < u) : 0 < f := by
 rcases Nat.eq_zero_or_pos f with rfl | h1
 . simp at h; omega
 . exact h1
theorem a9Y : ∀ (f u : Nat), 0 < f -> u < 10 ^ f -> u <= 21474836480 -> N6 (a4R f u) 0 = some (u : Int)
 | f + 1, u, _, h, hu => by
   by_cases c : u < 10
   . rw [b2N c, c1n, a3n c, if_neg (by omega), if_pos (by decide)]
     congr 1; omega
   . rw [a9H c, b6j]
     have hf : u / 10 < 10 ^ f := by rw [LP] at h; omega
     rw [a9Y f (u / 10) (pow_pos hf (by omega)) hf (by omega)]
     show N6 _ _ = _
     rw [c1n, a3n (by omega), if_neg (by omega), if_pos (by omega)]
     congr 1; omega
theorem b0n : ∀ (f u : Nat), 0 < f -> u < 10 ^ f -> ∃ b r, a4R f u = b :: r /\ 48 <= b.toNat /\ b.toNat <= 57 /\ (b.toNat = 48 -> u = 0 /\ r = [])
 | f + 1, u, _, h => by
   by_cases c : u < 10
   . refine ⟨_, [], b2N c, ?_⟩
     rw [a3n c]
     exact ⟨by omega, by omega, fun e => ⟨by omega, rfl⟩⟩
   . have hf : u / 10 < 10 ^ f := by rw [LP] at h; omega
     obtain ⟨b, r, e, h1, h2, h3⟩ := b0n f (u / 10) (pow_pos hf (by omega)) hf
     refine ⟨b, r ++ [FR (48 + u % 10)], by rw [a9H c, e]; rfl, h1, h2, fun e => ?_⟩
     have := (h3 e).1; omega
theorem b2M : ∀ (f u : Nat), ∀ b ∈ a4R f u, 48 <= b.toNat /\ b.toNat <= 57
 | 0, u, b, hb => by cases hb
 | f + 1, u, b, hb => by
   by_cases c : u < 10
   . rw [b2N c] at hb
     simp only [Jk] at hb
     subst hb; rw [a3n c]; omega
   . rw [a9H c] at hb
     rcases Hc.1 hb with hb | hb
     . exact b2M f _ b hb
     . simp only [Jk] at hb
       subst hb; rw [a3n (by omega)]; omega
theorem itoa_neg {n : Int} (h : n < 0) : a1S n = 45 :: a4R 20 n.natAbs := by unfold a1S; rw [decide_eq_true h, cond_true]
theorem c1N {n : Int} (h : ¬ n < 0) : a1S n = a4R 20 n.toNat := by unfold a1S; rw [decide_eq_false h, cond_false]
theorem d5X (c : UInt8) (r : List UInt8) (h : c.toNat ≠ 48) : V3 (45 :: c :: r) = a9P true (N6 (c :: r) 0) := by
 have : (c == (48 : UInt8)) = false := by rw [a6o]; exact decide_eq_false h
 show (bif c == (48 : UInt8) then _ else _) = _
 rw [this]; rfl
theorem d2q (b : UInt8) (r : List UInt8) (h : b.toNat ≠ 45) (h1 : b.toNat = 48 -> r = []) : V3 (b :: r) = a9P false (N6 (b :: r) 0) := by
 have e1 : (b == (45 : UInt8)) = false := by rw [a6o]; exact decide_eq_false h
 have e2 : (b == (48 : UInt8) && GS 0 r.length) = false := by
  rw [a6o]
  by_cases c : b.toNat = 48
  . rw [h1 c]; exact Bool.and_false _
  . rw [show decide (b.toNat = (48 : UInt8).toNat) = false from decide_eq_false c]; rfl
 show (bif b == (45 : UInt8) then _ else _) = _
 rw [e1, cond_false, e2, cond_false]
theorem d2r {n : Int} (h1 : -2147483648 <= n) (h2 : n <= 2147483647) : V3 (a1S n) = (n, true, true) := by
 by_cases c : n < 0
 . rw [itoa_neg c]
   obtain ⟨b, r, e, d1, d2, d3⟩ := b0n 20 n.natAbs (by decide) (by omega)
   have hs := a9Y 20 n.natAbs (by decide) (by omega) (by omega)
   rw [e] at hs ⊢
   rw [d5X b r (fun e => by have := (d3 e).1; omega), hs]
   have e : -((n.natAbs : Nat) : Int) = n := by omega
   show (-((n.natAbs : Nat) : Int), true, decide (-2147483648 <= -((n.natAbs : Nat) : Int)) && decide (-((n.natAbs : Nat) : Int) <= 2147483647)) = _
   rw [e, decide_eq_true h1, decide_eq_true h2]; rfl
 . rw [c1N c]
   obtain ⟨b, r, e, d1, d2, d3⟩ := b0n 20 n.toNat (by decide) (by omega)
   have hs := a9Y 20 n.toNat (by decide) (by omega) (by omega)
   rw [e] at hs ⊢
   rw [d2q b r (by omega) (fun e => (d3 e).2), hs]
   have e : ((n.toNat : Nat) : Int) = n := by omega
   show (((n.toNat : Nat) : Int), true, decide (-2147483648 <= ((n.toNat : Nat) : Int)) && decide (((n.toNat : Nat) : Int) <= 2147483647)) = _
   rw [e, decide_eq_true h1, decide_eq_true h2]; rfl
end En
namespace En
open Go
def namesL : List (List UInt8) := [[110, 111, 112], [112, 117, 115, 104], [110, 117, 108, 108], [108, 111, 97, 100], [115, 116, 111, 114, 101], [105, 110, 99], [112, 111, 112], [100, 117, 112], [115, 119, 97, 112], [97, 100, 100], [115, 117, 98], [109, 117, 108], [100, 105, 118], [114, 101, 109], [110, 101, 103], [97, 110, 100], [111, 114], [120, 111, 114], [115, 104, 108], [115, 104, 114], [117, 115, 104, 114], [103, 111, 116, 111], [105, 102, 122, 101, 114, 111], [105, 102, 110, 111, 116], [105, 102, 110, 101, 103], [105, 102, 101, 113], [105, 102, 110, 101], [105, 102, 108, 116], [105, 102, 103, 101], [105, 102, 110, 117, 108, 108], [105, 102, 115, 111, 109, 101], [105, 102, 115, 97, 109, 101], [105, 102, 111, 116, 104, 101, 114], [110, 101, 119], [97, 114, 114, 97, 121], [108, 101, 110, 103, 116, 104], [103, 101, 116, 98, 121, 116, 101], [112, 117, 116, 98, 121, 116, 101], [103, 101, 116, 105, 110, 116], [112, 117, 116, 105, 110, 116], [103, 101, 116, 114, 101, 102], [112, 117, 116, 114, 101, 102], [103, 101, 116, 102, 105, 101, 108, 100], [112, 117, 116, 102, 105, 101, 108, 100], [103, 101, 116, 115, 116, 97, 116, 105, 99], [112, 117, 116, 115, 116, 97, 116, 105, 99], [99, 97, 108, 108], [118, 105, 114, 116, 117, 97, 108], [105, 110, 118, 111, 107, 101], [114, 101, 116, 117, 114, 110], [116, 104, 114, 111, 119], [99, 97, 115, 116], [105, 115], [110, 97, 116, 105, 118, 101]]
theorem d0a : Lib.fields [110, 111, 112, 32, 112, 117, 115, 104, 32, 110, 117, 108, 108, 32, 108, 111, 97, 100, 32, 115, 116, 111, 114, 101, 32, 105, 110, 99, 32, 112, 111, 112, 32, 100, 117, 112, 32, 115, 119, 97, 112, 32, 97, 100, 100, 32, 115, 117, 98, 32, 109, 117, 108, 32, 100, 105, 118, 32, 114, 101, 109, 32, 110, 101, 103, 32, 97, 110, 100, 32, 111, 114, 32, 120, 111, 114, 32, 115, 104, 108, 32, 115, 104, 114, 32, 117, 115, 104, 114, 32, 103, 111, 116, 111, 32, 105, 102, 122, 101, 114, 111, 32, 105, 102, 110, 111, 116, 32, 105, 102, 110, 101, 103, 32, 105, 102, 101, 113, 32, 105, 102, 110, 101, 32, 105, 102, 108, 116, 32, 105, 102, 103, 101, 32, 105, 102, 110, 117, 108, 108, 32, 105, 102, 115, 111, 109, 101, 32, 105, 102, 115, 97, 109, 101, 32, 105, 102, 111, 116, 104, 101, 114, 32, 110, 101, 119, 32, 97, 114, 114, 97, 121, 32, 108, 101, 110, 103, 116, 104, 32, 103, 101, 116, 98, 121, 116, 101, 32, 112, 117, 116, 98, 121, 116, 101, 32, 103, 101, 116, 105, 110, 116, 32, 112, 117, 116, 105, 110, 116, 32, 103, 101, 116, 114, 101, 102, 32, 112, 117, 116, 114, 101, 102, 32, 103, 101, 116, 102, 105, 101, 108, 100, 32, 112, 117, 116, 102, 105, 101, 108, 100, 32, 103, 101, 116, 115, 116, 97, 116, 105, 99, 32, 112, 117, 116, 115, 116, 97, 116, 105, 99, 32, 99, 97, 108, 108, 32, 118, 105, 114, 116, 117, 97, 108, 32, 105, 110, 118, 111, 107, 101, 32, 114, 101, 116, 117, 114, 110, 32, 116, 104, 114, 111, 119, 32, 99, 97, 115, 116, 32, 105, 115, 32, 110, 97, 116, 105, 118, 101] = namesL := by kernel_rfl
theorem c4J : ∀ k, (namesL.getD k []).length <= 20 := by
 have h : ∀ l ∈ namesL, l.length <= 20 := by decide
 intro k
 rw [FV]
 cases e : namesL[k]? with
 | none => simp
 | some l => exact h l (Gb e)
def c9b : List UInt8 := [115, 121, 115, 116, 101, 109]
def kindsL : List (List UInt8) := [[98, 121, 116, 101, 115], [105, 110, 116, 115], [114, 101, 102, 115]]
def E7 (f n : Int) : List UInt8 := if f = 5 /\ n = 255 then c9b else if f = 7 then kindsL.getD (n - 2).toNat [] else a1S n
def d9s (f : Int) : UInt8 := if f = 6 ∨ f = 11 then 46 else 32
def N4 (f n : Int) : List UInt8 := if f = 0 then [] else d9s f :: E7 f n
def a6T (op : Int) : List UInt8 := namesL.getD op.toNat []
def a5V (i : In) : List UInt8 := a6T i.op ++ (N4 (fA i.op) i.a ++ (N4 (fB i.op) i.b ++ N4 (fC i.op) i.c))
def L5 : List In -> List UInt8
 | [] => []
 | i :: l => a5V i ++ 10 :: L5 l
def c8v (l : List In) : List UInt8 := if (a3s l).2 = 0 then L5 l else []
def a4E (w : List UInt8) : List (List UInt8) -> Option Nat
 | [] => none
 | x :: l => if x = w then some 0 else (a4E w l).map (· + 1)
def a5z (f : Int) (s : List UInt8) : Int × Bool × Bool :=
 if f = 7 then (if s = [98, 121, 116, 101, 115] then (2, true, true) else if s = [105, 110, 116, 115] then (3, true, true) else if s = [114, 101, 102, 115] then (4, true, true) else (1, false, true))
 else if f = 5 /\ s = c9b then (255, true, true) else if f = 5 /\ (V3 s).1 = 255 then (0, false, false) else V3 s
def R8 (x y z : Int) (ws : List (List UInt8)) : Option (List (List UInt8)) :=
 if x = 0 then (match ws with | [] => some [] | _ :: _ => none)
 else if y = 6 ∨ y = 11 then
  (match ws with
  | w :: r => match Y1 46 w with
    | (a, b, true) => if z = 0 then (match r with | [] => some [a, b] | _ :: _ => none) else (match r with | [c] => some [a, b, c] | _ => none)
    | (_, _, false) => none
  | [] => none)
 else if y = 0 then (match ws with | [w] => some [w] | _ => none)
 else (match ws with | [w, v] => some [w, v] | _ => none)
def a4v : List Int -> List (List UInt8) -> Option (List Int × Bool)
 | _, [] => some ([], true)
 | f :: fs, w :: ws => if (a5z f w).2.1 = true then (match a4v fs ws with | some p => some ((a5z f w).1 :: p.1, (a5z f w).2.2 && p.2) | none => none) else none
 | [], _ :: _ => none
def zI : In := ⟨0, 0, 0, 0⟩
def c6X (k : Int) (ws : List (List UInt8)) : In × Int :=
 match a4v [fA k, fB k, fC k] ws with
 | none => (zI, 30)
 | some (l, fits) => if fits = true then (⟨k, l.getD 0 0, l.getD 1 0, l.getD 2 0⟩, chk ⟨k, l.getD 0 0, l.getD 1 0, l.getD 2 0⟩) else (zI, 2)
def c8U (k : Int) (r : List (List UInt8)) : In × Int :=
 match R8 (fA k) (fB k) (fC k) r with
 | none => (zI, 30)
 | some ws => c6X k ws
def b0X (s : List UInt8) : In × Int :=
 match L4 32 s with
 | [] => (zI, 30)
 | w :: r => match a4E w namesL with
   | none => (zI, 30)
   | some k => c8U k r
def a5x : Nat -> List In -> List UInt8 -> List In × Int
 | 0, _, _ => ([], 0)
 | _ + 1, acc, [] => (acc, 0)
 | t + 1, acc, b :: r => if acc.length = 256 then ([], 3) else
   if (Y1 10 (b :: r)).2.2 = true then (if (b0X (Y1 10 (b :: r)).1).2 = 0 then a5x t (acc ++ [(b0X (Y1 10 (b :: r)).1).1]) (Y1 10 (b :: r)).2.1 else ([], (b0X (Y1 10 (b :: r)).1).2)) else ([], 30)
theorem a5d (c : UInt8) (r : List UInt8) : ∀ w : List UInt8, c ∉ w -> Y1 c (w ++ c :: r) = (w, r, true)
 | [], _ => by
   show (bif c == c then _ else _) = _
   rw [beq_self_eq_true, cond_true]
 | b :: w, h => by
   have hb : (b == c) = false := by
    rw [beq_eq_false_iff_ne]; intro e; subst e; exact h (by simp)
   have ih := a5d c r w (fun m => h (by simp [m]))
   show (bif b == c then _ else _) = _
   rw [hb, cond_false]
   rw [show (w.append (c :: r)) = w ++ c :: r from rfl, ih]
theorem b6E (c : UInt8) : ∀ (s a b : List UInt8), Y1 c s = (a, b, true) -> s = a ++ c :: b
 | [], a, b, h => by cases h
 | x :: s, a, b, h => by
   unfold Y1 at h
   cases hx : x == c with
   | true =>
     rw [hx, cond_true] at h
     injection h with h1 h
     injection h with h2 _
     rw [beq_iff_eq] at hx
     subst h1 h2 hx; rfl
   | false =>
     rw [hx, cond_false] at h
     rcases hc : Y1 c s with ⟨p, q, z⟩
     rw [hc] at h
     injection h with h1 h
     injection h with h2 h3
     subst h1 h2 h3
     rw [b6E c s p q hc]; rfl
theorem Q6 (c : UInt8) (r : List UInt8) : ∀ w : List UInt8, c ∉ w -> L4 c (w ++ c :: r) = w :: L4 c r
 | [], _ => by
   show (bif c == c then _ else _) = _
   rw [beq_self_eq_true, cond_true]
 | b :: w, h => by
   have hb : (b == c) = false := by
    rw [beq_eq_false_iff_ne]; intro e; subst e; exact h (by simp)
   have ih := Q6 c r w (fun m => h (by simp [m]))
   show (bif b == c then _ else _) = _
   rw [hb, cond_false]
   rw [show (w.append (c :: r)) = w ++ c :: r from rfl, ih]
theorem Q4 (c : UInt8) : ∀ w : List UInt8, c ∉ w -> L4 c w = [w]
 | [], _ => rfl
 | b :: w, h => by
   have hb : (b == c) = false := by
    rw [beq_eq_false_iff_ne]; intro e; subst e; exact h (by simp)
   show (bif b == c then _ else _) = _
   rw [hb, cond_false, Q4 c w (fun m => h (by simp [m]))]
theorem d0o (c : UInt8) (s : List UInt8) : L4 c s ≠ [] := by
 cases s with
 | nil => simp [L4]
 | cons b l =>
   unfold L4
   cases b == c with
   | true => simp
   | false =>
     rw [cond_false]
     split <;> simp
def MI (w : List UInt8) : Prop := (32 : UInt8) ∉ w /\ (46 : UInt8) ∉ w /\ (10 : UInt8) ∉ w
instance (w : List UInt8) : Decidable (MI w) := by unfold MI; infer_instance
theorem c2J : ∀ k : Fin 54, MI (a6T (k.val : Int)) := by decide +kernel
theorem c6g (n : Int) : MI (a1S n) := by
 have hd : ∀ b ∈ a1S n, b.toNat = 45 ∨ (48 <= b.toNat /\ b.toNat <= 57) := by
  intro b hb
  by_cases c : n < 0
  . rw [itoa_neg c] at hb
    rcases GH.1 hb with rfl | hb
    . exact Or.inl rfl
    . exact Or.inr (b2M _ _ b hb)
  . rw [c1N c] at hb
    exact Or.inr (b2M _ _ b hb)
 refine ⟨fun h => ?_, fun h => ?_, fun h => ?_⟩
 all_goals
  have := hd _ h
  revert this
  decide
theorem P6 {f n p : Int} (h : oe f n p = 0) : MI (E7 f n) := by
 unfold E7
 split
 . decide
 . split
   . rename_i h7; subst h7
     have := b8I h
     rcases (by omega : n = 2 ∨ n = 3 ∨ n = 4) with rfl | rfl | rfl <;> decide
   . exact c6g n
theorem d8X : V3 c9b = (0, false, false) := by decide +kernel
theorem S5 {f n p : Int} (h : oe f n p = 0) (h0 : f ≠ 0) : a5z f (E7 f n) = (n, true, true) := by
 have hr := c2j h
 have hn := d2r hr.1 hr.2
 unfold E7
 by_cases c5 : f = 5 /\ n = 255
 . obtain ⟨rfl, rfl⟩ := c5
   rw [if_pos ⟨rfl, rfl⟩]
   decide +kernel
 rw [if_neg c5]
 by_cases c7 : f = 7
 . subst c7
   have := b8I h
   rw [if_pos rfl]
   rcases (by omega : n = 2 ∨ n = 3 ∨ n = 4) with rfl | rfl | rfl <;> decide +kernel
 rw [if_neg c7]
 unfold a5z
 rw [if_neg c7, if_neg, if_neg, hn]
 . rw [hn]; exact c5
 . rintro ⟨_, e⟩
   rw [e, d8X] at hn
   cases hn
theorem e0C : ∀ k : Fin 54, a4E (a6T (k.val : Int)) namesL = some k.val := by decide +kernel
theorem c3z (w : List UInt8) : ∀ (l : List (List UInt8)) (k : Nat), a4E w l = some k -> k < l.length /\ l.getD k [] = w
 | [], k, h => by cases h
 | x :: l, k, h => by
   unfold a4E at h
   split at h
   . rename_i e; injection h with h; subst h; exact ⟨by simp, e⟩
   . cases hi : a4E w l with
     | none => rw [hi] at h; cases h
     | some j =>
       rw [hi] at h
       injection h with h
       subst h
       obtain ⟨h1, h2⟩ := c3z w l j hi
       exact ⟨by simp; omega, by simpa using h2⟩
theorem d5K {op : Int} (h0 : 0 <= op) (h1 : op < 54) : a4E (a6T op) namesL = some op.toNat := by
 have := e0C ⟨op.toNat, by omega⟩
 have e : ((op.toNat : Nat) : Int) = op := by omega
 simpa only [e] using this
theorem c3W {op : Int} (h0 : 0 <= op) (h1 : op < 54) : MI (a6T op) := d2C (P := fun op => MI (a6T op)) c2J h0 h1
theorem b2b {x y : Int} (z : Int) {w : List UInt8} (r : List (List UInt8)) {a b : List UInt8} (hx : x ≠ 0) (hy : y = 6 ∨ y = 11) (hc : Y1 46 w = (a, b, true)) :
 R8 x y z (w :: r) = if z = 0 then (match r with | [] => some [a, b] | _ :: _ => none) else (match r with | [c] => some [a, b, c] | _ => none) := by
 unfold R8
 rw [if_neg hx, if_pos hy]
 simp only [hc]
theorem b0r (n : Int) : N4 0 n = [] := rfl
theorem c6I {i : In} (h : chk i = 0) : b0X (a5V i) = (i, 0) /\ (10 : UInt8) ∉ a5V i := by
 obtain ⟨h0, h1⟩ := a6g h
 obtain ⟨ha, hb, hc⟩ := b0F h
 have hn := c3W h0 h1
 have hi := d5K h0 h1
 have hk : ((i.op.toNat : Nat) : Int) = i.op := by omega
 have hf := e0V h0 h1
 unfold b0X a5V
 generalize hx : fA i.op = x at *
 generalize hy : fB i.op = y at *
 generalize hz : fC i.op = z at *
 have fin : ∀ ws l, R8 x y z ws = some l -> ∀ a : List Int, a4v [x, y, z] l = some (a, true) -> a.getD 0 0 = i.a -> a.getD 1 0 = i.b -> a.getD 2 0 = i.c -> c8U i.op ws = (i, 0) := by
  intro ws l e1 a e2 e3 e4 e5
  unfold c8U c6X
  rw [hx, hy, hz, e1]
  simp only [e2, if_true, e3, e4, e5]
  show (i, chk i) = _
  rw [h]
 rcases hf with ⟨rfl, rfl, _, _, n5, n6, n10, n11⟩ | ⟨rfl, rfl, rfl⟩ | ⟨rfl, rfl, hz'⟩ | ⟨rfl, rfl, rfl⟩
 . have eb := a4m hb
   have ec := a4m hc
   rw [b0r, b0r]
   by_cases x0 : x = 0
   . subst x0
     have ea := a4m ha
     rw [b0r]
     simp only [HY]
     refine ⟨?_, hn.2.2⟩
     rw [Q4 32 _ hn.1]
     simp only [hi, hk]
     exact fin [] [] rfl [] rfl ea.symm eb.symm ec.symm
   . have hw := P6 ha
     have e : N4 x i.a = 32 :: E7 x i.a := by
      unfold N4 d9s
      rw [if_neg x0, if_neg (by omega)]
     rw [e]
     simp only [HY]
     refine ⟨?_, ?_⟩
     . rw [Q6 32 _ _ hn.1, Q4 32 _ hw.1]
       simp only [hi, hk]
       refine fin [E7 x i.a] [E7 x i.a] ?_ [i.a] ?_ rfl eb.symm ec.symm
       . unfold R8
         rw [if_neg x0, if_neg (by omega), if_pos rfl]
       . unfold a4v
         rw [S5 ha x0]; rfl
     . simp only [Hc, GH, not_or]
       exact ⟨hn.2.2, by decide, hw.2.2⟩
 . have ec := a4m hc
   have hw := P6 ha
   have hv := P6 hb
   rw [b0r, show N4 2 i.a = 32 :: E7 2 i.a from rfl, show N4 3 i.b = 32 :: E7 3 i.b from rfl]
   simp only [HY, Gw]
   refine ⟨?_, ?_⟩
   . rw [Q6 32 _ _ hn.1, Q6 32 _ _ hw.1, Q4 32 _ hv.1]
     simp only [hi, hk]
     refine fin [E7 2 i.a, E7 3 i.b] [E7 2 i.a, E7 3 i.b] rfl [i.a, i.b] ?_ rfl rfl ec.symm
     simp only [a4v, S5 ha (by decide), S5 hb (by decide)]; rfl
   . simp only [Hc, GH, not_or]
     exact ⟨hn.2.2, by decide, hw.2.2, by decide, hv.2.2⟩
 . have hw := P6 ha
   have hv := P6 hb
   have hu := P6 hc
   have hwv : (32 : UInt8) ∉ E7 5 i.a ++ 46 :: E7 6 i.b := by
    simp only [Hc, GH, not_or]
    exact ⟨hw.1, by decide, hv.1⟩
   rw [show N4 5 i.a = 32 :: E7 5 i.a from rfl, show N4 6 i.b = 46 :: E7 6 i.b from rfl]
   by_cases z0 : z = 0
   . subst z0
     have ec := a4m hc
     rw [b0r]
     simp only [HY, Gw]
     refine ⟨?_, ?_⟩
     . rw [Q6 32 _ _ hn.1, Q4 32 _ hwv]
       simp only [hi, hk]
       refine fin [E7 5 i.a ++ 46 :: E7 6 i.b] [E7 5 i.a, E7 6 i.b] ?_ [i.a, i.b] ?_ rfl rfl ec.symm
       . rw [b2b _ _ (by decide) (by decide) (a5d 46 _ _ hw.2.1), if_pos rfl]
       . simp only [a4v, S5 ha (by decide), S5 hb (by decide)]; rfl
     . simp only [Hc, GH, not_or]
       exact ⟨hn.2.2, by decide, hw.2.2, by decide, hv.2.2⟩
   . have e : N4 z i.c = 32 :: E7 z i.c := by
      unfold N4 d9s
      rw [if_neg z0, if_neg (by omega)]
     rw [e]
     simp only [Gw]
     have e' : E7 5 i.a ++ 46 :: (E7 6 i.b ++ 32 :: E7 z i.c) = (E7 5 i.a ++ 46 :: E7 6 i.b) ++ 32 :: E7 z i.c := by simp
     rw [e']
     refine ⟨?_, ?_⟩
     . rw [Q6 32 _ _ hn.1, Q6 32 _ _ hwv, Q4 32 _ hu.1]
       simp only [hi, hk]
       refine fin [E7 5 i.a ++ 46 :: E7 6 i.b, E7 z i.c] [E7 5 i.a, E7 6 i.b, E7 z i.c] ?_ [i.a, i.b, i.c] ?_ rfl rfl rfl
       . rw [b2b _ _ (by decide) (by decide) (a5d 46 _ _ hw.2.1), if_neg z0]
       . simp only [a4v, S5 ha (by decide), S5 hb (by decide), S5 hc z0]; rfl
     . simp only [Hc, GH, not_or]
       exact ⟨hn.2.2, by decide, ⟨hw.2.2, by decide, hv.2.2⟩, by decide, hu.2.2⟩
 . have ec := a4m hc
   have hw := P6 ha
   have hv := P6 hb
   have hwv : (32 : UInt8) ∉ E7 10 i.a ++ 46 :: E7 11 i.b := by
    simp only [Hc, GH, not_or]
    exact ⟨hw.1, by decide, hv.1⟩
   rw [b0r, show N4 10 i.a = 32 :: E7 10 i.a from rfl, show N4 11 i.b = 46 :: E7 11 i.b from rfl]
   simp only [HY, Gw]
   refine ⟨?_, ?_⟩
   . rw [Q6 32 _ _ hn.1, Q4 32 _ hwv]
     simp only [hi, hk]
     refine fin [E7 10 i.a ++ 46 :: E7 11 i.b] [E7 10 i.a, E7 11 i.b] ?_ [i.a, i.b] ?_ rfl rfl ec.symm
     . rw [b2b _ _ (by decide) (by decide) (a5d 46 _ _ hw.2.1), if_pos rfl]
     . simp only [a4v, S5 ha (by decide), S5 hb (by decide)]; rfl
   . simp only [Hc, GH, not_or]
     exact ⟨hn.2.2, by decide, hw.2.2, by decide, hv.2.2⟩
theorem b3O : ∀ (l acc : List In) (t : Nat), l.length < t -> acc.length + l.length <= 256 -> M7 l = 0 -> a5x t acc (L5 l) = (acc ++ l, 0)
 | [], acc, t + 1, _, _, _ => by simp [L5, a5x]
 | i :: l, acc, t + 1, ht, hl, h => by
   obtain ⟨h1, h2⟩ := a5W h
   simp only [FO] at ht hl
   obtain ⟨p1, p2⟩ := c6I h1
   have ih := b3O l (acc ++ [i]) t (by omega) (by simp; omega) h2
   have hc := a5d 10 (L5 l) (a5V i) p2
   have e : L5 (i :: l) = a5V i ++ 10 :: L5 l := rfl
   rw [← e] at hc
   cases hb : L5 (i :: l) with
   | nil =>
     rw [hb] at hc
     have := congrArg (fun q => q.2.2) hc
     cases this
   | cons b r =>
     rw [hb] at hc
     unfold a5x
     rw [hc, if_neg (by omega), if_pos rfl, p1, if_pos rfl]
     simpa using ih
end En
namespace En
open Go
section
variable {R α β γ δ : Type}
theorem b0h (x y : Option R) : br true x y = x := id rfl
theorem c0m (x y : Option R) : br false x y = y := id rfl
theorem j5 (p : Prop) [Decidable p] (x y : Option R) : br (decide p) x y = if p then x else y := by
 by_cases h : p <;> simp [br, h]
theorem L9 (c : Bool) (x y : Option R) : br (!c) x y = br c y x := by cases c <;> rfl
theorem a0D (a b : Bool) (x y : Option R) : br (a && b) x y = br a (br b x y) y := by cases a <;> rfl
theorem b0R (a b : Bool) (x y : Option R) : br (a || b) x y = br a x (br b x y) := by cases a <;> rfl
theorem j4 (a : α) (K : α -> Option R) : j3 (some a) K = K a := id rfl
theorem o7 (a : α) (b : β) (K : α -> β -> Option R) : s7 (some (a, b)) K = K a b := id rfl
theorem K4 (a : α) (b : β) (c : γ) (K : α -> β -> γ -> Option R) : T4 (some (a, b, c)) K = K a b c := id rfl
theorem R2 (a : α) (b : β) (c : γ) (d : δ) (K : α -> β -> γ -> δ -> Option R) : c5B (some (a, b, c, d)) K = K a b c d := id rfl
theorem a0r {a1 a2 a3 a4 a5 a6 a7 a8 a9 a10 : Type} (a : a1) (b : a2) (c : a3) (d : a4) (e : a5) (f : a6) (g : a7) (h : a8) (i : a9) (j : a10) (K : a1 -> a2 -> a3 -> a4 -> a5 -> a6 -> a7 -> a8 -> a9 -> a10 -> Option R) : e1p (some (a, b, c, d, e, f, g, h, i, j)) K = K a b c d e f g h i j := id rfl
theorem a0o {ε : Type} (a : α) (b : β) (c : γ) (d : δ) (e : ε) (K : α -> β -> γ -> δ -> ε -> Option R) : e0r (some (a, b, c, d, e)) K = K a b c d e := id rfl
theorem e0R {xs : List α} {i : Nat} {x : α} (h : xs[i]? = some x) (K : α -> Option R) : at? xs i K = K x := by simp [at?, h]
theorem M5 (x : α) (r : List α) (K : α -> Option R) : at? (x :: r) 0 K = K x := id rfl
theorem P5 (x : α) (r : List α) (i : Nat) (K : α -> Option R) : at? (x :: r) (i + 1) K = at? r i K := by simp [at?]
theorem a5U (pre : List α) (x : α) (suf : List α) (K : α -> Option R) : at? (pre ++ x :: suf) pre.length K = K x := e0R (by simp) K
theorem p5 (k : IntKind) (n : Int) (K : Int -> Option R) : V.unInt k (.int k n) K = K n := by simp [V.unInt]
theorem o8 (b : Bool) (K : Bool -> Option R) : V.unBool (.bool b) K = K b := id rfl
theorem Q3 (s : List UInt8) (K : List UInt8 -> Option R) : V.unStr (.str s) K = K s := id rfl
theorem o6 (s : List UInt8) (K : List UInt8 -> Option R) : V.unBytes (.bytes s) K = K s := id rfl
theorem A8 (e : TypeId) (s : List V) (K : List V -> Option R) : V.unSl e (.sl e s) K = K s := by simp [V.unSl]
theorem p8 (s : List V) (K : List V -> Option R) : V.unAgg (.agg s) K = K s := id rfl
theorem o9 (x : V) (r : List V) (K : V -> List V -> Option R) : e9 (x :: r) K = K x r := id rfl
theorem p7 (K : Option R) : D2 [] K = K := id rfl
end
theorem w64 {n : Int} (h1 : -9223372036854775808 <= n) (h2 : n <= 9223372036854775807) : FK.wrap n = n := by
 rw [Ho]; omega
theorem d5h (u : UInt8) : FK.wrap (u.toNat : Int) = u.toNat := by
 have := u.toNat_lt; exact w64 (by omega) (by omega)
theorem wu8 (n : Int) : FY.wrap n = n % 256 := Mr n
theorem b4l (a b : Int) (h : 0 < b) : a.fdiv b = a / b := by rw [Int.fdiv_eq_ediv_of_nonneg _ (by omega)]
theorem e5G (a : Int) : G8 .i64 a 8 = a / 256 := by
 show a.fdiv (2 ^ (min (8 : Int).toNat 64)) = _
 exact b4l a 256 (by omega)
end En
namespace En
open Go
section
variable (N : Nat) {R : Type}
theorem c4Z : ∀ k : Fin 54, V7 0 (k.val : Int) = some (fA (k.val : Int), fB (k.val : Int), fC (k.val : Int)) := by decide +kernel
theorem a3u {op : Int} (h0 : 0 <= op) (h1 : op < 54) : V7 N op = some (fA op, fB op, fC op) :=
 d2C (P := fun op => V7 0 op = some (fA op, fB op, fC op)) c4Z h0 h1
theorem d1r (f p : Int) : N2 N f p = some (lim f p) := by
 unfold N2 lim
 simp only [j5, apply_ite some]
theorem e2K {f n p : Int} (h0 : f ≠ 0) (a : n < (lim f p).1 ∨ (lim f p).2 < n) (c : ¬ (f = 5 /\ n = 255)) : oe f n p = 2 := by
 unfold oe; rw [if_neg h0, if_pos ⟨a, c⟩]
theorem c7n {f n p : Int} (h0 : f ≠ 0) (h : ¬ ((n < (lim f p).1 ∨ (lim f p).2 < n) /\ ¬ (f = 5 /\ n = 255))) : oe f n p = 0 := by
 unfold oe; rw [if_neg h0, if_neg h]
noncomputable def stO (f n p : Int) (K0 : Int -> Option R) (L : Option R) : Option R :=
 br (decide (f = 0)) (br (!decide (n = 0)) (K0 4) L) (s7 (N2 N f p) fun lo hi =>
  br (decide (n < lo)) (br (decide (f = 5)) (br (!decide (n = 255)) (K0 2) L) (K0 2)) (br (decide (hi < n)) (br (decide (f = 5)) (br (!decide (n = 255)) (K0 2) L) (K0 2)) L))
theorem c4U (f n p : Int) (K0 : Int -> Option R) (L : Option R) : stO N f n p K0 L = if oe f n p = 0 then L else K0 (oe f n p) := by
 unfold stO
 rw [d1r]
 simp only [j5, L9]
 by_cases c0 : f = 0
 . subst c0
   rw [if_pos rfl]
   unfold oe
   rw [if_pos rfl]
   by_cases c : n = 0
   . rw [if_pos c, if_pos c, if_pos rfl]
   . rw [if_neg c, if_neg c, if_neg (by decide)]
 rw [if_neg c0]
 show (if n < (lim f p).1 then (if f = 5 then (if n = 255 then L else K0 2) else K0 2) else if (lim f p).2 < n then (if f = 5 then (if n = 255 then L else K0 2) else K0 2) else L) = _
 by_cases a : n < (lim f p).1 ∨ (lim f p).2 < n
 . have e : (if n < (lim f p).1 then (if f = 5 then (if n = 255 then L else K0 2) else K0 2) else if (lim f p).2 < n then (if f = 5 then (if n = 255 then L else K0 2) else K0 2) else L) = (if f = 5 then (if n = 255 then L else K0 2) else K0 2) := by
    by_cases a1 : n < (lim f p).1
    . rw [if_pos a1]
    . rw [if_neg a1, if_pos (a.resolve_left a1)]
   rw [e]
   by_cases c : f = 5 /\ n = 255
   . rw [if_pos c.1, if_pos c.2, c7n c0 (fun h => h.2 c), if_pos rfl]
   . rw [e2K c0 a c, if_neg (show ¬ (2 : Int) = 0 by decide)]
     by_cases c1 : f = 5
     . rw [if_pos c1, if_neg (fun h => c ⟨c1, h⟩)]
     . rw [if_neg c1]
 . rw [if_neg (fun h => a (Or.inl h)), if_neg (fun h => a (Or.inr h)), c7n c0 (fun h => a h.1), if_pos rfl]
theorem a6l (hN : 10 < N) (i : In) : O7 N i.op i.a i.b i.c = some (chk i) := by
 obtain ⟨t, ht⟩ : ∃ t, N = t + 4 := ⟨N - 4, by omega⟩
 unfold O7 chk
 simp only [j5]
 by_cases h0 : i.op < 0
 . rw [if_pos h0, if_pos h0]
 rw [if_neg h0, if_neg h0]
 by_cases h1 : 54 <= i.op
 . rw [if_pos h1, if_pos h1]
 rw [if_neg h1, if_neg h1, a3u N (by omega) (by omega)]
 show I3 N (fA i.op) (fB i.op) (fC i.op) i.op i.a i.b i.c i.a i.b i.c N 0 (fun n6 => some n6) (some 0) = _
 have e3 : ∀ u, I3 N (fA i.op) (fB i.op) (fC i.op) i.op i.a i.b i.c i.a i.b i.c (u + 1) 3 (fun n6 => some n6) (some 0) = some 0 := fun u => id rfl
 have e2 : ∀ u, I3 N (fA i.op) (fB i.op) (fC i.op) i.op i.a i.b i.c i.a i.b i.c (u + 1) 2 (fun n6 => some n6) (some 0) = stO N (fC i.op) i.c i.a (fun n6 => some n6) (I3 N (fA i.op) (fB i.op) (fC i.op) i.op i.a i.b i.c i.a i.b i.c u 3 (fun n6 => some n6) (some 0)) := fun u => id rfl
 have e1 : ∀ u, I3 N (fA i.op) (fB i.op) (fC i.op) i.op i.a i.b i.c i.a i.b i.c (u + 1) 1 (fun n6 => some n6) (some 0) = stO N (fB i.op) i.b i.a (fun n6 => some n6) (I3 N (fA i.op) (fB i.op) (fC i.op) i.op i.a i.b i.c i.a i.b i.c u 2 (fun n6 => some n6) (some 0)) := fun u => id rfl
 have e0 : ∀ u, I3 N (fA i.op) (fB i.op) (fC i.op) i.op i.a i.b i.c i.a i.b i.c (u + 1) 0 (fun n6 => some n6) (some 0) = stO N (fA i.op) i.a i.a (fun n6 => some n6) (I3 N (fA i.op) (fB i.op) (fC i.op) i.op i.a i.b i.c i.a i.b i.c u 1 (fun n6 => some n6) (some 0)) := fun u => id rfl
 have key : ∀ u, I3 N (fA i.op) (fB i.op) (fC i.op) i.op i.a i.b i.c i.a i.b i.c (u + 4) 0 (fun n6 => some n6) (some 0) = some (if oe (fA i.op) i.a i.a = 0 then (if oe (fB i.op) i.b i.a = 0 then oe (fC i.op) i.c i.a else oe (fB i.op) i.b i.a) else oe (fA i.op) i.a i.a) := by
  intro u
  rw [e0, e1, e2, e3, c4U, c4U, c4U]
  by_cases a : oe (fA i.op) i.a i.a = 0
  . rw [if_pos a, if_pos a]
    by_cases b : oe (fB i.op) i.b i.a = 0
    . rw [if_pos b, if_pos b]
      by_cases c : oe (fC i.op) i.c i.a = 0
      . rw [if_pos c, c]
      . rw [if_neg c]
    . rw [if_neg b, if_neg b]
  . rw [if_neg a, if_neg a]
 have := key t
 rw [← ht] at this
 exact this
end
end En
namespace En
open Go
def iV (i : In) : V := .agg [.int .i64 i.op, .int .i64 i.a, .int .i64 i.b, .int .i64 i.c]
def iE : List In -> List V
 | [] => []
 | i :: l => iV i :: iE l
theorem a4f : ∀ l : List In, (iE l).length = l.length
 | [] => rfl
 | r :: l => by simp [iE, a4f l]
theorem b6f : ∀ a b : List In, iE (a ++ b) = iE a ++ iE b
 | [], b => rfl
 | r :: a, b => by simp [iE, b6f a b]
theorem e2Y (pre : List V) (x : V) (suf : List V) : pre ++ x :: suf = (pre ++ [x]) ++ suf := by simp
theorem d2Q (pre : List V) (x : V) (suf : List V) (h : pre.length + (suf.length + 1) <= 9223372036854775807) :
 (pre.length : Int) < ((pre ++ x :: suf).length : Int) /\ (0 : Int) <= pre.length /\ FK.wrap ((pre.length : Int) + 1) = ((pre ++ [x]).length : Int) := by
 refine ⟨by simp; omega, by omega, ?_⟩
 rw [w64 (by omega) (by omega)]; simp
theorem e6q (pre : List V) : ¬ ((pre.length : Int) < ((pre ++ ([] : List V)).length : Int)) := by simp
theorem e4t (a : Int) : G8 .i64 a 16 = a / 65536 := by
 show a.fdiv (2 ^ (min (16 : Int).toNat 64)) = _
 exact b4l a 65536 (by omega)
theorem e3V (a : Int) : G8 .i64 a 24 = a / 16777216 := by
 show a.fdiv (2 ^ (min (24 : Int).toNat 64)) = _
 exact b4l a 16777216 (by omega)
theorem d7I (n : Int) : FL.wrap n = n % 4294967296 := Ma n
theorem b0C (n : Int) : FR (n % 256).toNat = C5 n := id rfl
section
variable (N : Nat) {R : Type}
noncomputable def stE (f n : Int) (l0 : List UInt8) (L : List UInt8 -> Option R) : Option R :=
 br (decide (f = 0)) (L l0) (br (decide (f = 1))
  (br (decide ((l0.length + [FR (FY.wrap (G8 FK n 24)).toNat, FR (FY.wrap (G8 FK n 16)).toNat, FR (FY.wrap (G8 FK n 8)).toNat, FR (FY.wrap n).toNat].length) * 1 <= 140737488355328))
   (L (l0 ++ [FR (FY.wrap (G8 FK n 24)).toNat, FR (FY.wrap (G8 FK n 16)).toNat, FR (FY.wrap (G8 FK n 8)).toNat, FR (FY.wrap n).toNat])) none)
  (br (decide ((l0.length + [FR (FY.wrap n).toNat].length) * 1 <= 140737488355328)) (L (l0 ++ [FR (FY.wrap n).toNat])) none))
theorem c5g (f n : Int) (l0 : List UInt8) (L : List UInt8 -> Option R) (h : l0.length <= 1000000) : stE f n l0 L = L (l0 ++ R1 f n) := by
 unfold stE R1
 simp only [j5, wu8, e5G, e4t, e3V, b0C]
 by_cases c0 : f = 0
 . rw [if_pos c0, if_pos c0, HY]
 rw [if_neg c0, if_neg c0]
 by_cases c1 : f = 1
 . rw [if_pos c1, if_pos c1, if_pos (by simp; omega)]
 . rw [if_neg c1, if_neg c1, if_pos (by simp; omega)]
theorem a8Y (f n : Int) : (R1 f n).length <= 4 := by
 rw [a5v]; unfold wid
 split
 . omega
 . split <;> omega
theorem d7R (vs1 : List V) (n2 n3 f g h m1 m2 m3 m4 a b c : Int) (l0 : List UInt8) (K0 : List UInt8 -> List V -> Int -> Int -> Int -> Int -> Int -> Int -> Int -> Int -> Int -> Option R) (hl : l0.length <= 900000) :
 P1 N K0 l0 vs1 n2 n3 f g h m1 m2 m3 m4 a b c = K0 (l0 ++ (R1 f a ++ (R1 g b ++ R1 h c))) vs1 n2 n3 m1 m2 m3 m4 a b c := by
 have e3 : ∀ l, O8 N K0 l vs1 n2 n3 f g h m1 m2 m3 m4 a b c = K0 l vs1 n2 n3 m1 m2 m3 m4 a b c := fun l => id rfl
 have e2 : ∀ l, O6 N K0 l vs1 n2 n3 f g h m1 m2 m3 m4 a b c = stE h c l fun l => O8 N K0 l vs1 n2 n3 f g h m1 m2 m3 m4 a b c := fun l => id rfl
 have e1 : ∀ l, P0 N K0 l vs1 n2 n3 f g h m1 m2 m3 m4 a b c = stE g b l fun l => O6 N K0 l vs1 n2 n3 f g h m1 m2 m3 m4 a b c := fun l => id rfl
 have e0 : ∀ l, P1 N K0 l vs1 n2 n3 f g h m1 m2 m3 m4 a b c = stE f a l fun l => P0 N K0 l vs1 n2 n3 f g h m1 m2 m3 m4 a b c := fun l => id rfl
 have hf := a8Y f a
 have hg := a8Y g b
 rw [e0, c5g _ _ _ _ (by omega), e1, c5g _ _ _ _ (by simp; omega), e2, c5g _ _ _ _ (by simp; omega), e3]
 simp only [Gr]
theorem c7m (i : In) : (b5S i).length <= 13 := by
 have h1 := a8Y (fA i.op) i.a
 have h2 := a8Y (fB i.op) i.b
 have h3 := a8Y (fC i.op) i.c
 unfold b5S; simp; omega
theorem a9F : ∀ l : List In, (N3 l).length <= 13 * l.length
 | [] => by simp [N3]
 | i :: l => by
   have := c7m i
   have := a9F l
   simp [N3]; omega
theorem b7p (hN : 10 < N) : ∀ (l : List In) (pre : List V) (t : Nat) (out : List UInt8), l.length < t -> pre.length + l.length <= 60000 -> out.length + 13 * l.length <= 800000 ->
 P7 N t out (pre ++ iE l) ((pre ++ iE l).length : Int) (pre.length : Int) (fun l0 n1 l2 => some (l0, n1)) (fun l3 => some (l3, 0)) = some (if M7 l = 0 then (out ++ N3 l, (0 : Int)) else ([], M7 l))
 | l, pre, 0, out, ht, _, _ => by omega
 | [], pre, t + 1, out, ht, _, _ => by
   unfold P7 a0q
   simp only [iE, b0h, c0m, j5, L9, a0D, b0R, j4, o7, K4, R2, a0o, a0r, M5, P5, a5U, p5, o8, Q3, o6, A8, p8, o9, p7, e6q, if_false, M7, if_true, N3, HY]
   simp
 | i :: l, pre, t + 1, out, ht, hl, ho => by
   simp only [FO] at ht hl ho
   obtain ⟨h1, h2, h3⟩ := d2Q pre (iV i) (iE l) (by rw [a4f]; omega)
   have hb := c7m i
   have ih := b7p hN l (pre ++ [iV i]) t (out ++ b5S i) (by omega) (by simp; omega) (by simp; omega)
   rw [← e2Y, ← h3] at ih
   unfold P7 a0q
   simp only [iE, b0h, c0m, j5, L9, a0D, b0R, j4, o7, K4, R2, a0o, a0r, M5, P5, a5U, p5, o8, Q3, o6, A8, p8, o9, p7, h1, h2, if_true, GE]
   show V.unAgg (iV i) _ = _
   unfold iV
   simp only [b0h, c0m, j5, L9, a0D, b0R, j4, o7, K4, R2, a0o, a0r, M5, P5, a5U, p5, o8, Q3, o6, A8, p8, o9, p7, a6l N hN i]
   by_cases c : chk i = 0
   . obtain ⟨r0, r1⟩ := a6g c
     rw [if_pos c, if_pos (by simp; omega), a3u N r0 r1]
     unfold a0e
     simp only [K4]
     rw [d7R N _ _ _ _ _ _ _ _ _ _ _ _ _ _ _ (by simp; omega)]
     have e : out ++ [FR (FY.wrap i.op).toNat] ++ (R1 (fA i.op) i.a ++ (R1 (fB i.op) i.b ++ R1 (fC i.op) i.c)) = out ++ b5S i := by
      rw [wu8, b0C]; unfold b5S; simp
     rw [e]
     unfold iV at ih
     rw [ih]
     simp only [M7, c, if_true, N3, Gr]
   . rw [if_neg c]
     simp only [M7, c, if_false]
theorem b2o (hN : 10 < N) (l : List In) (hl : l.length < N) (h2 : l.length <= 50000) : a2y N (iE l) = some (a3s l) := by
 unfold a2y a3s
 rw [j5, a4f]
 by_cases c : 256 < l.length
 . rw [if_pos (by omega), if_pos c]
 rw [if_neg (by omega), if_neg c]
 have := b7p N hN l [] N [] hl (by simpa using by omega) (by simpa using by omega)
 rw [It, a4f] at this
 rw [show ((([] : List V).length : Nat) : Int) = 0 by rfl] at this
 rw [this]
 simp
end
end En
namespace En
open Go
theorem a6V (a : Int) : (GT FL.bits a).toNat = (a % 4294967296).toNat := by
 rw [IS]; rfl
theorem c6G (k q y : Nat) (hy : y < 2 ^ k) (h : q * 2 ^ k + y < 4294967296) : j9 .or .u32 ((q * 2 ^ k : Nat) : Int) (y : Int) = ((q * 2 ^ k + y : Nat) : Int) := by
 show FL.wrap ((GT FL.bits ((q * 2 ^ k : Nat) : Int) ||| GT FL.bits (y : Int)).toNat : Int) = _
 have e1 : (GT FL.bits ((q * 2 ^ k : Nat) : Int)).toNat = q <<< k := by
  rw [a6V, Mb]; omega
 have e2 : (GT FL.bits (y : Int)).toNat = y := by rw [a6V]; omega
 rw [KU, e1, e2, ← Nat.shiftLeft_add_eq_or_of_lt hy, Mb, d7I]
 omega
theorem b9t (a : Nat) (k : Int) (m : Nat) (hk : 2 ^ (min k.toNat 32) = m) (h : a * m < 4294967296) : a0u .u32 (FL.wrap (a : Int)) k = ((a * m : Nat) : Int) := by
 subst hk
 show FL.wrap (FL.wrap (a : Int) * 2 ^ (min k.toNat 32)) = _
 have hp : 0 < 2 ^ (min k.toNat 32) := Nat.pos_of_ne_zero (by simp)
 have ha : a < 4294967296 := by
  have := Nat.le_mul_of_pos_right a hp
  omega
 rw [d7I (a : Int), Int.emod_eq_of_lt (by omega) (by omega)]
 have e : ((a : Int) * 2 ^ (min k.toNat 32)) = ((a * 2 ^ (min k.toNat 32) : Nat) : Int) := by push_cast; rfl
 rw [e, d7I]
 omega
def four (w x y z : UInt8) : Int :=
 FK.wrap (IntKind.i32.wrap (j9 Iz FL (j9 Iz FL (j9 Iz FL (a0u FL (FL.wrap (w.toNat : Int)) 24) (a0u FL (FL.wrap (x.toNat : Int)) 16))
  (a0u FL (FL.wrap (y.toNat : Int)) 8)) (FL.wrap (z.toNat : Int))))
theorem d8Z (w x y z : UInt8) : four w x y z = s32 (16777216 * w.toNat + 65536 * x.toNat + 256 * y.toNat + z.toNat) := by
 have h1 := w.toNat_lt
 have h2 := x.toNat_lt
 have h3 := y.toNat_lt
 have h4 := z.toNat_lt
 unfold four
 rw [b9t w.toNat 24 16777216 (by decide) (by omega), b9t x.toNat 16 65536 (by decide) (by omega), b9t y.toNat 8 256 (by decide) (by omega)]
 have o1 := c6G 24 w.toNat (x.toNat * 65536) (by omega) (by omega)
 rw [show w.toNat * 16777216 = w.toNat * 2 ^ 24 by rfl, o1]
 have o2 := c6G 16 (w.toNat * 256 + x.toNat) (y.toNat * 256) (by omega) (by omega)
 rw [show w.toNat * 2 ^ 24 + x.toNat * 65536 = (w.toNat * 256 + x.toNat) * 2 ^ 16 by omega, o2]
 have e : FL.wrap (z.toNat : Int) = (z.toNat : Int) := by rw [d7I]; omega
 rw [e]
 have o3 := c6G 8 (w.toNat * 65536 + x.toNat * 256 + y.toNat) z.toNat (by omega) (by omega)
 rw [show (w.toNat * 256 + x.toNat) * 2 ^ 16 + y.toNat * 256 = (w.toNat * 65536 + x.toNat * 256 + y.toNat) * 2 ^ 8 by omega, o3]
 rw [IntKind.wrap_i32]
 unfold s32
 split
 . rw [w64 (by omega) (by omega)]; omega
 . rw [w64 (by omega) (by omega)]; omega
theorem wi8 (n : Int) : KO.wrap n = (n + 128) % 256 - 128 := by
 have : KO.bits = 8 := rfl
 simp only [IntKind.wrap, IntKind.signed, this]
 simp
 split <;> omega
theorem e5H (u : UInt8) : FK.wrap (KO.wrap (u.toNat : Int)) = s8 u.toNat := by
 have h := u.toNat_lt
 rw [wi8]
 unfold s8
 split
 . rw [w64 (by omega) (by omega)]; omega
 . rw [w64 (by omega) (by omega)]; omega
section
variable (N : Nat) {R : Type}
theorem c6K {f : Int} (hf : f ≠ 0) (l : List UInt8) : Y8 N f l = some (if l.length < wid f then (0, 0) else (a1m f l, (wid f : Int))) := by
 unfold Y8
 simp only [j5]
 by_cases c1 : f = 1
 . subst c1
   rw [if_pos rfl, if_pos rfl]
   match l with
   | [] => rfl
   | [_] => rfl
   | [_, _] => rfl
   | [_, _, _] => rfl
   | w :: x :: y :: z :: r =>
     rw [if_pos (by simp <;> omega), if_pos (by simp <;> omega), M5, if_pos (by simp <;> omega), P5, M5, if_pos (by simp <;> omega), P5, P5, M5, if_pos (by simp <;> omega), P5, P5, P5, M5]
     have e : ¬ ((w :: x :: y :: z :: r).length < wid 1) := by show ¬ (_ < 4); simp
     have hv : a1m 1 (w :: x :: y :: z :: r) = s32 (16777216 * w.toNat + 65536 * x.toNat + 256 * y.toNat + z.toNat) := by unfold a1m; rw [if_neg (by decide), if_pos rfl]
     rw [if_neg e, hv, ← d8Z]; rfl
 . rw [if_neg c1, if_neg c1]
   have hw : wid f = 1 := by unfold wid; rw [if_neg hf, if_neg c1]
   rw [hw]
   match l with
   | [] => rfl
   | b :: r =>
     have hv : a1m f (b :: r) = if f = 3 then s8 b.toNat else b.toNat := by unfold a1m; rw [if_neg hf, if_neg c1]
     have e1 : ¬ ((b :: r).length < 1) := by simp
     have e2 : ¬ (((b :: r).length : Int) = 0) := by simp <;> omega
     rw [if_neg e1, if_neg e2, hv]
     by_cases c3 : f = 3
     . rw [if_pos c3, if_pos c3, if_pos (by simp <;> omega), M5, e5H]; rfl
     . rw [if_neg c3, if_neg c3, if_pos (by simp <;> omega), M5, d5h]; rfl
noncomputable def stI (f : Int) (l : List UInt8) (F : Option R) (L : List UInt8 -> Int -> Option R) : Option R :=
 br (decide (f = 0)) (L l 0) (s7 (Y8 N f l) fun x n => br (decide (n = 0)) F (br (decide (0 <= n) && decide (n <= (l.length : Int))) (L (l.drop n.toNat) x) none))
theorem c6p (f : Int) (l : List UInt8) (F : Option R) (L : List UInt8 -> Int -> Option R) : stI N f l F L = if l.length < wid f then F else L (l.drop (wid f)) (a1m f l) := by
 unfold stI
 rw [j5]
 by_cases c0 : f = 0
 . subst c0
   rw [if_pos rfl]
   show _ = if l.length < 0 then F else L (l.drop 0) 0
   rw [if_neg (by omega), List.drop_zero]
 rw [if_neg c0, c6K N c0]
 by_cases c : l.length < wid f
 . rw [if_pos c, if_pos c]; rfl
 . rw [if_neg c, if_neg c]
   have : 0 < wid f := by unfold wid; rw [if_neg c0]; split <;> omega
   simp only [b0h, c0m, j5, L9, a0D, b0R, j4, o7, K4, R2, a0o, a0r, M5, P5, a5U, p5, o8, Q3, o6, A8, p8, o9, p7]
   rw [if_neg (by omega), if_pos (by omega), if_pos (by omega), GE]
def e2X (p : In × List UInt8 × Int) : Int × Int × Int × Int × List UInt8 × Int := (p.1.op, p.1.a, p.1.b, p.1.c, p.2.1, p.2.2)
theorem b2t (hN : 10 < N) (b : UInt8) (r : List UInt8) : a0i N (b :: r) = some (e2X (a9s (b :: r))) := by
 obtain ⟨t, ht⟩ : ∃ t, N = t + 4 := ⟨N - 4, by omega⟩
 unfold a0i
 rw [j5, if_pos (by simp <;> omega), M5, d5h, j5]
 by_cases c : 54 <= b.toNat
 . rw [if_pos (by omega)]
   unfold a9s
   simp only
   rw [if_pos c]; rfl
 rw [if_neg (by omega), j5, if_pos (by simp <;> omega), a3u N (by omega) (by omega), K4]
 unfold a9s
 simp only
 rw [if_neg c]
 generalize hx : fA (b.toNat : Int) = x
 generalize hy : fB (b.toNat : Int) = y
 generalize hz : fC (b.toNat : Int) = z
 show D0 N b.toNat x y z 0 0 0 0 N r 0 0 0 0 _ _ = _
 generalize hK0 : (fun l4 l5 n6 n7 n8 n9 n10 n11 n12 n13 => some (n7, n8, n9, n10, l5, n6) : List UInt8 -> List UInt8 -> Int -> Int -> Int -> Int -> Int -> Int -> Int -> Int -> Option (Int × Int × Int × Int × List UInt8 × Int)) = K0
 generalize hK1 : (fun l14 n15 n16 n17 => j3 (O7 N (b.toNat : Int) n15 n16 n17) fun n18 => some ((b.toNat : Int), n15, n16, n17, l14, n18) : List UInt8 -> Int -> Int -> Int -> Option (Int × Int × Int × Int × List UInt8 × Int)) = K1
 have e3 : ∀ u l p q s, D0 N b.toNat x y z 0 0 0 0 (u + 1) l 3 p q s K0 K1 = K1 l p q s := fun u l p q s => id rfl
 have e2 : ∀ u l p q, D0 N b.toNat x y z 0 0 0 0 (u + 1) l 2 p q 0 K0 K1 = stI N z l (K0 l [] 5 0 0 0 0 p q 0) fun l v => D0 N b.toNat x y z 0 0 0 0 u l 3 p q v K0 K1 := fun u l p q => id rfl
 have e1 : ∀ u l p, D0 N b.toNat x y z 0 0 0 0 (u + 1) l 1 p 0 0 K0 K1 = stI N y l (K0 l [] 5 0 0 0 0 p 0 0) fun l v => D0 N b.toNat x y z 0 0 0 0 u l 2 p v 0 K0 K1 := fun u l p => id rfl
 have e0 : ∀ u l, D0 N b.toNat x y z 0 0 0 0 (u + 1) l 0 0 0 0 K0 K1 = stI N x l (K0 l [] 5 0 0 0 0 0 0 0) fun l v => D0 N b.toNat x y z 0 0 0 0 u l 1 v 0 0 K0 K1 := fun u l => id rfl
 have key : ∀ u, D0 N b.toNat x y z 0 0 0 0 (u + 4) r 0 0 0 0 K0 K1 = some (e2X (if r.length < wid x + wid y + wid z then (⟨0, 0, 0, 0⟩, [], 5) else
  ((⟨b.toNat, a1m x r, a1m y (r.drop (wid x)), a1m z (r.drop (wid x + wid y))⟩ : In), r.drop (wid x + wid y + wid z), chk ⟨b.toNat, a1m x r, a1m y (r.drop (wid x)), a1m z (r.drop (wid x + wid y))⟩))) := by
  intro u
  rw [e0, c6p]
  by_cases c1 : r.length < wid x
  . rw [if_pos c1, if_pos (by omega), ← hK0]; rfl
  rw [if_neg c1, e1, c6p, GZ]
  by_cases c2 : r.length - wid x < wid y
  . rw [if_pos c2, if_pos (by omega), ← hK0]; rfl
  rw [if_neg c2, e2, c6p, GZ, GZ]
  by_cases c3 : r.length - wid x - wid y < wid z
  . rw [if_pos c3, if_pos (by omega), ← hK0]; rfl
  rw [if_neg c3, if_neg (by omega), e3, ← hK1]
  simp only [IC]
  rw [show O7 N (b.toNat : Int) (a1m x r) (a1m y (r.drop (wid x))) (a1m z (r.drop (wid x + wid y))) = _ from a6l N hN ⟨b.toNat, a1m x r, a1m y (r.drop (wid x)), a1m z (r.drop (wid x + wid y))⟩]
  rfl
 have := key t
 rw [← ht] at this
 exact this
theorem d3S (b : UInt8) (r : List UInt8) : (a9s (b :: r)).2.1.length <= r.length := by
 unfold a9s
 simp only
 split
 . simp
 . split <;> simp
def d5d (p : List In × Int) : List V × Int := (iE p.1, p.2)
theorem d6C (i : In) : V.agg [V.int FK i.op, V.int FK i.a, V.int FK i.b, V.int FK i.c] = iV i := id rfl
theorem c6U (l : List In) (i : In) : iE l ++ [iV i] = iE (l ++ [i]) := by rw [b6f]; rfl
theorem b7t (hN : 10 < N) : ∀ (t : Nat) (acc : List In) (b : List UInt8), b.length < t -> acc.length <= 256 ->
 Q5 N t b (iE acc) (fun l0 n1 l2 => some (l0, n1)) (fun l3 => some (l3, (0 : Int))) = some (d5d (c2F t acc b))
 | 0, acc, b, ht, _ => by omega
 | t + 1, acc, [], ht, ha => by
   unfold Q5 a1N c2F
   rw [j5, if_neg (by simp)]; rfl
 | t + 1, acc, b :: r, ht, ha => by
   simp only [FO] at ht
   unfold Q5 a1N c2F
   rw [j5, if_pos (by simp <;> omega), j5, a4f]
   by_cases c : acc.length = 256
   . rw [if_pos (by omega), if_pos c]; rfl
   rw [if_neg (by omega), if_neg c, b2t N hN]
   have hl := d3S b r
   rcases hd : a9s (b :: r) with ⟨i, s, e⟩
   rw [hd] at hl
   unfold e2X
   simp only [d9E, L9, j5]
   by_cases c2 : e = 0
   . rw [if_pos c2, if_pos c2, if_pos (by simp <;> omega), d6C, c6U]
     exact b7t hN t (acc ++ [i]) s (by simp only at hl; omega) (by simp <;> omega)
   . rw [if_neg c2, if_neg c2]; rfl
theorem c5j (hN : 10 < N) (b : List UInt8) (h : b.length < N) : b0f N b = some (d5d (c2F N [] b)) := b7t N hN N [] b h (by simp)
end
end En
namespace En
open Go
theorem b7d (f n : Int) : (E7 f n).length <= 21 := by
 unfold E7
 split
 . decide
 . split
   . have h : ∀ k, (kindsL.getD k []).length <= 21 := by
      intro k
      match k with
      | 0 => decide
      | 1 => decide
      | 2 => decide
      | k + 3 => simp [kindsL]
     exact h _
   . exact b7j n
theorem b6t (op : Int) : (a6T op).length <= 20 := c4J _
theorem a3i (f n : Int) : (N4 f n).length <= 22 := by
 have := b7d f n
 unfold N4
 split <;> simp <;> omega
theorem b6l (i : In) : (a5V i).length <= 86 := by
 have := b6t i.op
 have := a3i (fA i.op) i.a
 have := a3i (fB i.op) i.b
 have := a3i (fC i.op) i.c
 unfold a5V; simp; omega
section
variable (N : Nat) {R : Type}
theorem c5A (n : Int) (h : n = 2 ∨ n = 3 ∨ n = 4) : K3 N 7 n = some (E7 7 n) := by
 rcases h with rfl | rfl | rfl <;> rfl
theorem d7A {f n p : Int} (h : oe f n p = 0) : K3 N f n = some (E7 f n) := by
 by_cases c7 : f = 7
 . subst c7
   have := b8I h
   exact c5A N n (by omega)
 unfold K3 E7 b3J
 simp only [j5, j4, c7, if_false]
 by_cases c5 : f = 5
 . by_cases cn : n = 255
   . rw [if_pos c5, if_pos cn, if_pos ⟨c5, cn⟩]; rfl
   . rw [if_pos c5, if_neg cn, if_neg (fun q => cn q.2)]
 . rw [if_neg c5, if_neg (fun q => c5 q.1)]
theorem a9c (x y : List UInt8) (h : y.length + x.length <= 1000000) : p6 N x y = some ((x.length : Int), y ++ x) := by
 unfold p6 a2j a2a
 rw [j4, j5, if_pos (by omega)]
noncomputable def stT (f n : Int) (l : List UInt8) (L : List UInt8 -> Option R) : Option R :=
 br (decide (f = 0)) (L l) (j3 (G3 N f) fun b => br b
  (j3 (K3 N f n) fun l1 => br (decide (1 + l1.length <= 9223372036854775807)) (s7 (p6 N (46 :: [].append l1) l) fun _ l3 => L l3) none)
  (j3 (K3 N f n) fun l1 => br (decide (1 + l1.length <= 9223372036854775807)) (s7 (p6 N (32 :: [].append l1) l) fun _ l3 => L l3) none))
theorem c4Q {f n p : Int} (h : oe f n p = 0) (l : List UInt8) (L : List UInt8 -> Option R) (hl : l.length <= 900000) : stT N f n l L = L (l ++ N4 f n) := by
 unfold stT N4
 rw [j5]
 by_cases c0 : f = 0
 . rw [if_pos c0, if_pos c0, HY]
 rw [if_neg c0, if_neg c0, d7A N h]
 have hw := b7d f n
 have hj : G3 N f = some (decide (f = 6 ∨ f = 11)) := by
  unfold G3
  rw [j5]
  by_cases c6 : f = 6
  . rw [if_pos c6, decide_eq_true (Or.inl c6)]
  . rw [if_neg c6]; congr 1; rw [decide_eq_decide]; omega
 rw [hj, j4]
 unfold d9s
 by_cases c : f = 6 ∨ f = 11
 . rw [decide_eq_true c, b0h, j4, j5, if_pos (by omega), if_pos c]
   show (s7 (p6 N (46 :: E7 f n) l) fun _ l3 => L l3) = _
   rw [a9c N _ _ (by simp <;> omega), o7]
 . rw [decide_eq_false c, c0m, j4, j5, if_pos (by omega), if_neg c]
   show (s7 (p6 N (32 :: E7 f n) l) fun _ l3 => L l3) = _
   rw [a9c N _ _ (by simp <;> omega), o7]
theorem d3K (hN : 10 < N) (vs0 vs1 : List V) (n2 n3 f g h m1 m2 m3 m4 a b c p : Int) (l0 : List UInt8) (K0 : List UInt8 -> Option R) (hl : l0.length <= 800000) (ha : oe f a p = 0) (hb : oe g b p = 0) (hc : oe h c p = 0) :
 I6 N vs0 vs1 n2 n3 f g h m1 m2 m3 m4 a b c N 0 l0 K0 = K0 (l0 ++ (N4 f a ++ (N4 g b ++ N4 h c))) := by
 obtain ⟨t, ht⟩ : ∃ t, N = t + 4 := ⟨N - 4, by omega⟩
 have e3 : ∀ u l, I6 N vs0 vs1 n2 n3 f g h m1 m2 m3 m4 a b c (u + 1) 3 l K0 = K0 l := fun u l => id rfl
 have e2 : ∀ u l, I6 N vs0 vs1 n2 n3 f g h m1 m2 m3 m4 a b c (u + 1) 2 l K0 = stT N h c l fun l => I6 N vs0 vs1 n2 n3 f g h m1 m2 m3 m4 a b c u 3 l K0 := fun u l => id rfl
 have e1 : ∀ u l, I6 N vs0 vs1 n2 n3 f g h m1 m2 m3 m4 a b c (u + 1) 1 l K0 = stT N g b l fun l => I6 N vs0 vs1 n2 n3 f g h m1 m2 m3 m4 a b c u 2 l K0 := fun u l => id rfl
 have e0 : ∀ u l, I6 N vs0 vs1 n2 n3 f g h m1 m2 m3 m4 a b c (u + 1) 0 l K0 = stT N f a l fun l => I6 N vs0 vs1 n2 n3 f g h m1 m2 m3 m4 a b c u 1 l K0 := fun u l => id rfl
 have hf := a3i f a
 have hg := a3i g b
 have key : ∀ u, I6 N vs0 vs1 n2 n3 f g h m1 m2 m3 m4 a b c (u + 4) 0 l0 K0 = K0 (l0 ++ (N4 f a ++ (N4 g b ++ N4 h c))) := by
  intro u
  rw [e0, c4Q N ha _ _ (by omega), e1, c4Q N hb _ _ (by simp <;> omega), e2, c4Q N hc _ _ (by simp <;> omega), e3]
  simp only [Gr]
 have := key t
 rw [← ht] at this
 exact this
theorem c1b : a8E N = some (namesL.map V.str) := by
 unfold a8E a4I
 rw [d0a]
 kernel_rfl
theorem d4w {op : Int} (h0 : 0 <= op) (h1 : op < 54) (K : V -> Option R) : at? (namesL.map V.str) op.toNat K = K (.str (a6T op)) := by
 have hk : op.toNat < namesL.length := by show op.toNat < 54; omega
 refine e0R ?_ K
 rw [Gn, FQ hk]
 simp [a6T, List.getD, hk]
theorem b4M (hN : 10 < N) : ∀ (l : List In) (pre : List V) (t : Nat) (out : List UInt8), l.length < t -> pre.length + l.length <= 60000 -> out.length + 100 * l.length <= 700000 -> M7 l = 0 ->
 a0a N (namesL.map V.str) (pre ++ iE l) ((pre ++ iE l).length : Int) t (pre.length : Int) out (fun l3 => some l3) = some (out ++ L5 l)
 | l, pre, 0, out, ht, _, _, _ => by omega
 | [], pre, t + 1, out, ht, _, _, _ => by
   unfold a0a a6w
   rw [j5, if_neg (by simp [iE])]
   simp [L5]
 | i :: l, pre, t + 1, out, ht, hl, ho, hf => by
   simp only [FO] at ht hl ho
   obtain ⟨f1, f2⟩ := a5W hf
   obtain ⟨r0, r1⟩ := a6g f1
   obtain ⟨ha, hb, hc⟩ := b0F f1
   obtain ⟨h1, h2, h3⟩ := d2Q pre (iV i) (iE l) (by rw [a4f]; omega)
   have hll := b6l i
   have hnl := b6t i.op
   have ih := b4M hN l (pre ++ [iV i]) t (out ++ (a5V i ++ [10])) (by omega) (by simp <;> omega) (by simp <;> omega) f2
   rw [← e2Y, ← h3] at ih
   unfold a0a a6w
   simp only [iE, b0h, c0m, j5, L9, a0D, b0R, j4, o7, K4, R2, a0o, a0r, M5, P5, a5U, p5, o8, Q3, o6, A8, p8, o9, p7, h1, h2, if_true, GE]
   show V.unAgg (iV i) _ = _
   unfold iV
   simp only [b0h, c0m, j5, L9, a0D, b0R, j4, o7, K4, R2, a0o, a0r, M5, P5, a5U, p5, o8, Q3, o6, A8, p8, o9, p7]
   rw [if_pos r0, if_pos (by simp [namesL]; omega), d4w r0 r1, Q3, a9c N _ _ (by omega), o7, a3u N r0 r1]
   unfold a0e
   simp only [K4]
   rw [d3K N hN _ _ _ _ _ _ _ _ _ _ _ _ _ _ _ _ _ (by simp <;> omega) ha hb hc]
   have e : out ++ a6T i.op ++ (N4 (fA i.op) i.a ++ (N4 (fB i.op) i.b ++ N4 (fC i.op) i.c)) = out ++ a5V i := by unfold a5V; simp
   rw [e, a9c N _ _ (by simp <;> omega), o7, Gr]
   unfold iV at ih
   rw [ih]
   simp [L5]
theorem d5v (hN : 10 < N) (l : List In) (hl : l.length < N) (h2 : l.length <= 50000) : a3L N (iE l) = some (c8v l) := by
 unfold a3L c8v
 rw [b2o N hN l hl h2]
 rcases he : a3s l with ⟨x, e⟩
 simp only [o7, L9, j5]
 by_cases c : e = 0
 . rw [if_pos c, if_pos c, c1b, j4]
   have hf : l.length <= 256 /\ M7 l = 0 := by
    unfold a3s at he
    split at he
    . injection he with _ he; omega
    . split at he
      . exact ⟨by omega, by assumption⟩
      . rename_i h; injection he with _ he; omega
   have := b4M N hN l [] N [] hl (by simpa using by omega) (by simpa using by omega) hf.2
   rw [It, It, a4f] at this
   rw [show ((([] : List V).length : Nat) : Int) = 0 by rfl] at this
   rw [a4f]
   exact this
 . rw [if_neg c, if_neg c]
end
end En
namespace En
open Go
def sL (l : List (List UInt8)) : List V := l.map V.str
theorem a8j (w : List UInt8) (l : List (List UInt8)) : sL (w :: l) = V.str w :: sL l := id rfl
theorem a9p (l : List (List UInt8)) : (sL l).length = l.length := by simp [sL]
def d5B (w : List UInt8) (l : List (List UInt8)) : Int := match a4E w l with | some k => (k : Int) | none => -1
section
variable (N : Nat) {R : Type}
theorem b4d (w : List UInt8) (K0 : Int -> Option R) (K1 : Option R) : ∀ (l : List (List UInt8)) (pre : List V) (t : Nat), l.length < t -> pre.length + l.length <= 1000000 ->
 T8 N (pre ++ sL l) w ((pre ++ sL l).length : Int) t (pre.length : Int) K0 K1 = match a4E w l with | some k => K0 ((pre.length + k : Nat) : Int) | none => K1
 | l, pre, 0, ht, _ => by omega
 | [], pre, t + 1, ht, _ => by
   unfold T8 a4j
   rw [j5, if_neg (by simp [sL])]; rfl
 | x :: l, pre, t + 1, ht, hl => by
   simp only [FO] at ht hl
   obtain ⟨h1, h2, h3⟩ := d2Q pre (.str x) (sL l) (by rw [a9p]; omega)
   have ih := b4d w K0 K1 l (pre ++ [.str x]) t (by omega) (by simp <;> omega)
   rw [← e2Y, ← h3] at ih
   unfold T8 a4j a4E
   simp only [a8j, b0h, c0m, j5, L9, a0D, b0R, j4, o7, K4, R2, a0o, a0r, M5, P5, a5U, p5, o8, Q3, o6, A8, p8, o9, p7, h1, h2, if_true, GE]
   by_cases c : x = w
   . subst c
     rw [if_pos rfl, if_pos rfl]; rfl
   . rw [if_neg (fun e => c e.symm), if_neg c, ih]
     cases a4E w l with
     | none => rfl
     | some k => simp only [Option.map_some]; congr 2; simp; omega
theorem c1k (l : List (List UInt8)) (w : List UInt8) (h : l.length < N) (h2 : l.length <= 900000) : a5c N (sL l) w = some (d5B w l) := by
 have := b4d N w (fun n0 => some n0) (some (-1)) l [] N h (by simpa using by omega)
 rw [It, show ((([] : List V).length : Nat) : Int) = 0 by rfl] at this
 unfold a5c
 rw [this]
 unfold d5B
 cases a4E w l with
 | none => rfl
 | some k => simp
theorem d6o : a8J N = some (sL kindsL) := id rfl
theorem d0X (s : List UInt8) : d5B s kindsL = if s = [98, 121, 116, 101, 115] then 0 else if s = [105, 110, 116, 115] then 1 else if s = [114, 101, 102, 115] then 2 else -1 := by
 by_cases e1 : s = [98, 121, 116, 101, 115]
 . subst e1; rfl
 by_cases e2 : s = [105, 110, 116, 115]
 . subst e2; rfl
 by_cases e3 : s = [114, 101, 102, 115]
 . subst e3; rfl
 rw [if_neg e1, if_neg e2, if_neg e3]
 have h : a4E s kindsL = none := by
  unfold kindsL a4E
  rw [if_neg (fun e => e1 e.symm)]
  unfold a4E
  rw [if_neg (fun e => e2 e.symm)]
  unfold a4E
  rw [if_neg (fun e => e3 e.symm)]
  rfl
 unfold d5B
 rw [h]
theorem d1H (hN : 10 < N) (f : Int) (s : List UInt8) (h : s.length <= 1000000) : a4q N f s = some (a5z f s) := by
 unfold a4q a5z
 rw [j5]
 by_cases c7 : f = 7
 . rw [if_pos c7, if_pos c7, d6o, j4, c1k N kindsL s (by show 3 < N; omega) (by decide), j4]
   rw [d0X]
   by_cases e1 : s = [98, 121, 116, 101, 115]
   . rw [if_pos e1, if_pos e1]; rfl
   rw [if_neg e1, if_neg e1]
   by_cases e2 : s = [105, 110, 116, 115]
   . rw [if_pos e2, if_pos e2]; rfl
   rw [if_neg e2, if_neg e2]
   by_cases e3 : s = [114, 101, 102, 115]
   . rw [if_pos e3, if_pos e3]; rfl
   rw [if_neg e3, if_neg e3]
   rfl
 rw [if_neg c7, if_neg c7]
 have hn : a1A N s = some (V3 s) := by
  unfold a1A
  rw [show GY s.length 1000000 = true by simpa using h]; rfl
 rw [hn]
 rcases hq : V3 s with ⟨n, a, b⟩
 simp only [K4, j5]
 show (if f = 5 then (if s = c9b then some (255, true, true) else _) else _) = _
 by_cases c5 : f = 5
 . by_cases cs : s = c9b
   . rw [if_pos c5, if_pos cs, if_pos ⟨c5, cs⟩]
   . rw [if_pos c5, if_neg cs, if_pos c5, if_neg (show ¬ (f = 5 /\ s = c9b) from fun q => cs q.2)]
     by_cases cn : n = 255
     . rw [if_pos cn, if_pos ⟨c5, cn⟩]
     . rw [if_neg cn, if_neg (fun q => cn q.2)]
 . rw [if_neg c5, if_neg c5, if_neg (fun q => c5 q.1), if_neg (fun q => c5 q.1)]
theorem d4i (c : UInt8) (s : List UInt8) (h : s.length <= 1000000) : a0G N s [c] = some (Y1 c s) := by
 unfold a0G
 simp only
 rw [show GY s.length 1000000 = true by simpa using h]; rfl
theorem c9Q (c : UInt8) (s : List UInt8) (h : s.length <= 1000000) : a6B N s [c] = some (sL (L4 c s)) := by
 unfold a6B
 simp only
 rw [show GY s.length 1000000 = true by simpa using h]; rfl
noncomputable def stP (vs0 vs1 : List V) (P : List V -> List V -> Option R) : Option R :=
 br (decide (0 < (vs0.length : Int))) (at? vs0 0 fun x => x.unStr fun l => br (decide ((vs1.length + [V.str l].length) * 16 <= 140737488355328)) (br (decide (1 <= (vs0.length : Int))) (P (Gj 1 vs0) (vs1 ++ [V.str l])) none) none) none
noncomputable def stJ (vs0 vs1 : List V) (F : Option R) (J : List V -> List V -> Option R) : Option R :=
 br (decide (0 < (vs0.length : Int))) (at? vs0 0 fun x => x.unStr fun l => T4 (a0G N l ([46] : List UInt8)) fun a c d => br (!d) F
  (br (decide ((vs1.length + [V.str a, V.str c].length) * 16 <= 140737488355328)) (br (decide (1 <= (vs0.length : Int))) (J (Gj 1 vs0) (vs1 ++ [V.str a, V.str c])) none) none)) none
noncomputable def stW (f g : Int) (vs0 vs1 : List V) (F E : Option R) (J P : List V -> List V -> Option R) : Option R :=
 br (!decide (f = 0)) (br (decide ((vs0.length : Int) = 0)) F (j3 (G3 N g) fun b => br b (stJ N vs0 vs1 F J) (stP vs0 vs1 P))) E
noncomputable def stL (f : Int) (vs0 vs1 : List V) (F E : Option R) (P : List V -> List V -> Option R) : Option R :=
 br (!decide (f = 0)) (br (decide ((vs0.length : Int) = 0)) F (stP vs0 vs1 P)) E
theorem b3X (w : List UInt8) (ws : List (List UInt8)) (vs1 : List V) (P : List V -> List V -> Option R) (h : vs1.length <= 1000000) (h2 : ws.length <= 1000000) : stP (sL (w :: ws)) vs1 P = P (sL ws) (vs1 ++ [V.str w]) := by
 unfold stP
 rw [a8j]
 simp only [b0h, c0m, j5, L9, a0D, b0R, j4, o7, K4, R2, a0o, a0r, M5, P5, a5U, p5, o8, Q3, o6, A8, p8, o9, p7]
 have e1 : (0 : Int) < ((V.str w :: sL ws).length : Int) := by simp <;> omega
 have e2 : (1 : Int) <= ((V.str w :: sL ws).length : Int) := by simp <;> omega
 rw [if_pos e1, if_pos (by simp <;> omega), if_pos e2]
 rfl
theorem d4t (w : List UInt8) (ws : List (List UInt8)) (vs1 : List V) (F : Option R) (J : List V -> List V -> Option R) (h : vs1.length <= 1000000) (hw : w.length <= 1000000) :
 stJ N (sL (w :: ws)) vs1 F J = match Y1 46 w with | (a, b, true) => J (sL ws) (vs1 ++ [V.str a, V.str b]) | (_, _, false) => F := by
 unfold stJ
 rw [a8j]
 have e1 : (0 : Int) < ((V.str w :: sL ws).length : Int) := by simp <;> omega
 have e2 : (1 : Int) <= ((V.str w :: sL ws).length : Int) := by simp <;> omega
 rw [j5, if_pos e1, M5, Q3, d4i N 46 w hw]
 rcases Y1 46 w with ⟨a, b, d⟩
 cases d with
 | false => rfl
 | true =>
   simp only [K4, L9, b0h, j5]
   rw [if_pos (by simp <;> omega), if_pos e2]
   rfl
theorem b7A (f : Int) : G3 N f = some (decide (f = 6 ∨ f = 11)) := by
 unfold G3
 rw [j5]
 by_cases c6 : f = 6
 . rw [if_pos c6, decide_eq_true (Or.inl c6)]
 . rw [if_neg c6]; congr 1; rw [decide_eq_decide]; omega
theorem d3B {x y : Int} (z : Int) {w : List UInt8} (r : List (List UInt8)) {a b : List UInt8} (hx : x ≠ 0) (hy : y = 6 ∨ y = 11) (hc : Y1 46 w = (a, b, false)) : R8 x y z (w :: r) = none := by
 unfold R8
 rw [if_neg hx, if_pos hy]
 simp only [hc]
def d2U (o : Option (List (List UInt8))) (r : Option (List V × Bool)) : Prop := match o with | some l => r = some (sL l, true) | none => ∃ vs, r = some (vs, false)
theorem d5M (hN : 10 < N) {x y z : Int} (hf : Fm x y z) (ws : List (List UInt8)) (hl : ws.length <= 1000000) (hb : ∀ w ∈ ws, w.length <= 1000000) : d2U (R8 x y z ws) (b1y N x y z (sL ws)) := by
 obtain ⟨t, ht⟩ : ∃ t, N = t + 4 := ⟨N - 4, by omega⟩
 have e3 : ∀ u vs0 vs1 (K0 : List V -> List V -> Bool -> List V -> Option (List V × Bool)) (K1 : List V -> List V -> Option (List V × Bool)), H0 N x y z (u + 1) vs0 vs1 3 K0 K1 = K1 vs0 vs1 := fun u vs0 vs1 K0 K1 => id rfl
 have e2 : ∀ u vs0 vs1 (K0 : List V -> List V -> Bool -> List V -> Option (List V × Bool)) (K1 : List V -> List V -> Option (List V × Bool)), H0 N x y z (u + 1) vs0 vs1 2 K0 K1 = stL z vs0 vs1 (K0 vs0 [] false vs1) (K1 vs0 vs1) fun a b => H0 N x y z u a b 3 K0 K1 := fun u vs0 vs1 K0 K1 => id rfl
 have e1 : ∀ u vs0 vs1 (K0 : List V -> List V -> Bool -> List V -> Option (List V × Bool)) (K1 : List V -> List V -> Option (List V × Bool)), H0 N x y z (u + 1) vs0 vs1 1 K0 K1 = stW N y z vs0 vs1 (K0 vs0 [] false vs1) (K1 vs0 vs1) (fun a b => H0 N x y z u a b 3 K0 K1) fun a b => H0 N x y z u a b 2 K0 K1 := fun u vs0 vs1 K0 K1 => id rfl
 have e0 : ∀ u vs0 vs1 (K0 : List V -> List V -> Bool -> List V -> Option (List V × Bool)) (K1 : List V -> List V -> Option (List V × Bool)), H0 N x y z (u + 1) vs0 vs1 0 K0 K1 = stW N x y vs0 vs1 (K0 vs0 [] false vs1) (K1 vs0 vs1) (fun a b => H0 N x y z u a b 2 K0 K1) fun a b => H0 N x y z u a b 1 K0 K1 := fun u vs0 vs1 K0 K1 => id rfl
 have key : ∀ u, d2U (R8 x y z ws) (H0 N x y z (u + 4) (sL ws) [] 0 (fun l0 l1 b2 l3 => some (l1, b2)) fun l4 l5 => some (l5, decide ((l4.length : Int) = 0))) := by
  intro u
  rw [e0]
  unfold stW
  rw [L9, j5]
  by_cases x0 : x = 0
  . rw [if_pos x0]
    unfold R8
    rw [if_pos x0]
    cases ws with
    | nil => exact rfl
    | cons w ws => exact ⟨_, rfl⟩
  rw [if_neg x0]
  cases ws with
  | nil =>
    have : ∃ vs, br (decide (((sL []).length : Int) = 0)) (some (([] : List V), false)) (j3 (G3 N y) fun b => br b (stJ N (sL []) [] (some (([] : List V), false)) fun a b => H0 N x y z (u + 2 + 1) a b 2 (fun l0 l1 b2 l3 => some (l1, b2)) fun l4 l5 => some (l5, decide ((l4.length : Int) = 0))) (stP (sL []) [] fun a b => H0 N x y z (u + 2 + 1) a b 1 (fun l0 l1 b2 l3 => some (l1, b2)) fun l4 l5 => some (l5, decide ((l4.length : Int) = 0)))) = some (vs, false) := ⟨[], rfl⟩
    have hw : R8 x y z [] = none := by
     unfold R8
     rw [if_neg x0]
     split
     . rfl
     . split <;> rfl
    rw [hw]
    exact this
  | cons w ws =>
    have hb1 := hb w (by simp)
    simp only [FO] at hl
    have en : ¬ (((sL (w :: ws)).length : Int) = 0) := by rw [a9p]; simp <;> omega
    rw [j5, if_neg en, b7A, j4, j5]
    by_cases cj : y = 6 ∨ y = 11
    . rw [if_pos cj, d4t N w ws [] _ _ (by simp) hb1]
      rcases hc : Y1 46 w with ⟨a, b, d⟩
      cases d with
      | false =>
        rw [d3B z ws x0 cj hc]
        exact ⟨_, rfl⟩
      | true =>
        rw [b2b z ws x0 cj hc]
        simp only
        rw [e2]
        unfold stL
        rw [L9, j5]
        by_cases z0 : z = 0
        . rw [if_pos z0, if_pos z0]
          cases ws with
          | nil => exact rfl
          | cons v ws => exact ⟨_, rfl⟩
        . rw [if_neg z0, if_neg z0]
          cases ws with
          | nil => exact ⟨_, rfl⟩
          | cons v ws =>
            have en : ¬ (((sL (v :: ws)).length : Int) = 0) := by rw [a9p]; simp <;> omega
            simp only [FO] at hl
            rw [j5, if_neg en, b3X v ws _ _ (by simp) (by omega), e3]
            cases ws with
            | nil => exact rfl
            | cons v ws => exact ⟨_, rfl⟩
    . rw [if_neg cj, b3X w ws [] _ (by simp) (by omega), e1]
      unfold R8
      rw [if_neg x0, if_neg cj]
      unfold stW
      rw [L9, j5]
      by_cases y0 : y = 0
      . rw [if_pos y0, if_pos y0]
        cases ws with
        | nil => exact rfl
        | cons v ws => exact ⟨_, rfl⟩
      . have hz : z = 0 := by
         rcases hf with ⟨h, _⟩ | ⟨_, _, h⟩ | ⟨_, h, _⟩ | ⟨_, h, _⟩
         . exact absurd h y0
         . exact h
         . exact absurd (Or.inl h) cj
         . exact absurd (Or.inr h) cj
        rw [if_neg y0, if_neg y0]
        cases ws with
        | nil => exact ⟨_, rfl⟩
        | cons v ws =>
          have en : ¬ (((sL (v :: ws)).length : Int) = 0) := by rw [a9p]; simp <;> omega
          simp only [FO] at hl
          rw [j5, if_neg en, b7A, j4, j5, if_neg (by omega), b3X v ws _ _ (by simp) (by omega), e2]
          unfold stL
          rw [L9, j5, if_pos hz]
          cases ws with
          | nil => exact rfl
          | cons v ws => exact ⟨_, rfl⟩
 have := key t
 rw [← ht] at this
 exact this
theorem c9r {x y z : Int} {ws l : List (List UInt8)} (h : R8 x y z ws = some l) (hb : ∀ w ∈ ws, w.length <= 1000000) : l.length <= 3 /\ ∀ w ∈ l, w.length <= 1000000 := by
 unfold R8 at h
 split at h
 . split at h
   . injection h with h; subst h; simp
   . cases h
 . split at h
   . split at h
     . rename_i w r
       have hb1 := hb w (by simp)
       have hc := a8L 46 w
       split at h
       . rename_i a b e
         rw [e] at hc
         simp only at hc
         split at h
         . split at h
           . injection h with h; subst h
             refine ⟨by simp, fun v hv => ?_⟩
             simp at hv
             rcases hv with rfl | rfl <;> omega
           . cases h
         . split at h
           . rename_i c
             injection h with h; subst h
             refine ⟨by simp, fun v hv => ?_⟩
             simp at hv
             rcases hv with rfl | rfl | rfl
             . omega
             . omega
             . exact hb _ (by simp)
           . cases h
       . cases h
     . cases h
   . split at h
     . split at h
       . injection h with h; subst h
         exact ⟨by simp, hb⟩
       . cases h
     . split at h
       . injection h with h; subst h
         exact ⟨by simp, hb⟩
       . cases h
noncomputable def stV (f : Int) (w : List UInt8) (b : Bool) (F : Option R) (L : Bool -> Int -> Option R) : Option R :=
 T4 (a4q N f w) fun n b3 b4 => br (!b3) F (br b (L b4 n) (L false n))
theorem a9O (hN : 10 < N) (f : Int) (w : List UInt8) (b : Bool) (F : Option R) (L : Bool -> Int -> Option R) (h : w.length <= 1000000) : stV N f w b F L = if (a5z f w).2.1 = true then L (b && (a5z f w).2.2) (a5z f w).1 else F := by
 unfold stV
 rw [d1H N hN f w h]
 rcases a5z f w with ⟨n, c, d⟩
 cases c <;> cases b <;> rfl
def d1e (p : In × Int) : Int × Int × Int × Int × Int := (p.1.op, p.1.a, p.1.b, p.1.c, p.2)
theorem d2F (hN : 10 < N) (k : Int) (l : List (List UInt8)) (h3 : l.length <= 3) (hb : ∀ w ∈ l, w.length <= 1000000) :
 R4 N k (sL l) ((sL l).length : Int) 0 0 0 0 (fA k) (fB k) (fC k) N true 0 0 0 0 (fun n10 b11 n12 n13 n14 n15 n16 n17 n18 => some (n12, n13, n14, n15, n10)) (fun b19 n20 n21 n22 =>
  br (!b19) (some (0, 0, 0, 0, 2)) (j3 (O7 N k n20 n21 n22) fun n23 => some (k, n20, n21, n22, n23))) = some (d1e (c6X k l)) := by
 obtain ⟨t, ht⟩ : ∃ t, N = t + 4 := ⟨N - 4, by omega⟩
 generalize hx : fA k = x
 generalize hy : fB k = y
 generalize hz : fC k = z
 generalize hK0 : (fun n10 b11 n12 n13 n14 n15 n16 n17 n18 => some (n12, n13, n14, n15, n10) : Int -> Bool -> Int -> Int -> Int -> Int -> Int -> Int -> Int -> Option (Int × Int × Int × Int × Int)) = K0
 generalize hK1 : (fun b19 n20 n21 n22 => br (!b19) (some (0, 0, 0, 0, 2)) (j3 (O7 N k n20 n21 n22) fun n23 => some (k, n20, n21, n22, n23)) : Bool -> Int -> Int -> Int -> Option (Int × Int × Int × Int × Int)) = K1
 have k0 : ∀ b p q s, K0 30 b 0 0 0 0 p q s = some (d1e (zI, 30)) := by intro b p q s; rw [← hK0]; rfl
 have k1 : ∀ b p q s, K1 b p q s = some (d1e (if b = true then (⟨k, p, q, s⟩, chk ⟨k, p, q, s⟩) else (zI, 2))) := by
  intro b p q s
  rw [← hK1]
  simp only
  cases b with
  | false => rfl
  | true =>
    rw [show O7 N k p q s = _ from a6l N hN ⟨k, p, q, s⟩]
    rfl
 unfold c6X
 rw [hx, hy, hz]
 have key : ∀ u, R4 N k (sL l) ((sL l).length : Int) 0 0 0 0 x y z (u + 4) true 0 0 0 0 K0 K1 = some (d1e (match a4v [x, y, z] l with
  | none => (zI, 30)
  | some (l, fits) => if fits = true then (⟨k, l.getD 0 0, l.getD 1 0, l.getD 2 0⟩, chk ⟨k, l.getD 0 0, l.getD 1 0, l.getD 2 0⟩) else (zI, 2))) := by
  intro u
  match l, h3 with
  | [], _ =>
    show K1 true 0 0 0 = _
    rw [k1]; rfl
  | [a], _ =>
    have e0 : R4 N k (sL [a]) ((sL [a]).length : Int) 0 0 0 0 x y z (u + 4) true 0 0 0 0 K0 K1 = stV N x a true (K0 30 true 0 0 0 0 0 0 0) fun b n => K1 b n 0 0 := id rfl
    rw [e0, a9O N hN _ _ _ _ _ (hb a (by simp)), k0]
    simp only [a4v, k1]
    rcases a5z x a with ⟨n, c, d⟩
    cases c <;> cases d <;> rfl
  | [a, b], _ =>
    have e0 : R4 N k (sL [a, b]) ((sL [a, b]).length : Int) 0 0 0 0 x y z (u + 4) true 0 0 0 0 K0 K1 = stV N x a true (K0 30 true 0 0 0 0 0 0 0) fun f n => stV N y b f (K0 30 f 0 0 0 0 n 0 0) fun f m => K1 f n m 0 := id rfl
    rw [e0, a9O N hN _ _ _ _ _ (hb a (by simp))]
    simp only [a9O N hN _ _ _ _ _ (hb b (by simp)), k0, a4v, k1]
    rcases a5z x a with ⟨n, c, d⟩
    rcases a5z y b with ⟨n', c', d'⟩
    cases c <;> cases d <;> cases c' <;> cases d' <;> rfl
  | [a, b, e], _ =>
    have e0 : R4 N k (sL [a, b, e]) ((sL [a, b, e]).length : Int) 0 0 0 0 x y z (u + 4) true 0 0 0 0 K0 K1 = stV N x a true (K0 30 true 0 0 0 0 0 0 0) fun f n => stV N y b f (K0 30 f 0 0 0 0 n 0 0) fun f m => stV N z e f (K0 30 f 0 0 0 0 n m 0) fun f o => K1 f n m o := id rfl
    rw [e0, a9O N hN _ _ _ _ _ (hb a (by simp))]
    simp only [a9O N hN _ _ _ _ _ (hb b (by simp)), a9O N hN _ _ _ _ _ (hb e (by simp)), k0, a4v, k1]
    rcases a5z x a with ⟨n, c, d⟩
    rcases a5z y b with ⟨n', c', d'⟩
    rcases a5z z e with ⟨n2, c2, d2⟩
    cases c <;> cases d <;> cases c' <;> cases d' <;> cases c2 <;> cases d2 <;> rfl
 have := key t
 rw [← ht] at this
 exact this
theorem e0l (hN : 60 < N) (s : List UInt8) (h : s.length <= 900000) : b8S N s = some (d1e (b0X s)) := by
 unfold b8S b0X
 rw [c9Q N 32 s (by omega), j4, c1b, j4]
 obtain ⟨q1, q2⟩ := a7w 32 s
 cases hs : L4 32 s with
 | nil => exact absurd hs (d0o 32 s)
 | cons w r =>
   rw [hs] at q1 q2
   simp only [FO] at q1
   have hb : ∀ v ∈ r, v.length <= 1000000 := fun v hv => by have := q2 v (by simp [hv]); omega
   simp only
   have e1 : (0 : Int) < ((sL (w :: r)).length : Int) := by rw [a9p]; simp <;> omega
   have e2 : (1 : Int) <= ((sL (w :: r)).length : Int) := by rw [a9p]; simp <;> omega
   rw [j5, if_pos e1, a8j, M5, Q3, ← a8j]
   rw [show (namesL.map V.str) = sL namesL from rfl, c1k N namesL w (by show 54 < N; omega) (by decide), j4, j5]
   unfold d5B
   cases hi : a4E w namesL with
   | none => rfl
   | some k =>
     have k1 : k < 54 := (c3z w namesL k hi).1
     simp only
     rw [if_neg (by omega), a3u N (by omega) (by omega), K4, j5, if_pos e2]
     have hw := d5M N (by omega) (e0V (op := (k : Int)) (by omega) (by omega)) r (by omega) hb
     have hd : Gj 1 (sL (w :: r)) = sL r := rfl
     rw [hd]
     unfold c8U
     cases hk : R8 (fA (k : Int)) (fB (k : Int)) (fC (k : Int)) r with
     | none =>
       rw [hk] at hw
       obtain ⟨vs, hw⟩ := hw
       rw [hw]; rfl
     | some l =>
       rw [hk] at hw
       have hw : b1y N (fA (k : Int)) (fB (k : Int)) (fC (k : Int)) (sL r) = some (sL l, true) := hw
       obtain ⟨l3, lb⟩ := c9r hk hb
       rw [hw, o7, L9, b0h]
       exact d2F N (by omega) (k : Int) l l3 lb
theorem b0Z (hN : 60 < N) : ∀ (t : Nat) (acc : List In) (s : List UInt8), s.length < t -> s.length <= 900000 -> acc.length <= 256 ->
 T6 N t s (iE acc) (fun l0 n1 l2 => some (l0, n1)) (fun l3 => some (l3, (0 : Int))) = some (d5d (a5x t acc s))
 | 0, acc, s, ht, _, _ => by omega
 | t + 1, acc, [], ht, _, ha => by
   unfold T6 a3G a5x
   rw [L9, j5, if_pos rfl]; rfl
 | t + 1, acc, b :: r, ht, hl, ha => by
   unfold T6 a3G a5x
   rw [L9, j5, if_neg (by simp), j5, a4f]
   by_cases c : acc.length = 256
   . rw [if_pos (by omega), if_pos c]; rfl
   rw [if_neg (by omega), if_neg c, d4i N 10 (b :: r) (by omega)]
   have hc1 := a8L 10 (b :: r)
   rcases hc : Y1 10 (b :: r) with ⟨x, y, e⟩
   rw [hc] at hc1
   simp only at hc1
   cases e with
   | false => rfl
   | true =>
     have hy : y.length < t := by
      have := congrArg List.length (b6E 10 _ x y hc)
      simp at this ht; omega
     simp only [K4, L9, b0h, if_true]
     rw [e0l N hN x (by omega)]
     rcases hp : b0X x with ⟨i, e⟩
     unfold d1e
     simp only [a0o, L9, j5]
     by_cases c2 : e = 0
     . rw [if_pos c2, if_pos c2, if_pos (by simp <;> omega), d6C, c6U]
       exact b0Z hN t (acc ++ [i]) y hy (by omega) (by simp <;> omega)
     . rw [if_neg c2, if_neg c2]; rfl
theorem c9C (hN : 60 < N) (s : List UInt8) (h : s.length < N) (h2 : s.length <= 900000) : a2T N s = some (d5d (a5x N [] s)) := b0Z N hN N [] s h h2 (by simp)
end
end En
namespace En
open Go
structure Rf where
 p : Int
 c : Int
structure Tp where
 k : Int
 r : Rf
structure Im where
 aid : List UInt8
 ma : Int
 mi : Int
structure Il where
 i : Rf
 ms : List Int
structure Cl where
 sup : Rf
 itf : Bool
 ext : List Rf
 fs : List Tp
 vs : List Int
 is : List Il
structure Hd where
 f : Int
 t : Int
 g : Int
 w : Int
structure Mt where
 st : Bool
 ab : Bool
 cls : Int
 ps : List Tp
 r : Tp
 lo : Int
 sk : Int
 code : List In
 hs : List Hd
structure Ap where
 aid : List UInt8
 cl : Int
 ins : Int
structure Pk where
 aid : List UInt8
 ma : Int
 mi : Int
 ims : List Im
 cls : List Cl
 mts : List Mt
 sts : List Tp
 aps : List Ap
def nV (n : Int) : V := .int .i64 n
def rfV (r : Rf) : V := .agg [.int .i64 r.p, .int .i64 r.c]
def tpV (t : Tp) : V := .agg [.int .i64 t.k, .int .i64 t.r.p, .int .i64 t.r.c]
def imV (x : Im) : V := .agg [.bytes x.aid, .int .i64 x.ma, .int .i64 x.mi]
def ilV (x : Il) : V := .agg [.int .i64 x.i.p, .int .i64 x.i.c, .sl 3 (x.ms.map nV)]
def clV (c : Cl) : V := .agg [.int .i64 c.sup.p, .int .i64 c.sup.c, .bool c.itf, .sl 42 (c.ext.map rfV), .sl 44 (c.fs.map tpV), .sl 3 (c.vs.map nV), .sl 105 (c.is.map ilV)]
def hdV (h : Hd) : V := .agg [.int .i64 h.f, .int .i64 h.t, .int .i64 h.g, .int .i64 h.w]
def mtV (m : Mt) : V := .agg [.bool m.st, .bool m.ab, .int .i64 m.cls, .sl 44 (m.ps.map tpV), .int .i64 m.r.k, .int .i64 m.r.r.p, .int .i64 m.r.r.c, .int .i64 m.lo, .int .i64 m.sk, .sl 54 (iE m.code), .sl 107 (m.hs.map hdV)]
def apV (a : Ap) : V := .agg [.bytes a.aid, .int .i64 a.cl, .int .i64 a.ins]
theorem a3I : ∀ l : List In, iE l = l.map iV
 | [] => rfl
 | i :: l => by rw [iE, a3I l]; rfl
theorem C8 {α R : Type} {enc : α -> V} {l : List α} {i : Nat} {x : α} (h : l[i]? = some x) (K : V -> Option R) (A : Option R) :
 br (decide ((i : Int) < ((l.map enc).length : Int))) (br (decide (0 <= (i : Int)) && decide ((i : Int) < ((l.map enc).length : Int))) (at? (l.map enc) (i : Int).toNat K) none) A = K (enc x) := by
 have hi : i < l.length := (FN.1 h).1
 have h1 : ((i : Int) < ((l.map enc).length : Int)) := by simp; omega
 rw [j5, if_pos h1, decide_eq_true h1, Bool.and_true, j5, if_pos (by omega), GE]
 unfold at?
 rw [Gn, h]
 rfl
theorem C0 {α R : Type} {enc : α -> V} {l : List α} (B A : Option R) : br (decide ((l.length : Int) < ((l.map enc).length : Int))) B A = A := by
 rw [j5, if_neg (by simp)]
theorem C7 {i n : Nat} (h : i < n) (hn : n <= 9000000000000000000) : FK.wrap ((i : Int) + 1) = ((i + 1 : Nat) : Int) := by
 rw [Ho]; omega
theorem C3 {α : Type} {l : List α} {i : Nat} {x : α} (h : l[i]? = some x) : i < l.length := (FN.1 h).1
theorem c1v {α R : Type} (S : Nat -> Int -> Option R) (l : List α) (Q : α -> Prop) (Bad Good : R -> Prop)
 (M2 : ∀ (t i : Nat) (x : α), l[i]? = some x -> (∃ r, Bad r /\ S (t + 1) i = some r) ∨ (Q x /\ S (t + 1) i = S t ((i + 1 : Nat) : Int)))
 (a9k : ∀ t : Nat, ∃ r, Good r /\ S (t + 1) (l.length : Int) = some r) (t : Nat) (ht : l.length < t) : ∃ r, S t 0 = some r /\ (Bad r ∨ (Good r /\ ∀ x ∈ l, Q x)) := by
 have key : ∀ (k t i : Nat), i + k = l.length -> k < t -> ∃ r, S t i = some r /\ (Bad r ∨ (Good r /\ ∀ x ∈ l.drop i, Q x)) := by
  intro k
  induction k with
  | zero =>
    intro t i hi ht
    obtain ⟨t, rfl⟩ : ∃ t', t = t' + 1 := ⟨t - 1, by omega⟩
    have : i = l.length := by omega
    subst this
    obtain ⟨r, h1, h2⟩ := a9k t
    exact ⟨r, h2, .inr ⟨h1, fun x hx => by rw [List.drop_length] at hx; cases hx⟩⟩
  | succ k ih =>
    intro t i hi ht
    obtain ⟨t, rfl⟩ : ∃ t', t = t' + 1 := ⟨t - 1, by omega⟩
    have hlt : i < l.length := by omega
    have hx := FQ hlt
    rcases M2 t i _ hx with ⟨r, h1, h2⟩ | ⟨h1, h2⟩
    . exact ⟨r, h2, .inl h1⟩
    . obtain ⟨r, h3, h4⟩ := ih t (i + 1) (by omega) (by omega)
      refine ⟨r, by rw [h2, h3], ?_⟩
      rcases h4 with h4 | ⟨h4, h5⟩
      . exact .inl h4
      . refine .inr ⟨h4, fun x hx => ?_⟩
        rw [Ht hlt] at hx
        rcases GH.1 hx with rfl | hx
        . exact h1
        . exact h5 x hx
 have := key l.length t 0 (by omega) ht
 simpa using this
theorem R3 {α R : Type} (S : Nat -> Int -> List UInt8 -> Option R) (K0 : List UInt8 -> Option R) (l : List α) (wr : α -> List UInt8) (B : Nat)
 (M2 : ∀ (t i : Nat) (x : α) (out : List UInt8), l[i]? = some x -> out.length + (wr x).length <= B -> S (t + 1) i out = S t ((i + 1 : Nat) : Int) (out ++ wr x))
 (a9k : ∀ (t : Nat) (out : List UInt8), S (t + 1) (l.length : Int) out = K0 out) (t : Nat) (out : List UInt8) (ht : l.length < t) (hB : out.length + (l.flatMap wr).length <= B) : S t 0 out = K0 (out ++ l.flatMap wr) := by
 have key : ∀ (k t i : Nat) (out : List UInt8), i + k = l.length -> k < t -> out.length + ((l.drop i).flatMap wr).length <= B -> S t i out = K0 (out ++ (l.drop i).flatMap wr) := by
  intro k
  induction k with
  | zero =>
    intro t i out hi ht _
    obtain ⟨t, rfl⟩ : ∃ t', t = t' + 1 := ⟨t - 1, by omega⟩
    have : i = l.length := by omega
    subst this
    rw [a9k]; simp
  | succ k ih =>
    intro t i out hi ht hb
    obtain ⟨t, rfl⟩ : ∃ t', t = t' + 1 := ⟨t - 1, by omega⟩
    have hlt : i < l.length := by omega
    rw [Ht hlt, Hb, FU] at hb
    rw [M2 t i _ out (FQ hlt) (by omega), ih t (i + 1) _ (by omega) (by omega) (by rw [FU]; omega), Ht hlt, Hb, Gr]
 have := key l.length t 0 out (by omega) ht (by simpa using hB)
 simpa using this
theorem a0m {α R : Type} (S : Nat -> List V -> Int -> List UInt8 -> Option R) (K0 : List V -> List UInt8 -> Option R) (enc : α -> V) (wr : α -> List UInt8) (l : List α)
 (M2 : ∀ (t i : Nat) (x : α) (acc : List V) (rest : List UInt8), l[i]? = some x -> acc.length = i -> S (t + 1) acc i (wr x ++ rest) = S t (acc ++ [enc x]) ((i + 1 : Nat) : Int) rest)
 (a9k : ∀ (t : Nat) (acc : List V) (rest : List UInt8), S (t + 1) acc (l.length : Int) rest = K0 acc rest) (t : Nat) (rest : List UInt8) (ht : l.length < t) : S t [] 0 (l.flatMap wr ++ rest) = K0 (l.map enc) rest := by
 have key : ∀ (k t i : Nat) (acc : List V), i + k = l.length -> k < t -> acc.length = i -> S t acc i ((l.drop i).flatMap wr ++ rest) = K0 (acc ++ (l.drop i).map enc) rest := by
  intro k
  induction k with
  | zero =>
    intro t i acc hi ht _
    obtain ⟨t, rfl⟩ : ∃ t', t = t' + 1 := ⟨t - 1, by omega⟩
    have : i = l.length := by omega
    subst this
    rw [a9k]; simp
  | succ k ih =>
    intro t i acc hi ht ha
    obtain ⟨t, rfl⟩ : ∃ t', t = t' + 1 := ⟨t - 1, by omega⟩
    have hlt : i < l.length := by omega
    rw [Ht hlt, Hb, Gr, M2 t i _ acc _ (FQ hlt) ha, ih t (i + 1) _ (by omega) (by omega) (by simp [ha]), List.map_cons, Gr]
    rfl
 have := key l.length t 0 [] (by omega) ht rfl
 simpa using this
end En
namespace En
open Go
set_option maxRecDepth 10000
theorem a0L {R : Type} (X Y : Option R) : br true X Y = X := id rfl
theorem c0z {R : Type} (X Y : Option R) : br false X Y = Y := id rfl
def C2 (a b c d : UInt8) : Int := ((a.toNat * 16777216 + b.toNat * 65536 + c.toNat * 256 + d.toNat : Nat) : Int)
theorem w32 (n : Int) (h : 0 <= n) (h2 : n < 4294967296) : FL.wrap n = n := by rw [Ma]; omega
theorem b6M (a : UInt8) (k m : Nat) (hk : m = 2 ^ k) (h32 : k <= 32) (h : a.toNat * m < 4294967296) : a0u FL (FL.wrap (a.toNat : Int)) k = ((a.toNat * m : Nat) : Int) := by
 have ha := a.toNat_lt
 rw [w32 _ (by omega) (by omega)]
 subst hk
 have e : min ((k : Int).toNat) FL.bits = k := by rw [GE]; exact Nat.min_eq_left h32
 simp only [a0u]
 rw [e, show (a.toNat : Int) * 2 ^ k = ((a.toNat * 2 ^ k : Nat) : Int) by simp, w32 _ (by omega) (by omega)]
theorem e2j (x y k : Nat) (hx : x % 2 ^ k = 0) (hy : y < 2 ^ k) (h : x + y < 4294967296) : j9 Iz FL (x : Int) (y : Int) = ((x + y : Nat) : Int) := by
 have hb : FL.bits = 32 := rfl
 have e7l : x < 4294967296 := by omega
 have e7m : y < 4294967296 := by omega
 have e1 : (GT 32 (x : Int)).toNat = x := by simp [IS]; omega
 have e2 : (GT 32 (y : Int)).toNat = y := by simp [IS]; omega
 have e3 : x ||| y = x + y := by
  have h4 : 2 ^ k * (x / 2 ^ k) = x := by have := Nat.div_add_mod x (2 ^ k); omega
  have := Nat.two_pow_add_eq_or_of_lt hy (x / 2 ^ k)
  rw [h4] at this
  exact this.symm
 show FL.wrap ((GT 32 (x : Int) ||| GT 32 (y : Int)).toNat : Int) = _
 rw [KU, e1, e2, e3, w32 _ (by omega) (by omega)]
section
variable (N : Nat)
theorem b9M (a b c d : UInt8) : B9 N [a, b, c, d] = some (C2 a b c d) := by
 have h1 := a.toNat_lt
 have h2 := b.toNat_lt
 have h3 := c.toNat_lt
 have h4 := d.toNat_lt
 have e : B9 N [a, b, c, d] = some (j9 Iz FL (j9 Iz FL (j9 Iz FL (a0u FL (FL.wrap (a.toNat : Int)) (24 : Nat)) (a0u FL (FL.wrap (b.toNat : Int)) (16 : Nat))) (a0u FL (FL.wrap (c.toNat : Int)) (8 : Nat))) (FL.wrap (d.toNat : Int))) := rfl
 rw [e, b6M a 24 16777216 (by decide) (by decide) (by omega), b6M b 16 65536 (by decide) (by decide) (by omega), b6M c 8 256 (by decide) (by decide) (by omega), w32 (d.toNat : Int) (by omega) (by omega)]
 rw [e2j _ _ 24 (by omega) (by omega) (by omega), e2j _ _ 16 (by omega) (by omega) (by omega), e2j _ _ 8 (by omega) (by omega) (by omega)]
 rfl
theorem L6 (a b c d : UInt8) : K2 N [a, b, c, d] = some (C2 a b c d) := by
 have h1 := a.toNat_lt
 have h2 := b.toNat_lt
 have h3 := c.toNat_lt
 have h4 := d.toNat_lt
 have e : K2 N [a, b, c, d] = some (FL.wrap (FL.wrap (FL.wrap (a0u FL (FL.wrap (a.toNat : Int)) (24 : Nat) + a0u FL (FL.wrap (b.toNat : Int)) (16 : Nat)) + a0u FL (FL.wrap (c.toNat : Int)) (8 : Nat)) + FL.wrap (d.toNat : Int))) := rfl
 rw [e, b6M a 24 16777216 (by decide) (by decide) (by omega), b6M b 16 65536 (by decide) (by decide) (by omega), b6M c 8 256 (by decide) (by decide) (by omega), w32 (d.toNat : Int) (by omega) (by omega)]
 rw [w32 (((a.toNat * 16777216 : Nat) : Int) + ((b.toNat * 65536 : Nat) : Int)) (by omega) (by omega), w32 (((a.toNat * 16777216 : Nat) : Int) + ((b.toNat * 65536 : Nat) : Int) + ((c.toNat * 256 : Nat) : Int)) (by omega) (by omega), w32 _ (by omega) (by omega)]
 unfold C2
 congr 1
def fR (x k : Int) : Int := FL.wrap (j9 Ga FL (FL.wrap (FL.wrap (x + k) * 2654435761)) (G8 FL (FL.wrap (FL.wrap (x + k) * 2654435761)) 15) * 2246822519)
theorem e0D (x k : Int) : b7P N x k = some (fR x k) := rfl
def nx (a n : Int) : Int := j9 Ga FL a n
theorem d3i (k0 k1 k2 k3 k4 k5 k6 k7 k8 k9 k10 k11 k12 k13 k14 k15 : UInt8) : a7W N [k0, k1, k2, k3, k4, k5, k6, k7, k8, k9, k10, k11, k12, k13, k14, k15] = some (FL.wrap (C2 k0 k1 k2 k3 + 0), FL.wrap (C2 k4 k5 k6 k7 + 2654435769), FL.wrap (C2 k8 k9 k10 k11 + 1013904242), FL.wrap (C2 k12 k13 k14 k15 + 3668340011), FL.wrap (C2 k0 k1 k2 k3 + 2027808484), FL.wrap (C2 k4 k5 k6 k7 + 387276957), FL.wrap (C2 k8 k9 k10 k11 + 3041712726), FL.wrap (C2 k12 k13 k14 k15 + 1401181199), FL.wrap (C2 k0 k1 k2 k3 + 4055616968), FL.wrap (C2 k4 k5 k6 k7 + 2415085441), FL.wrap (C2 k8 k9 k10 k11 + 774553914), FL.wrap (C2 k12 k13 k14 k15 + 3428989683), FL.wrap (C2 k0 k1 k2 k3 + 1788458156), FL.wrap (C2 k4 k5 k6 k7 + 147926629), FL.wrap (C2 k8 k9 k10 k11 + 2802362398), FL.wrap (C2 k12 k13 k14 k15 + 1161830871)) := by
 have e : a7W N [k0, k1, k2, k3, k4, k5, k6, k7, k8, k9, k10, k11, k12, k13, k14, k15] = j3 (B9 N [k0, k1, k2, k3]) fun n0 => j3 (B9 N [k4, k5, k6, k7]) fun n1 => j3 (B9 N [k8, k9, k10, k11]) fun n2 => j3 (B9 N [k12, k13, k14, k15]) fun n3 => j3 (B9 N [k0, k1, k2, k3]) fun n4 => j3 (B9 N [k4, k5, k6, k7]) fun n5 => j3 (B9 N [k8, k9, k10, k11]) fun n6 => j3 (B9 N [k12, k13, k14, k15]) fun n7 => j3 (B9 N [k0, k1, k2, k3]) fun n8 => j3 (B9 N [k4, k5, k6, k7]) fun n9 => j3 (B9 N [k8, k9, k10, k11]) fun n10 => j3 (B9 N [k12, k13, k14, k15]) fun n11 => j3 (B9 N [k0, k1, k2, k3]) fun n12 => j3 (B9 N [k4, k5, k6, k7]) fun n13 => j3 (B9 N [k8, k9, k10, k11]) fun n14 => j3 (B9 N [k12, k13, k14, k15]) fun n15 => some (FL.wrap (n0 + 0), FL.wrap (n1 + 2654435769), FL.wrap (n2 + 1013904242), FL.wrap (n3 + 3668340011), FL.wrap (n4 + 2027808484), FL.wrap (n5 + 387276957), FL.wrap (n6 + 3041712726), FL.wrap (n7 + 1401181199), FL.wrap (n8 + 4055616968), FL.wrap (n9 + 2415085441), FL.wrap (n10 + 774553914), FL.wrap (n11 + 3428989683), FL.wrap (n12 + 1788458156), FL.wrap (n13 + 147926629), FL.wrap (n14 + 2802362398), FL.wrap (n15 + 1161830871)) := by kernel_rfl
 rw [e]
 simp only [b9M, j4]
theorem d3a (k0 k1 k2 k3 k4 k5 k6 k7 k8 k9 k10 k11 k12 k13 k14 k15 : UInt8) : C1 N [k0, k1, k2, k3, k4, k5, k6, k7, k8, k9, k10, k11, k12, k13, k14, k15] 0 = some (FL.wrap (C2 k0 k1 k2 k3 + 0)) := by
 have e : C1 N [k0, k1, k2, k3, k4, k5, k6, k7, k8, k9, k10, k11, k12, k13, k14, k15] 0 = j3 (K2 N [k0, k1, k2, k3]) fun n0 => some (FL.wrap (n0 + FL.wrap (FL.wrap 0 * 2654435769))) := rfl
 rw [e, L6, j4, show FL.wrap (FL.wrap 0 * 2654435769) = 0 from by decide]
theorem d1P (k0 k1 k2 k3 k4 k5 k6 k7 k8 k9 k10 k11 k12 k13 k14 k15 : UInt8) : C1 N [k0, k1, k2, k3, k4, k5, k6, k7, k8, k9, k10, k11, k12, k13, k14, k15] 1 = some (FL.wrap (C2 k4 k5 k6 k7 + 2654435769)) := by
 have e : C1 N [k0, k1, k2, k3, k4, k5, k6, k7, k8, k9, k10, k11, k12, k13, k14, k15] 1 = j3 (K2 N [k4, k5, k6, k7]) fun n0 => some (FL.wrap (n0 + FL.wrap (FL.wrap 1 * 2654435769))) := rfl
 rw [e, L6, j4, show FL.wrap (FL.wrap 1 * 2654435769) = 2654435769 from by decide]
theorem d3x (k0 k1 k2 k3 k4 k5 k6 k7 k8 k9 k10 k11 k12 k13 k14 k15 : UInt8) : C1 N [k0, k1, k2, k3, k4, k5, k6, k7, k8, k9, k10, k11, k12, k13, k14, k15] 2 = some (FL.wrap (C2 k8 k9 k10 k11 + 1013904242)) := by
 have e : C1 N [k0, k1, k2, k3, k4, k5, k6, k7, k8, k9, k10, k11, k12, k13, k14, k15] 2 = j3 (K2 N [k8, k9, k10, k11]) fun n0 => some (FL.wrap (n0 + FL.wrap (FL.wrap 2 * 2654435769))) := rfl
 rw [e, L6, j4, show FL.wrap (FL.wrap 2 * 2654435769) = 1013904242 from by decide]
theorem d5k (k0 k1 k2 k3 k4 k5 k6 k7 k8 k9 k10 k11 k12 k13 k14 k15 : UInt8) : C1 N [k0, k1, k2, k3, k4, k5, k6, k7, k8, k9, k10, k11, k12, k13, k14, k15] 3 = some (FL.wrap (C2 k12 k13 k14 k15 + 3668340011)) := by
 have e : C1 N [k0, k1, k2, k3, k4, k5, k6, k7, k8, k9, k10, k11, k12, k13, k14, k15] 3 = j3 (K2 N [k12, k13, k14, k15]) fun n0 => some (FL.wrap (n0 + FL.wrap (FL.wrap 3 * 2654435769))) := rfl
 rw [e, L6, j4, show FL.wrap (FL.wrap 3 * 2654435769) = 3668340011 from by decide]
theorem d4j (k0 k1 k2 k3 k4 k5 k6 k7 k8 k9 k10 k11 k12 k13 k14 k15 : UInt8) : C1 N [k0, k1, k2, k3, k4, k5, k6, k7, k8, k9, k10, k11, k12, k13, k14, k15] 4 = some (FL.wrap (C2 k0 k1 k2 k3 + 2027808484)) := by
 have e : C1 N [k0, k1, k2, k3, k4, k5, k6, k7, k8, k9, k10, k11, k12, k13, k14, k15] 4 = j3 (K2 N [k0, k1, k2, k3]) fun n0 => some (FL.wrap (n0 + FL.wrap (FL.wrap 4 * 2654435769))) := rfl
 rw [e, L6, j4, show FL.wrap (FL.wrap 4 * 2654435769) = 2027808484 from by decide]
theorem d1K (k0 k1 k2 k3 k4 k5 k6 k7 k8 k9 k10 k11 k12 k13 k14 k15 : UInt8) : C1 N [k0, k1, k2, k3, k4, k5, k6, k7, k8, k9, k10, k11, k12, k13, k14, k15] 5 = some (FL.wrap (C2 k4 k5 k6 k7 + 387276957)) := by
 have e : C1 N [k0, k1, k2, k3, k4, k5, k6, k7, k8, k9, k10, k11, k12, k13, k14, k15] 5 = j3 (K2 N [k4, k5, k6, k7]) fun n0 => some (FL.wrap (n0 + FL.wrap (FL.wrap 5 * 2654435769))) := rfl
 rw [e, L6, j4, show FL.wrap (FL.wrap 5 * 2654435769) = 387276957 from by decide]
theorem d4h (k0 k1 k2 k3 k4 k5 k6 k7 k8 k9 k10 k11 k12 k13 k14 k15 : UInt8) : C1 N [k0, k1, k2, k3, k4, k5, k6, k7, k8, k9, k10, k11, k12, k13, k14, k15] 6 = some (FL.wrap (C2 k8 k9 k10 k11 + 3041712726)) := by
 have e : C1 N [k0, k1, k2, k3, k4, k5, k6, k7, k8, k9, k10, k11, k12, k13, k14, k15] 6 = j3 (K2 N [k8, k9, k10, k11]) fun n0 => some (FL.wrap (n0 + FL.wrap (FL.wrap 6 * 2654435769))) := rfl
 rw [e, L6, j4, show FL.wrap (FL.wrap 6 * 2654435769) = 3041712726 from by decide]
theorem d2B (k0 k1 k2 k3 k4 k5 k6 k7 k8 k9 k10 k11 k12 k13 k14 k15 : UInt8) : C1 N [k0, k1, k2, k3, k4, k5, k6, k7, k8, k9, k10, k11, k12, k13, k14, k15] 7 = some (FL.wrap (C2 k12 k13 k14 k15 + 1401181199)) := by
 have e : C1 N [k0, k1, k2, k3, k4, k5, k6, k7, k8, k9, k10, k11, k12, k13, k14, k15] 7 = j3 (K2 N [k12, k13, k14, k15]) fun n0 => some (FL.wrap (n0 + FL.wrap (FL.wrap 7 * 2654435769))) := rfl
 rw [e, L6, j4, show FL.wrap (FL.wrap 7 * 2654435769) = 1401181199 from by decide]
theorem d1N (k0 k1 k2 k3 k4 k5 k6 k7 k8 k9 k10 k11 k12 k13 k14 k15 : UInt8) : C1 N [k0, k1, k2, k3, k4, k5, k6, k7, k8, k9, k10, k11, k12, k13, k14, k15] 8 = some (FL.wrap (C2 k0 k1 k2 k3 + 4055616968)) := by
 have e : C1 N [k0, k1, k2, k3, k4, k5, k6, k7, k8, k9, k10, k11, k12, k13, k14, k15] 8 = j3 (K2 N [k0, k1, k2, k3]) fun n0 => some (FL.wrap (n0 + FL.wrap (FL.wrap 8 * 2654435769))) := rfl
 rw [e, L6, j4, show FL.wrap (FL.wrap 8 * 2654435769) = 4055616968 from by decide]
theorem d5W (k0 k1 k2 k3 k4 k5 k6 k7 k8 k9 k10 k11 k12 k13 k14 k15 : UInt8) : C1 N [k0, k1, k2, k3, k4, k5, k6, k7, k8, k9, k10, k11, k12, k13, k14, k15] 9 = some (FL.wrap (C2 k4 k5 k6 k7 + 2415085441)) := by
 have e : C1 N [k0, k1, k2, k3, k4, k5, k6, k7, k8, k9, k10, k11, k12, k13, k14, k15] 9 = j3 (K2 N [k4, k5, k6, k7]) fun n0 => some (FL.wrap (n0 + FL.wrap (FL.wrap 9 * 2654435769))) := rfl
 rw [e, L6, j4, show FL.wrap (FL.wrap 9 * 2654435769) = 2415085441 from by decide]
theorem c9S (k0 k1 k2 k3 k4 k5 k6 k7 k8 k9 k10 k11 k12 k13 k14 k15 : UInt8) : C1 N [k0, k1, k2, k3, k4, k5, k6, k7, k8, k9, k10, k11, k12, k13, k14, k15] 10 = some (FL.wrap (C2 k8 k9 k10 k11 + 774553914)) := by
 have e : C1 N [k0, k1, k2, k3, k4, k5, k6, k7, k8, k9, k10, k11, k12, k13, k14, k15] 10 = j3 (K2 N [k8, k9, k10, k11]) fun n0 => some (FL.wrap (n0 + FL.wrap (FL.wrap 10 * 2654435769))) := rfl
 rw [e, L6, j4, show FL.wrap (FL.wrap 10 * 2654435769) = 774553914 from by decide]
theorem c9N (k0 k1 k2 k3 k4 k5 k6 k7 k8 k9 k10 k11 k12 k13 k14 k15 : UInt8) : C1 N [k0, k1, k2, k3, k4, k5, k6, k7, k8, k9, k10, k11, k12, k13, k14, k15] 11 = some (FL.wrap (C2 k12 k13 k14 k15 + 3428989683)) := by
 have e : C1 N [k0, k1, k2, k3, k4, k5, k6, k7, k8, k9, k10, k11, k12, k13, k14, k15] 11 = j3 (K2 N [k12, k13, k14, k15]) fun n0 => some (FL.wrap (n0 + FL.wrap (FL.wrap 11 * 2654435769))) := rfl
 rw [e, L6, j4, show FL.wrap (FL.wrap 11 * 2654435769) = 3428989683 from by decide]
theorem d0r (k0 k1 k2 k3 k4 k5 k6 k7 k8 k9 k10 k11 k12 k13 k14 k15 : UInt8) : C1 N [k0, k1, k2, k3, k4, k5, k6, k7, k8, k9, k10, k11, k12, k13, k14, k15] 12 = some (FL.wrap (C2 k0 k1 k2 k3 + 1788458156)) := by
 have e : C1 N [k0, k1, k2, k3, k4, k5, k6, k7, k8, k9, k10, k11, k12, k13, k14, k15] 12 = j3 (K2 N [k0, k1, k2, k3]) fun n0 => some (FL.wrap (n0 + FL.wrap (FL.wrap 12 * 2654435769))) := rfl
 rw [e, L6, j4, show FL.wrap (FL.wrap 12 * 2654435769) = 1788458156 from by decide]
theorem c9i (k0 k1 k2 k3 k4 k5 k6 k7 k8 k9 k10 k11 k12 k13 k14 k15 : UInt8) : C1 N [k0, k1, k2, k3, k4, k5, k6, k7, k8, k9, k10, k11, k12, k13, k14, k15] 13 = some (FL.wrap (C2 k4 k5 k6 k7 + 147926629)) := by
 have e : C1 N [k0, k1, k2, k3, k4, k5, k6, k7, k8, k9, k10, k11, k12, k13, k14, k15] 13 = j3 (K2 N [k4, k5, k6, k7]) fun n0 => some (FL.wrap (n0 + FL.wrap (FL.wrap 13 * 2654435769))) := rfl
 rw [e, L6, j4, show FL.wrap (FL.wrap 13 * 2654435769) = 147926629 from by decide]
theorem d0J (k0 k1 k2 k3 k4 k5 k6 k7 k8 k9 k10 k11 k12 k13 k14 k15 : UInt8) : C1 N [k0, k1, k2, k3, k4, k5, k6, k7, k8, k9, k10, k11, k12, k13, k14, k15] 14 = some (FL.wrap (C2 k8 k9 k10 k11 + 2802362398)) := by
 have e : C1 N [k0, k1, k2, k3, k4, k5, k6, k7, k8, k9, k10, k11, k12, k13, k14, k15] 14 = j3 (K2 N [k8, k9, k10, k11]) fun n0 => some (FL.wrap (n0 + FL.wrap (FL.wrap 14 * 2654435769))) := rfl
 rw [e, L6, j4, show FL.wrap (FL.wrap 14 * 2654435769) = 2802362398 from by decide]
theorem d1n (k0 k1 k2 k3 k4 k5 k6 k7 k8 k9 k10 k11 k12 k13 k14 k15 : UInt8) : C1 N [k0, k1, k2, k3, k4, k5, k6, k7, k8, k9, k10, k11, k12, k13, k14, k15] 15 = some (FL.wrap (C2 k12 k13 k14 k15 + 1161830871)) := by
 have e : C1 N [k0, k1, k2, k3, k4, k5, k6, k7, k8, k9, k10, k11, k12, k13, k14, k15] 15 = j3 (K2 N [k12, k13, k14, k15]) fun n0 => some (FL.wrap (n0 + FL.wrap (FL.wrap 15 * 2654435769))) := rfl
 rw [e, L6, j4, show FL.wrap (FL.wrap 15 * 2654435769) = 1161830871 from by decide]
theorem H3 {key : List UInt8} {i : Int} {k : Int} (h : C1 N key i = some k) (hi : i < 16) (h0 : 0 <= i) (t : Nat) (a b : Int) {R : Type} (K : Int -> Int -> Option R) : P8 N key false (t + 1) a b i K = P8 N key false t b (nx a (fR b k)) (i + 1) K := by
 show a8d N key false _ _ a b i = _
 unfold a8d
 rw [decide_eq_true hi, a0L, c0z, h, j4, e0D, j4, show FK.wrap (i + 1) = i + 1 by rw [Ho]; omega]
 rfl
def b7u (a b q0 q1 q2 q3 q4 q5 q6 q7 q8 q9 q10 q11 q12 q13 q14 q15 : Int) : Int × Int :=
 let c0 := nx a (fR b q0)
 let c1 := nx b (fR c0 q1)
 let c2 := nx c0 (fR c1 q2)
 let c3 := nx c1 (fR c2 q3)
 let c4 := nx c2 (fR c3 q4)
 let c5 := nx c3 (fR c4 q5)
 let c6 := nx c4 (fR c5 q6)
 let c7 := nx c5 (fR c6 q7)
 let c8 := nx c6 (fR c7 q8)
 let c9 := nx c7 (fR c8 q9)
 let c10 := nx c8 (fR c9 q10)
 let c11 := nx c9 (fR c10 q11)
 let c12 := nx c10 (fR c11 q12)
 let c13 := nx c11 (fR c12 q13)
 let c14 := nx c12 (fR c13 q14)
 let c15 := nx c13 (fR c14 q15)
 (c14, c15)
theorem d8p (a b q0 q1 q2 q3 q4 q5 q6 q7 q8 q9 q10 q11 q12 q13 q14 q15 : Int) : b8H N a b q0 q1 q2 q3 q4 q5 q6 q7 q8 q9 q10 q11 q12 q13 q14 q15 = some ((b7u a b q0 q1 q2 q3 q4 q5 q6 q7 q8 q9 q10 q11 q12 q13 q14 q15).2, (b7u a b q0 q1 q2 q3 q4 q5 q6 q7 q8 q9 q10 q11 q12 q13 q14 q15).1) := rfl
theorem d7g (k0 k1 k2 k3 k4 k5 k6 k7 k8 k9 k10 k11 k12 k13 k14 k15 : UInt8) (t : Nat) (a b : Int) {R : Type} (K : Int -> Int -> Option R) : P8 N [k0, k1, k2, k3, k4, k5, k6, k7, k8, k9, k10, k11, k12, k13, k14, k15] false (t + 17) a b 0 K = K (b7u a b (FL.wrap (C2 k0 k1 k2 k3 + 0)) (FL.wrap (C2 k4 k5 k6 k7 + 2654435769)) (FL.wrap (C2 k8 k9 k10 k11 + 1013904242)) (FL.wrap (C2 k12 k13 k14 k15 + 3668340011)) (FL.wrap (C2 k0 k1 k2 k3 + 2027808484)) (FL.wrap (C2 k4 k5 k6 k7 + 387276957)) (FL.wrap (C2 k8 k9 k10 k11 + 3041712726)) (FL.wrap (C2 k12 k13 k14 k15 + 1401181199)) (FL.wrap (C2 k0 k1 k2 k3 + 4055616968)) (FL.wrap (C2 k4 k5 k6 k7 + 2415085441)) (FL.wrap (C2 k8 k9 k10 k11 + 774553914)) (FL.wrap (C2 k12 k13 k14 k15 + 3428989683)) (FL.wrap (C2 k0 k1 k2 k3 + 1788458156)) (FL.wrap (C2 k4 k5 k6 k7 + 147926629)) (FL.wrap (C2 k8 k9 k10 k11 + 2802362398)) (FL.wrap (C2 k12 k13 k14 k15 + 1161830871))).1 (b7u a b (FL.wrap (C2 k0 k1 k2 k3 + 0)) (FL.wrap (C2 k4 k5 k6 k7 + 2654435769)) (FL.wrap (C2 k8 k9 k10 k11 + 1013904242)) (FL.wrap (C2 k12 k13 k14 k15 + 3668340011)) (FL.wrap (C2 k0 k1 k2 k3 + 2027808484)) (FL.wrap (C2 k4 k5 k6 k7 + 387276957)) (FL.wrap (C2 k8 k9 k10 k11 + 3041712726)) (FL.wrap (C2 k12 k13 k14 k15 + 1401181199)) (FL.wrap (C2 k0 k1 k2 k3 + 4055616968)) (FL.wrap (C2 k4 k5 k6 k7 + 2415085441)) (FL.wrap (C2 k8 k9 k10 k11 + 774553914)) (FL.wrap (C2 k12 k13 k14 k15 + 3428989683)) (FL.wrap (C2 k0 k1 k2 k3 + 1788458156)) (FL.wrap (C2 k4 k5 k6 k7 + 147926629)) (FL.wrap (C2 k8 k9 k10 k11 + 2802362398)) (FL.wrap (C2 k12 k13 k14 k15 + 1161830871))).2 := by
 rw [H3 N (d3a N k0 k1 k2 k3 k4 k5 k6 k7 k8 k9 k10 k11 k12 k13 k14 k15) (by decide) (by decide)]
 rw [show (0 : Int) + 1 = 1 from rfl]
 rw [H3 N (d1P N k0 k1 k2 k3 k4 k5 k6 k7 k8 k9 k10 k11 k12 k13 k14 k15) (by decide) (by decide)]
 rw [show (1 : Int) + 1 = 2 from rfl]
 rw [H3 N (d3x N k0 k1 k2 k3 k4 k5 k6 k7 k8 k9 k10 k11 k12 k13 k14 k15) (by decide) (by decide)]
 rw [show (2 : Int) + 1 = 3 from rfl]
 rw [H3 N (d5k N k0 k1 k2 k3 k4 k5 k6 k7 k8 k9 k10 k11 k12 k13 k14 k15) (by decide) (by decide)]
 rw [show (3 : Int) + 1 = 4 from rfl]
 rw [H3 N (d4j N k0 k1 k2 k3 k4 k5 k6 k7 k8 k9 k10 k11 k12 k13 k14 k15) (by decide) (by decide)]
 rw [show (4 : Int) + 1 = 5 from rfl]
 rw [H3 N (d1K N k0 k1 k2 k3 k4 k5 k6 k7 k8 k9 k10 k11 k12 k13 k14 k15) (by decide) (by decide)]
 rw [show (5 : Int) + 1 = 6 from rfl]
 rw [H3 N (d4h N k0 k1 k2 k3 k4 k5 k6 k7 k8 k9 k10 k11 k12 k13 k14 k15) (by decide) (by decide)]
 rw [show (6 : Int) + 1 = 7 from rfl]
 rw [H3 N (d2B N k0 k1 k2 k3 k4 k5 k6 k7 k8 k9 k10 k11 k12 k13 k14 k15) (by decide) (by decide)]
 rw [show (7 : Int) + 1 = 8 from rfl]
 rw [H3 N (d1N N k0 k1 k2 k3 k4 k5 k6 k7 k8 k9 k10 k11 k12 k13 k14 k15) (by decide) (by decide)]
 rw [show (8 : Int) + 1 = 9 from rfl]
 rw [H3 N (d5W N k0 k1 k2 k3 k4 k5 k6 k7 k8 k9 k10 k11 k12 k13 k14 k15) (by decide) (by decide)]
 rw [show (9 : Int) + 1 = 10 from rfl]
 rw [H3 N (c9S N k0 k1 k2 k3 k4 k5 k6 k7 k8 k9 k10 k11 k12 k13 k14 k15) (by decide) (by decide)]
 rw [show (10 : Int) + 1 = 11 from rfl]
 rw [H3 N (c9N N k0 k1 k2 k3 k4 k5 k6 k7 k8 k9 k10 k11 k12 k13 k14 k15) (by decide) (by decide)]
 rw [show (11 : Int) + 1 = 12 from rfl]
 rw [H3 N (d0r N k0 k1 k2 k3 k4 k5 k6 k7 k8 k9 k10 k11 k12 k13 k14 k15) (by decide) (by decide)]
 rw [show (12 : Int) + 1 = 13 from rfl]
 rw [H3 N (c9i N k0 k1 k2 k3 k4 k5 k6 k7 k8 k9 k10 k11 k12 k13 k14 k15) (by decide) (by decide)]
 rw [show (13 : Int) + 1 = 14 from rfl]
 rw [H3 N (d0J N k0 k1 k2 k3 k4 k5 k6 k7 k8 k9 k10 k11 k12 k13 k14 k15) (by decide) (by decide)]
 rw [show (14 : Int) + 1 = 15 from rfl]
 rw [H3 N (d1n N k0 k1 k2 k3 k4 k5 k6 k7 k8 k9 k10 k11 k12 k13 k14 k15) (by decide) (by decide)]
 rw [show (15 : Int) + 1 = 16 from rfl]
 rfl
def d0I (l r : Int) : List UInt8 := [FR (FY.wrap (G8 FL r 24)).toNat, FR (FY.wrap (G8 FL r 16)).toNat, FR (FY.wrap (G8 FL r 8)).toNat, FR (FY.wrap r).toNat, FR (FY.wrap (G8 FL l 24)).toNat, FR (FY.wrap (G8 FL l 16)).toNat, FR (FY.wrap (G8 FL l 8)).toNat, FR (FY.wrap l).toNat]
def d3y (k0 k1 k2 k3 k4 k5 k6 k7 k8 k9 k10 k11 k12 k13 k14 k15 b0 b1 b2 b3 b4 b5 b6 b7 : UInt8) : List UInt8 := d0I (b7u (C2 b0 b1 b2 b3) (C2 b4 b5 b6 b7) (FL.wrap (C2 k0 k1 k2 k3 + 0)) (FL.wrap (C2 k4 k5 k6 k7 + 2654435769)) (FL.wrap (C2 k8 k9 k10 k11 + 1013904242)) (FL.wrap (C2 k12 k13 k14 k15 + 3668340011)) (FL.wrap (C2 k0 k1 k2 k3 + 2027808484)) (FL.wrap (C2 k4 k5 k6 k7 + 387276957)) (FL.wrap (C2 k8 k9 k10 k11 + 3041712726)) (FL.wrap (C2 k12 k13 k14 k15 + 1401181199)) (FL.wrap (C2 k0 k1 k2 k3 + 4055616968)) (FL.wrap (C2 k4 k5 k6 k7 + 2415085441)) (FL.wrap (C2 k8 k9 k10 k11 + 774553914)) (FL.wrap (C2 k12 k13 k14 k15 + 3428989683)) (FL.wrap (C2 k0 k1 k2 k3 + 1788458156)) (FL.wrap (C2 k4 k5 k6 k7 + 147926629)) (FL.wrap (C2 k8 k9 k10 k11 + 2802362398)) (FL.wrap (C2 k12 k13 k14 k15 + 1161830871))).1 (b7u (C2 b0 b1 b2 b3) (C2 b4 b5 b6 b7) (FL.wrap (C2 k0 k1 k2 k3 + 0)) (FL.wrap (C2 k4 k5 k6 k7 + 2654435769)) (FL.wrap (C2 k8 k9 k10 k11 + 1013904242)) (FL.wrap (C2 k12 k13 k14 k15 + 3668340011)) (FL.wrap (C2 k0 k1 k2 k3 + 2027808484)) (FL.wrap (C2 k4 k5 k6 k7 + 387276957)) (FL.wrap (C2 k8 k9 k10 k11 + 3041712726)) (FL.wrap (C2 k12 k13 k14 k15 + 1401181199)) (FL.wrap (C2 k0 k1 k2 k3 + 4055616968)) (FL.wrap (C2 k4 k5 k6 k7 + 2415085441)) (FL.wrap (C2 k8 k9 k10 k11 + 774553914)) (FL.wrap (C2 k12 k13 k14 k15 + 3428989683)) (FL.wrap (C2 k0 k1 k2 k3 + 1788458156)) (FL.wrap (C2 k4 k5 k6 k7 + 147926629)) (FL.wrap (C2 k8 k9 k10 k11 + 2802362398)) (FL.wrap (C2 k12 k13 k14 k15 + 1161830871))).2
theorem d9J (hN : 100 < N) (k0 k1 k2 k3 k4 k5 k6 k7 k8 k9 k10 k11 k12 k13 k14 k15 b0 b1 b2 b3 b4 b5 b6 b7 : UInt8) : a9L N [k0, k1, k2, k3, k4, k5, k6, k7, k8, k9, k10, k11, k12, k13, k14, k15] [b0, b1, b2, b3, b4, b5, b6, b7] = some (d3y k0 k1 k2 k3 k4 k5 k6 k7 k8 k9 k10 k11 k12 k13 k14 k15 b0 b1 b2 b3 b4 b5 b6 b7, 0) := by
 obtain ⟨t, ht⟩ : ∃ t, N = t + 17 := ⟨N - 17, by omega⟩
 have e : a9L N [k0, k1, k2, k3, k4, k5, k6, k7, k8, k9, k10, k11, k12, k13, k14, k15] [b0, b1, b2, b3, b4, b5, b6, b7] = s7 (j3 (K2 N [b0, b1, b2, b3]) fun n0 => j3 (K2 N [b4, b5, b6, b7]) fun n1 => P8 N [k0, k1, k2, k3, k4, k5, k6, k7, k8, k9, k10, k11, k12, k13, k14, k15] false N n0 n1 0 fun n2 n3 => some (d0I n2 n3, (0 : Int))) fun l0 n1 => some (l0, n1) := rfl
 rw [e, L6, j4, L6, j4]
 have e2 : P8 N [k0, k1, k2, k3, k4, k5, k6, k7, k8, k9, k10, k11, k12, k13, k14, k15] false N (C2 b0 b1 b2 b3) (C2 b4 b5 b6 b7) 0 (fun n2 n3 => some (d0I n2 n3, (0 : Int))) = P8 N [k0, k1, k2, k3, k4, k5, k6, k7, k8, k9, k10, k11, k12, k13, k14, k15] false (t + 17) (C2 b0 b1 b2 b3) (C2 b4 b5 b6 b7) 0 (fun n2 n3 => some (d0I n2 n3, (0 : Int))) := congrArg (fun z => P8 N [k0, k1, k2, k3, k4, k5, k6, k7, k8, k9, k10, k11, k12, k13, k14, k15] false z (C2 b0 b1 b2 b3) (C2 b4 b5 b6 b7) 0 (fun n2 n3 => some (d0I n2 n3, (0 : Int)))) ht
 rw [e2, d7g]
 rfl
theorem d7S (hN : 100 < N) (k0 k1 k2 k3 k4 k5 k6 k7 k8 k9 k10 k11 k12 k13 k14 k15 b0 b1 b2 b3 b4 b5 b6 b7 : UInt8) : a7A N [k0, k1, k2, k3, k4, k5, k6, k7, k8, k9, k10, k11, k12, k13, k14, k15] [b0, b1, b2, b3, b4, b5, b6, b7] = some (d3y k0 k1 k2 k3 k4 k5 k6 k7 k8 k9 k10 k11 k12 k13 k14 k15 b0 b1 b2 b3 b4 b5 b6 b7) := by
 obtain ⟨t, ht⟩ : ∃ t, N = t + 3 := ⟨N - 3, by omega⟩
 have c0 : ∀ (q0 q1 q2 q3 q4 q5 q6 q7 q8 q9 q10 q11 q12 q13 q14 q15 x y : Int), O5 N x y q0 q1 q2 q3 q4 q5 q6 q7 q8 q9 q10 q11 q12 q13 q14 q15 N [] 0 (fun l20 => some (l20, (0 : Int))) = some (d0I y x, 0) := by
  intro q0 q1 q2 q3 q4 q5 q6 q7 q8 q9 q10 q11 q12 q13 q14 q15 x y
  have e2 : O5 N x y q0 q1 q2 q3 q4 q5 q6 q7 q8 q9 q10 q11 q12 q13 q14 q15 N [] 0 (fun l20 => some (l20, (0 : Int))) = O5 N x y q0 q1 q2 q3 q4 q5 q6 q7 q8 q9 q10 q11 q12 q13 q14 q15 (t + 3) [] 0 (fun l20 => some (l20, (0 : Int))) := congrArg (fun z => O5 N x y q0 q1 q2 q3 q4 q5 q6 q7 q8 q9 q10 q11 q12 q13 q14 q15 z [] 0 (fun l20 => some (l20, (0 : Int)))) ht
  rw [e2]
  rfl
 have e : a7A N [k0, k1, k2, k3, k4, k5, k6, k7, k8, k9, k10, k11, k12, k13, k14, k15] [b0, b1, b2, b3, b4, b5, b6, b7] = s7 (s7 (c7g (a7W N [k0, k1, k2, k3, k4, k5, k6, k7, k8, k9, k10, k11, k12, k13, k14, k15]) fun q0 q1 q2 q3 q4 q5 q6 q7 q8 q9 q10 q11 q12 q13 q14 q15 => j3 (B9 N [b0, b1, b2, b3]) fun n16 => j3 (B9 N [b4, b5, b6, b7]) fun n17 => s7 (b8H N n16 n17 q0 q1 q2 q3 q4 q5 q6 q7 q8 q9 q10 q11 q12 q13 q14 q15) fun n18 n19 => O5 N n18 n19 q0 q1 q2 q3 q4 q5 q6 q7 q8 q9 q10 q11 q12 q13 q14 q15 N [] 0 fun l20 => some (l20, (0 : Int))) fun l0 n1 => some (l0, n1)) fun l0 n1 => some l0 := rfl
 rw [e, d3i, d1Y, b9M, j4, b9M, j4, d8p, o7, c0, o7, o7]
 rfl
end
end En
namespace En
open Go
set_option maxRecDepth 10000
theorem e1N {l : List UInt8} (h : l.length = 16) : ∃ k0 k1 k2 k3 k4 k5 k6 k7 k8 k9 k10 k11 k12 k13 k14 k15, l = [k0, k1, k2, k3, k4, k5, k6, k7, k8, k9, k10, k11, k12, k13, k14, k15] := by
 match l, h with
 | [k0, k1, k2, k3, k4, k5, k6, k7, k8, k9, k10, k11, k12, k13, k14, k15], _ => exact ⟨k0, k1, k2, k3, k4, k5, k6, k7, k8, k9, k10, k11, k12, k13, k14, k15, rfl⟩
def chunks : Nat -> List UInt8 -> List (List UInt8)
 | 0, _ => []
 | n + 1, l => l.take 8 :: chunks n (l.drop 8)
def a4y (x : List UInt8) : List UInt8 := x.map fun b => 255 - b
section
variable (N : Nat)
noncomputable def a8y (key x : List UInt8) : List UInt8 := (a7A N key x).getD []
theorem a6v (hN : 100 < N) {key x : List UInt8} (hk : key.length = 16) (hx : x.length = 8) : (a8y N key x).length = 8 /\ a7A N key x = some (a8y N key x) /\ a9L N key x = some (a8y N key x, 0) := by
 obtain ⟨k0, k1, k2, k3, k4, k5, k6, k7, k8, k9, k10, k11, k12, k13, k14, k15, rfl⟩ := e1N hk
 obtain ⟨b0, b1, b2, b3, b4, b5, b6, b7, rfl⟩ := b6K hx
 have h1 := d7S N hN k0 k1 k2 k3 k4 k5 k6 k7 k8 k9 k10 k11 k12 k13 k14 k15 b0 b1 b2 b3 b4 b5 b6 b7
 have e : a8y N [k0, k1, k2, k3, k4, k5, k6, k7, k8, k9, k10, k11, k12, k13, k14, k15] [b0, b1, b2, b3, b4, b5, b6, b7] = d3y k0 k1 k2 k3 k4 k5 k6 k7 k8 k9 k10 k11 k12 k13 k14 k15 b0 b1 b2 b3 b4 b5 b6 b7 := by unfold a8y; rw [h1]; rfl
 rw [e]
 exact ⟨rfl, h1, d9J N hN ..⟩
noncomputable def M2 (h x : List UInt8) : List UInt8 := a6H (a8y N h x) (h.take 8) ++ a6H (a8y N h (a4y x)) (h.drop 8)
theorem a3e {a b : List UInt8} (ha : a.length = 8) (hb : b.length = 8) : (a6H a b).length = 8 := by simp [a6H, ha, hb]
theorem b0D (hN : 100 < N) {h x : List UInt8} (hh : h.length = 16) (hx : x.length = 8) : (M2 N h x).length = 16 := by
 have h1 := (a6v N hN hh hx).1
 have h2 := (a6v N hN hh (x := a4y x) (by simp [a4y, hx])).1
 unfold M2
 rw [FU, a3e h1 (by simp [hh]), a3e h2 (by simp [hh])]
theorem c7X {a b : List UInt8} (ha : a.length = 8) (hb : b.length = 8) : b3G N a b = some (a6H a b) := by
 unfold b3G b5n
 rw [if_pos ⟨ha, hb⟩]
 rfl
theorem d8D {x : List UInt8} (hx : x.length <= 900000) : b8U N x = some (a5S x) := by
 unfold b8U b4z
 rw [if_pos ⟨rfl, hx⟩]
 rfl
theorem e2r (a b : UInt8) : FR (j9 Ga FY (a.toNat : Int) (b.toNat : Int)).toNat = a ^^^ b := by
 have h : j9 Ga FY (a.toNat : Int) (b.toNat : Int) = ((a ^^^ b).toNat : Int) := W6 a b
 rw [h]; simp
theorem c8m (hN : 100 < N) {a b : List UInt8} (ha : a.length = 8) (hb : b.length = 8) : b5j N a b = some (a6H a b) := by
 obtain ⟨x0, x1, x2, x3, x4, x5, x6, x7, rfl⟩ := b6K ha
 obtain ⟨y0, y1, y2, y3, y4, y5, y6, y7, rfl⟩ := b6K hb
 obtain ⟨t, ht⟩ : ∃ t, N = t + 9 := ⟨N - 9, by omega⟩
 have e : b5j N [x0, x1, x2, x3, x4, x5, x6, x7] [y0, y1, y2, y3, y4, y5, y6, y7] = a1f N [x0, x1, x2, x3, x4, x5, x6, x7] [y0, y1, y2, y3, y4, y5, y6, y7] (t + 9) [] 0 fun l0 => some l0 := congrArg (fun z => a1f N [x0, x1, x2, x3, x4, x5, x6, x7] [y0, y1, y2, y3, y4, y5, y6, y7] z [] 0 fun l0 => some l0) ht
 rw [e]
 have e2 : (a1f N [x0, x1, x2, x3, x4, x5, x6, x7] [y0, y1, y2, y3, y4, y5, y6, y7] (t + 9) [] 0 fun l0 => some l0) = some [FR (j9 Ga FY (x0.toNat : Int) (y0.toNat : Int)).toNat, FR (j9 Ga FY (x1.toNat : Int) (y1.toNat : Int)).toNat, FR (j9 Ga FY (x2.toNat : Int) (y2.toNat : Int)).toNat, FR (j9 Ga FY (x3.toNat : Int) (y3.toNat : Int)).toNat, FR (j9 Ga FY (x4.toNat : Int) (y4.toNat : Int)).toNat, FR (j9 Ga FY (x5.toNat : Int) (y5.toNat : Int)).toNat, FR (j9 Ga FY (x6.toNat : Int) (y6.toNat : Int)).toNat, FR (j9 Ga FY (x7.toNat : Int) (y7.toNat : Int)).toNat] := rfl
 rw [e2]
 simp only [e2r]
 rfl
theorem e2o (a : UInt8) : FR (FY.wrap (255 - (a.toNat : Int))).toNat = 255 - a := by
 have h := a.toNat_lt
 rw [Mr, ← KT, Ip, Mu]
 simp
 omega
theorem e0p (hN : 100 < N) (l0 l1 : List UInt8) (i : Int) {x : List UInt8} (hx : x.length = 8) {R : Type} (K : List UInt8 -> Option R) : M9 N l0 l1 i x N [] 0 K = K (a4y x) := by
 obtain ⟨x0, x1, x2, x3, x4, x5, x6, x7, rfl⟩ := b6K hx
 obtain ⟨t, ht⟩ : ∃ t, N = t + 9 := ⟨N - 9, by omega⟩
 have e : M9 N l0 l1 i [x0, x1, x2, x3, x4, x5, x6, x7] N [] 0 K = M9 N l0 l1 i [x0, x1, x2, x3, x4, x5, x6, x7] (t + 9) [] 0 K := congrArg (fun z => M9 N l0 l1 i [x0, x1, x2, x3, x4, x5, x6, x7] z [] 0 K) ht
 rw [e]
 have e2 : M9 N l0 l1 i [x0, x1, x2, x3, x4, x5, x6, x7] (t + 9) [] 0 K = K [FR (FY.wrap (255 - (x0.toNat : Int))).toNat, FR (FY.wrap (255 - (x1.toNat : Int))).toNat, FR (FY.wrap (255 - (x2.toNat : Int))).toNat, FR (FY.wrap (255 - (x3.toNat : Int))).toNat, FR (FY.wrap (255 - (x4.toNat : Int))).toNat, FR (FY.wrap (255 - (x5.toNat : Int))).toNat, FR (FY.wrap (255 - (x6.toNat : Int))).toNat, FR (FY.wrap (255 - (x7.toNat : Int))).toNat] := rfl
 rw [e2]
 simp only [e2o]
 rfl
theorem b6n (K : List UInt8 -> Option (List UInt8 × Int)) : ∀ (k t : Nat) (l : List UInt8), (l.length + k) % 8 = 0 -> k < 8 -> k < t -> l.length <= 1000000 -> a1n N 8 t l K = K (l ++ List.replicate k 0)
 | 0, t + 1, l, h, _, _, hl => by
   show a1H N 8 _ _ l = _
   unfold a1H
   have e : (l.length : Int).tmod 8 = 0 := by rw [Hw (by omega)]; omega
   rw [e]
   simp [br]
 | k + 1, t + 1, l, h, hk, ht, hl => by
   show a1H N 8 _ _ l = _
   unfold a1H
   have e : ¬ (l.length : Int).tmod 8 = 0 := by rw [Hw (by omega)]; omega
   have e2 : (l.length + 1) * 1 <= 140737488355328 := by omega
   rw [decide_eq_false e, decide_eq_true e2]
   have := b6n K k t (l ++ [FR (JG 0)]) (by simp; omega) (by omega) (by omega) (by simp; omega)
   show a1n N 8 t (l ++ [FR (JG 0)]) K = _
   rw [this, Gr]
   rfl
theorem d7G (hN : 100 < N) {x : List UInt8} (hx : x.length <= 900000) : b0w N x 8 = some (a5S x, 0) := by
 unfold b0w
 have e1 : (0 + x.length) * 1 <= 140737488355328 := by omega
 have e2 : (x.length + 1) * 1 <= 140737488355328 := by omega
 rw [decide_eq_true e1, decide_eq_true e2]
 show a1n N 8 N (x ++ [FR (JG 128)]) _ = _
 rw [b6n N _ ((8 - (x.length + 1) % 8) % 8) N _ (by simp; omega) (by omega) (by omega) (by simp; omega)]
 rfl
theorem d6P (x : List UInt8) : (a5S x).length % 8 = 0 /\ (a5S x).length <= x.length + 8 := by
 unfold a5S
 simp only [FU, FO, List.length_nil, List.length_replicate]
 omega
def G1 (x : List UInt8) : List UInt8 := a5S x ++ be8 x.length
theorem a4s (x : List UInt8) : ∃ n, (G1 x).length = 8 * n /\ 8 * n <= x.length + 16 := by
 have := d6P x
 refine ⟨(a5S x).length / 8 + 1, ?_, ?_⟩
 . unfold G1
   rw [FU, show (be8 (x.length : Int)).length = 8 from rfl]
   omega
 . omega
theorem b5w (hN : 100 < N) (blocks : List UInt8) (hb : blocks.length <= 900000) {R : Type} (K : List UInt8 -> Option R) : ∀ (n t i : Nat) (h : List UInt8), blocks.length = i + 8 * n -> n < t -> h.length = 16 -> a0Y N blocks t h (i : Int) K = K ((chunks n (blocks.drop i)).foldl (M2 N) h)
 | 0, t + 1, i, h, hi, _, hh => by
   show a0T N blocks _ _ h (i : Int) = _
   unfold a0T
   rw [decide_eq_false (by omega), c0z]
   rfl
 | n + 1, t + 1, i, h, hi, ht, hh => by
   show a0T N blocks _ _ h (i : Int) = _
   unfold a0T
   have ew : FK.wrap ((i : Int) + 8) = ((i + 8 : Nat) : Int) := by rw [Ho]; omega
   rw [ew, decide_eq_true (by omega : (i : Int) < (blocks.length : Int)), a0L, GE, GE, decide_eq_true (by omega : (0 : Int) <= ((i + 8 : Nat) : Int)), decide_eq_true (by omega : ((i + 8 : Nat) : Int) <= (blocks.length : Int)), decide_eq_true (by omega : (0 : Int) <= (i : Int)), decide_eq_true (by omega : (i : Int) <= ((i + 8 : Nat) : Int))]
   have hx : ((blocks.take (i + 8)).drop i) = (blocks.drop i).take 8 := by rw [List.drop_take]; congr 1; omega
   have hxl : ((blocks.drop i).take 8).length = 8 := by rw [GU, GZ]; omega
   rw [hx]
   show M9 N blocks h (i : Int) ((blocks.drop i).take 8) N [] 0 _ = _
   rw [e0p N hN _ _ _ hxl]
   obtain ⟨a1, _, a2⟩ := a6v N hN hh hxl
   obtain ⟨b1, _, b2⟩ := a6v N hN hh (x := a4y ((blocks.drop i).take 8)) (by simp only [a4y, List.length_map]; exact hxl)
   rw [a2, o7, b2, o7, decide_eq_true (by omega : (8 : Int) <= (h.length : Int)), a0L, c8m N hN a1 (by simp [hh]), j4]
   have l1 : (a6H (a8y N h ((blocks.drop i).take 8)) (h.take 8)).length = 8 := a3e a1 (by simp [hh])
   have l2 : (a6H (a8y N h (a4y ((blocks.drop i).take 8))) (h.drop 8)).length = 8 := a3e b1 (by simp [hh])
   rw [decide_eq_true (by omega : (0 + (a6H (a8y N h ((blocks.drop i).take 8)) (h.take 8)).length) * 1 <= 140737488355328), a0L, a0L, c8m N hN b1 (by simp [hh]), j4]
   rw [decide_eq_true (by omega : ((a6H (a8y N h ((blocks.drop i).take 8)) (h.take 8)).length + (a6H (a8y N h (a4y ((blocks.drop i).take 8))) (h.drop 8)).length) * 1 <= 140737488355328), a0L]
   have := b5w hN blocks hb K n t (i + 8) (M2 N h ((blocks.drop i).take 8)) (by omega) (by omega) (b0D N hN hh hxl)
   rw [show blocks.drop (i + 8) = (blocks.drop i).drop 8 by rw [IC]] at this
   exact this
def a1g : List UInt8 := [0, 0, 0, 0, 0, 0, 0, 0, 0, 0, 0, 0, 0, 0, 0, 0]
noncomputable def a5J (x : List UInt8) : List UInt8 := (chunks ((G1 x).length / 8) (G1 x)).foldl (M2 N) a1g
theorem d5g {x : List UInt8} (hx : x.length <= 5000) (hN : 100000 < N) : b1Z N x = some (a5J N x) := by
 obtain ⟨n, h1, h2⟩ := a4s x
 unfold b1Z b8J b4v
 rw [d7G N (by omega) (by omega), o7, if_pos ⟨rfl, by omega⟩, o7]
 have hl : ((a5S x).length + (be8 (x.length : Int)).length) * 1 <= 140737488355328 := by
  have : (G1 x).length = (a5S x).length + (be8 (x.length : Int)).length := by unfold G1; rw [FU]
  omega
 rw [decide_eq_true hl, a0L]
 have := b5w N (by omega) (G1 x) (by omega) (fun l => some l) n N 0 a1g (by omega) (by omega) rfl
 have e : a0Y N (a5S x ++ be8 (x.length : Int)) N ([0, 0, 0, 0, 0, 0, 0, 0, 0, 0, 0, 0, 0, 0, 0, 0] : List UInt8) 0 (fun l4 => some l4) = some ((chunks n (G1 x)).foldl (M2 N) a1g) := this
 rw [e, j4]
 unfold a5J
 rw [show (G1 x).length / 8 = n by omega]
theorem c2P (hN : 100 < N) : ∀ (n : Nat) (l h : List UInt8), l.length = 8 * n -> h.length = 16 -> ((chunks n l).foldl (M2 N) h).length = 16
 | 0, l, h, _, hh => hh
 | n + 1, l, h, hl, hh => c2P hN n (l.drop 8) _ (by rw [GZ]; omega) (b0D N hN hh (by rw [GU]; omega))
end
end En
namespace En
open Go
noncomputable def e1U : Code -> Code
 | .block _ (.loop b) => b
 | c => c
noncomputable def d9W : Code -> Code
 | .block _ b => b
 | c => c
noncomputable def hX : Code := e5u (R6 4 (s6 Tryz.f30))
noncomputable def hL : Code := e1U (d7k hX)
noncomputable def hB1 : Code := d9W (e5u (R6 2 hL))
end En
namespace En
open Go
set_option maxRecDepth 100000
noncomputable def cxH (N : Nat) : Cx := { T := T, isPure := a5b [b1A N, b7F N, a7Y N, b9u N, b8Q N], pureK := fun g ds K => a1K [b1A N, b7F N, a7Y N, b9u N, b8Q N] g ds K, memK := fun g dst ds m K => W4 [⟨51, b1T (a2e N)⟩] g dst ds m K, meth := a2E [], keep := fun _ => [], keepX := fun _ => [], loopT := fun _ _ _ _ => none, jumps := 9 }
theorem e1X (N : Nat) : CxOK Tryz.prog (cxH N) :=
 M3 (es := [b1A N, b7F N, a7Y N, b9u N, b8Q N]) (me := [⟨51, b1T (a2e N)⟩]) (ms := []) a7s ⟨d2o N, d9p N, c9O N, d8B N, d8w N, trivial⟩ ⟨d4a _ (d8N N), trivial⟩ trivial rfl (fun _ _ _ _ => rfl) (fun _ _ _ _ _ _ => rfl) rfl
section
variable (N : Nat) (h x y : List UInt8) (vs : List V) (n k : Int)
theorem d9o : codeK (cxH N) (R5 4 (s6 Tryz.f30)) ⟨E5 [(0, .v (.bytes x) .no)] 0 66, [[]], []⟩ (b1p [3, 6]) = s7 (a6d N (x.length : Int) 8) fun l0 n1 => j3 (b8U N x) fun l2 => j3 (a2e N [V.bytes l2, V.bytes l0]) fun l3 => s7 (a8v N l3 8) fun l4 n5 => some (.normal, [.v (.bytes [0, 0, 0, 0, 0, 0, 0, 0, 0, 0, 0, 0, 0, 0, 0, 0]) (.own (.slot 12) 5), .v (.sl 22 l4) .no], [[]]) := by
 kernel_rfl
theorem e5m : codeK (cxH N) (R5 1 hX) ⟨E5 [(3, .v (.bytes h) .no), (6, .v (.sl 22 vs) .no)] 0 66, [[]], []⟩ (b1p [3, 28, 29, 30]) = some (.normal, [.v (.bytes h) .no, .v (.sl 22 vs) .no, .v (.int .i64 (vs.length : Int)) .no, .v (.int .i64 0) .no], [[]]) := by
 kernel_rfl
theorem e4w : codeK (cxH N) (R5 2 hL) ⟨E5 [(3, .v (.bytes h) .no), (28, .v (.sl 22 vs) .no), (29, .v (.int .i64 n) .no), (30, .v (.int .i64 k) .no)] 0 66, [[]], []⟩ (b1p [3, 28, 29, 30]) = br (decide (k < n)) (some (.normal, [.v (.bytes h) .no, .v (.sl 22 vs) .no, .v (.int .i64 n) .no, .v (.int .i64 k) .no], [[]])) (some (.exit 0, [.v (.bytes h) .no, .v (.sl 22 vs) .no, .v (.int .i64 n) .no, .v (.int .i64 k) .no], [[]])) := by
 kernel_rfl
theorem e3Q : codeK (cxH N) (R5 1 hB1) ⟨E5 [(3, .v (.bytes h) .no), (28, .v (.sl 22 vs) .no), (29, .v (.int .i64 n) .no), (30, .v (.int .i64 k) .no)] 0 66, [[]], []⟩ (b1p [3, 9, 28, 29, 30]) = br (decide (0 <= k) && decide (k < (vs.length : Int))) (at? vs k.toNat fun z => z.unBytes fun l => some (.normal, [.v (.bytes h) .no, .v (.bytes l) .no, .v (.sl 22 vs) .no, .v (.int .i64 n) .no, .v (.int .i64 k) .no], [[]])) none := by
 kernel_rfl
theorem e2m : codeK (cxH N) (R6 3 hB1) ⟨E5 [(3, .v (.bytes h) .no), (9, .v (.bytes x) .no), (10, .v (.bytes y) .no), (28, .v (.sl 22 vs) .no), (29, .v (.int .i64 n) .no), (30, .v (.int .i64 k) .no)] 0 66, [[]], []⟩ (b1p [3, 28, 29, 30]) = j3 (a7A N h x) fun c1 => br (decide (8 <= (h.length : Int))) (j3 (b3G N c1 (h.take 8)) fun a1 => j3 (a7A N h y) fun c2 => br (decide (8 <= (h.length : Int))) (j3 (b3G N c2 (h.drop 8)) fun a2 => j3 (a2e N [V.bytes a1, V.bytes a2]) fun j => some (.normal, [.v (.bytes j) (.own (.slot 63) 5), .v (.sl 22 vs) .no, .v (.int .i64 n) .no, .v (.int .i64 k) .no], [[]])) none) none := by
 kernel_rfl
theorem e2V : codeK (cxH N) (d7k (R6 2 hL)) ⟨E5 [(3, .v (.bytes h) .no), (28, .v (.sl 22 vs) .no), (29, .v (.int .i64 n) .no), (30, .v (.int .i64 k) .no)] 0 66, [[]], []⟩ (b1p [3, 28, 29, 30]) = some (.normal, [.v (.bytes h) .no, .v (.sl 22 vs) .no, .v (.int .i64 n) .no, .v (.int .i64 (FK.wrap (k + 1))) .no], [[]]) := by
 kernel_rfl
theorem e2P : codeK (cxH N) (R6 5 (s6 Tryz.f30)) ⟨E5 [(3, .v (.bytes h) .no)] 0 66, [[]], []⟩ (b1p [2]) = some (.ret, [.v (.bytes h) .no], [[]]) := by
 kernel_rfl
end
end En
namespace En
open Go Go.RowKit
set_option maxRecDepth 10000
def E0 : Env := ⟨0, F4 [[]]⟩
section
variable {E E' : Env} {g g' g0 : G} {w w' w0 : Gc}
theorem c3f {N : Nat} {l : List (Nat × D)} {m : Mem} {a : Act} (hh : Here T E g w m) (hsz : a.tmps.size = N) (hd : a.defers = []) (h : ∀ k d, l.lookup k = some d -> RepD E g w [] d (a.tmps.getD k undef)) : Sim T E g w ⟨E5 l 0 N, m, []⟩ a := by
 refine ⟨hh, fun k x hk => ?_, by rw [L1]; exact hsz, hd⟩
 rcases a2n _ _ _ _ _ hk with rfl | hx
 . exact .any _
 . rw [GL] at hx; exact h k x hx
theorem c7s {m : Mem} (h : Here T E g w m) (hd : E.d = 0) (hm : m = [[]]) : E = E0 := by
 subst hm
 obtain ⟨d, dom⟩ := E
 have h1 : dom = F4 [[]] := h.dom
 have h2 : d = 0 := hd
 subst h1; subst h2; rfl
theorem a7c {N : Nat} {c : Code} {l : List (Nat × D)} {ks : List Nat} {e0 : Ex} {ds : List D} {Q : Exit -> Act -> Gc -> Prop} {a : Act} (hro : D6 Tryz.prog (cxH N) c) (hlo : F2 c = []) (hh : Here T E0 g w [[]]) (hsz : a.tmps.size = 66) (hd : a.defers = []) (hl : ∀ k d, l.lookup k = some d -> RepD E0 g w [] d (a.tmps.getD k undef))
 (h : codeK (cxH N) c ⟨E5 l 0 66, [[]], []⟩ (b1p ks) = some (e0, ds, [[]])) (hq : ∀ g' a' w', Sim T E0 g' w' ⟨E5 (ks.zip ds) 0 66, [[]], []⟩ a' -> Tr 0 g w g' w' -> Q (d3Y e0) a' w') : c.wp Tryz.prog Q a w := by
 refine (a8f (e1X N) c hro).1 _ 66 _ a w E0 g _ _ Q (b0S hlo) (c3f hh hsz hd hl) hsz h fun e st' a' w' hk ht => ?_
 obtain ⟨rfl, h2, h3, h4⟩ := b6m hk
 obtain ⟨E', g', b1, b2, b3, b4⟩ := ht
 have h5 := c3M b1 h2 ks h4
 rw [h3, show st'.slots.length = 66 by rw [← b1.size]; exact b4] at h5
 have hE : E' = E0 := c7s h5.here b2 rfl
 subst hE
 exact hq g' a' w' h5 b3
theorem a3y {N n : Nat} {c : Code} {l : List (Nat × D)} {ks : List Nat} {e0 : Ex} {ds : List D} {Q : Exit -> Act -> Gc -> Prop} {a : Act} (hsp : b1w n c = true) (hro : drawnOf (R5 n c) = []) (hlo : F2 (R5 n c) = []) (hh : Here T E0 g w [[]]) (hsz : a.tmps.size = 66) (hd : a.defers = []) (hl : ∀ k d, l.lookup k = some d -> RepD E0 g w [] d (a.tmps.getD k undef))
 (h : codeK (cxH N) (R5 n c) ⟨E5 l 0 66, [[]], []⟩ (b1p ks) = some (e0, ds, [[]])) (hq : ∀ g' a' w', Sim T E0 g' w' ⟨E5 (ks.zip ds) 0 66, [[]], []⟩ a' -> Tr 0 g w g' w' -> d4K Tryz.prog (R6 n c) Q e0 a' w') : c.wp Tryz.prog Q a w := by
 refine piece (e1X N) hsp (a2p hro) (b0S hlo) (c3f hh hsz hd hl) hsz h fun E' g' a' w' b1 b4 b2 b3 => ?_
 have hE : E' = E0 := c7s b1.here b2 rfl
 subst hE
 exact hq g' a' w' b1 b3
structure HashI (g0 : G) (w0 : Gc) (h : List UInt8) (vs : List V) (n k : Int) (g : G) (w : Gc) (a : Act) : Prop where
 here : Here T E0 g w [[]]
 size : a.tmps.size = 66
 defers : a.defers = []
 s3 : RepV g w (.bytes h) (a.tmps.getD 3 undef)
 s28 : RepV g w (.sl 22 vs) (a.tmps.getD 28 undef)
 s29 : RepV g w (.int .i64 n) (a.tmps.getD 29 undef)
 s30 : RepV g w (.int .i64 k) (a.tmps.getD 30 undef)
 tr : Tr 0 g0 w0 g w
theorem HashI.of {h : List UInt8} {vs : List V} {n k : Int} {at_ : Att} {a : Act} (hs : Sim T E0 g w ⟨E5 [(3, .v (.bytes h) at_), (28, .v (.sl 22 vs) .no), (29, .v (.int .i64 n) .no), (30, .v (.int .i64 k) .no)] 0 66, [[]], []⟩ a) (ht : Tr 0 g0 w0 g w) : HashI g0 w0 h vs n k g w a :=
 ⟨hs.here, hs.size.trans (L1 _ _ _), hs.defers, F6 (hs.slots 3 _ rfl), F6 (hs.slots 28 _ rfl), F6 (hs.slots 29 _ rfl), F6 (hs.slots 30 _ rfl), ht⟩
theorem HashI.look {h : List UInt8} {vs : List V} {n k : Int} {a : Act} (hI : HashI g0 w0 h vs n k g w a) : ∀ j d, Oe j [(3, D.v (.bytes h) .no), (28, .v (.sl 22 vs) .no), (29, .v (.int .i64 n) .no), (30, .v (.int .i64 k) .no)] = some d -> RepD E0 g w [] d (a.tmps.getD j undef) := by
 intro j d hj
 simp only [II, Jh] at hj
 split at hj
 . rename_i e; rw [beq_iff_eq] at e; subst e; injection hj with hj; subst hj; exact .v _ _ _ hI.s3 trivial
 . split at hj
   . rename_i e; rw [beq_iff_eq] at e; subst e; injection hj with hj; subst hj; exact .v _ _ _ hI.s28 trivial
   . split at hj
     . rename_i e; rw [beq_iff_eq] at e; subst e; injection hj with hj; subst hj; exact .v _ _ _ hI.s29 trivial
     . split at hj
       . rename_i e; rw [beq_iff_eq] at e; subst e; injection hj with hj; subst hj; exact .v _ _ _ hI.s30 trivial
       . cases hj
theorem e4q {x y h : List UInt8} {vs : List V} {n k : Int} {a : Act} (s3 : RepV g w (.bytes h) (a.tmps.getD 3 undef)) (s9 : RepV g w (.bytes x) (a.tmps.getD 9 undef)) (s10 : RepV g w (.bytes y) (a.tmps.getD 10 undef)) (s28 : RepV g w (.sl 22 vs) (a.tmps.getD 28 undef)) (s29 : RepV g w (.int .i64 n) (a.tmps.getD 29 undef)) (s30 : RepV g w (.int .i64 k) (a.tmps.getD 30 undef)) :
 ∀ j d, Oe j [(3, D.v (.bytes h) .no), (9, .v (.bytes x) .no), (10, .v (.bytes y) .no), (28, .v (.sl 22 vs) .no), (29, .v (.int .i64 n) .no), (30, .v (.int .i64 k) .no)] = some d -> RepD E0 g w [] d (a.tmps.getD j undef) := by
 intro j d hj
 simp only [II, Jh] at hj
 repeat' split at hj
 all_goals first | (rename_i e; rw [beq_iff_eq] at e; subst e; injection hj with hj; subst hj; refine .v _ _ _ ?_ trivial; assumption) | cases hj
end
end En
namespace En
open Go Go.RowKit
set_option maxRecDepth 10000
theorem d9R {us : Array FX} (h : us.size = 66) : ∃ (t0 t1 t2 t3 t4 t5 t6 t7 t8 t9 t10 t11 t12 t13 t14 t15 t16 t17 t18 t19 t20 t21 t22 t23 t24 t25 t26 t27 t28 t29 t30 t31 t32 t33 t34 t35 t36 t37 t38 t39 t40 t41 t42 t43 t44 t45 t46 t47 t48 t49 t50 t51 t52 t53 t54 t55 t56 t57 t58 t59 t60 t61 t62 t63 t64 t65 : FX), us = #[t0, t1, t2, t3, t4, t5, t6, t7, t8, t9, t10, t11, t12, t13, t14, t15, t16, t17, t18, t19, t20, t21, t22, t23, t24, t25, t26, t27, t28, t29, t30, t31, t32, t33, t34, t35, t36, t37, t38, t39, t40, t41, t42, t43, t44, t45, t46, t47, t48, t49, t50, t51, t52, t53, t54, t55, t56, t57, t58, t59, t60, t61, t62, t63, t64, t65] := by
 obtain ⟨l⟩ := us
 match l, h with
 | t0 :: t1 :: t2 :: t3 :: t4 :: t5 :: t6 :: t7 :: t8 :: t9 :: t10 :: t11 :: t12 :: t13 :: t14 :: t15 :: t16 :: t17 :: t18 :: t19 :: t20 :: t21 :: t22 :: t23 :: t24 :: t25 :: t26 :: t27 :: t28 :: t29 :: t30 :: t31 :: t32 :: t33 :: t34 :: t35 :: t36 :: t37 :: t38 :: t39 :: t40 :: t41 :: t42 :: t43 :: t44 :: t45 :: t46 :: t47 :: t48 :: t49 :: t50 :: t51 :: t52 :: t53 :: t54 :: t55 :: t56 :: t57 :: t58 :: t59 :: t60 :: t61 :: t62 :: t63 :: t64 :: t65 :: [], _ => exact ⟨t0, t1, t2, t3, t4, t5, t6, t7, t8, t9, t10, t11, t12, t13, t14, t15, t16, t17, t18, t19, t20, t21, t22, t23, t24, t25, t26, t27, t28, t29, t30, t31, t32, t33, t34, t35, t36, t37, t38, t39, t40, t41, t42, t43, t44, t45, t46, t47, t48, t49, t50, t51, t52, t53, t54, t55, t56, t57, t58, t59, t60, t61, t62, t63, t64, t65, rfl⟩
def b5N (x : List UInt8) (k j : Nat) : FX := .int .u8 ((if j < k then 255 - x.getD j 0 else x.getD j 0).toNat : Int)
theorem d6d (a : UInt8) : bits .xor .u8 FY.max (a.toNat : Int) = ((255 - a).toNat : Int) := by
 have ha := a.toNat_lt
 have h1 : ∀ z : Fin 256, 255 ^^^ z.val = 255 - z.val := by decide +kernel
 have h2 := h1 ⟨a.toNat, by omega⟩
 rw [show FY.max = ((255 : Nat) : Int) from rfl, u8_xor_nat _ _ (by omega) (by omega)]
 have h3 : (255 - a).toNat = 255 - a.toNat := by
  rw [Mu]
  simp
  omega
 rw [h3, h2]
section
variable {E E' : Env} {g g' : G} {w w' : Gc}
structure MidOut (g0 : G) (w0 : Gc) (a0 : Act) (y : List UInt8) (g : G) (w : Gc) (a : Act) : Prop where
 size : a.tmps.size = 66
 defers : a.defers = []
 s3 : a.tmps.getD 3 undef = a0.tmps.getD 3 undef
 s9 : a.tmps.getD 9 undef = a0.tmps.getD 9 undef
 s28 : a.tmps.getD 28 undef = a0.tmps.getD 28 undef
 s29 : a.tmps.getD 29 undef = a0.tmps.getD 29 undef
 s30 : a.tmps.getD 30 undef = a0.tmps.getD 30 undef
 s10 : RepV g w (.bytes y) (a.tmps.getD 10 undef)
 tr : Tr 0 g0 w0 g w
theorem e1H (hb : Below w.heap.size w w') : Tr 0 g w { g with Γ := fun b => if b < w.heap.size then g.Γ b else .imm } w' := by
 refine ⟨hb.os, hb.tape, hb.output, hb.size, ⟨rfl, fun b o v h1 h2 => ?_, fun b x h1 h2 => ?_⟩, fun b hlt _ => ⟨if_pos hlt, hb.block b hlt⟩, fun _ _ _ => rfl⟩
 . have hlt := a8T h2
   refine ⟨?_, by rw [cell_of_heap (hb.block b hlt)]; exact h2⟩
   unfold s5
   simp only [if_pos hlt]
   exact h1
 . have hlt := G7 h2
   exact ⟨by simp only [if_pos hlt]; exact h1, by rw [hb.block b hlt]; exact h2⟩
theorem d9T {bm c : Nat} {cur : Array FX} {x : List UInt8} (hx : x.length = 8) (hbm : w.heap.size <= bm) (hh : w'.heap[bm]? = some (.cells cur 5 (0, 0))) (hcs : ∀ j, j < 8 -> cur[j]? = some (b5N x 8 j)) (h8 : 8 <= c) (hc : c <= maxLen) :
 RepV { g with Γ := fun b => if b < w.heap.size then g.Γ b else .imm } w' (.bytes (a4y x)) (.slice (some ⟨bm, 0, none⟩) 8 c) := by
 refine .bytes _ _ 8 c (by simp [a4y, hx]) h8 hc fun k y hy => ⟨bm, 0, rfl, ?_, ?_⟩
 . unfold s5
   simp only [if_neg (by omega : ¬ bm < w.heap.size)]
 . have hk : k < 8 := by have := (FN.1 hy).1; simpa [a4y, hx] using this
   rw [cell_of_row w' bm (0 + k) _ _ _ hh, GL, hcs k hk]
   unfold a4y at hy
   rw [Gn, FQ (by omega)] at hy
   simp only [Option.map_some, Option.some.injEq] at hy
   unfold b5N
   rw [if_pos hk, FV, FQ (by omega), Option.getD_some, hy]
theorem d5z {cur : Array FX} {x : List UInt8} {k : Nat} {v : FX} (h : ∀ j, j < 8 -> cur[j]? = some (b5N x k j)) (hk : k < 8) (hv : v = .int .u8 ((255 - x.getD k 0).toNat : Int)) : ∀ j, j < 8 -> (cur.setIfInBounds k v)[j]? = some (b5N x (k + 1) j) := by
 intro j hj
 by_cases e : j = k
 . subst e
   have hs : j < cur.size := (Array.getElem?_eq_some_iff.1 (h j hj)).1
   rw [Array.getElem?_setIfInBounds_self_of_lt hs, hv, b5N, if_pos (by omega)]
 . rw [Array.getElem?_setIfInBounds_ne (fun h => e h.symm), h j hj]
   unfold b5N
   by_cases hlt : j < k
   . rw [if_pos hlt, if_pos (by omega)]
   . rw [if_neg hlt, if_neg (by omega)]
set_option maxHeartbeats 4000000 in
theorem d5n {Q : Exit -> Act -> Gc -> Prop} {a : Act} (hsz : a.tmps.size = 66) (hd : a.defers = []) {x : List UInt8} (hx : x.length = 8) (h9 : RepV g w (.bytes x) (a.tmps.getD 9 undef))
 (hq : ∀ g' a' w', MidOut g w a (a4y x) g' w' a' -> (R6 3 hB1).wp Tryz.prog Q a' w') : (R6 1 hB1).wp Tryz.prog Q a w := by
 obtain ⟨us, d⟩ := a
 obtain ⟨t0, t1, t2, t3, t4, t5, t6, t7, t8, t9, t10, t11, t12, t13, t14, t15, t16, t17, t18, t19, t20, t21, t22, t23, t24, t25, t26, t27, t28, t29, t30, t31, t32, t33, t34, t35, t36, t37, t38, t39, t40, t41, t42, t43, t44, t45, t46, t47, t48, t49, t50, t51, t52, t53, t54, t55, t56, t57, t58, t59, t60, t61, t62, t63, t64, t65, rfl⟩ := d9R hsz
 cases hd
 have h9' : RepV g w (.bytes x) t9 := h9
 obtain ⟨A, n, c, rfl, hB⟩ := a1l h9'
 have hn : n = 8 := by rw [← IsB.len hB]; exact hx
 subst hn
 have HB := Lib.hid (Gf hB hx)
 have HQ := Lib.hid hq
 clear hB hq h9 h9' hsz hx
 conv => arg 2; whnf
 go_wp2_with fail
 refine (b6z A 8 c x w HB.out.1 (by have := HB.out.2; omega)).mono ?_
 rintro e w1 ⟨A', n', c', rfl, ho, hb⟩
 rcases ho.2 with ⟨hv, hn0⟩ | ⟨bm, cap, cur, hv, hbm, a1J, hnc, e0I, a4x, e5V⟩
 . exfalso
   have := ho.1
   simp at this
   have := HB.out.2
   omega
 . injection hv with e1 e2 e3
   subst e1; subst e3
   have e8 : n' = 8 := by have h1 := ho.1; simp at h1; have := HB.out.2; omega
   subst e8
   have e5W : ∀ j, j < 8 -> cur[j]? = some (b5N x 0 j) := by
    intro j hj
    have : cur[j]? = (Gz (8 * 1) cur.toList)[j]? := by rw [List.getElem?_take, if_pos (by omega)]; simp
    rw [this, e5V, Gn, FQ (by have := HB.out.2; omega)]
    unfold b5N
    rw [if_neg (Nat.not_lt_zero _), FV, FQ (by have := HB.out.2; omega)]
    rfl
   have HI := Lib.hid (Gf e5W (Gf a1J (Gf hb (Gf hbm (Gf hnc e0I)))))
   clear e5W a1J hb hbm e5V a4x e0I hnc ho e2
   go_wp2_with fail
   go_loopg [38] 8 (fun m i wr => ∃ (k : Nat) (cur' : Array FX), k <= 8 /\ m = 8 - k /\ i = .int .i64 (k : Int) /\ wr.heap[bm]? = some (.cells cur' 5 (0, 0)) /\ (∀ j, j < 8 -> cur'[j]? = some (b5N x k j)) /\ Below w.heap.size w wr)
   case atStart => exact ⟨0, cur, by omega, rfl, rfl, HI.out.2.1, HI.out.1, HI.out.2.2.1⟩
   case round =>
    obtain ⟨k, cur', hk, hg, rfl, hh, hcs, hbw⟩ := hrel
    by_cases hk8 : k < 8
    . obtain ⟨y, hy⟩ : ∃ y, y = x.getD k 0 := ⟨_, rfl⟩
      have hc1 : wr.cell? ⟨bm, k, none⟩ = some (.int .u8 (y.toNat : Int)) := by rw [cell_of_row wr _ k _ _ _ hh, hcs k hk8, b5N, if_neg (Nat.lt_irrefl _), hy]
      have hf1 : wr.frozen? ⟨bm, k, none⟩ = false := frozen_of_row wr _ k _ _ hh
      have HE := Lib.hid (Gf hh (Gf hcs (Gf hbw hy)))
      clear hh hcs hbw hy
      go_wp2_with fail
      go_roundg (8 - (k + 1))
      case measure => omega
      case rel => exact ⟨k + 1, _, by omega, rfl, by go_num, heap_setCell_same wr _ _ _ _ _ HE.out.1, d5z HE.out.2.1 hk8 (by rw [d6d, HE.out.2.2.2]), HE.out.2.2.1.setCell HI.out.2.2.2.1 _⟩
    . obtain rfl : k = 8 := by omega
      have HE := Lib.hid (Gf hh (Gf hcs hbw))
      clear hh hcs hbw
      go_wp2_with fail
      refine HQ.out { g with Γ := fun b => if b < w.heap.size then g.Γ b else .imm } _ _ ⟨rfl, rfl, rfl, rfl, rfl, rfl, rfl, d9T HB.out.2 HI.out.2.2.2.1 HE.out.1 HE.out.2.1 HI.out.2.2.2.2.1 HI.out.2.2.2.2.2, e1H HE.out.2.2⟩
end
end En
namespace En
open Go Go.RowKit
set_option maxRecDepth 10000
section
variable (N : Nat)
theorem d5f {R : Type} (K0 : List V -> Option R) : ∀ (m t : Nat) (b : List UInt8) (acc : List V), b.length = 8 * m -> m < t -> acc.length + b.length <= 1000000 -> T5 N 8 t acc b K0 = K0 (acc ++ (chunks m b).map V.bytes)
 | _, 0, _, _, _, h, _ => by omega
 | m, t + 1, b, acc, hb, ht, ha => by
   have e : T5 N 8 (t + 1) acc b K0 = br (decide (0 < (b.length : Int))) (br (decide (0 <= min (8 : Int) b.length) && decide (min (8 : Int) b.length <= b.length)) (j3 (a0j N (Gz (min (8 : Int) b.length).toNat b)) fun l0 => br (decide ((acc.length + [V.bytes l0].length) * 24 <= 140737488355328)) (br (decide (0 <= min (8 : Int) b.length) && decide (min (8 : Int) b.length <= b.length)) (T5 N 8 t (acc ++ [V.bytes l0]) (Gj (min (8 : Int) b.length).toNat b) K0) none) none) none) (K0 acc) := rfl
   rw [e, j5]
   match m with
   | 0 =>
     rw [if_neg (by omega)]
     simp [chunks]
   | m + 1 =>
     have hc : a0j N (Gz (min (8 : Int) b.length).toNat b) = some (b.take 8) := by
      rw [show (min (8 : Int) b.length).toNat = 8 by omega]
      unfold a0j
      rw [j5, if_pos (by rw [GU]; omega)]
     rw [if_pos (by omega), a0D, j5, if_pos (by omega), j5, if_pos (by omega), hc, j4, j5, if_pos (by simp; omega), a0D, j5, if_pos (by omega), j5, if_pos (by omega), show (min (8 : Int) b.length).toNat = 8 by omega]
     rw [d5f K0 m t (b.drop 8) _ (by rw [GZ]; omega) (by omega) (by rw [GZ]; simp; omega)]
     simp [chunks]
theorem c4p {b : List UInt8} {m : Nat} (hb : b.length = 8 * m) (hN : m < N) (h2 : b.length <= 1000000) : a8v N b 8 = some ((chunks m b).map V.bytes, 0) := by
 unfold a8v
 rw [j5, if_neg (by omega)]
 have := d5f N (fun l0 => some (l0, (0 : Int))) m N b [] hb hN (by simp; omega)
 rw [this]; rfl
theorem e1r (hN : 100 < N) (a b : List UInt8) (ha : a.length <= 1000000) (hb : b.length <= 1000000) : a2e N [V.bytes a, V.bytes b] = some (a ++ b) := by
 obtain ⟨t, rfl⟩ : ∃ t, N = t + 4 := ⟨N - 4, by omega⟩
 have l2 : (([V.bytes a, V.bytes b].length : Nat) : Int) = 2 := rfl
 unfold a2e
 rw [Y9, a0V]
 have e0 : ∀ (K : V -> Option (List UInt8)), at? [V.bytes a, V.bytes b] (JG 0) K = K (V.bytes a) := fun K => rfl
 rw [j5, if_pos (by first | decide | (rw [l2]; decide)), a0D, j5, if_pos (by first | decide | (rw [l2]; decide)), j5, if_pos (by first | decide | (rw [l2]; decide)), e0, o6, j5, if_pos (by simp; omega), Y9, a0V]
 have e1 : ∀ (K : V -> Option (List UInt8)), at? [V.bytes a, V.bytes b] (FK.wrap (0 + 1)).toNat K = K (V.bytes b) := fun K => rfl
 rw [j5, if_pos (by first | decide | (rw [l2]; decide)), a0D, j5, if_pos (by first | decide | (rw [l2]; decide)), j5, if_pos (by first | decide | (rw [l2]; decide)), e1, o6, j5, if_pos (by simp; omega), Y9, a0V]
 rw [j5, if_neg (by rw [l2]; decide)]
 simp
theorem b4V : ∀ (m : Nat) (b : List UInt8), b.length = 8 * m -> (chunks m b).length = m /\ ∀ x ∈ chunks m b, x.length = 8
 | 0, b, h => ⟨rfl, fun x hx => by simp [chunks] at hx⟩
 | m + 1, b, h => by
   obtain ⟨h1, h2⟩ := b4V m (b.drop 8) (by rw [GZ]; omega)
   refine ⟨by simp [chunks, h1], fun x hx => ?_⟩
   simp only [chunks, GH] at hx
   rcases hx with rfl | hx
   . rw [GU]; omega
   . exact h2 x hx
section
variable {E E' : Env} {g g' g0 : G} {w w' w0 : Gc}
theorem c9Z : D6 Tryz.prog (cxH N) (R6 3 hB1) := R0 (by kernel_rfl) (e1X N) (by kernel_rfl)
theorem c6s (hN : 100 < N) {bl : List (List UInt8)} (hbl : ∀ x ∈ bl, x.length = 8) (hbn : bl.length <= 1000000) {k : Nat} {h x : List UInt8} (hh : h.length = 16) (hx : bl[k]? = some x) {a : Act} (hI : HashI g0 w0 h (bl.map V.bytes) (bl.length : Int) (k : Int) g w a)
 {Q : Exit -> Act -> Gc -> Prop} (hq : ∀ g' a' w', HashI g0 w0 (M2 N h x) (bl.map V.bytes) (bl.length : Int) ((k + 1 : Nat) : Int) g' w' a' -> Q .normal a' w') : hL.wp Tryz.prog Q a w := by
 have hk : k < bl.length := (FN.1 hx).1
 have hx8 : x.length = 8 := hbl x (Gb hx)
 have hi8 : (a4y x).length = 8 := by simp [a4y, hx8]
 refine a3y (N := N) (n := 2) (ks := [3, 28, 29, 30]) (e0 := .normal) (ds := [.v (.bytes h) .no, .v (.sl 22 (bl.map V.bytes)) .no, .v (.int .i64 (bl.length : Int)) .no, .v (.int .i64 (k : Int)) .no]) (by kernel_rfl) (by kernel_rfl) (by kernel_rfl) hI.here hI.size hI.defers hI.look ((e4w N h _ _ _).trans ?_) fun g1 a1 w1 b1 t1 => ?_
 . rw [decide_eq_true (by omega : (k : Int) < (bl.length : Int))]; rfl
 have I1 := HashI.of b1 (hI.tr.trans t1)
 clear b1 t1 hI
 show (R6 2 hL).wp Tryz.prog Q a1 w1
 obtain ⟨id2, e7e⟩ : ∃ i, R6 2 hL = .seq (.block i hB1) (d7k (R6 2 hL)) := by first | exact ⟨1, by kernel_rfl⟩ | exact ⟨2, by kernel_rfl⟩ | exact ⟨3, by kernel_rfl⟩ | exact ⟨4, by kernel_rfl⟩
 rw [e7e]
 refine wp_seq (wp_block ?_)
 refine a3y (N := N) (n := 1) (ks := [3, 9, 28, 29, 30]) (e0 := .normal) (ds := [.v (.bytes h) .no, .v (.bytes x) .no, .v (.sl 22 (bl.map V.bytes)) .no, .v (.int .i64 (bl.length : Int)) .no, .v (.int .i64 (k : Int)) .no]) (by kernel_rfl) (by kernel_rfl) (by kernel_rfl) I1.here I1.size I1.defers I1.look ((e3Q N h _ _ _).trans ?_) fun g2 a2 w2 b2 t2 => ?_
 . have hl : ((k : Int) < ((bl.map V.bytes).length : Int)) := by simp; omega
   rw [decide_eq_true (by omega : (0 : Int) <= (k : Int)), decide_eq_true hl, GE]
   show at? (bl.map V.bytes) k _ = _
   unfold at?
   rw [Gn, hx]
   rfl
 have q3 : RepV g2 w2 (.bytes h) (a2.tmps.getD 3 undef) := F6 (b2.slots 3 _ rfl)
 have q9 : RepV g2 w2 (.bytes x) (a2.tmps.getD 9 undef) := F6 (b2.slots 9 _ rfl)
 have q28 : RepV g2 w2 (.sl 22 (bl.map V.bytes)) (a2.tmps.getD 28 undef) := F6 (b2.slots 28 _ rfl)
 have q29 : RepV g2 w2 (.int .i64 (bl.length : Int)) (a2.tmps.getD 29 undef) := F6 (b2.slots 29 _ rfl)
 have q30 : RepV g2 w2 (.int .i64 (k : Int)) (a2.tmps.getD 30 undef) := F6 (b2.slots 30 _ rfl)
 have hsz2 : a2.tmps.size = 66 := b2.size.trans (L1 _ _ _)
 refine d5n hsz2 b2.defers hx8 q9 fun g3 a3 w3 m3 => ?_
 have l3 := m3.tr.later
 refine a7c (N := N) (ks := [3, 28, 29, 30]) (e0 := .normal) (ds := [.v (.bytes (M2 N h x)) (.own (.slot 63) 5), .v (.sl 22 (bl.map V.bytes)) .no, .v (.int .i64 (bl.length : Int)) .no, .v (.int .i64 (k : Int)) .no]) (c9Z N) (by kernel_rfl) ⟨fun k s b hb => ?_, rfl, b2.here.sk.later l3, rfl⟩ m3.size m3.defers (e4q (x := x) (y := a4y x) (h := h) (vs := bl.map V.bytes) (n := (bl.length : Int)) (k := (k : Int)) (by rw [m3.s3]; exact q3.later l3) (by rw [m3.s9]; exact q9.later l3) m3.s10 (by rw [m3.s28]; exact q28.later l3) (by rw [m3.s29]; exact q29.later l3) (by rw [m3.s30]; exact q30.later l3)) ((e2m N h x (a4y x) _ _ _).trans ?_) fun g4 a4 w4 b4 t4 => ?_
 . exfalso
   rcases k with _ | k
   . simp [Mem.box?, G2] at hb
   . simp [Mem.box?] at hb
 . obtain ⟨c1, c2, _⟩ := a6v N hN hh hx8
   obtain ⟨d1, d2, _⟩ := a6v N hN hh hi8
   rw [c2, j4, decide_eq_true (by omega : (8 : Int) <= (h.length : Int)), a0L, c7X N c1 (by simp [hh]), j4, d2, j4, a0L, c7X N d1 (by simp [hh]), j4]
   have l1 : (a6H (a8y N h x) (h.take 8)).length = 8 := a3e c1 (by simp [hh])
   have l2 : (a6H (a8y N h (a4y x)) (h.drop 8)).length = 8 := a3e d1 (by simp [hh])
   rw [e1r N hN _ _ (by omega) (by omega), j4]
   rfl
 have I4 : HashI g0 w0 (M2 N h x) (bl.map V.bytes) (bl.length : Int) (k : Int) g4 w4 a4 := HashI.of b4 (((I1.tr.trans t2).trans m3.tr).trans t4)
 clear b4 t4 m3 l3 q3 q9 q28 q29 q30 b2 t2 I1
 show (d7k (R6 2 hL)).wp Tryz.prog Q a4 w4
 refine a7c (N := N) (ks := [3, 28, 29, 30]) (e0 := .normal) (ds := [.v (.bytes (M2 N h x)) .no, .v (.sl 22 (bl.map V.bytes)) .no, .v (.int .i64 (bl.length : Int)) .no, .v (.int .i64 (FK.wrap ((k : Int) + 1))) .no]) (a2p (by kernel_rfl)) (by kernel_rfl) I4.here I4.size I4.defers I4.look (e2V N _ _ _ _) fun g5 a5 w5 b5 t5 => ?_
 have I5 := HashI.of b5 (I4.tr.trans t5)
 rw [show FK.wrap ((k : Int) + 1) = ((k + 1 : Nat) : Int) by rw [Ho]; omega] at I5
 exact hq g5 a5 w5 I5
theorem d3V {bl : List (List UInt8)} {h : List UInt8} {k : Int} (hk : k = (bl.length : Int)) {a : Act} (hI : HashI g0 w0 h (bl.map V.bytes) (bl.length : Int) k g w a)
 {Q : Exit -> Act -> Gc -> Prop} (hq : ∀ g' a' w', HashI g0 w0 h (bl.map V.bytes) (bl.length : Int) k g' w' a' -> Q (.exit 0) a' w') : hL.wp Tryz.prog Q a w := by
 refine a3y (N := 0) (n := 2) (ks := [3, 28, 29, 30]) (e0 := .exit 0) (ds := [.v (.bytes h) .no, .v (.sl 22 (bl.map V.bytes)) .no, .v (.int .i64 (bl.length : Int)) .no, .v (.int .i64 k) .no]) (by kernel_rfl) (by kernel_rfl) (by kernel_rfl) hI.here hI.size hI.defers hI.look ((e4w 0 h _ _ _).trans ?_) fun g1 a1 w1 b1 t1 => ?_
 . rw [decide_eq_false (by omega)]; rfl
 exact hq g1 a1 w1 (HashI.of b1 (hI.tr.trans t1))
end
end
end En
namespace En
open Go Go.RowKit
set_option maxRecDepth 10000
section
variable (N : Nat)
theorem d8W {bl : List (List UInt8)} {k : Nat} {x : List UInt8} (hx : bl[k]? = some x) : (bl.take (k + 1)).foldl (M2 N) a1g = M2 N ((bl.take k).foldl (M2 N) a1g) x := by
 rw [List.take_succ_eq_append_getElem (FN.1 hx).1, List.foldl_append]
 have := (FN.1 hx).2
 rw [this]
 rfl
theorem d1W (hN : 100 < N) : ∀ (bl : List (List UInt8)) (h : List UInt8), (∀ x ∈ bl, x.length = 8) -> h.length = 16 -> (bl.foldl (M2 N) h).length = 16
 | [], h, _, hh => hh
 | x :: r, h, hb, hh => d1W hN r _ (fun y hy => hb y (List.mem_cons_of_mem _ hy)) (b0D N hN hh (hb x (by simp)))
theorem d5F (a : Act) (w : Gc) : (results Tryz.f30 a.tmps).run Tryz.prog w = .ok (a.tmps.getD 2 undef) w := by
 rw [a3Z, Array.mapM_eq_mapM_toList, show Tryz.f30.results.toList = [.tmp 2] from rfl]
 simp only [Sem.run_bind, map_eq_pure_bind, List.mapM_cons, List.mapM_nil, b2W, Sem.run_pure, Result.andThen_ok]
 rfl
theorem c1D {g g' : G} {w w' : Gc} (h5 : Tr 0 g.hide w g' w') : Later g' w' (g.settle w.heap.size g') w' /\ PureTr g w (g.settle w.heap.size g') w' := by
 have hold : ∀ b, b < w.heap.size -> g'.Γ b = g.hide.Γ b /\ w'.heap[b]? = w.heap[b]? := fun b hb => h5.hid b hb (W1 _)
 refine ⟨⟨?_, fun b o v a1 a2 => ⟨a2f a1 fun hb => (hold b hb).1, a2⟩, fun b x a1 a2 => ⟨?_, a2⟩⟩, ⟨⟨h5.os, h5.tape, h5.output, h5.size, fun b hb => (hold b hb).2⟩, fun b hb => ?_, fun b hb => ?_, rfl, rfl⟩⟩
 . show g.sz = g'.sz
   rw [h5.later.sz]; rfl
 . unfold G.settle
   simp only
   split
   . rename_i hb
     rw [(hold b hb).1] at a1
     simp only [G.hide] at a1
     cases hp : g.Γ b <;> rw [hp] at a1 <;> first | rfl | cases a1
   . rw [a1]; rfl
 . unfold G.settle; simp only; rw [if_pos hb]
 . unfold G.settle; simp only; rw [if_neg (by omega)]; exact a9B _
theorem d9f (hN : 100000 < N) {x : List UInt8} (hx : x.length <= 5000) : H8 Tryz.prog T 30 [.v (.bytes x) .no] [.v (.bytes (a5J N x)) .no] := by
 obtain ⟨m, hm1, hm2⟩ := a4s x
 obtain ⟨hc1, hc2⟩ := b4V m (G1 x) hm1
 intro E g w us hsz hus
 obtain ⟨hl, hr⟩ := hus
 match us, hl with
 | [u], _ =>
 have hu : RepV g w (.bytes x) u := F6 (hr 0 _ rfl)
 have hh : Here T E0 g.hide w ([] :: []) := b7v (hsz.later (O1 g w))
 have hz : ([u].toArray ++ HM (Tryz.f30.ntmps - [u].toArray.size) undef).size = 66 /\ ([u].toArray ++ HM (Tryz.f30.ntmps - [u].toArray.size) undef).getD 0 undef = u := by
  rw [Tryz.ntmps30]
  exact ⟨by simp, by simp⟩
 refine calls_of_wp Tryz.func30 (by kernel_rfl : _ = some (s6 Tryz.f30)) ?_
 generalize [u].toArray ++ HM (Tryz.f30.ntmps - [u].toArray.size) undef = us0 at hz ⊢
 obtain ⟨hz1, hz2⟩ := hz
 refine a3y (N := N) (n := 4) (l := [(0, .v (.bytes x) .no)]) (ks := [3, 6]) (e0 := .normal) (ds := [.v (.bytes a1g) (.own (.slot 12) 5), .v (.sl 22 ((chunks m (G1 x)).map V.bytes)) .no]) (by kernel_rfl) (by kernel_rfl) (by kernel_rfl) hh hz1 rfl (fun j d hj => ?_) ((d9o N x).trans ?_) fun g1 a1 w1 b1 t1 => ?_
 . simp only [II, Jh] at hj
   split at hj
   . rename_i e; rw [beq_iff_eq] at e; subst e; injection hj with hj; subst hj
     exact .v _ _ _ (by show RepV _ _ _ (us0.getD 0 undef); rw [hz2]; exact hu.later (O1 g w)) trivial
   . cases hj
 . have e1 : a6d N (x.length : Int) 8 = some (be8 (x.length : Int), 0) := by
    unfold a6d
    rw [if_pos ⟨rfl, by omega⟩]
   have hl : (a5S x).length + (be8 (x.length : Int)).length = 8 * m := by
    rw [← hm1]; unfold G1; rw [FU]
   rw [e1, o7, d8D N (by omega), j4, e1r N (by omega) _ _ (by omega) (by omega), j4]
   have := c4p N hm1 (by omega) (by omega)
   unfold G1 at this
   rw [this, o7]
   rfl
 show (R6 4 (s6 Tryz.f30)).wp Tryz.prog _ a1 w1
 refine c7y (show R6 4 (s6 Tryz.f30) = .seq hX (R6 5 (s6 Tryz.f30)) by kernel_rfl) (wp_seq ?_)
 have a6I : a1.tmps.size = 66 := b1.size.trans (L1 _ _ _)
 have q3 : RepV g1 w1 (.bytes a1g) (a1.tmps.getD 3 undef) := F6 (b1.slots 3 _ rfl)
 have q6 : RepV g1 w1 (.sl 22 ((chunks m (G1 x)).map V.bytes)) (a1.tmps.getD 6 undef) := F6 (b1.slots 6 _ rfl)
 refine a3y (N := N) (n := 1) (l := [(3, .v (.bytes a1g) .no), (6, .v (.sl 22 ((chunks m (G1 x)).map V.bytes)) .no)]) (ks := [3, 28, 29, 30]) (e0 := .normal) (ds := [.v (.bytes a1g) .no, .v (.sl 22 ((chunks m (G1 x)).map V.bytes)) .no, .v (.int .i64 (((chunks m (G1 x)).map V.bytes).length : Int)) .no, .v (.int .i64 0) .no]) (by kernel_rfl) (by kernel_rfl) (by kernel_rfl) b1.here a6I b1.defers (fun j d hj => ?_) (e5m N _ _) fun g2 a2 w2 b2 t2 => ?_
 . simp only [II, Jh] at hj
   repeat' split at hj
   all_goals first | (rename_i e; rw [beq_iff_eq] at e; subst e; injection hj with hj; subst hj; refine .v _ _ _ ?_ trivial; assumption) | cases hj
 have I2 := HashI.of b2 (t1.trans t2)
 clear b2 t2 b1 t1 q3 q6
 rw [show (((chunks m (G1 x)).map V.bytes).length : Int) = ((chunks m (G1 x)).length : Int) by simp] at I2
 show (R6 1 hX).wp Tryz.prog _ a2 w2
 refine c7y (show R6 1 hX = .block 0 (.loop hL) by kernel_rfl) (wp_block ?_)
 generalize hbl : chunks m (G1 x) = bl at *
 refine wp_loop_ghost (fun n a w' => ∃ (k : Nat) (gk : G), n = bl.length - k /\ k <= bl.length /\ HashI g.hide w ((bl.take k).foldl (M2 N) a1g) (bl.map V.bytes) (bl.length : Int) (k : Int) gk w' a) bl.length ⟨0, g2, rfl, by omega, I2⟩ ?_
 rintro n a w' ⟨k, gk, rfl, hk, hI⟩
 by_cases hkk : k < bl.length
 . obtain ⟨y, hy⟩ : ∃ y, bl[k]? = some y := ⟨_, FQ hkk⟩
   refine c6s N (by omega) hc2 (by omega) (d1W N (by omega) _ _ (fun z hz => hc2 z (List.mem_of_mem_take hz)) rfl) hy hI fun g' a' w'' hI' => ?_
   exact ⟨bl.length - (k + 1), by omega, k + 1, g', rfl, by omega, by rw [d8W N hy]; exact hI'⟩
 . obtain rfl : k = bl.length := by omega
   refine d3V rfl hI fun g' a' w'' hI' => ?_
   show (R6 5 (s6 Tryz.f30)).wp Tryz.prog _ a' w''
   rw [List.take_length] at hI'
   have d1u : bl.foldl (M2 N) a1g = a5J N x := by
    unfold a5J
    rw [← hbl, hm1, show 8 * m / 8 = m by omega]
   rw [d1u] at hI'
   have q3 := hI'.s3
   refine a7c (N := N) (l := [(3, .v (.bytes (a5J N x)) .no)]) (ks := [2]) (e0 := .ret) (ds := [.v (.bytes (a5J N x)) .no]) (a2p (by kernel_rfl)) (by kernel_rfl) hI'.here hI'.size hI'.defers (fun j d hj => ?_) (e2P N _) fun g3 a3 w3 b3 t3 => ?_
   . simp only [II, Jh] at hj
     repeat' split at hj
     all_goals first | (rename_i e; rw [beq_iff_eq] at e; subst e; injection hj with hj; subst hj; refine .v _ _ _ ?_ trivial; assumption) | cases hj
   have q2 : RepV g3 w3 (.bytes (a5J N x)) (a3.tmps.getD 2 undef) := F6 (b3.slots 2 _ rfl)
   obtain ⟨s1, s2⟩ := c1D (hI'.tr.trans t3)
   refine ⟨b3.defers, _, d5F a3 w3, [a3.tmps.getD 2 undef], g.settle w.heap.size g3, rfl, fun E' => ⟨rfl, fun j d hj => ?_⟩, s2⟩
   rcases j with _ | j
   . simp at hj; subst hj
     exact .v _ _ _ (q2.later s1) trivial
   . simp at hj
end
end En
end Go.Proofs.YtkoilndpfifapaaGreatDoor
