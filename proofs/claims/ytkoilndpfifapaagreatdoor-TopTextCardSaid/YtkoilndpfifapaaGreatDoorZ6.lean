/- Texts. -/
import Derived.Test.YtkoilndpfifapaaGreatDoorZ5
import Derived.Defers
import Derived.Recover
import Derived.Laws.Pointers

set_option linter.unusedSimpArgs false
set_option linter.unusedVariables false
set_option linter.unusedSectionVars false
open And renaming intro → Gf
open Go renaming World → Gc, Value → FX, heap_setCell_other → Jl, heap_alloc_new → Hf, frozen_of_row → IB
open Go.IntKind renaming i64 → FK
open Nat renaming not_lt_zero → Is, le_refl → FW
namespace Go.Proofs.YtkoilndpfifapaaGreatDoor
noncomputable section
namespace En
open Go Go.Proofs
set_option maxRecDepth 100000
set_option maxHeartbeats 8000000
def b3l {α : Type} (K : LB -> Int -> Int -> List V -> List V -> List V -> List V -> List V -> LB -> Option α) (rs : List D) (m : Mem) : Option α :=
 match rs, m with
 | [.agg [.v (.bytes r0) _, .v (.int .i64 r1) _, .v (.int .i64 r2) _, .v (.sl 58 r3) _, .v (.sl 64 r4) _, .v (.rowI 47 r5) _, .v (.sl 44 r6) _, .v (.sl 67 r7) _]], [_, [(0, ⟨101, [.v (.bytes z0) .no]⟩)]] => K r0 r1 r2 r3 r4 r5 r6 r7 z0
 | _, _ => none
def O4 {R : Type} (N : Nat) (Aa : List V) (u : Int) (l3 : LB) (x O : Int) (Ac Ad Ae Ai Ag : List V) (Lq : Int -> LB -> Option R) (K0 : LB -> Option R) (d : Int) (Ay : LB) : Option R := br (decide (d < u)) (br (decide (0 <= d) && decide (d < (Aa.length : Int))) (at? Aa d.toNat fun f => V.unInt FK f fun u => s7 (D5 N Ay) fun n2_1 l3 => br (!decide (n2_1 = u)) none (Lq (FK.wrap (d + 1)) l3)) none) (K0 Ay)
def G9 {R : Type} (N : Nat) (Aa : List V) (u : Int) (l3 : LB) (x O : Int) (Ac Ad Ae Ai Ag : List V) : Nat -> Int -> LB -> (LB -> Option R) -> Option R | 0, _, _, _ => none | t + 1, d, Ay, K0 => O4 N Aa u l3 x O Ac Ad Ae Ai Ag (fun d Ay => G9 N Aa u l3 x O Ac Ad Ae Ai Ag t d Ay K0) K0 d Ay
def a7N {R : Type} (N : Nat) (ds : List D) (m : Mem) (K : Ex -> List D -> Mem -> Option R) : Option R :=
 match ds, m with
 | [(.ptr 1 0 0), (.ptr 0 2 0), .any, (.v (.sl 3 Aa) (.own (.slot 6) 3)), (.v (.int .i64 u) .no), (.v (.int .i64 d) .no)], [[(2, ⟨29, [(.v (.bytes l3) (.own (.slot 0) 5)), (.v (.int .i64 x) .no), (.v (.int .i64 O) .no), (.v (.sl 58 Ac) (.own (.slot 0) 58)), (.v (.sl 64 Ad) (.own (.slot 0) 64)), (.v (.sl 47 Ae) (.own (.slot 0) 47)), (.v (.sl 44 Ai) (.own (.slot 0) 44)), (.v (.sl 67 Ag) (.own (.slot 0) 67))]⟩)], [(0, ⟨101, [(.v (.bytes Ay) .no)]⟩)]] => G9 N Aa u l3 x O Ac Ad Ae Ai Ag N d Ay (fun a8 => K (.exit 0) [(.ptr 1 0 0), (.ptr 0 2 0), .any] [[(2, ⟨29, [(.v (.bytes l3) (.own (.slot 0) 5)), (.v (.int .i64 x) .no), (.v (.int .i64 O) .no), (.v (.sl 58 Ac) (.own (.slot 0) 58)), (.v (.sl 64 Ad) (.own (.slot 0) 64)), (.v (.sl 47 Ae) (.own (.slot 0) 47)), (.v (.sl 44 Ai) (.own (.slot 0) 44)), (.v (.sl 67 Ag) (.own (.slot 0) 67))]⟩)], [(0, ⟨101, [(.v (.bytes a8) .no)]⟩)]])
 | _, _ => none
def b5b {R : Type} (N : Nat) (U : LB) (K0 : LB -> Int -> Int -> List V -> List V -> List V -> List V -> List V -> LB -> Option R) : Option R := G9 N [V.int FK 83, V.int FK 67, V.int FK 49] 3 [] 0 0 [] [] [] [] [] N 0 U fun w => s7 (b0s N w) fun l1 l2 => s7 (D5 N l2) fun i l4 => s7 (D5 N l4) fun O l6 => s7 (b9K N l6) fun l7 l8 => s7 (b9h N l8) fun l9 la => s7 (b0A N la) fun Ay Ax => s7 (b0x N Ax) fun ld AL => s7 (b8j N AL) fun AC lg => br (decide (0 < (lg.length : Int))) none (K0 l1 i O l7 l9 Ay ld AC lg)
def a2B (N : Nat) (U : LB) : Option (LB × Int × Int × List V × List V × List V × List V × List V × LB) := b5b N U (fun r0 r1 r2 r3 r4 r5 r6 r7 z0 => some (r0, r1, r2, r3, r4, r5, r6, r7, z0))
def Y4 (N : Nat) : Cx := { T := T, isPure := a5b [], pureK := fun g ds K => a1K [] g ds K, memK := fun g dst ds m K => W4 [K5 N, b3U N, c6D N, c4L N, ⟨83, b8O (b0A N)⟩, b2s N, c5f N, b8E N, a8S N, a3b N, b0i N, b8P N] g dst ds m K, meth := a2E [], keep := fun r => match r with | 2 => [0, 2, 5, 6, 7, 8] | _ => [], keepX := fun r => match r with | 2 => [0, 2, 5] | _ => [], loopT := fun r ds m K => match r with | 2 => a7N N ds m K | _ => none, jumps := 9 }
theorem b5H {R : Type} (N : Nat) (Aa : List V) (u : Int) (l3 : LB) (x O : Int) (Ac Ad Ae Ai Ag : List V) (d : Int) (Ay : LB) (L : List D -> Mem -> Option R) (K : Ex -> List D -> Mem -> Option R) :
 W3 (fun st K => codeK (Y4 N) (s4 Tryz.f37 0) st K) 60 [0, 2, 5, 6, 7, 8] [0, 2, 5] L [(.ptr 1 0 0), (.ptr 0 2 0), .any, (.v (.sl 3 Aa) (.own (.slot 6) 3)), (dI u), (dI d)] [[(2, ⟨29, [(.v (.bytes l3) (.own (.slot 0) 5)), (dI x), (dI O), (.v (.sl 58 Ac) (.own (.slot 0) 58)), (.v (.sl 64 Ad) (.own (.slot 0) 64)), (.v (.sl 47 Ae) (.own (.slot 0) 47)), (.v (.sl 44 Ai) (.own (.slot 0) 44)), (.v (.sl 67 Ag) (.own (.slot 0) 67))]⟩)], [(0, ⟨101, [(dY Ay)]⟩)]] K = O4 N Aa u l3 x O Ac Ad Ae Ai Ag (fun d Ay => L [(.ptr 1 0 0), (.ptr 0 2 0), .any, (.v (.sl 3 Aa) (.own (.slot 6) 3)), (dI u), (dI d)] [[(2, ⟨29, [(.v (.bytes l3) (.own (.slot 0) 5)), (dI x), (dI O), (.v (.sl 58 Ac) (.own (.slot 0) 58)), (.v (.sl 64 Ad) (.own (.slot 0) 64)), (.v (.sl 47 Ae) (.own (.slot 0) 47)), (.v (.sl 44 Ai) (.own (.slot 0) 44)), (.v (.sl 67 Ag) (.own (.slot 0) 67))]⟩)], [(0, ⟨101, [(dY Ay)]⟩)]]) (fun a8 => K (.exit 0) [(.ptr 1 0 0), (.ptr 0 2 0), .any] [[(2, ⟨29, [(.v (.bytes l3) (.own (.slot 0) 5)), (dI x), (dI O), (.v (.sl 58 Ac) (.own (.slot 0) 58)), (.v (.sl 64 Ad) (.own (.slot 0) 64)), (.v (.sl 47 Ae) (.own (.slot 0) 47)), (.v (.sl 44 Ai) (.own (.slot 0) 44)), (.v (.sl 67 Ag) (.own (.slot 0) 67))]⟩)], [(0, ⟨101, [(dY a8)]⟩)]]) d Ay := by
 kernel_rfl
theorem a6O {R : Type} (N : Nat) (Aa : List V) (u : Int) (l3 : LB) (x O : Int) (Ac Ad Ae Ai Ag : List V) (K : Ex -> List D -> Mem -> Option R) : ∀ (t : Nat) (d : Int) (Ay : LB),
 O9 (fun st K => codeK (Y4 N) (s4 Tryz.f37 0) st K) 60 [0, 2, 5, 6, 7, 8] [0, 2, 5] t [(.ptr 1 0 0), (.ptr 0 2 0), .any, (.v (.sl 3 Aa) (.own (.slot 6) 3)), (dI u), (dI d)] [[(2, ⟨29, [(.v (.bytes l3) (.own (.slot 0) 5)), (dI x), (dI O), (.v (.sl 58 Ac) (.own (.slot 0) 58)), (.v (.sl 64 Ad) (.own (.slot 0) 64)), (.v (.sl 47 Ae) (.own (.slot 0) 47)), (.v (.sl 44 Ai) (.own (.slot 0) 44)), (.v (.sl 67 Ag) (.own (.slot 0) 67))]⟩)], [(0, ⟨101, [(dY Ay)]⟩)]] K = G9 N Aa u l3 x O Ac Ad Ae Ai Ag t d Ay (fun a8 => K (.exit 0) [(.ptr 1 0 0), (.ptr 0 2 0), .any] [[(2, ⟨29, [(.v (.bytes l3) (.own (.slot 0) 5)), (dI x), (dI O), (.v (.sl 58 Ac) (.own (.slot 0) 58)), (.v (.sl 64 Ad) (.own (.slot 0) 64)), (.v (.sl 47 Ae) (.own (.slot 0) 47)), (.v (.sl 44 Ai) (.own (.slot 0) 44)), (.v (.sl 67 Ag) (.own (.slot 0) 67))]⟩)], [(0, ⟨101, [(dY a8)]⟩)]])
 | 0, d, Ay => rfl
 | t + 1, d, Ay => (b5H N Aa u l3 x O Ac Ad Ae Ai Ag d Ay _ K).trans (congrArg (fun L => O4 N Aa u l3 x O Ac Ad Ae Ai Ag L (fun a8 => K (.exit 0) [(.ptr 1 0 0), (.ptr 0 2 0), .any] [[(2, ⟨29, [(.v (.bytes l3) (.own (.slot 0) 5)), (dI x), (dI O), (.v (.sl 58 Ac) (.own (.slot 0) 58)), (.v (.sl 64 Ad) (.own (.slot 0) 64)), (.v (.sl 47 Ae) (.own (.slot 0) 47)), (.v (.sl 44 Ai) (.own (.slot 0) 44)), (.v (.sl 67 Ag) (.own (.slot 0) 67))]⟩)], [(0, ⟨101, [(dY a8)]⟩)]]) d Ay) (funext fun d => funext fun Ay => a6O N Aa u l3 x O Ac Ad Ae Ai Ag K t d Ay))
theorem c0H {R : Type} (N : Nat) (U K : _) : M4 (R := R) (Y4 N) Tryz.f37 [.ptr 1 0 0] [J4 0 [⟨101, [dY U]⟩]] (b3l K) = b5b N U (fun r0 r1 r2 r3 r4 r5 r6 r7 z0 => K r0 r1 r2 r3 r4 r5 r6 r7 z0) := by
 kernel_rfl
theorem d0v (N : Nat) : CxOK Tryz.prog (Y4 N) :=
 M3 (es := []) (me := [K5 N, b3U N, c6D N, c4L N, ⟨83, b8O (b0A N)⟩, b2s N, c5f N, b8E N, a8S N, a3b N, b0i N, b8P N]) (ms := []) a7s trivial ⟨I9 N, b8s N, e0j N, d8O N, d9z _ (e1B N), b7J N, d8L N, c8l N, b6J N, b4W N, b1Y N, c6R N, trivial⟩ trivial rfl (fun _ _ _ _ => rfl) (fun _ _ _ _ _ _ => rfl) rfl
theorem c1w (N : Nat) : p9 (Y4 N) 60 (s4 Tryz.f37 0) := by
 refine j7 (rid := 2) (by kernel_rfl) rfl rfl fun R ds m K r h => ?_
 have h : a7N N ds m K = some r := h
 unfold a7N at h
 split at h
 . exact ⟨N, Eq.trans (a6O ..) h⟩
 . cases h
theorem d0G (N : Nat) : B8 (Y4 N) Tryz.f37.ntmps (s6 Tryz.f37) :=
 j6 (k := 1) (by kernel_rfl) ⟨trivial, c1w N⟩
open Classical in
theorem d2H (N : Nat) (U r0 : LB) (r1 r2 : Int) (r3 r4 r5 r6 r7 : List V) (z0 : LB) (h : a2B N U = some (r0, r1, r2, r3, r4, r5, r6, r7, z0)) : V8 Tryz.prog T 37 [.ptr 1 0 0] [⟨101, [dY U]⟩] [.agg [dY r0, dI r1, dI r2, .v (.sl 58 r3) .no, .v (.sl 64 r4) .no, .v (.rowI 47 r5) .no, .v (.sl 44 r6) .no, .v (.sl 67 r7) .no]] [⟨101, [dY z0]⟩] := by
 refine b1G (Bs := [⟨101, [dY U]⟩]) (Bs' := [⟨101, [dY z0]⟩]) (cx := Y4 N) (by kernel_rfl) (d0v N) Tryz.func37 (by kernel_rfl) (by kernel_rfl) (d0G N) rfl rfl rfl rfl (rf := b3l (fun BU Df Dg Dh Di Dj Dk Dl Z0 => some (BU, Df, Dg, Dh, Di, Dj, Dk, Dl, Z0))) (r := (r0, r1, r2, r3, r4, r5, r6, r7, z0)) ?_ ?_
 . exact (c0H ..).trans h
 . intro rs' m' hx
   unfold b3l at hx
   split at hx
   . cases hx; exact ⟨rfl, rfl, _, rfl⟩
   . cases hx
end En

namespace En
open Go
def e5u : Code -> Code
 | .seq a _ => a
 | c => c
def d7k : Code -> Code
 | .seq _ b => b
 | _ => .skip
def R5 : Nat -> Code -> Code
 | 0, _ => .skip
 | n + 1, .seq a b => .seq a (R5 n b)
 | _ + 1, c => c
def R6 : Nat -> Code -> Code
 | 0, c => c
 | n + 1, .seq _ b => R6 n b
 | _ + 1, _ => .skip
def b1w : Nat -> Code -> Bool
 | 0, _ => true
 | n + 1, .seq _ b => b1w n b
 | _ + 1, _ => false
def E5 (l : List (Nat × D)) : Nat -> Nat -> List D
 | _, 0 => []
 | i, n + 1 => (match l.lookup i with | some d => d | none => .any) :: E5 l (i + 1) n
def b1p (ks : List Nat) (e : Ex) (st : St) : Option (Ex × List D × Mem) :=
 match st.dead with
 | [] => some (e, ks.map (fun k => st.slots.getD k .any), st.mem)
 | _ => none
def d4K (P : Program) (c : Code) (Q : Exit -> Act -> Gc -> Prop) : Ex -> Act -> Gc -> Prop
 | .normal, a, w => c.wp P Q a w
 | .exit i, a, w => Q (.exit i) a w
 | .goto i, a, w => Q (.goto i) a w
 | .ret, a, w => Q .ret a w
section
variable {R : Type} {P : Program} {T : TypeId -> Option Ty} {E E' : Env} {g g' : G} {w w' : Gc} {cx : Cx}
theorem b6m {ks : List Nat} {e e0 : Ex} {st : St} {ds : List D} {m : Mem} (h : b1p ks e st = some (e0, ds, m)) : e = e0 /\ st.dead = [] /\ st.mem = m /\ ks.map (fun k => st.slots.getD k .any) = ds := by
 unfold b1p at h
 split at h
 . rename_i hd
   injection h with h; injection h with h1 h; injection h with h2 h3
   exact ⟨h1, hd, h3, h2⟩
 . cases h
theorem L1 (l : List (Nat × D)) : ∀ n i, (E5 l i n).length = n
 | 0, i => rfl
 | n + 1, i => by simp [E5, L1 l n]
theorem a2n (l : List (Nat × D)) : ∀ (n i k : Nat) d, (E5 l i n)[k]? = some d -> d = .any ∨ l.lookup (i + k) = some d
 | 0, i, k, d, h => by simp [E5] at h
 | n + 1, i, k, d, h => by
   unfold E5 at h
   rcases k with _ | k
   . simp only [List.getElem?_cons_zero, Option.some.injEq] at h
     split at h
     . rename_i d' hd; subst h; exact .inr hd
     . exact .inl h.symm
   . simp only [List.getElem?_cons_succ] at h
     have := a2n l n (i + 1) k d h
     rwa [show i + 1 + k = i + (k + 1) by omega] at this
theorem b4R : ∀ (ks : List Nat) (f : Nat -> D) (k : Nat) (d : D), (ks.zip (ks.map f)).lookup k = some d -> d = f k
 | [], f, k, d, h => by simp at h
 | a :: ks, f, k, d, h => by
   simp only [List.map_cons, List.zip_cons_cons, List.lookup_cons] at h
   split at h
   . rename_i e
     injection h with h
     rw [beq_iff_eq] at e
     subst e; exact h.symm
   . exact b4R ks f k d h
theorem c3M {st : St} {a : Act} (hs : Sim T E g w st a) (hd : st.dead = []) (ks : List Nat) {ds : List D} (h : ks.map (fun k => st.slots.getD k .any) = ds) :
 Sim T E g w ⟨E5 (ks.zip ds) 0 st.slots.length, st.mem, []⟩ a := by
 subst h
 refine ⟨hs.here, fun k x hk => ?_, by rw [L1]; exact hs.size, hs.defers⟩
 rcases a2n _ _ _ _ _ hk with rfl | hx
 . exact .any _
 . rw [Nat.zero_add] at hx
   have hx := b4R _ _ _ _ hx
   subst hx
   have h2 := hs.slots
   rw [hd] at h2
   rcases Nat.lt_or_ge k st.slots.length with hlt | hge
   . exact h2 k _ (by rw [List.getD_eq_getElem?_getD, List.getElem?_eq_getElem hlt]; rfl)
   . rw [show st.slots.getD k .any = .any by rw [List.getD_eq_getElem?_getD, List.getElem?_eq_none hge]; rfl]; exact .any _
theorem c6Z (hcx : CxOK P cx) {N : Nat} : ∀ (n : Nat) (c : Code) (st : St) (a : Act) (w : Gc) (E : Env) (g : G) (K : Ex -> St -> Option R) (r : R) (Q : Exit -> Act -> Gc -> Prop), b1w n c = true -> D6 P cx (R5 n c) -> B8 cx N (R5 n c) -> Sim cx.T E g w st a -> a.tmps.size = N -> codeK cx (R5 n c) st K = some r ->
 (∀ e st' a' w', K e st' = some r -> Then cx.T E g w N st' a' w' -> d4K P (R6 n c) Q e a' w') -> c.wp P Q a w
 | 0, c, st, a, w, E, g, K, r, Q, _, _, _, hs, hn, h, hq => by
   simp only [R5, codeK] at h
   exact hq .normal st a w h ⟨E, g, hs, rfl, Tr.refl _ _ _, hn⟩
 | n + 1, .seq x y, st, a, w, E, g, K, r, Q, hsp, hro, hl, hs, hn, h, hq => by
   have hrx : D6 P cx x := fun o ho => hro o (by simp [R5, drawnOf, ho])
   have hry : D6 P cx (R5 n y) := fun o ho => hro o (by simp [R5, drawnOf, ho])
   have hlx : B8 cx N x := fun b hb => hl b (by simp [R5, F2, hb])
   have hly : B8 cx N (R5 n y) := fun b hb => hl b (by simp [R5, F2, hb])
   simp only [R5, codeK] at h
   refine wp_seq (a8U ((a8f hcx x hrx).1 R N st a w E g _ r _ hlx hs hn h fun e st' a' w' hk ht => ?_))
   cases e with
   | normal =>
     obtain ⟨E', g', b1, b2, b3, b4⟩ := ht
     exact c6Z hcx n y st' a' w' E' g' K r Q hsp hry hly b1 b4 hk fun e st2 a2 w2 c1 c2 => hq e st2 a2 w2 c1 (c2.trans b2 b3)
   | exit i => exact hq _ st' a' w' hk ht
   | goto i => exact hq _ st' a' w' hk ht
   | ret => exact hq _ st' a' w' hk ht
 | n + 1, .skip, _, _, _, _, _, _, _, _, hsp, _, _, _, _, _, _ => by cases hsp
 | n + 1, .region _ _ _, _, _, _, _, _, _, _, _, hsp, _, _, _, _, _, _ => by cases hsp
 | n + 1, .cond _ _ _, _, _, _, _, _, _, _, _, hsp, _, _, _, _, _, _ => by cases hsp
 | n + 1, .block _ _, _, _, _, _, _, _, _, _, hsp, _, _, _, _, _, _ => by cases hsp
 | n + 1, .loop _, _, _, _, _, _, _, _, _, hsp, _, _, _, _, _, _ => by cases hsp
 | n + 1, .rangeFunc _ _ _ _, _, _, _, _, _, _, _, _, hsp, _, _, _, _, _, _ => by cases hsp
 | n + 1, .exit _, _, _, _, _, _, _, _, _, hsp, _, _, _, _, _, _ => by cases hsp
 | n + 1, .scope _, _, _, _, _, _, _, _, _, hsp, _, _, _, _, _, _ => by cases hsp
 | n + 1, .goto _, _, _, _, _, _, _, _, _, hsp, _, _, _, _, _, _ => by cases hsp
 | n + 1, .label _, _, _, _, _, _, _, _, _, hsp, _, _, _, _, _, _ => by cases hsp
 | n + 1, .ret, _, _, _, _, _, _, _, _, hsp, _, _, _, _, _, _ => by cases hsp
 | n + 1, .refuse _, _, _, _, _, _, _, _, _, hsp, _, _, _, _, _, _ => by cases hsp
theorem piece (hcx : CxOK P cx) {N n : Nat} {c : Code} {st : St} {a : Act} {ks : List Nat} {e0 : Ex} {ds : List D} {m : Mem} {Q : Exit -> Act -> Gc -> Prop} (hsp : b1w n c = true) (hro : D6 P cx (R5 n c)) (hl : B8 cx N (R5 n c)) (hs : Sim cx.T E g w st a) (hn : a.tmps.size = N)
 (h : codeK cx (R5 n c) st (b1p ks) = some (e0, ds, m))
 (hq : ∀ E' g' a' w', Sim cx.T E' g' w' ⟨E5 (ks.zip ds) 0 N, m, []⟩ a' -> a'.tmps.size = N -> E'.d = E.d -> Tr E.d g w g' w' -> d4K P (R6 n c) Q e0 a' w') : c.wp P Q a w := by
 refine c6Z hcx n c st a w E g _ _ Q hsp hro hl hs hn h fun e st' a' w' hk ht => ?_
 obtain ⟨rfl, h2, h3, h4⟩ := b6m hk
 obtain ⟨E', g', b1, b2, b3, b4⟩ := ht
 have h5 := c3M b1 h2 ks h4
 rw [h3] at h5
 rw [show st'.slots.length = N by rw [← b1.size]; exact b4] at h5
 exact hq E' g' a' w' h5 b4 b2 b3
theorem a2p {c : Code} (h : drawnOf c = []) : D6 P cx c := fun o ho => by rw [h] at ho; cases ho
theorem b0S {c : Code} {N : Nat} (h : F2 c = []) : B8 cx N c := fun o ho => by rw [h] at ho; cases ho
theorem c7y {c c' : Code} (h : c = c') {Q : Exit -> Act -> Gc -> Prop} {a : Act} (hw : c'.wp P Q a w) : c.wp P Q a w := by rw [h]; exact hw
end
end En

namespace En
open Go Go.RowKit
section
variable {E E' : Env} {g g' : G} {w w' : Gc}
theorem b7v (hs : SzOK T g w) : Here T ⟨0, F4 [[]]⟩ g w ([] :: []) := by
 refine ⟨fun k s b hb => ?_, rfl, hs, rfl⟩
 exfalso
 rcases k with _ | k
 . simp [Mem.box?, G2] at hb
 . simp [Mem.box?] at hb
theorem d1a {N : Nat} {y0 : List UInt8} {r0 : List UInt8} {r1 r2 : Int} {r3 r4 r5 r6 r7 : List V} {z0 : List UInt8} (h : a2B N y0 = some (r0, r1, r2, r3, r4, r5, r6, r7, z0)) (hs : SzOK T g w) {u : FX} (hu : RepV g w (.bytes y0) u) :
 Calls Tryz.prog 37 #[.pointer (some ⟨w.heap.size, 0, none⟩)] (w.alloc (.cells #[u] 101)) fun e w' => ∃ v g' E', e = .returned v /\ RepD E' g' w' [] (.agg [.v (.bytes r0) .no, .v (.int .i64 r1) .no, .v (.int .i64 r2) .no, .v (.sl 58 r3) .no, .v (.sl 64 r4) .no, .v (.rowI 47 r5) .no, .v (.sl 44 r6) .no, .v (.sl 67 r7) .no]) v /\ SzOK T g' w' /\ Tr 0 g w g' w' := by
 have hh := b7v hs
 have hu1 : u.oneCell' = true := hu.one rfl
 have hc : CellsOut ⟨0, F4 [[]]⟩ g w ([] :: []) [] 0 7 0 [u] [.v (.bytes y0) .no] [] g := by
  refine ⟨Keeps.refl _ _ _ _, ⟨[], by simp, Keeps.refl _ _ _ _⟩, fun d => Tr.refl _ _ _, hh.mem, rfl, rfl, fun _ _ _ h => h, rfl, fun j c hj => ?_⟩
  rcases j with _ | j
  . simp at hj; subst hj
    refine ⟨rfl, rfl, fun h => ?_, .v _ _ _ hu trivial⟩
    cases h
  . simp at hj
 obtain ⟨g1, E1, k1, k2, k3, k4, k5⟩ := a4d hh 7 rfl 101 #[u] hc
 have hv := d2H N y0 r0 r1 r2 r3 r4 r5 r6 r7 z0 h [(0, 7)] [.ptr 1 7 0] (Mem.setBox ([] :: []) 0 7 ⟨101, [.v (.bytes y0) .no]⟩) 8 (fun i j p hi hj => by
  rcases i with _ | i <;> rcases j with _ | j <;> simp at hi hj; rfl) (fun j p hj => by
  rcases j with _ | j
  . simp at hj; subst hj; exact ⟨_, rfl, rfl⟩
  . simp at hj) rfl ⟨.ptr 0 ⟨0, rfl, rfl, rfl⟩, trivial⟩
 refine (hv E1 g1 _ [.pointer (some ⟨w.heap.size, 0, none⟩)] k2 ?_).mono ?_
 . refine ⟨rfl, fun k y hk => ?_⟩
   rcases k with _ | k
   . simp at hk; subst hk
     have k3' : RepD E1 g1 _ [] (.ptr 0 7 0) _ := k3
     have e1 : g1.J (E1.d - 0) 7 = w.heap.size := by
      generalize hv : Value.pointer (some ⟨w.heap.size, 0, none⟩) = v at k3'
      cases k3' with
      | ptr k s o hk hd => injection hv with hv; injection hv with hv; injection hv with hv; exact hv.symm
     have := RepD.ptr (E := inner E1 (Mem.setBox ([] :: []) 0 7 ⟨101, [.v (.bytes y0) .no]⟩)) (g := g1) (w := w.alloc (.cells #[u] 101)) (dead := []) 1 7 0 (by simp [inner]) ⟨_, rfl⟩
     rw [show (inner E1 (Mem.setBox ([] :: []) 0 7 ⟨101, [.v (.bytes y0) .no]⟩)).d - 1 = E1.d - 0 by simp [inner], e1] at this
     exact this
   . simp at hk
 . rintro e w' ⟨us', g2, E2, rfl, a1, a2, a3, a4⟩
   match us', a3.1 with
   | [v], _ =>
     have := a3.2 0 _ rfl
     exact ⟨v, g2, E2, rfl, this, a2.sk, k4.trans (by rw [k5] at a4; exact a4)⟩
def pkZ : Array FX := #[.slice none 0 0, .int .i64 0, .int .i64 0, .slice none 0 0, .slice none 0 0, .slice none 0 0, .slice none 0 0, .slice none 0 0]
def over (g : G) (n : Nat) : G := { g with Γ := fun b => if b < n then g.Γ b else .low 0 }
theorem T7 (hg : Grows w w') : Later g w (over g w.heap.size) w' := by
 refine ⟨rfl, fun b o v h1 h2 => ?_, fun b x h1 h2 => ?_⟩
 . have hb := a8T h2
   refine ⟨?_, by rw [cell_of_heap (hg.old b hb)]; exact h2⟩
   unfold s5 over
   simp only [if_pos hb]
   exact h1
 . have hb := G7 h2
   exact ⟨by simp only [over, if_pos hb]; exact h1, by rw [hg.old b hb]; exact h2⟩
theorem b9Q (hg : Grows w w') (d : Nat) : Tr d g w (over g w.heap.size) w' :=
 ⟨hg.os, hg.tape, hg.output, hg.size, T7 hg, fun b hb _ => ⟨by simp only [over, if_pos hb], hg.old b hb⟩, fun _ _ _ => rfl⟩
theorem c6x {us : Array FX} (h : us.size = 8) : ∃ v0 v1 v2 v3 v4 v5 v6 v7, us = #[v0, v1, v2, v3, v4, v5, v6, v7] := by
 obtain ⟨l⟩ := us
 match l, h with
 | [v0, v1, v2, v3, v4, v5, v6, v7], _ => exact ⟨v0, v1, v2, v3, v4, v5, v6, v7, rfl⟩
theorem c4l (p q : Addr) (w : Gc) :
 CallsD Tryz.prog 36 #[.pointer (some p), .pointer (some q)] .returning w fun e u' w' => e = .returned (.tuple #[]) /\ u' = .returning /\ w' = w := by
 refine callsD_of_wpS Tryz.func36 rfl fun c₀ cs hu => ?_
 apply wpS_seq
 apply wpS_region
 simp [wpOpsS, go_sem, recoverD, hu, Tryz.ntmps36, Exit.thenS]
 apply wpS_seq
 apply wpS_region
 simp [wpOpsS, go_sem, Exit.thenS]
 refine wpS_cond (t := false) (by simp [Act.eval, Array.replicate]) ?_
 simp only [Bool.false_eq_true, if_false]
 refine wpS_of_wp (wp_skip ?_)
 cases c₀
 simp_all [bodyPostS, results, Tryz.results36]
structure Low (g : G) (n : Nat) (w w' : Gc) : Prop where
 later : Later g w g w'
 os : w'.os = w.os
 tape : w'.tape = w.tape
 output : w'.output = w.output
 size : w'.heap.size = w.heap.size
 old : ∀ b, b < n -> w'.heap[b]? = w.heap[b]?
theorem Low.refl (g : G) (n : Nat) (w : Gc) : Low g n w w := ⟨Later.refl g w, rfl, rfl, rfl, rfl, fun _ _ => rfl⟩
theorem Low.set {n : Nat} (h : Low g n w w') {B : Nat} (o : Nat) (v : FX) (hB : ∀ o, ¬ s5 g B o) (hi : g.Γ B ≠ .imm) (hn : n <= B) : Low g n w (w'.setCell ⟨B, o, none⟩ v) := by
 have hl : Later g w' g (w'.setCell ⟨B, o, none⟩ v) := by
  refine ⟨rfl, fun b o' u h1 h2 => ⟨h1, ?_⟩, fun b x h1 h2 => ⟨h1, ?_⟩⟩
  . have hb : b ≠ B := fun e => by subst e; exact hB _ h1
    rw [cell_of_heap (Jl w' ⟨B, o, none⟩ b v hb)]; exact h2
  . have hb : b ≠ B := fun e => by subst e; exact hi h1
    rw [Jl _ _ _ _ hb]; exact h2
 exact ⟨h.later.trans hl, h.os, h.tape, h.output, by rw [World.size_setCell]; exact h.size, fun b hb => by rw [Jl _ _ _ _ (by show b ≠ B; omega)]; exact h.old b hb⟩
theorem Low.tr {n d : Nat} {g0 : G} {w0 : Gc} (h : Low g n w w') (ht : Tr d g0 w0 g w) (hn : w0.heap.size <= n) : Tr d g0 w0 g w' :=
 ⟨h.os.trans ht.os, h.tape.trans ht.tape, h.output.trans ht.output, by rw [h.size]; exact ht.size, ht.later.trans h.later, fun b hb hi => ⟨(ht.hid b hb hi).1, (h.old b (by omega)).trans (ht.hid b hb hi).2⟩, ht.J⟩
theorem b4J {xs : List UInt8} {a : Att} {v : FX} {dead : List Pos} (h : RepD E g w dead (.v (.bytes xs) a) v) : ∃ A n c, v = .slice A n c := by
 cases h with | v x a v h ha => cases h with | bytes xs A n c _ _ _ _ => exact ⟨A, n, c, rfl⟩
theorem Y2 {n : Int} {k : IntKind} {a : Att} {v : FX} {dead : List Pos} (h : RepD E g w dead (.v (.int k n) a) v) : v = .int k n := by
 cases h with | v x a v h ha => cases h; rfl
theorem a1T {t : TypeId} {xs : List V} {a : Att} {v : FX} {dead : List Pos} (h : RepD E g w dead (.v (.sl t xs) a) v) : ∃ A n c, v = .slice A n c := by
 cases h with | v x a v h ha => cases h; exact ⟨_, _, _, rfl⟩
theorem d5y {t : TypeId} {xs : List V} {a : Att} {v : FX} {dead : List Pos} (h : RepD E g w dead (.v (.rowI t xs) a) v) : ∃ A n c, v = .slice A n c := by
 cases h with | v x a v h ha => cases h; exact ⟨_, _, _, rfl⟩
set_option maxHeartbeats 1000000 in
theorem d6K {N : Nat} {y0 : List UInt8} {r0 : List UInt8} {r1 r2 : Int} {r3 r4 r5 r6 r7 : List V} {z0 : List UInt8} (h : a2B N y0 = some (r0, r1, r2, r3, r4, r5, r6, r7, z0)) (hs : SzOK T g w) {u : FX} (hu : RepV g w (.bytes y0) u) :
 Calls Tryz.prog 15 #[u] w fun e w' => ∃ v g' E', e = .returned (.tuple #[v, .int .i64 0]) /\ RepD E' g' w' [] (.agg [.v (.bytes r0) .no, .v (.int .i64 r1) .no, .v (.int .i64 r2) .no, .v (.sl 58 r3) .no, .v (.sl 64 r4) .no, .v (.rowI 47 r5) .no, .v (.sl 44 r6) .no, .v (.sl 67 r7) .no]) v /\ SzOK T g' w' /\ Tr 0 g.hide w g' w' := by
 have hmf : ∀ (fn : Fn) (first cap : Array FX) (w : Gc), (Instr.makeFunc fn first cap).run Tryz.prog w = .ok (.func fn first cap) w := fun _ _ _ _ => rfl
 obtain ⟨A, n, c, rfl⟩ : ∃ A n c, u = .slice A n c := by cases hu with | bytes xs A n c _ _ _ _ => exact ⟨A, n, c, rfl⟩
 have hg2 : Grows w ((w.alloc (.cells pkZ 29)).alloc (.cells #[.int .i64 0] 30)) := (Grows.alloc w _).trans (Grows.alloc _ _)
 have hl2 := (O1 g w).trans (T7 (g := g.hide) hg2)
 have H := Lib.hid (Gf h (Gf (hs.later hl2) (Gf (hu.later hl2) hg2)))
 clear h hs hu hl2 hg2
 go_enter_defers Tryz.func15, Tryz.ntmps15
 go_wp2_with fail
 have hw := d1a (w := (w.alloc (.cells pkZ 29)).alloc (.cells #[.int .i64 0] 30)) H.out.1 H.out.2.1 H.out.2.2.1
 rw [show ((w.alloc (.cells pkZ 29)).alloc (.cells #[.int .i64 0] 30)).heap.size = w.heap.size + 1 + 1 by simp] at hw
 refine Calls.mono hw ?_
 rintro e w4 ⟨v, g4, E4, rfl, hr, hsk, htr⟩
 obtain ⟨us, rfl, hus⟩ : ∃ us, v = .agg us /\ us.size = 8 := by cases hr with | agg ds us hn hr => exact ⟨us, rfl, hn⟩
 obtain ⟨v0, v1, v2, v3, v4, v5, v6, v7, rfl⟩ := c6x hus
 have sh : (∃ A n c, v0 = .slice A n c) /\ v1 = .int .i64 r1 /\ v2 = .int .i64 r2 /\ (∃ A n c, v3 = .slice A n c) /\ (∃ A n c, v4 = .slice A n c) /\ (∃ A n c, v5 = .slice A n c) /\ (∃ A n c, v6 = .slice A n c) /\ (∃ A n c, v7 = .slice A n c) := by
  cases hr with
  | agg ds us hn hr =>
    exact ⟨b4J (hr 0 _ rfl), Y2 (hr 1 _ rfl), Y2 (hr 2 _ rfl), a1T (hr 3 _ rfl), a1T (hr 4 _ rfl), d5y (hr 5 _ rfl), a1T (hr 6 _ rfl), a1T (hr 7 _ rfl)⟩
 obtain ⟨⟨A0, n0, k0, rfl⟩, rfl, rfl, ⟨A3, n3, k3, rfl⟩, ⟨A4, n4, k4, rfl⟩, ⟨A5, n5, k5, rfl⟩, ⟨A6, n6, k6, rfl⟩, ⟨A7, n7, k7, rfl⟩⟩ := sh
 have q0 : w4.heap[w.heap.size]? = some (.cells pkZ 29 (0, 0)) := by
  rw [(htr.hid w.heap.size (by simp; omega) (.inr ⟨0, if_neg (by omega)⟩)).2]
  rw [show ((w.alloc (.cells pkZ 29)).alloc (.cells #[.int .i64 0] 30)).heap[w.heap.size]? = (w.alloc (.cells pkZ 29)).heap[w.heap.size]? from (Grows.alloc _ _).old _ (by simp)]
  exact Hf w _
 have q1 : w4.heap[w.heap.size + 1]? = some (.cells #[.int .i64 0] 30 (0, 0)) := by
  rw [(htr.hid (w.heap.size + 1) (by simp) (.inr ⟨0, if_neg (by omega)⟩)).2]
  have := Hf (w.alloc (.cells pkZ 29)) (.cells #[.int .i64 0] 30)
  rw [show (w.alloc (.cells pkZ 29)).heap.size = w.heap.size + 1 by simp] at this
  exact this
 have z0 : g4.Γ w.heap.size = .low 0 := by
  rw [(htr.hid w.heap.size (by simp; omega) (.inr ⟨0, if_neg (by omega)⟩)).1]; exact if_neg (by omega)
 have z1 : g4.Γ (w.heap.size + 1) = .low 0 := by
  rw [(htr.hid (w.heap.size + 1) (by simp) (.inr ⟨0, if_neg (by omega)⟩)).1]; exact if_neg (by omega)
 have y0 : (∀ o, ¬ s5 g4 w.heap.size o) /\ g4.Γ w.heap.size ≠ .imm := ⟨fun o h => by unfold s5 at h; rw [z0] at h; exact absurd h (Is _), by rw [z0]; exact fun h => by cases h⟩
 have y1 : (∀ o, ¬ s5 g4 (w.heap.size + 1) o) /\ g4.Γ (w.heap.size + 1) ≠ .imm := ⟨fun o h => by unfold s5 at h; rw [z1] at h; exact absurd h (Is _), by rw [z1]; exact fun h => by cases h⟩
 have hw5 := ((((((((Low.refl g4 w.heap.size w4).set 0 (.slice A0 n0 k0) y0.1 y0.2 (FW _)).set 1 (.int .i64 r1) y0.1 y0.2 (FW _)).set 2 (.int .i64 r2) y0.1 y0.2 (FW _)).set 3 (.slice A3 n3 k3) y0.1 y0.2 (FW _)).set 4 (.slice A4 n4 k4) y0.1 y0.2 (FW _)).set 5 (.slice A5 n5 k5) y0.1 y0.2 (FW _)).set 6 (.slice A6 n6 k6) y0.1 y0.2 (FW _)).set 7 (.slice A7 n7 k7) y0.1 y0.2 (FW _)
 have hw6 := hw5.set 0 (.int .i64 0) y1.1 y1.2 (Nat.le_succ _)
 have ht0 : Tr 0 g.hide w g4 w4 := (b9Q (g := g.hide) H.out.2.2.2 0).trans htr
 have HF := Lib.hid (Gf hw6 (Gf (hsk.later hw6.later) (Gf (hw6.tr ht0 (FW _)) (hr.far_ (E' := E4) (dead' := []) hw6.later rfl))))
 clear z0 z1 y0 y1 hw5 hw6 ht0
 have c0 : ∀ j, w4.cell? ⟨w.heap.size, j, none⟩ = pkZ[j]? := fun j => cell_of_row _ _ j _ _ _ q0
 have f0 : ∀ j, w4.frozen? ⟨w.heap.size, j, none⟩ = false := fun j => IB _ _ j _ _ q0
 have c1 : w4.cell? ⟨w.heap.size + 1, 0, none⟩ = some (.int .i64 0) := by rw [cell_of_row _ _ 0 _ _ _ q1]; rfl
 have f1 : w4.frozen? ⟨w.heap.size + 1, 0, none⟩ = false := IB _ _ 0 _ _ q1
 have d0 : w4.cell? ⟨w.heap.size, 0, none⟩ = some (.slice none 0 0) := c0 0
 have d1 : w4.cell? ⟨w.heap.size, 1, none⟩ = some (.int .i64 0) := c0 1
 have d2 : w4.cell? ⟨w.heap.size, 2, none⟩ = some (.int .i64 0) := c0 2
 have d3 : w4.cell? ⟨w.heap.size, 3, none⟩ = some (.slice none 0 0) := c0 3
 have d4 : w4.cell? ⟨w.heap.size, 4, none⟩ = some (.slice none 0 0) := c0 4
 have d5 : w4.cell? ⟨w.heap.size, 5, none⟩ = some (.slice none 0 0) := c0 5
 have d6 : w4.cell? ⟨w.heap.size, 6, none⟩ = some (.slice none 0 0) := c0 6
 have d7 : w4.cell? ⟨w.heap.size, 7, none⟩ = some (.slice none 0 0) := c0 7
 have e0 := f0 0
 have e1 := f0 1
 have e2 := f0 2
 have e3 := f0 3
 have e4 := f0 4
 have e5 := f0 5
 have e6 := f0 6
 have e7 := f0 7
 clear hr hsk htr q0 q1 c0 f0 hw
 go_wp2_with fail
 refine leaves_cons (f := 36) (args := #[.pointer (some ⟨w.heap.size, 0, none⟩), .pointer (some ⟨w.heap.size + 1, 0, none⟩)]) (by simp) (by simp [go_sem]) ?_
 refine (c4l _ _ _).mono ?_
 rintro e u' w'' ⟨rfl, rfl, rfl⟩
 simp [Leaves, Go.settle, results, Tryz.results15, go_sem, d0, d1, d2, d3, d4, d5, d6, d7, c1]
 exact ⟨g4, ⟨E4, HF.out.2.2.2⟩, HF.out.2.1, HF.out.2.2.1⟩
end
end En
end
end Go.Proofs.YtkoilndpfifapaaGreatDoor
