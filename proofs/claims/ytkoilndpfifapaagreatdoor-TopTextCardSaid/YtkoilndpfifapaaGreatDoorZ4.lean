/- Texts. -/
import Derived.Test.YtkoilndpfifapaaGreatDoorZ3

set_option linter.unusedSimpArgs false
set_option linter.unusedVariables false
set_option linter.unusedSectionVars false
open Eq renaming trans → Gs
open Go.IntKind renaming i64 → FK, u8 → FY, u32 → FL, i8 → KO
open List renaming drop → Gj
open UInt8 renaming ofNat → FR
namespace Go.Proofs.YtkoilndpfifapaaGreatDoor
noncomputable section
namespace En
open Go Go.Proofs
abbrev VR2 := c0O Tryz.prog T
abbrev MEO := MEntOK Tryz.prog T
abbrev EO := EntOK Tryz.prog T
abbrev PRT := H8 Tryz.prog T
set_option maxRecDepth 100000
set_option maxHeartbeats 8000000
abbrev sh0 : Sh := .a (.v fI (.v fI (.v fI (.v fI .z)))) .z
abbrev mm0 (v0 v1 v2 v3 v4 v5 v6 : Int) : Mem := [[(1, ⟨54, [(.v (.int .i64 v0) .no), (.v (.int .i64 v1) .no), (.v (.int .i64 v2) .no), (.v (.int .i64 v3) .no)]⟩), (3, ⟨82, [(.v (.int .i64 v4) .no), (.v (.int .i64 v5) .no), (.v (.int .i64 v6) .no)]⟩)]]
abbrev mm1 (v0 v1 v2 v3 v4 v5 v6 : Int) : Mem := [[(2, ⟨54, [(.v (.int .i64 v0) .no), (.v (.int .i64 v1) .no), (.v (.int .i64 v2) .no), (.v (.int .i64 v3) .no)]⟩), (6, ⟨82, [(.v (.int .i64 v4) .no), (.v (.int .i64 v5) .no), (.v (.int .i64 v6) .no)]⟩)]]
abbrev sh1 : Sh := .a (.v fI (.v fI (.v fI (.v fI .z)))) (.v .y (.v fI .z))
abbrev mm2 (v0 : LB) (v1 v2 v3 v4 v5 v6 v7 : Int) : Mem := [[(5, ⟨75, [.bld, (.v (.bytes v0) (.own (.slot 0) 5))]⟩), (8, ⟨54, [(.v (.int .i64 v1) .no), (.v (.int .i64 v2) .no), (.v (.int .i64 v3) .no), (.v (.int .i64 v4) .no)]⟩), (9, ⟨82, [(.v (.int .i64 v5) .no), (.v (.int .i64 v6) .no), (.v (.int .i64 v7) .no)]⟩)]]
abbrev mm3 (v0 : LB) : Mem := [[(5, ⟨75, [.bld, (.v (.bytes v0) (.own (.slot 0) 5))]⟩)]]
abbrev mm4 (v0 v1 v2 : Int) : Mem := [[(2, ⟨84, [(.v (.int .i64 v0) .no), (.v (.int .i64 v1) .no), (.v (.int .i64 v2) .no)]⟩)]]
abbrev sh2 : Sh := .a (.v fI (.v fI (.v fI .z))) (.v (.l 9) .z)
abbrev mm5 (v0 v1 v2 v3 v4 v5 v6 v7 v8 v9 : Int) : Mem := [[(2, ⟨54, [(.v (.int .i64 v0) .no), (.v (.int .i64 v1) .no), (.v (.int .i64 v2) .no), (.v (.int .i64 v3) .no)]⟩), (6, ⟨84, [(.v (.int .i64 v4) .no), (.v (.int .i64 v5) .no), (.v (.int .i64 v6) .no)]⟩), (9, ⟨82, [(.v (.int .i64 v7) .no), (.v (.int .i64 v8) .no), (.v (.int .i64 v9) .no)]⟩)]]
abbrev sh3 : Sh := .a (.v fI (.v fI (.v fI (.v fI .z)))) (.v fI .z)
abbrev sh4 : Sh := .a (.v fI (.v fI (.v .b (.v (.l 42) (.v (.l 44) (.v (.l 3) (.v (.l 105) .z))))))) .z
abbrev sh5 : Sh := .a (.v .b (.v .b (.v fI (.v (.l 44) (.v fI (.v fI (.v fI (.v fI (.v fI (.v (.l 54) (.v (.l 107) .z))))))))))) .z
abbrev sh6 : Sh := .a (.v fW (.v fW (.v fW (.v fW (.v fW (.v fW (.v fW (.v fW (.v fW (.v fW (.v fW (.v fW (.v fW (.v fW (.v fW (.v fW .z)))))))))))))))) .z
abbrev sh7 : Sh := .a (.v fW (.v fW .z)) (.a (.v fW (.v fW (.v fW (.v fW (.v fW (.v fW (.v fW (.v fW (.v fW (.v fW (.v fW (.v fW (.v fW (.v fW (.v fW (.v fW .z)))))))))))))))) .z)
abbrev mm6 (v0 : LB) : Mem := [[], [(0, ⟨96, [(.v (.bytes v0) (.own (.slot 0) 5))]⟩)]]
abbrev sh8 : Sh := .p 0 (.a (.v fI (.v fI (.v .b (.v (.l 42) (.v (.l 44) (.v (.l 3) (.v (.l 105) .z))))))) .z)
abbrev sh9 : Sh := .p 0 (.a (.v .b (.v .b (.v fI (.v (.l 44) (.v fI (.v fI (.v fI (.v fI (.v fI (.v (.l 54) (.v (.l 107) .z))))))))))) .z)
abbrev e6u : Sh := .p 0 (.a (.v .y (.v fI (.v fI (.v (.l 58) (.v (.l 64) (.v (.l 47) (.v (.l 44) (.v (.l 67) .z)))))))) .z)
abbrev b5F : Sh := .a (.v .y (.v fI (.v fI (.v (.l 58) (.v (.l 64) (.v (.l 47) (.v (.l 44) (.v (.l 67) .z)))))))) .z
abbrev e6B : Sh := .a (.v .y (.v fI (.v fI (.v (.l 58) (.v (.l 64) (.v (.l 47) (.v (.l 44) (.v (.l 67) .z)))))))) (.a (.v fI (.v fI .z)) .z)
abbrev e6H : Sh := .a (.v .y (.v fI (.v fI (.v (.l 58) (.v (.l 64) (.v (.l 47) (.v (.l 44) (.v (.l 67) .z)))))))) (.a (.v fI (.v fI (.v fI .z))) .z)
abbrev e6s : Sh := .a (.v .y (.v fI (.v fI (.v (.l 58) (.v (.l 64) (.v (.l 47) (.v (.l 44) (.v (.l 67) .z)))))))) (.a (.v fI (.v fI .z)) (.v fI .z))
abbrev c4n : Bxs := [(90, [.n .y, .n fI, .n fI, .n (.l 58), .n (.l 64), .n (.l 47), .n (.l 44), .n (.l 67)])]
abbrev mm7 (v0 : LB) (v1 v2 : Int) (v3 v4 v5 v6 v7 : List V) : Mem := [[], [(0, ⟨90, [(.v (.bytes v0) .no), (.v (.int .i64 v1) .no), (.v (.int .i64 v2) .no), (.v (.sl 58 v3) .no), (.v (.sl 64 v4) .no), (.v (.sl 47 v5) .no), (.v (.sl 44 v6) .no), (.v (.sl 67 v7) .no)]⟩)]]
abbrev e6o : Sh := .a (.v .y (.v fI (.v fI (.v (.l 58) (.v (.l 64) (.v (.l 47) (.v (.l 44) (.v (.l 67) .z)))))))) (.v (.l 44) .z)
abbrev mm8 (v0 : LB) (v1 v2 : Int) : Mem := [[], [(0, ⟨58, [(.v (.bytes v0) .no), (.v (.int .i64 v1) .no), (.v (.int .i64 v2) .no)]⟩)]]
abbrev e3t : Sh := .v fI (.a (.v .y (.v fI (.v fI .z))) (.p 0 .z))
abbrev e6x : Sh := .v fI (.a (.v fI (.v fI .z)) (.p 0 (.p 1 .z)))
abbrev e4G : Bxs := [(90, [.n .y, .n fI, .n fI, .n (.l 58), .n (.l 64), .n (.l 47), .n (.l 44), .n (.l 67)]), (3, [.n fI])]
abbrev mm9 (v0 : LB) (v1 v2 : Int) (v3 v4 v5 v6 v7 : List V) (v8 : Int) : Mem := [[], [(0, ⟨90, [(.v (.bytes v0) .no), (.v (.int .i64 v1) .no), (.v (.int .i64 v2) .no), (.v (.sl 58 v3) .no), (.v (.sl 64 v4) .no), (.v (.sl 47 v5) .no), (.v (.sl 44 v6) .no), (.v (.sl 67 v7) .no)]⟩), (1, ⟨3, [(.v (.int .i64 v8) .no)]⟩)]]
abbrev e6W : Sh := .a (.v .y (.v fI (.v fI (.v (.l 58) (.v (.l 64) (.v (.l 47) (.v (.l 44) (.v (.l 67) .z)))))))) (.v fI (.a (.v fI (.v fI (.v .b (.v (.l 42) (.v (.l 44) (.v (.l 3) (.v (.l 105) .z))))))) (.v fI (.v fI .z))))
abbrev e4o : Bxs := [(90, [.n .y, .n fI, .n fI, .n (.l 58), .n (.l 64), .n (.l 47), .n (.l 44), .n (.l 67)]), (3, [.n fI]), (64, [.n fI, .n fI, .n .b, .n (.l 42), .n (.l 44), .n (.l 3), .n (.l 105)])]
abbrev e1W (v0 : LB) (v1 v2 : Int) (v3 v4 v5 v6 v7 : List V) (v8 v9 v10 : Int) (v11 : Bool) (v12 v13 v14 v15 : List V) : Mem := [[], [(0, ⟨90, [(.v (.bytes v0) .no), (.v (.int .i64 v1) .no), (.v (.int .i64 v2) .no), (.v (.sl 58 v3) .no), (.v (.sl 64 v4) .no), (.v (.sl 47 v5) .no), (.v (.sl 44 v6) .no), (.v (.sl 67 v7) .no)]⟩), (1, ⟨3, [(.v (.int .i64 v8) .no)]⟩), (2, ⟨64, [(.v (.int .i64 v9) .no), (.v (.int .i64 v10) .no), (.v (.bool v11) .no), (.v (.sl 42 v12) .no), (.v (.sl 44 v13) .no), (.v (.sl 3 v14) .no), (.v (.sl 105 v15) .no)]⟩)]]
abbrev e6z : Sh := .v (.l 3) (.c 158 (.p 0 (.p 1 (.p 2 .z))) .z)
abbrev e6i : Sh := .a (.v fI (.v fI (.v (.l 3) .z))) (.p 0 .z)
abbrev e2u (v0 v1 : Int) (v2 : List V) : Mem := [[], [(0, ⟨105, [(.v (.int .i64 v0) .no), (.v (.int .i64 v1) .no), (.v (.sl 3 v2) .no)]⟩)]]
abbrev e6I : Sh := .v fI (.a (.v fI (.v fI (.v (.l 3) .z))) (.p 0 (.p 1 .z)))
abbrev e5o : Bxs := [(90, [.n .y, .n fI, .n fI, .n (.l 58), .n (.l 64), .n (.l 47), .n (.l 44), .n (.l 67)]), (64, [.n fI, .n fI, .n .b, .n (.l 42), .n (.l 44), .n (.l 3), .n (.l 105)])]
abbrev e2d (v0 : LB) (v1 v2 : Int) (v3 v4 v5 v6 v7 : List V) (v8 v9 : Int) (v10 : Bool) (v11 v12 v13 v14 : List V) : Mem := [[], [(0, ⟨90, [(.v (.bytes v0) .no), (.v (.int .i64 v1) .no), (.v (.int .i64 v2) .no), (.v (.sl 58 v3) .no), (.v (.sl 64 v4) .no), (.v (.sl 47 v5) .no), (.v (.sl 44 v6) .no), (.v (.sl 67 v7) .no)]⟩), (1, ⟨64, [(.v (.int .i64 v8) .no), (.v (.int .i64 v9) .no), (.v (.bool v10) .no), (.v (.sl 42 v11) .no), (.v (.sl 44 v12) .no), (.v (.sl 3 v13) .no), (.v (.sl 105 v14) .no)]⟩)]]
abbrev e6L : Sh := .v (.l 105) (.c 161 (.p 0 (.p 1 .z)) .z)
abbrev e6V : Sh := .a (.v .y (.v fI (.v fI (.v (.l 58) (.v (.l 64) (.v (.l 47) (.v (.l 44) (.v (.l 67) .z)))))))) (.v fI (.a (.v fI (.v fI (.v .b (.v (.l 42) (.v (.l 44) (.v (.l 3) (.v (.l 105) .z))))))) .z))
abbrev e3m : Sh := .a (.v .y (.v fI (.v fI (.v (.l 58) (.v (.l 64) (.v (.l 47) (.v (.l 44) (.v (.l 67) .z)))))))) (.a (.v .b (.v .b (.v fI (.v (.l 44) (.v fI (.v fI (.v fI (.v fI (.v fI (.v (.l 54) (.v (.l 107) .z))))))))))) (.a (.v fI (.v fI (.v fI (.v fI .z)))) .z))
abbrev e6w : Sh := .v fI (.a (.v fI (.v fI (.v fI (.v fI .z)))) (.p 0 (.p 1 .z)))
abbrev e5t : Bxs := [(90, [.n .y, .n fI, .n fI, .n (.l 58), .n (.l 64), .n (.l 47), .n (.l 44), .n (.l 67)]), (47, [.n .b, .n .b, .n fI, .n (.l 44), .n fI, .n fI, .n fI, .n fI, .n fI, .n (.l 54), .n (.l 107)])]
abbrev e2h (v0 : LB) (v1 v2 : Int) (v3 v4 v5 v6 v7 : List V) (v8 v9 : Bool) (v10 : Int) (v11 : List V) (v12 v13 v14 v15 v16 : Int) (v17 v18 : List V) : Mem := [[], [(0, ⟨90, [(.v (.bytes v0) .no), (.v (.int .i64 v1) .no), (.v (.int .i64 v2) .no), (.v (.sl 58 v3) .no), (.v (.sl 64 v4) .no), (.v (.sl 47 v5) .no), (.v (.sl 44 v6) .no), (.v (.sl 67 v7) .no)]⟩), (1, ⟨47, [(.v (.bool v8) .no), (.v (.bool v9) .no), (.v (.int .i64 v10) .no), (.v (.sl 44 v11) .no), (.v (.int .i64 v12) .no), (.v (.int .i64 v13) .no), (.v (.int .i64 v14) .no), (.v (.int .i64 v15) .no), (.v (.int .i64 v16) .no), (.v (.sl 54 v17) .no), (.v (.sl 107 v18) .no)]⟩)]]
abbrev e6G : Sh := .v fI (.a (.v fI (.v fI (.v fI (.v fI .z)))) (.p 0 .z))
abbrev e3C : Bxs := [(47, [.n .b, .n .b, .n fI, .n (.l 44), .n fI, .n fI, .n fI, .n fI, .n fI, .n (.l 54), .n (.l 107)])]
abbrev e1Y (v0 v1 : Bool) (v2 : Int) (v3 : List V) (v4 v5 v6 v7 v8 : Int) (v9 v10 : List V) : Mem := [[], [(0, ⟨47, [(.v (.bool v0) .no), (.v (.bool v1) .no), (.v (.int .i64 v2) .no), (.v (.sl 44 v3) .no), (.v (.int .i64 v4) .no), (.v (.int .i64 v5) .no), (.v (.int .i64 v6) .no), (.v (.int .i64 v7) .no), (.v (.int .i64 v8) .no), (.v (.sl 54 v9) .no), (.v (.sl 107 v10) .no)]⟩)]]
abbrev e7a : Sh := .a (.v .y (.v fI (.v fI (.v (.l 58) (.v (.l 64) (.v (.l 47) (.v (.l 44) (.v (.l 67) .z)))))))) (.v fI (.a (.v .b (.v .b (.v fI (.v (.l 44) (.v fI (.v fI (.v fI (.v fI (.v fI (.v (.l 54) (.v (.l 107) .z))))))))))) .z))
abbrev e2x (v0 : LB) (v1 v2 : Int) : Mem := [[], [(0, ⟨67, [(.v (.bytes v0) .no), (.v (.int .i64 v1) .no), (.v (.int .i64 v2) .no)]⟩)]]
abbrev e6X : Sh := .v (.l 64) (.c 1000107 (.a (.v .y (.v fI (.v fI (.v (.l 58) (.v (.l 64) (.v (.l 47) (.v (.l 44) (.v (.l 67) .z)))))))) .z) .z)
abbrev e6y : Sh := .v (.l 47) (.c 1000109 (.a (.v .y (.v fI (.v fI (.v (.l 58) (.v (.l 64) (.v (.l 47) (.v (.l 44) (.v (.l 67) .z)))))))) .z) .z)
abbrev c9s (v0 v1 : Int) (v2 : Bool) (v3 v4 v5 v6 : List V) (v7 v8 : Int) (v9 : Bool) (v10 v11 v12 v13 : List V) : Mem := [[(2, ⟨64, [(.v (.int .i64 v0) .no), (.v (.int .i64 v1) .no), (.v (.bool v2) .no), (.v (.sl 42 v3) .no), (.v (.sl 44 v4) .no), (.v (.sl 3 v5) .no), (.v (.sl 105 v6) .no)]⟩), (3, ⟨64, [(.v (.int .i64 v7) .no), (.v (.int .i64 v8) .no), (.v (.bool v9) .no), (.v (.sl 42 v10) .no), (.v (.sl 44 v11) .no), (.v (.sl 3 v12) .no), (.v (.sl 105 v13) .no)]⟩)]]
abbrev e6D : Sh := .a (.v fI (.v fI (.v .b (.v (.l 42) (.v (.l 44) (.v (.l 3) (.v (.l 105) .z))))))) (.a (.v fI (.v fI (.v .b (.v (.l 42) (.v (.l 44) (.v (.l 3) (.v (.l 105) .z))))))) .z)
abbrev d0w (v0 v1 : Bool) (v2 : Int) (v3 : List V) (v4 v5 v6 v7 v8 : Int) (v9 v10 : List V) (v11 v12 : Bool) (v13 : Int) (v14 : List V) (v15 v16 v17 v18 v19 : Int) (v20 v21 : List V) : Mem := [[(2, ⟨47, [(.v (.bool v0) .no), (.v (.bool v1) .no), (.v (.int .i64 v2) .no), (.v (.sl 44 v3) .no), (.v (.int .i64 v4) .no), (.v (.int .i64 v5) .no), (.v (.int .i64 v6) .no), (.v (.int .i64 v7) .no), (.v (.int .i64 v8) .no), (.v (.sl 54 v9) .no), (.v (.sl 107 v10) .no)]⟩), (3, ⟨47, [(.v (.bool v11) .no), (.v (.bool v12) .no), (.v (.int .i64 v13) .no), (.v (.sl 44 v14) .no), (.v (.int .i64 v15) .no), (.v (.int .i64 v16) .no), (.v (.int .i64 v17) .no), (.v (.int .i64 v18) .no), (.v (.int .i64 v19) .no), (.v (.sl 54 v20) .no), (.v (.sl 107 v21) .no)]⟩)]]
abbrev e6S : Sh := .a (.v .b (.v .b (.v fI (.v (.l 44) (.v fI (.v fI (.v fI (.v fI (.v fI (.v (.l 54) (.v (.l 107) .z))))))))))) (.a (.v .b (.v .b (.v fI (.v (.l 44) (.v fI (.v fI (.v fI (.v fI (.v fI (.v (.l 54) (.v (.l 107) .z))))))))))) .z)
abbrev b1r (v0 : LB) (v1 v2 : Int) (v3 v4 v5 v6 v7 : List V) (v8 : LB) (v9 v10 : Int) (v11 v12 v13 v14 v15 : List V) : Mem := [[(2, ⟨29, [(.v (.bytes v0) .no), (.v (.int .i64 v1) .no), (.v (.int .i64 v2) .no), (.v (.sl 58 v3) .no), (.v (.sl 64 v4) .no), (.v (.sl 47 v5) .no), (.v (.sl 44 v6) .no), (.v (.sl 67 v7) .no)]⟩), (3, ⟨29, [(.v (.bytes v8) .no), (.v (.int .i64 v9) .no), (.v (.int .i64 v10) .no), (.v (.sl 58 v11) .no), (.v (.sl 64 v12) .no), (.v (.sl 47 v13) .no), (.v (.sl 44 v14) .no), (.v (.sl 67 v15) .no)]⟩)]]
abbrev e6h : Sh := .a (.v .y (.v fI (.v fI (.v (.l 58) (.v (.l 64) (.v (.l 47) (.v (.l 44) (.v (.l 67) .z)))))))) (.a (.v .y (.v fI (.v fI (.v (.l 58) (.v (.l 64) (.v (.l 47) (.v (.l 44) (.v (.l 67) .z)))))))) .z)
def a5D {R : Type} (s : LB -> Option (Unit)) (dst : Nat) (ds : List D) (m : Mem) (K : List D -> Mem -> Option R) : Option R :=
 match ds with
 | [.ptr (As + 1) Av 0] => a0s [(As, Av)] m fun Bs => (match Bs with
   | [⟨75, [.bld, .v (.bytes U) (.own (.slot 0) 5)]⟩] => j3 (s U) fun _ => J5 [(As, Av)] [⟨75, [.bld, .v (.bytes U) (.own (.slot 0) 5)]⟩] m fun m' => K [] m'
   | _ => none)
 | _ => none
abbrev c1W (s : LB -> Option (Unit)) : Prop := ∀ U, s U = some () -> V8 Tryz.prog T 46 [.ptr 1 0 0] [⟨75, [.bld, .v (.bytes U) (.own (.slot 0) 5)]⟩] [] [⟨75, [.bld, .v (.bytes U) (.own (.slot 0) 5)]⟩]
theorem b9U (s : LB -> Option (Unit)) (hs : c1W s) : MEO ⟨46, a5D s⟩ := by
 refine ⟨K6 Tryz.func46 (by kernel_rfl) (c := s6 Tryz.f46) (by kernel_rfl), fun R dst ds m K r h => ?_⟩
 simp only [a5D] at h
 split at h
 . obtain ⟨Bs, a1, a2, a3, h⟩ := F8 h
   split at h
   . obtain ⟨_, h1, h2⟩ := L2 h
     rw [F5] at h2
     exact ⟨_, _, h2, hs _ h1 _ _ m dst a1 a2 a3 ⟨G0 _ rfl, trivial⟩⟩
   . cases h
 . cases h
def a2g {R : Type} (s : LB -> LB -> Option (Int × LB)) (dst : Nat) (ds : List D) (m : Mem) (K : List D -> Mem -> Option R) : Option R :=
 match ds with
 | [.ptr (As + 1) Av 0, .v (.str f) .no] => a0s [(As, Av)] m fun Bs => (match Bs with
   | [⟨75, [.bld, .v (.bytes U) (.own (.slot 0) 5)]⟩] => s7 (s f U) fun r0 z0 => J5 [(As, Av)] [⟨75, [.bld, .v (.bytes z0) (.own (.slot 0) 5)]⟩] m fun m' => K [dI r0, .v .nilI .no] m'
   | _ => none)
 | _ => none
def a2m {α : Type} (K : Int -> LB -> Option α) (rs : List D) (m : Mem) : Option α :=
 match rs, m with
 | [.v (.int .i64 r0) _, .v .nilI _], [_, [(0, ⟨75, [.bld, .v (.bytes z0) (.own (.slot 0) 5)]⟩)]] => K r0 z0
 | _, _ => none
def a2j {R : Type} (N : Nat) (f U : LB) (K0 : Int -> LB -> Option R) : Option R := j3 (a2a N U) fun x0_1 => br (decide ((U.length + f.length) * 1 <= 140737488355328)) (K0 (f.length : Int) (U ++ f)) none
def p6 (N : Nat) : LB -> LB -> Option (Int × LB) := fun f U => a2j N f U (fun r0 z0 => some (r0, z0))
def a4G (N : Nat) : Cx := cxO [] [⟨46, a5D (a2a N)⟩]
theorem a9z {R : Type} (N : Nat) (f U K : _) : M4 (R := R) (a4G N) Tryz.f24 [.ptr 1 0 0, .v (.str f) .no] [J4 0 [⟨75, [.bld, .v (.bytes U) (.own (.slot 0) 5)]⟩]] (a2m K) = a2j N f U (fun r0 z0 => K r0 z0) := by
 kernel_rfl
abbrev a6L (s : LB -> LB -> Option (Int × LB)) : Prop := ∀ {f U r0 z0}, s f U = some (r0, z0) -> V8 Tryz.prog T 24 [.ptr 1 0 0, .v (.str f) .no] [⟨75, [.bld, .v (.bytes U) (.own (.slot 0) 5)]⟩] [dI r0, .v .nilI .no] [⟨75, [.bld, .v (.bytes z0) (.own (.slot 0) 5)]⟩]
theorem b2P (s : LB -> LB -> Option (Int × LB)) (hs : a6L s) : MEO ⟨24, a2g s⟩ := by
 refine ⟨K6 Tryz.func24 (by kernel_rfl) (c := s6 Tryz.f24) (by kernel_rfl), fun R dst ds m K r h => ?_⟩
 simp only [a2g] at h
 split at h
 . obtain ⟨Bs, a1, a2, a3, h⟩ := F8 h
   split at h
   . obtain ⟨r0, z0, h1, h2⟩ := a6E h
     rw [F5] at h2
     exact ⟨_, _, h2, hs h1 _ _ m dst a1 a2 a3 ⟨G0 _ rfl, M8 _, trivial⟩⟩
   . cases h
 . cases h
open Classical in
theorem b5G (N : Nat) : a6L (p6 N) := fun {f U r0 z0} h => by
 refine b1G (Bs := [⟨75, [.bld, .v (.bytes U) (.own (.slot 0) 5)]⟩]) (Bs' := [⟨75, [.bld, .v (.bytes z0) (.own (.slot 0) 5)]⟩]) (cx := a4G N) (by kernel_rfl) (a9l trivial ⟨b9U _ (c1Q N), trivial⟩) Tryz.func24 (by kernel_rfl) (by kernel_rfl) (lz (by kernel_rfl)) rfl (by rfl) (by rfl) (by rfl) (rf := a2m (fun BU Z0 => some (BU, Z0))) (r := (r0, z0)) ?_ ?_
 . exact (a9z ..).trans h
 . intro rs' m' hx
   unfold a2m at hx
   split at hx
   . cases hx; exact ⟨rfl, rfl, _, rfl⟩
   . cases hx
def a9x {R : Type} (s : LB -> Option (LB)) (dst : Nat) (ds : List D) (m : Mem) (K : List D -> Mem -> Option R) : Option R :=
 match ds with
 | [.ptr (As + 1) Av 0] => a0s [(As, Av)] m fun Bs => (match Bs with
   | [⟨75, [.bld, .v (.bytes U) (.own (.slot 0) 5)]⟩] => j3 (s U) fun r0 => J5 [(As, Av)] [⟨75, [.bld, dY U]⟩] m fun m' => K [.v (.str r0) .no] m'
   | _ => none)
 | _ => none
abbrev d0H (s : LB -> Option (LB)) : Prop := ∀ U r0, s U = some r0 -> V8 Tryz.prog T 29 [.ptr 1 0 0] [⟨75, [.bld, .v (.bytes U) (.own (.slot 0) 5)]⟩] [.v (.str r0) .no] [⟨75, [.bld, dY U]⟩]
theorem c5E (s : LB -> Option (LB)) (hs : d0H s) : MEO ⟨29, a9x s⟩ := by
 refine ⟨K6 Tryz.func29 (by kernel_rfl) (c := s6 Tryz.f29) (by kernel_rfl), fun R dst ds m K r h => ?_⟩
 simp only [a9x] at h
 split at h
 . obtain ⟨Bs, a1, a2, a3, h⟩ := F8 h
   split at h
   . obtain ⟨r0, h1, h2⟩ := L2 h
     rw [F5] at h2
     exact ⟨_, _, h2, hs _ _ h1 _ _ m dst a1 a2 a3 ⟨G0 _ rfl, trivial⟩⟩
   . cases h
 . cases h
def c3l (N : Nat) : Ent := pE 45 (.v .s .z) (.v (.l 9) .z) (a4I N)
theorem d1c (N : Nat) : EO (c3l N) := a1i (gz Tryz.func45 (by kernel_rfl)) rfl fun h t q => d4O N h.1 t q
def d4J (N : Nat) : Ent := pE 20 (.v .s (.v .s .z)) (.v .s (.v .s (.v .b .z))) (a0G N)
theorem d6G (N : Nat) : EO (d4J N) := a1i (gz Tryz.func20 (by kernel_rfl)) rfl fun h t q => e4T N h.1 h.2.1 t.1 t.2.1 t.2.2 q
def c8y (N : Nat) : Ent := pE 40 (.v .s (.v .s .z)) (.v (.l 9) .z) (a6B N)
theorem d2p (N : Nat) : EO (c8y N) := a1i (gz Tryz.func40 (by kernel_rfl)) rfl fun h t q => d7o N h.1 h.2.1 t q
def d5m (N : Nat) : Ent := pE 48 (.v fI .z) (.v .s .z) (b3J N)
theorem d9G (N : Nat) : EO (d5m N) := a1i (gz Tryz.func48 (by kernel_rfl)) rfl fun h t q => e2p N h.1 t q
def a4j {R : Type} (N : Nat) (Aa : List V) (l1 : LB) (d : Int) (Lq : Int -> Option R) (K0 : Int -> Option R) (K1 : Option R) (i : Int) : Option R := br (decide (i < d)) (br (decide (0 <= i) && decide (i < (Aa.length : Int))) (at? Aa i.toNat fun f => f.unStr fun l1_1 => br (decide (l1 = l1_1)) (K0 i) (Lq (FK.wrap (i + 1)))) none) K1
def T8 {R : Type} (N : Nat) (Aa : List V) (l1 : LB) (d : Int) : Nat -> Int -> (Int -> Option R) -> (Option R) -> Option R | 0, _, _, _ => none | t + 1, i, K0, K1 => a4j N Aa l1 d (fun i => T8 N Aa l1 d t i K0 K1) K0 K1 i
def a7J {R : Type} (N : Nat) (ds : List D) (m : Mem) (K : Ex -> List D -> Mem -> Option R) : Option R :=
 match ds, m with
 | [(.v (.sl 9 Aa) .no), (.v (.str l1) .no), (.v (.int .i64 d) .no), (.v (.int .i64 i) .no)], [[]] => T8 N Aa l1 d N i (fun a0 => K .ret [(.v (.int .i64 a0) .no)] [[]]) (K (.exit 0) [.any] [[]])
 | _, _ => none
def a5c (N : Nat) (f : List V) (x1 : LB) : Option (Int) := T8 N f x1 (f.length : Int) N 0 (fun j => some j) (some (-1))
def b7x (N : Nat) : Cx := cl [] [] [⟨2, [0, 1, 7, 8], [4], a7J N⟩]
theorem c0x (N : Nat) : p9 (b7x N) 19 (s4 Tryz.f41 0) := by
 refine j7 (rid := 2) (by kernel_rfl) rfl rfl fun R ds m K r h => ?_
 change a7J N ds m K = _ at h
 unfold a7J at h
 split at h
 . rename_i Aa l1 d i
   exact ⟨N, Gs (lpI (fun (e : (Int -> Option R) × (Option R)) L (s : Int) => a4j N Aa l1 d (fun i => L i) e.1 e.2 s) (fun e t s => T8 N Aa l1 d t s e.1 e.2) (fun s => [(.v (.sl 9 Aa) .no), (.v (.str l1) .no), (.v (.int .i64 d) .no), (.v (.int .i64 s) .no)]) (fun s => [[]]) (fun _ _ => rfl) (fun _ _ _ => rfl) (e := (_, _)) (fun L s => by kernel_rfl) N i) h⟩
 . cases h
def b4Z (N : Nat) : Ent := pE 41 (.v (.l 9) (.v .s .z)) (.v fI .z) (a5c N)
theorem b6k (N : Nat) : EO (b4Z N) := pk (cx := b7x N) (D4 trivial trivial) Tryz.func41 (j6 (k := 1) (by kernel_rfl) ⟨trivial, c0x N⟩) (by kernel_rfl) fun h => by kernel_rfl
def V7 (N : Nat) (f : Int) : Option (Int × Int × Int) := br (decide (f = 1)) (some (1, 0, 0)) (br (decide (f = 3)) (some (2, 0, 0)) (br (decide (f = 4)) (some (2, 0, 0)) (br (decide (f = 5)) (some (2, 3, 0)) (br (decide (21 <= f)) (br (decide (f <= 32)) (some (4, 0, 0)) (br (decide (f = 33)) (some (5, 6, 0)) (br (decide (f = 51)) (some (5, 6, 0)) (br (decide (f = 52)) (some (5, 6, 0)) (br (decide (f = 34)) (some (7, 0, 0)) (br (decide (f = 42)) (some (5, 6, 8)) (br (decide (f = 43)) (some (5, 6, 8)) (br (decide (f = 44)) (some (9, 0, 0)) (br (decide (f = 45)) (some (9, 0, 0)) (br (decide (f = 46)) (some (10, 11, 0)) (br (decide (f = 47)) (some (5, 6, 12)) (br (decide (f = 48)) (some (5, 6, 12)) (br (decide (f = 53)) (some (13, 0, 0)) (some (0, 0, 0))))))))))))))) (br (decide (f = 33)) (some (5, 6, 0)) (br (decide (f = 51)) (some (5, 6, 0)) (br (decide (f = 52)) (some (5, 6, 0)) (br (decide (f = 34)) (some (7, 0, 0)) (br (decide (f = 42)) (some (5, 6, 8)) (br (decide (f = 43)) (some (5, 6, 8)) (br (decide (f = 44)) (some (9, 0, 0)) (br (decide (f = 45)) (some (9, 0, 0)) (br (decide (f = 46)) (some (10, 11, 0)) (br (decide (f = 47)) (some (5, 6, 12)) (br (decide (f = 48)) (some (5, 6, 12)) (br (decide (f = 53)) (some (13, 0, 0)) (some (0, 0, 0))))))))))))))))))
def a2J (N : Nat) : Ent := pE 26 (.v fI .z) (.a (.v fI (.v fI (.v fI .z))) .z) (V7 N)
theorem a3q (N : Nat) : EO (a2J N) := pk0 (cx := cz [] []) (A9 trivial trivial) Tryz.func26 (by kernel_rfl) fun h => by kernel_rfl
def N2 (N : Nat) (f x1 : Int) : Option (Int × Int) := br (decide (f = 1)) (some (-2147483648, 2147483647)) (br (decide (f = 2)) (some (0, 15)) (br (decide (f = 3)) (some (-128, 127)) (br (decide (f = 4)) (some (0, 255)) (br (decide (f = 5)) (some (0, 4)) (br (decide (f = 10)) (some (0, 4)) (br (decide (f = 6)) (br (decide (x1 = 255)) (some (0, 1)) (some (0, 31))) (br (decide (f = 7)) (some (2, 4)) (br (decide (f = 8)) (some (0, 15)) (br (decide (f = 9)) (some (0, 255)) (br (decide (f = 11)) (some (0, 63)) (br (decide (f = 12)) (some (0, 15)) (br (decide (f = 13)) (some (0, 14)) (some (0, 0))))))))))))))
def c1H (N : Nat) : Ent := pE 92 (.v fI (.v fI .z)) (.v fI (.v fI .z)) (N2 N)
theorem c9t (N : Nat) : EO (c1H N) := pk0 (cx := cz [] []) (A9 trivial trivial) Tryz.func92 (by kernel_rfl) fun h => by kernel_rfl
def a0e (N : Nat) (f x1 x2 x3 : Int) : Option (Int × Int × Int) := some (x1, x2, x3)
def a3M (N : Nat) : Ent := pE 25 sh0 (.a (.v fI (.v fI (.v fI .z))) .z) (a0e N)
theorem a4U (N : Nat) : EO (a3M N) := pk0 (cx := cz [] []) (A9 trivial trivial) Tryz.func25 (by kernel_rfl) fun h => by kernel_rfl
def b4j {R : Type} (N : Nat) (j u d x O n6 n7 n8 n9 na : Int) (Lq : Int -> Option R) (K0 : Int -> Option R) (K1 : Option R) (i : Int) : Option R := br (decide (i < 3)) (br (decide (i = 0)) (br (decide (i = 0)) (br (decide (j = 0)) (br (!decide (n8 = 0)) (K0 4) (Lq (FK.wrap (i + 1)))) (s7 (N2 N j O) fun n0_1 u => br (decide (n8 < n0_1)) (br (decide (j = 5)) (br (!decide (n8 = 255)) (K0 2) (Lq (FK.wrap (i + 1)))) (K0 2)) (br (decide (u < n8)) (br (decide (j = 5)) (br (!decide (n8 = 255)) (K0 2) (Lq (FK.wrap (i + 1)))) (K0 2)) (Lq (FK.wrap (i + 1)))))) (br (decide (i = 1)) (br (decide (j = 0)) (br (!decide (n9 = 0)) (K0 4) (Lq (FK.wrap (i + 1)))) (s7 (N2 N j O) fun d n3_1 => br (decide (n9 < d)) (br (decide (j = 5)) (br (!decide (n9 = 255)) (K0 2) (Lq (FK.wrap (i + 1)))) (K0 2)) (br (decide (n3_1 < n9)) (br (decide (j = 5)) (br (!decide (n9 = 255)) (K0 2) (Lq (FK.wrap (i + 1)))) (K0 2)) (Lq (FK.wrap (i + 1)))))) (br (decide (i = 2)) (br (decide (j = 0)) (br (!decide (na = 0)) (K0 4) (Lq (FK.wrap (i + 1)))) (s7 (N2 N j O) fun x O => br (decide (na < x)) (br (decide (j = 5)) (br (!decide (na = 255)) (K0 2) (Lq (FK.wrap (i + 1)))) (K0 2)) (br (decide (O < na)) (br (decide (j = 5)) (br (!decide (na = 255)) (K0 2) (Lq (FK.wrap (i + 1)))) (K0 2)) (Lq (FK.wrap (i + 1)))))) none))) (br (decide (i = 1)) (br (decide (i = 0)) (br (decide (u = 0)) (br (!decide (n8 = 0)) (K0 4) (Lq (FK.wrap (i + 1)))) (s7 (N2 N u O) fun n6 n7 => br (decide (n8 < n6)) (br (decide (u = 5)) (br (!decide (n8 = 255)) (K0 2) (Lq (FK.wrap (i + 1)))) (K0 2)) (br (decide (n7 < n8)) (br (decide (u = 5)) (br (!decide (n8 = 255)) (K0 2) (Lq (FK.wrap (i + 1)))) (K0 2)) (Lq (FK.wrap (i + 1)))))) (br (decide (i = 1)) (br (decide (u = 0)) (br (!decide (n9 = 0)) (K0 4) (Lq (FK.wrap (i + 1)))) (s7 (N2 N u O) fun n8 n9_1 => br (decide (n9 < n8)) (br (decide (u = 5)) (br (!decide (n9 = 255)) (K0 2) (Lq (FK.wrap (i + 1)))) (K0 2)) (br (decide (n9_1 < n9)) (br (decide (u = 5)) (br (!decide (n9 = 255)) (K0 2) (Lq (FK.wrap (i + 1)))) (K0 2)) (Lq (FK.wrap (i + 1)))))) (br (decide (i = 2)) (br (decide (u = 0)) (br (!decide (na = 0)) (K0 4) (Lq (FK.wrap (i + 1)))) (s7 (N2 N u O) fun n10_1 nb => br (decide (na < n10_1)) (br (decide (u = 5)) (br (!decide (na = 255)) (K0 2) (Lq (FK.wrap (i + 1)))) (K0 2)) (br (decide (nb < na)) (br (decide (u = 5)) (br (!decide (na = 255)) (K0 2) (Lq (FK.wrap (i + 1)))) (K0 2)) (Lq (FK.wrap (i + 1)))))) none))) (br (decide (i = 2)) (br (decide (i = 0)) (br (decide (d = 0)) (br (!decide (n8 = 0)) (K0 4) (Lq (FK.wrap (i + 1)))) (s7 (N2 N d O) fun nc nd => br (decide (n8 < nc)) (br (decide (d = 5)) (br (!decide (n8 = 255)) (K0 2) (Lq (FK.wrap (i + 1)))) (K0 2)) (br (decide (nd < n8)) (br (decide (d = 5)) (br (!decide (n8 = 255)) (K0 2) (Lq (FK.wrap (i + 1)))) (K0 2)) (Lq (FK.wrap (i + 1)))))) (br (decide (i = 1)) (br (decide (d = 0)) (br (!decide (n9 = 0)) (K0 4) (Lq (FK.wrap (i + 1)))) (s7 (N2 N d O) fun Af nf => br (decide (n9 < Af)) (br (decide (d = 5)) (br (!decide (n9 = 255)) (K0 2) (Lq (FK.wrap (i + 1)))) (K0 2)) (br (decide (nf < n9)) (br (decide (d = 5)) (br (!decide (n9 = 255)) (K0 2) (Lq (FK.wrap (i + 1)))) (K0 2)) (Lq (FK.wrap (i + 1)))))) (br (decide (i = 2)) (br (decide (d = 0)) (br (!decide (na = 0)) (K0 4) (Lq (FK.wrap (i + 1)))) (s7 (N2 N d O) fun ng nh => br (decide (na < ng)) (br (decide (d = 5)) (br (!decide (na = 255)) (K0 2) (Lq (FK.wrap (i + 1)))) (K0 2)) (br (decide (nh < na)) (br (decide (d = 5)) (br (!decide (na = 255)) (K0 2) (Lq (FK.wrap (i + 1)))) (K0 2)) (Lq (FK.wrap (i + 1)))))) none))) none))) K1
def I3 {R : Type} (N : Nat) (j u d x O n6 n7 n8 n9 na : Int) : Nat -> Int -> (Int -> Option R) -> (Option R) -> Option R | 0, _, _, _ => none | t + 1, i, K0, K1 => b4j N j u d x O n6 n7 n8 n9 na (fun i => I3 N j u d x O n6 n7 n8 n9 na t i K0 K1) K0 K1 i
def a7a {R : Type} (N : Nat) (ds : List D) (m : Mem) (K : Ex -> List D -> Mem -> Option R) : Option R :=
 match ds, m with
 | [(.ptr 0 1 0), (.ptr 0 3 0), (.agg [(.v (.int .i64 j) .no), (.v (.int .i64 u) .no), (.v (.int .i64 d) .no)]), (.v (.int .i64 i) .no)], [[(1, ⟨54, [(.v (.int .i64 x) .no), (.v (.int .i64 O) .no), (.v (.int .i64 n6) .no), (.v (.int .i64 n7) .no)]⟩), (3, ⟨82, [(.v (.int .i64 n8) .no), (.v (.int .i64 n9) .no), (.v (.int .i64 na) .no)]⟩)]] => I3 N j u d x O n6 n7 n8 n9 na N i (fun a0 => K .ret [(.ptr 0 1 0), (.v (.int .i64 a0) .no), (.ptr 0 3 0)] (mm0 x O n6 n7 n8 n9 na)) (K (.exit 0) [(.ptr 0 1 0), .any, (.ptr 0 3 0)] (mm0 x O n6 n7 n8 n9 na))
 | _, _ => none
def O7 (N : Nat) (f x1 x2 x3 : Int) : Option (Int) := br (decide (f < 0)) (some 4) (br (decide (54 <= f)) (some 4) (T4 (a0e N f x1 x2 x3) fun j u d => T4 (V7 N f) fun i x O => I3 N i x O f x1 x2 x3 j u d N 0 (fun n6 => some n6) (some 0)))
def b6C (N : Nat) : Cx := cl [a3M N, a2J N, c1H N] [] [⟨5, [1, 3, 21, 22], [1, 2, 3], a7a N⟩]
theorem c1l (N : Nat) : p9 (b6C N) 58 (s4 Tryz.f44 0) := by
 refine j7 (rid := 5) (by kernel_rfl) rfl rfl fun R ds m K r h => ?_
 change a7a N ds m K = _ at h
 unfold a7a at h
 split at h
 . rename_i j u d i x O n6 n7 n8 n9 na
   exact ⟨N, Gs (lpI (fun (e : (Int -> Option R) × (Option R)) L (s : Int) => b4j N j u d x O n6 n7 n8 n9 na (fun i => L i) e.1 e.2 s) (fun e t s => I3 N j u d x O n6 n7 n8 n9 na t s e.1 e.2) (fun s => [(.ptr 0 1 0), (.ptr 0 3 0), (.agg [(.v (.int .i64 j) .no), (.v (.int .i64 u) .no), (.v (.int .i64 d) .no)]), (.v (.int .i64 s) .no)]) (fun s => mm0 x O n6 n7 n8 n9 na) (fun _ _ => rfl) (fun _ _ _ => rfl) (e := (_, _)) (fun L s => by kernel_rfl) N i) h⟩
 . cases h
def a5a (N : Nat) : Ent := pE 44 sh0 (.v fI .z) (O7 N)
theorem a6x (N : Nat) : EO (a5a N) := pk (cx := b6C N) (D4 ⟨a4U N, a3q N, c9t N, trivial⟩ trivial) Tryz.func44 (j6 (k := 1) (by kernel_rfl) ⟨trivial, c1l N⟩) (by kernel_rfl) fun h => by kernel_rfl
def O8 {R : Type} (N : Nat) (K0 : LB -> List V -> Int -> Int -> Int -> Int -> Int -> Int -> Int -> Int -> Int -> Option R) (w : LB) (Ab : List V) (d i x O n6 n8 n9 na nb nc nd Af : Int) : Option R := K0 w Ab d i n8 n9 na nb nc nd Af
def O6 {R : Type} (N : Nat) (K0 : LB -> List V -> Int -> Int -> Int -> Int -> Int -> Int -> Int -> Int -> Int -> Option R) (w : LB) (Ab : List V) (d i x O n6 n8 n9 na nb nc nd Af : Int) : Option R := br (decide (n6 = 0)) (O8 N K0 w Ab d i x O n6 n8 n9 na nb nc nd Af) (br (decide (n6 = 1)) (br (decide ((w.length + [FR (FY.wrap (G8 FK Af 24)).toNat, FR (FY.wrap (G8 FK Af 16)).toNat, FR (FY.wrap (G8 FK Af 8)).toNat, FR (FY.wrap Af).toNat].length) * 1 <= 140737488355328)) (O8 N K0 (w ++ [FR (FY.wrap (G8 FK Af 24)).toNat, FR (FY.wrap (G8 FK Af 16)).toNat, FR (FY.wrap (G8 FK Af 8)).toNat, FR (FY.wrap Af).toNat]) Ab d i x O n6 n8 n9 na nb nc nd Af) none) (br (decide ((w.length + [FR (FY.wrap Af).toNat].length) * 1 <= 140737488355328)) (O8 N K0 (w ++ [FR (FY.wrap Af).toNat]) Ab d i x O n6 n8 n9 na nb nc nd Af) none))
def P0 {R : Type} (N : Nat) (K0 : LB -> List V -> Int -> Int -> Int -> Int -> Int -> Int -> Int -> Int -> Int -> Option R) (w : LB) (Ab : List V) (d i x O n6 n8 n9 na nb nc nd Af : Int) : Option R := br (decide (O = 0)) (O6 N K0 w Ab d i x O n6 n8 n9 na nb nc nd Af) (br (decide (O = 1)) (br (decide ((w.length + [FR (FY.wrap (G8 FK nd 24)).toNat, FR (FY.wrap (G8 FK nd 16)).toNat, FR (FY.wrap (G8 FK nd 8)).toNat, FR (FY.wrap nd).toNat].length) * 1 <= 140737488355328)) (O6 N K0 (w ++ [FR (FY.wrap (G8 FK nd 24)).toNat, FR (FY.wrap (G8 FK nd 16)).toNat, FR (FY.wrap (G8 FK nd 8)).toNat, FR (FY.wrap nd).toNat]) Ab d i x O n6 n8 n9 na nb nc nd Af) none) (br (decide ((w.length + [FR (FY.wrap nd).toNat].length) * 1 <= 140737488355328)) (O6 N K0 (w ++ [FR (FY.wrap nd).toNat]) Ab d i x O n6 n8 n9 na nb nc nd Af) none))
def P1 {R : Type} (N : Nat) (K0 : LB -> List V -> Int -> Int -> Int -> Int -> Int -> Int -> Int -> Int -> Int -> Option R) (w : LB) (Ab : List V) (d i x O n6 n8 n9 na nb nc nd Af : Int) : Option R := br (decide (x = 0)) (P0 N K0 w Ab d i x O n6 n8 n9 na nb nc nd Af) (br (decide (x = 1)) (br (decide ((w.length + [FR (FY.wrap (G8 FK nc 24)).toNat, FR (FY.wrap (G8 FK nc 16)).toNat, FR (FY.wrap (G8 FK nc 8)).toNat, FR (FY.wrap nc).toNat].length) * 1 <= 140737488355328)) (P0 N K0 (w ++ [FR (FY.wrap (G8 FK nc 24)).toNat, FR (FY.wrap (G8 FK nc 16)).toNat, FR (FY.wrap (G8 FK nc 8)).toNat, FR (FY.wrap nc).toNat]) Ab d i x O n6 n8 n9 na nb nc nd Af) none) (br (decide ((w.length + [FR (FY.wrap nc).toNat].length) * 1 <= 140737488355328)) (P0 N K0 (w ++ [FR (FY.wrap nc).toNat]) Ab d i x O n6 n8 n9 na nb nc nd Af) none))
def a4c {R : Type} (N : Nat) (ds : List D) (m : Mem) (K : Ex -> List D -> Mem -> Option R) : Option R :=
 match ds, m with
 | [(.v (.bytes w) (.own (.slot 4) 5)), (.ptr 0 6 0), (.ptr 0 8 0), (.v (.sl 54 Ab) .no), (.v (.int .i64 d) .no), (.v (.int .i64 i) .no), (.agg [(.v (.int .i64 x) .no), (.v (.int .i64 O) .no), (.v (.int .i64 n6) .no)]), (.v (.int .i64 n7) .no)], [[(6, ⟨54, [(.v (.int .i64 n8) .no), (.v (.int .i64 n9) .no), (.v (.int .i64 na) .no), (.v (.int .i64 nb) .no)]⟩), (8, ⟨82, [(.v (.int .i64 nc) .no), (.v (.int .i64 nd) .no), (.v (.int .i64 Af) .no)]⟩)]] => cond ((decide (n7 = 0) && true)) (P1 N (fun a0 a1 a2 a3 a4 a5 a6 a7 a8 a9 AN => K (.exit 2) [(.v (.bytes a0) (.own (.slot 4) 5)), (.ptr 0 6 0), (.ptr 0 8 0), (.v (.sl 54 a1) .no), (.v (.int .i64 a2) .no), (.v (.int .i64 a3) .no)] [[(6, ⟨54, [(.v (.int .i64 a4) .no), (.v (.int .i64 a5) .no), (.v (.int .i64 a6) .no), (.v (.int .i64 a7) .no)]⟩), (8, ⟨82, [(.v (.int .i64 a8) .no), (.v (.int .i64 a9) .no), (.v (.int .i64 AN) .no)]⟩)]]) w Ab d i x O n6 n8 n9 na nb nc nd Af) none
 | _, _ => none
def a0q {R : Type} (N : Nat)  (Lq : LB -> List V -> Int -> Int -> Option R) (K0 : LB -> Int -> LB -> Option R) (K1 : LB -> Option R) (w : LB) (Ab : List V) (d i : Int) : Option R := br (decide (i < d)) (br (decide (0 <= i) && decide (i < (Ab.length : Int))) (at? Ab i.toNat fun f => f.unAgg fun l1 => e9 l1 fun x2 l3 => V.unInt FK x2 fun x => e9 l3 fun x5 l6 => V.unInt FK x5 fun n7 => e9 l6 fun x8 l9 => V.unInt FK x8 fun na => e9 l9 fun xb Ax => V.unInt FK xb fun nd => D2 Ax (j3 (O7 N x n7 na nd) fun Af => br (!decide (Af = 0)) (K0 [] Af w) (br (decide ((w.length + [FR (FY.wrap x).toNat].length) * 1 <= 140737488355328)) (T4 (a0e N x n7 na nd) fun nf ng nh => T4 (V7 N x) fun ni nj nk => P1 N (fun ll AP nn AD AE AK nr ns nt nu nv => Lq ll AP nn (FK.wrap (AD + 1))) (w ++ [FR (FY.wrap x).toNat]) Ab d i ni nj nk x n7 na nd nf ng nh) none))) none) (K1 w)
def P7 {R : Type} (N : Nat)  : Nat -> LB -> List V -> Int -> Int -> (LB -> Int -> LB -> Option R) -> (LB -> Option R) -> Option R | 0, _, _, _, _, _, _ => none | t + 1, w, Ab, d, i, K0, K1 => a0q N  (fun w Ab d i => P7 N  t w Ab d i K0 K1) K0 K1 w Ab d i
def a5L {R : Type} (N : Nat) (ds : List D) (m : Mem) (K : Ex -> List D -> Mem -> Option R) : Option R :=
 match ds, m with
 | [(.v (.bytes w) (.own (.slot 4) 5)), (.v (.sl 54 Ab) .no), (.v (.int .i64 d) .no), (.v (.int .i64 i) .no)], [[]] => P7 N  N w Ab d i (fun a0 a1 a2 => K .ret [(.v (.bytes a0) (.own (.slot 2) 5)), (.v (.int .i64 a1) .no), (.v (.bytes a2) (.own (.slot 4) 5))] [[]]) (fun a0 => K (.exit 0) [.any, .any, (.v (.bytes a0) (.own (.slot 4) 5))] [[]])
 | _, _ => none
def a2y (N : Nat) (f : List V) : Option (LB × Int) := br (decide (256 < (f.length : Int))) (some ([], 3)) (P7 N N [] f (f.length : Int) 0 (fun w u l2 => some (w, u)) fun l3 => some (l3, 0))
def X8 (N : Nat) : Cx := cl [a5a N, a3M N, a2J N] [] [⟨5, [4, 14, 15, 16], [2, 3, 4], a5L N⟩, ⟨13, [4, 6, 8, 14, 15, 16, 35, 36], [4, 6, 8, 14, 15, 16], a4c N⟩]
theorem b1s {R : Type} (N : Nat) (w : LB) (Ab : List V) (d i x O n6 n8 n9 na nb nc nd Af : Int) (K : Ex -> List D -> Mem -> Option R) : O9 (fun st K => codeK (X8 N) (s4 Tryz.f22 1) st K) 77 [4, 6, 8, 14, 15, 16, 35, 36] [4, 6, 8, 14, 15, 16] 4 [(.v (.bytes w) (.own (.slot 4) 5)), (.ptr 0 6 0), (.ptr 0 8 0), (.v (.sl 54 Ab) .no), (.v (.int .i64 d) .no), (.v (.int .i64 i) .no), (.agg [(.v (.int .i64 x) .no), (.v (.int .i64 O) .no), (.v (.int .i64 n6) .no)]), (.v (.int .i64 0) .no)] [[(6, ⟨54, [(.v (.int .i64 n8) .no), (.v (.int .i64 n9) .no), (.v (.int .i64 na) .no), (.v (.int .i64 nb) .no)]⟩), (8, ⟨82, [(.v (.int .i64 nc) .no), (.v (.int .i64 nd) .no), (.v (.int .i64 Af) .no)]⟩)]] K = P1 N (fun a0 a1 a2 a3 a4 a5 a6 a7 a8 a9 AN => K (.exit 2) [(.v (.bytes a0) (.own (.slot 4) 5)), (.ptr 0 6 0), (.ptr 0 8 0), (.v (.sl 54 a1) .no), (.v (.int .i64 a2) .no), (.v (.int .i64 a3) .no)] [[(6, ⟨54, [(.v (.int .i64 a4) .no), (.v (.int .i64 a5) .no), (.v (.int .i64 a6) .no), (.v (.int .i64 a7) .no)]⟩), (8, ⟨82, [(.v (.int .i64 a8) .no), (.v (.int .i64 a9) .no), (.v (.int .i64 AN) .no)]⟩)]]) w Ab d i x O n6 n8 n9 na nb nc nd Af := by
 kernel_rfl
theorem b3n {R : Type} (N : Nat)  (w : LB) (Ab : List V) (d i : Int) (L : List D -> Mem -> Option R) (K : Ex -> List D -> Mem -> Option R) :
 W3 (fun st K => codeK (X8 N) (s4 Tryz.f22 0) st K) 77 [4, 14, 15, 16] [2, 3, 4] L [(.v (.bytes w) (.own (.slot 4) 5)), (.v (.sl 54 Ab) .no), (dI d), (dI i)] [[]] K = a0q N  (fun w Ab d i => L [(.v (.bytes w) (.own (.slot 4) 5)), (.v (.sl 54 Ab) .no), (dI d), (dI i)] [[]]) (fun a0 a1 a2 => K .ret [(.v (.bytes a0) (.own (.slot 2) 5)), (dI a1), (.v (.bytes a2) (.own (.slot 4) 5))] [[]]) (fun a0 => K (.exit 0) [.any, .any, (.v (.bytes a0) (.own (.slot 4) 5))] [[]]) w Ab d i := by
 kernel_rfl
theorem a5P {R : Type} (N : Nat)  (K : Ex -> List D -> Mem -> Option R) : ∀ (t : Nat) (w : LB) (Ab : List V) (d i : Int),
 O9 (fun st K => codeK (X8 N) (s4 Tryz.f22 0) st K) 77 [4, 14, 15, 16] [2, 3, 4] t [(.v (.bytes w) (.own (.slot 4) 5)), (.v (.sl 54 Ab) .no), (dI d), (dI i)] [[]] K = P7 N  t w Ab d i (fun a0 a1 a2 => K .ret [(.v (.bytes a0) (.own (.slot 2) 5)), (dI a1), (.v (.bytes a2) (.own (.slot 4) 5))] [[]]) (fun a0 => K (.exit 0) [.any, .any, (.v (.bytes a0) (.own (.slot 4) 5))] [[]])
 | 0, w, Ab, d, i => rfl
 | t + 1, w, Ab, d, i => (b3n N  w Ab d i _ K).trans (congrArg (fun L => a0q N  L (fun a0 a1 a2 => K .ret [(.v (.bytes a0) (.own (.slot 2) 5)), (dI a1), (.v (.bytes a2) (.own (.slot 4) 5))] [[]]) (fun a0 => K (.exit 0) [.any, .any, (.v (.bytes a0) (.own (.slot 4) 5))] [[]]) w Ab d i) (funext fun w => funext fun Ab => funext fun d => funext fun i => a5P N  K t w Ab d i))
theorem b9x (N : Nat) : p9 (X8 N) 77 (s4 Tryz.f22 0) := by
 refine j7 (rid := 5) (by kernel_rfl) rfl rfl fun R ds m K r h => ?_
 have h : a5L N ds m K = some r := h
 unfold a5L at h
 split at h
 . exact ⟨N, Gs (a5P ..) h⟩
 . cases h
theorem b5K (N : Nat) : p9 (X8 N) 77 (s4 Tryz.f22 1) := by
 refine j7 (rid := 13) (by kernel_rfl) rfl rfl fun R ds m K r h => ?_
 have h : a4c N ds m K = some r := h
 unfold a4c at h
 split at h
 . rcases j8 h with ⟨hc, hq⟩ | ⟨_, hq⟩
   . simp only [Bool.and_eq_true, decide_eq_true_eq] at hc
     obtain ⟨rfl, _⟩ := hc
     refine ⟨4, ?_⟩
     show O9 _ _ [4, 6, 8, 14, 15, 16, 35, 36] [4, 6, 8, 14, 15, 16] _ _ _ _ = _
     rw [b1s]
     exact hq
   . cases hq
 . cases h
def b0j (N : Nat) : Ent := pE 22 (.v (.l 54) .z) (.v .y (.v fI .z)) (a2y N)
theorem b4L (N : Nat) : EO (b0j N) := pk (cx := X8 N) (D4 ⟨a6x N, a4U N, a3q N, trivial⟩ trivial) Tryz.func22 (j6 (k := 2) (by kernel_rfl) ⟨⟨trivial, b9x N⟩, b5K N⟩) (by kernel_rfl) fun h => by kernel_rfl
def Y8 (N : Nat) (f : Int) (x1 : LB) : Option (Int × Int) := br (decide (f = 1)) (br (decide (4 <= (x1.length : Int))) (br (decide (0 < (x1.length : Int))) (at? x1 0 fun u0 => br (decide (1 < (x1.length : Int))) (at? x1 1 fun u1 => br (decide (2 < (x1.length : Int))) (at? x1 2 fun u2 => br (decide (3 < (x1.length : Int))) (at? x1 3 fun u3 => some (FK.wrap (IntKind.i32.wrap (j9 BinOp.or FL (j9 BinOp.or FL (j9 BinOp.or FL (a0u FL (FL.wrap (u0.toNat : Int)) 24) (a0u FL (FL.wrap (u1.toNat : Int)) 16)) (a0u FL (FL.wrap (u2.toNat : Int)) 8)) (FL.wrap (u3.toNat : Int)))), 4)) none) none) none) none) (br (decide (f = 1)) (some (0, 0)) (br (decide ((x1.length : Int) = 0)) (some (0, 0)) (br (decide (f = 3)) (br (decide (0 < (x1.length : Int))) (at? x1 0 fun u4 => some (FK.wrap (KO.wrap (u4.toNat : Int)), 1)) none) (br (decide (0 < (x1.length : Int))) (at? x1 0 fun u5 => some (FK.wrap (u5.toNat : Int), 1)) none))))) (br (decide (f = 1)) (some (0, 0)) (br (decide ((x1.length : Int) = 0)) (some (0, 0)) (br (decide (f = 3)) (br (decide (0 < (x1.length : Int))) (at? x1 0 fun u6 => some (FK.wrap (KO.wrap (u6.toNat : Int)), 1)) none) (br (decide (0 < (x1.length : Int))) (at? x1 0 fun u7 => some (FK.wrap (u7.toNat : Int), 1)) none))))
def b6w (N : Nat) : Ent := pE 196 (.v fI (.v .y .z)) (.v fI (.v fI .z)) (Y8 N)
theorem c5w (N : Nat) : EO (b6w N) := pk0 (cx := cz [] []) (A9 trivial trivial) Tryz.func196 (by kernel_rfl) fun h => by kernel_rfl
def a4t {R : Type} (N : Nat) (u d i x n6 n7 n8 n9 : Int) (Lq : LB -> Int -> Int -> Int -> Int -> Option R) (K0 : LB -> LB -> Int -> Int -> Int -> Int -> Int -> Int -> Int -> Int -> Option R) (K1 : LB -> Int -> Int -> Int -> Option R) (w : LB) (O na nb nc : Int) : Option R := br (decide (O < 3)) (br (decide (O = 0)) (br (decide (d = 0)) (Lq w (FK.wrap (O + 1)) na nb nc) (s7 (Y8 N d w) fun j u => br (decide (u = 0)) (K0 w [] 5 0 0 0 0 na nb nc) (br (decide (0 <= u) && decide (u <= (w.length : Int))) (br (decide (O = 0)) (Lq (Gj u.toNat w) (FK.wrap (O + 1)) j nb nc) (br (decide (O = 1)) (Lq (Gj u.toNat w) (FK.wrap (O + 1)) na j nc) (br (decide (O = 2)) (Lq (Gj u.toNat w) (FK.wrap (O + 1)) na nb j) none))) none))) (br (decide (O = 1)) (br (decide (i = 0)) (Lq w (FK.wrap (O + 1)) na nb nc) (s7 (Y8 N i w) fun d i => br (decide (i = 0)) (K0 w [] 5 0 0 0 0 na nb nc) (br (decide (0 <= i) && decide (i <= (w.length : Int))) (br (decide (O = 0)) (Lq (Gj i.toNat w) (FK.wrap (O + 1)) d nb nc) (br (decide (O = 1)) (Lq (Gj i.toNat w) (FK.wrap (O + 1)) na d nc) (br (decide (O = 2)) (Lq (Gj i.toNat w) (FK.wrap (O + 1)) na nb d) none))) none))) (br (decide (O = 2)) (br (decide (x = 0)) (Lq w (FK.wrap (O + 1)) na nb nc) (s7 (Y8 N x w) fun x n5_1 => br (decide (n5_1 = 0)) (K0 w [] 5 0 0 0 0 na nb nc) (br (decide (0 <= n5_1) && decide (n5_1 <= (w.length : Int))) (br (decide (O = 0)) (Lq (Gj n5_1.toNat w) (FK.wrap (O + 1)) x nb nc) (br (decide (O = 1)) (Lq (Gj n5_1.toNat w) (FK.wrap (O + 1)) na x nc) (br (decide (O = 2)) (Lq (Gj n5_1.toNat w) (FK.wrap (O + 1)) na nb x) none))) none))) none))) (K1 w na nb nc)
def D0 {R : Type} (N : Nat) (u d i x n6 n7 n8 n9 : Int) : Nat -> LB -> Int -> Int -> Int -> Int -> (LB -> LB -> Int -> Int -> Int -> Int -> Int -> Int -> Int -> Int -> Option R) -> (LB -> Int -> Int -> Int -> Option R) -> Option R | 0, _, _, _, _, _, _, _ => none | t + 1, w, O, na, nb, nc, K0, K1 => a4t N u d i x n6 n7 n8 n9 (fun w O na nb nc => D0 N u d i x n6 n7 n8 n9 t w O na nb nc K0 K1) K0 K1 w O na nb nc
def a0C {R : Type} (N : Nat) (ds : List D) (m : Mem) (K : Ex -> List D -> Mem -> Option R) : Option R :=
 match ds, m with
 | [(.v (.bytes w) .no), (.ptr 0 2 0), (.v (.int .i64 u) .no), (.ptr 0 6 0), .any, (.agg [(.v (.int .i64 d) .no), (.v (.int .i64 i) .no), (.v (.int .i64 x) .no)]), (.v (.int .i64 O) .no)], [[(2, ⟨54, [(.v (.int .i64 n6) .no), (.v (.int .i64 n7) .no), (.v (.int .i64 n8) .no), (.v (.int .i64 n9) .no)]⟩), (6, ⟨82, [(.v (.int .i64 na) .no), (.v (.int .i64 nb) .no), (.v (.int .i64 nc) .no)]⟩)]] => D0 N u d i x n6 n7 n8 n9 N w O na nb nc (fun a0 a1 a2 a4 a5 a6 a7 a8 a9 AN => K .ret [(.v (.bytes a0) .no), (.ptr 0 2 0), (.v (.bytes a1) (.own (.slot 3) 5)), (.v (.int .i64 a2) .no), (.v (.int .i64 u) .no), (.ptr 0 6 0), .any] (mm1 a4 a5 a6 a7 a8 a9 AN)) (fun a0 a6 a7 a8 => K (.exit 0) [(.v (.bytes a0) .no), (.ptr 0 2 0), .any, .any, (.v (.int .i64 u) .no), (.ptr 0 6 0), .any] (mm1 n6 n7 n8 n9 a6 a7 a8))
 | _, _ => none
def a0i (N : Nat) (f : LB) : Option (Int × Int × Int × Int × LB × Int) := br (decide (0 < (f.length : Int))) (at? f 0 fun u0 => br (decide (54 <= FK.wrap (u0.toNat : Int))) (some (0, 0, 0, 0, [], 4)) (br (decide (1 <= (f.length : Int))) (T4 (V7 N (FK.wrap (u0.toNat : Int))) fun u d i => D0 N (FK.wrap (u0.toNat : Int)) u d i 0 0 0 0 N (Gj 1 f) 0 0 0 0 (fun l4 l5 n6 n7 n8 n9 na nb nc nd => some (n7, n8, n9, na, l5, n6)) fun AL nf ng nh => j3 (O7 N (FK.wrap (u0.toNat : Int)) nf ng nh) fun ni => some (FK.wrap (u0.toNat : Int), nf, ng, nh, AL, ni)) none)) none
def a5G (N : Nat) : Cx := cl [a2J N, b6w N, a5a N] [] [⟨7, [0, 2, 5, 6, 11, 22, 23], [0, 2, 3, 4, 5, 6, 11], a0C N⟩]
theorem b0z (N : Nat) : p9 (a5G N) 57 (s4 Tryz.f176 0) := by
 refine j7 (rid := 7) (by kernel_rfl) rfl rfl fun R ds m K r h => ?_
 change a0C N ds m K = _ at h
 unfold a0C at h
 split at h
 . rename_i w u d i x O n6 n7 n8 n9 na nb nc
   exact ⟨N, Gs (lpI (fun (e : (LB -> LB -> Int -> Int -> Int -> Int -> Int -> Int -> Int -> Int -> Option R) × (LB -> Int -> Int -> Int -> Option R)) L (s : LB × Int × Int × Int × Int) => a4t N u d i x n6 n7 n8 n9 (fun w O na nb nc => L (w, O, na, nb, nc)) e.1 e.2 s.1 s.2.1 s.2.2.1 s.2.2.2.1 s.2.2.2.2) (fun e t s => D0 N u d i x n6 n7 n8 n9 t s.1 s.2.1 s.2.2.1 s.2.2.2.1 s.2.2.2.2 e.1 e.2) (fun s => [(.v (.bytes s.1) .no), (.ptr 0 2 0), (.v (.int .i64 u) .no), (.ptr 0 6 0), .any, (.agg [(.v (.int .i64 d) .no), (.v (.int .i64 i) .no), (.v (.int .i64 x) .no)]), (.v (.int .i64 s.2.1) .no)]) (fun s => mm1 n6 n7 n8 n9 s.2.2.1 s.2.2.2.1 s.2.2.2.2) (fun _ _ => rfl) (fun _ _ _ => rfl) (e := (_, _)) (fun L s => by kernel_rfl) N (w, O, na, nb, nc)) h⟩
 . cases h
def a6M (N : Nat) : Ent := pE 176 (.v .y .z) sh1 (a0i N)
theorem b3s (N : Nat) : EO (a6M N) := pk (cx := a5G N) (D4 ⟨a3q N, c5w N, a6x N, trivial⟩ trivial) Tryz.func176 (j6 (k := 1) (by kernel_rfl) ⟨trivial, b0z N⟩) (by kernel_rfl) fun h => by kernel_rfl
def a1N {R : Type} (N : Nat)  (Lq : LB -> List V -> Option R) (K0 : List V -> Int -> List V -> Option R) (K1 : List V -> Option R) (w : LB) (Ab : List V) : Option R := br (decide (0 < (w.length : Int))) (br (decide ((Ab.length : Int) = 256)) (K0 [] 3 Ab) (e3d (a0i N w) fun j u d i l4 O => br (!decide (O = 0)) (K0 [] O Ab) (br (decide ((Ab.length + [V.agg [V.int FK j, V.int FK u, V.int FK d, V.int FK i]].length) * 32 <= 140737488355328)) (Lq l4 (Ab ++ [V.agg [V.int FK j, V.int FK u, V.int FK d, V.int FK i]])) none))) (K1 Ab)
def Q5 {R : Type} (N : Nat)  : Nat -> LB -> List V -> (List V -> Int -> List V -> Option R) -> (List V -> Option R) -> Option R | 0, _, _, _, _ => none | t + 1, w, Ab, K0, K1 => a1N N  (fun w Ab => Q5 N  t w Ab K0 K1) K0 K1 w Ab
def a4A {R : Type} (N : Nat) (ds : List D) (m : Mem) (K : Ex -> List D -> Mem -> Option R) : Option R :=
 match ds, m with
 | [(.v (.bytes w) .no), (.v (.sl 54 Ab) (.own (.slot 4) 54))], [[]] => Q5 N  N w Ab (fun a0 a1 a2 => K .ret [(.v (.sl 54 a0) (.own (.slot 2) 54)), (.v (.int .i64 a1) .no), (.v (.sl 54 a2) (.own (.slot 4) 54))] [[]]) (fun a0 => K (.exit 0) [.any, .any, (.v (.sl 54 a0) (.own (.slot 4) 54))] [[]])
 | _, _ => none
def b0f (N : Nat) (f : LB) : Option (List V × Int) := Q5 N N f [] (fun w u l2 => some (w, u)) fun l3 => some (l3, 0)
def b3k (N : Nat) : Cx := cl [a6M N] [] [⟨2, [0, 4], [2, 3, 4], a4A N⟩]
theorem b8t (N : Nat) : p9 (b3k N) 29 (s4 Tryz.f136 0) := by
 refine j7 (rid := 2) (by kernel_rfl) rfl rfl fun R ds m K r h => ?_
 change a4A N ds m K = _ at h
 unfold a4A at h
 split at h
 . rename_i w Ab
   exact ⟨N, Gs (lpI (fun (e : (List V -> Int -> List V -> Option R) × (List V -> Option R)) L (s : LB × List V) => a1N N (fun w Ab => L (w, Ab)) e.1 e.2 s.1 s.2) (fun e t s => Q5 N t s.1 s.2 e.1 e.2) (fun s => [(.v (.bytes s.1) .no), (.v (.sl 54 s.2) (.own (.slot 4) 54))]) (fun s => [[]]) (fun _ _ => rfl) (fun _ _ _ => rfl) (e := (_, _)) (fun L s => by kernel_rfl) N (w, Ab)) h⟩
 . cases h
def b5Z (N : Nat) : Ent := pE 136 (.v .y .z) (.v (.l 54) (.v fI .z)) (b0f N)
theorem c5X (N : Nat) : EO (b5Z N) := pk (cx := b3k N) (D4 ⟨b3s N, trivial⟩ trivial) Tryz.func136 (j6 (k := 1) (by kernel_rfl) ⟨trivial, b8t N⟩) (by kernel_rfl) fun h => by kernel_rfl
def a8E (N : Nat)  : Option (List V) := j3 (a4I N ([110, 111, 112, 32, 112, 117, 115, 104, 32, 110, 117, 108, 108, 32, 108, 111, 97, 100, 32, 115, 116, 111, 114, 101, 32, 105, 110, 99, 32, 112, 111, 112, 32, 100, 117, 112, 32, 115, 119, 97, 112, 32, 97, 100, 100, 32, 115, 117, 98, 32, 109, 117, 108, 32, 100, 105, 118, 32, 114, 101, 109, 32, 110, 101, 103, 32, 97, 110, 100, 32, 111, 114, 32, 120, 111, 114, 32, 115, 104, 108, 32, 115, 104, 114, 32, 117, 115, 104, 114, 32, 103, 111, 116, 111, 32, 105, 102, 122, 101, 114, 111, 32, 105, 102, 110, 111, 116, 32, 105, 102, 110, 101, 103, 32, 105, 102, 101, 113, 32, 105, 102, 110, 101, 32, 105, 102, 108, 116, 32, 105, 102, 103, 101, 32, 105, 102, 110, 117, 108, 108, 32, 105, 102, 115, 111, 109, 101, 32, 105, 102, 115, 97, 109, 101, 32, 105, 102, 111, 116, 104, 101, 114, 32, 110, 101, 119, 32, 97, 114, 114, 97, 121, 32, 108, 101, 110, 103, 116, 104, 32, 103, 101, 116, 98, 121, 116, 101, 32, 112, 117, 116, 98, 121, 116, 101, 32, 103, 101, 116, 105, 110, 116, 32, 112, 117, 116, 105, 110, 116, 32, 103, 101, 116, 114, 101, 102, 32, 112, 117, 116, 114, 101, 102, 32, 103, 101, 116, 102, 105, 101, 108, 100, 32, 112, 117, 116, 102, 105, 101, 108, 100, 32, 103, 101, 116, 115, 116, 97, 116, 105, 99, 32, 112, 117, 116, 115, 116, 97, 116, 105, 99, 32, 99, 97, 108, 108, 32, 118, 105, 114, 116, 117, 97, 108, 32, 105, 110, 118, 111, 107, 101, 32, 114, 101, 116, 117, 114, 110, 32, 116, 104, 114, 111, 119, 32, 99, 97, 115, 116, 32, 105, 115, 32, 110, 97, 116, 105, 118, 101] : LB)) fun w => some w
def b9q (N : Nat) : Ent := pE 23 .z (.v (.l 9) .z) (a8E N)
theorem c3h (N : Nat) : EO (b9q N) := pk0 (cx := cz [c3l N] []) (A9 ⟨d1c N, trivial⟩ trivial) Tryz.func23 (by kernel_rfl) fun h => by kernel_rfl
def a8J (N : Nat)  : Option (List V) := some [V.str ([98, 121, 116, 101, 115] : LB), V.str ([105, 110, 116, 115] : LB), V.str ([114, 101, 102, 115] : LB)]
def b7I (N : Nat) : Ent := pE 47 .z (.v (.l 9) .z) (a8J N)
theorem c1T (N : Nat) : EO (b7I N) := pk0 (cx := cz [] []) (A9 trivial trivial) Tryz.func47 (by kernel_rfl) fun h => by kernel_rfl
def G3 (N : Nat) (f : Int) : Option (Bool) := br (decide (f = 6)) (some true) (some (decide (f = 11)))
def b3Q (N : Nat) : Ent := pE 27 (.v fI .z) (.v .b .z) (G3 N)
theorem b7z (N : Nat) : EO (b3Q N) := pk0 (cx := cz [] []) (A9 trivial trivial) Tryz.func27 (by kernel_rfl) fun h => by kernel_rfl
def K3 (N : Nat) (f x1 : Int) : Option (LB) := br (decide (f = 5)) (br (decide (x1 = 255)) (some ([115, 121, 115, 116, 101, 109] : LB)) (br (decide (f = 7)) (j3 (a8J N) fun w => br (decide (0 <= FK.wrap (x1 - 2)) && decide (FK.wrap (x1 - 2) < (w.length : Int))) (at? w (FK.wrap (x1 - 2)).toNat fun x1 => x1.unStr fun l2 => some l2) none) (j3 (b3J N x1) fun l3 => some l3))) (br (decide (f = 7)) (j3 (a8J N) fun l4 => br (decide (0 <= FK.wrap (x1 - 2)) && decide (FK.wrap (x1 - 2) < (l4.length : Int))) (at? l4 (FK.wrap (x1 - 2)).toNat fun x5 => x5.unStr fun l6 => some l6) none) (j3 (b3J N x1) fun l7 => some l7))
def d6S (N : Nat) : Ent := pE 28 (.v fI (.v fI .z)) (.v .s .z) (K3 N)
theorem d8k (N : Nat) : EO (d6S N) := pk0 (cx := cz [b7I N, d5m N] []) (A9 ⟨c1T N, d9G N, trivial⟩ trivial) Tryz.func28 (by kernel_rfl) fun h => by kernel_rfl
def b5h {R : Type} (N : Nat) (Aa Ab : List V) (d i x O n6 n9 na nb nc nd Af nf : Int) (Lq : Int -> LB -> Option R) (K0 : LB -> Option R) (n7 : Int) (l8 : LB) : Option R := br (decide (n7 < 3)) (br (decide (n7 = 0)) (br (decide (x = 0)) (Lq (FK.wrap (n7 + 1)) l8) (j3 (G3 N x) fun b0 => br b0 (br (decide (n7 = 0)) (j3 (K3 N x nd) fun l1 => br (decide (1 + l1.length <= 9223372036854775807)) (s7 (p6 N (([46] : LB) ++ l1) l8) fun d l3 => Lq (FK.wrap (n7 + 1)) l3) none) (br (decide (n7 = 1)) (j3 (K3 N x Af) fun l4 => br (decide (1 + l4.length <= 9223372036854775807)) (s7 (p6 N (([46] : LB) ++ l4) l8) fun O l6 => Lq (FK.wrap (n7 + 1)) l6) none) (br (decide (n7 = 2)) (j3 (K3 N x nf) fun l7 => br (decide (1 + l7.length <= 9223372036854775807)) (s7 (p6 N (([46] : LB) ++ l7) l8) fun n8 l9 => Lq (FK.wrap (n7 + 1)) l9) none) none))) (br (decide (n7 = 0)) (j3 (K3 N x nd) fun la => br (decide (1 + la.length <= 9223372036854775807)) (s7 (p6 N (([32] : LB) ++ la) l8) fun nb Ax => Lq (FK.wrap (n7 + 1)) Ax) none) (br (decide (n7 = 1)) (j3 (K3 N x Af) fun ld => br (decide (1 + ld.length <= 9223372036854775807)) (s7 (p6 N (([32] : LB) ++ ld) l8) fun Af AC => Lq (FK.wrap (n7 + 1)) AC) none) (br (decide (n7 = 2)) (j3 (K3 N x nf) fun lg => br (decide (1 + lg.length <= 9223372036854775807)) (s7 (p6 N (([32] : LB) ++ lg) l8) fun nh AO => Lq (FK.wrap (n7 + 1)) AO) none) none))))) (br (decide (n7 = 1)) (br (decide (O = 0)) (Lq (FK.wrap (n7 + 1)) l8) (j3 (G3 N O) fun bj => br bj (br (decide (n7 = 0)) (j3 (K3 N O nd) fun lk => br (decide (1 + lk.length <= 9223372036854775807)) (s7 (p6 N (([46] : LB) ++ lk) l8) fun Aw AP => Lq (FK.wrap (n7 + 1)) AP) none) (br (decide (n7 = 1)) (j3 (K3 N O Af) fun ln => br (decide (1 + ln.length <= 9223372036854775807)) (s7 (p6 N (([46] : LB) ++ ln) l8) fun AD AX => Lq (FK.wrap (n7 + 1)) AX) none) (br (decide (n7 = 2)) (j3 (K3 N O nf) fun AS => br (decide (1 + AS.length <= 9223372036854775807)) (s7 (p6 N (([46] : LB) ++ AS) l8) fun nr Ba => Lq (FK.wrap (n7 + 1)) Ba) none) none))) (br (decide (n7 = 0)) (j3 (K3 N O nd) fun Bk => br (decide (1 + Bk.length <= 9223372036854775807)) (s7 (p6 N (([32] : LB) ++ Bk) l8) fun nu AT => Lq (FK.wrap (n7 + 1)) AT) none) (br (decide (n7 = 1)) (j3 (K3 N O Af) fun Bl => br (decide (1 + Bl.length <= 9223372036854775807)) (s7 (p6 N (([32] : LB) ++ Bl) l8) fun BO ly => Lq (FK.wrap (n7 + 1)) ly) none) (br (decide (n7 = 2)) (j3 (K3 N O nf) fun Bm => br (decide (1 + Bm.length <= 9223372036854775807)) (s7 (p6 N (([32] : LB) ++ Bm) l8) fun EX BA => Lq (FK.wrap (n7 + 1)) BA) none) none))))) (br (decide (n7 = 2)) (br (decide (n6 = 0)) (Lq (FK.wrap (n7 + 1)) l8) (j3 (G3 N n6) fun CO => br CO (br (decide (n7 = 0)) (j3 (K3 N n6 nd) fun AY => br (decide (1 + AY.length <= 9223372036854775807)) (s7 (p6 N (([46] : LB) ++ AY) l8) fun CP Bh => Lq (FK.wrap (n7 + 1)) Bh) none) (br (decide (n7 = 1)) (j3 (K3 N n6 Af) fun AZ => br (decide (1 + AZ.length <= 9223372036854775807)) (s7 (p6 N (([46] : LB) ++ AZ) l8) fun EY Bn => Lq (FK.wrap (n7 + 1)) Bn) none) (br (decide (n7 = 2)) (j3 (K3 N n6 nf) fun AU => br (decide (1 + AU.length <= 9223372036854775807)) (s7 (p6 N (([46] : LB) ++ AU) l8) fun CE BV => Lq (FK.wrap (n7 + 1)) BV) none) none))) (br (decide (n7 = 0)) (j3 (K3 N n6 nd) fun Bi => br (decide (1 + Bi.length <= 9223372036854775807)) (s7 (p6 N (([32] : LB) ++ Bi) l8) fun EZ BW => Lq (FK.wrap (n7 + 1)) BW) none) (br (decide (n7 = 1)) (j3 (K3 N n6 Af) fun Bb => br (decide (1 + Bb.length <= 9223372036854775807)) (s7 (p6 N (([32] : LB) ++ Bb) l8) fun CQ BF => Lq (FK.wrap (n7 + 1)) BF) none) (br (decide (n7 = 2)) (j3 (K3 N n6 nf) fun BB => br (decide (1 + BB.length <= 9223372036854775807)) (s7 (p6 N (([32] : LB) ++ BB) l8) fun CR Bj => Lq (FK.wrap (n7 + 1)) Bj) none) none))))) none))) (K0 l8)
def I6 {R : Type} (N : Nat) (Aa Ab : List V) (d i x O n6 n9 na nb nc nd Af nf : Int) : Nat -> Int -> LB -> (LB -> Option R) -> Option R | 0, _, _, _ => none | t + 1, n7, l8, K0 => b5h N Aa Ab d i x O n6 n9 na nb nc nd Af nf (fun n7 l8 => I6 N Aa Ab d i x O n6 n9 na nb nc nd Af nf t n7 l8 K0) K0 n7 l8
def a7x {R : Type} (N : Nat) (ds : List D) (m : Mem) (K : Ex -> List D -> Mem -> Option R) : Option R :=
 match ds, m with
 | [(.ptr 0 5 0), (.v (.sl 9 Aa) .no), (.ptr 0 8 0), (.ptr 0 9 0), (.v (.sl 54 Ab) .no), (.v (.int .i64 d) .no), (.v (.int .i64 i) .no), (.agg [(.v (.int .i64 x) .no), (.v (.int .i64 O) .no), (.v (.int .i64 n6) .no)]), (.v (.int .i64 n7) .no)], [[(5, ⟨75, [.bld, (.v (.bytes l8) (.own (.slot 0) 5))]⟩), (8, ⟨54, [(.v (.int .i64 n9) .no), (.v (.int .i64 na) .no), (.v (.int .i64 nb) .no), (.v (.int .i64 nc) .no)]⟩), (9, ⟨82, [(.v (.int .i64 nd) .no), (.v (.int .i64 Af) .no), (.v (.int .i64 nf) .no)]⟩)]] => I6 N Aa Ab d i x O n6 n9 na nb nc nd Af nf N n7 l8 (fun a4 => K (.exit 2) [(.ptr 0 5 0), (.v (.sl 9 Aa) .no), (.ptr 0 8 0), (.ptr 0 9 0), (.v (.sl 54 Ab) .no), (.v (.int .i64 d) .no), (.v (.int .i64 i) .no)] (mm2 a4 n9 na nb nc nd Af nf))
 | _, _ => none
def a6w {R : Type} (N : Nat) (Aa Ab : List V) (d : Int) (Lq : Int -> LB -> Option R) (K0 : LB -> Option R) (i : Int) (l4 : LB) : Option R := br (decide (i < d)) (br (decide (0 <= i) && decide (i < (Ab.length : Int))) (at? Ab i.toNat fun f => f.unAgg fun l1 => e9 l1 fun x2 l3 => V.unInt FK x2 fun x => e9 l3 fun x5 l6 => V.unInt FK x5 fun n7 => e9 l6 fun x8 l9 => V.unInt FK x8 fun na => e9 l9 fun xb Ax => V.unInt FK xb fun nd => D2 Ax (br (decide (0 <= x) && decide (x < (Aa.length : Int))) (at? Aa x.toNat fun xe => xe.unStr fun AC => s7 (p6 N AC l4) fun ng lh => T4 (a0e N x n7 na nd) fun ni nj nk => T4 (V7 N x) fun Aw AB nn => I6 N Aa Ab d i Aw AB nn x n7 na nd ni nj nk N 0 lh fun Bc => s7 (p6 N ([10] : LB) Bc) fun AE AS => Lq (FK.wrap (i + 1)) AS) none)) none) (K0 l4)
def a0a {R : Type} (N : Nat) (Aa Ab : List V) (d : Int) : Nat -> Int -> LB -> (LB -> Option R) -> Option R | 0, _, _, _ => none | t + 1, i, l4, K0 => a6w N Aa Ab d (fun i l4 => a0a N Aa Ab d t i l4 K0) K0 i l4
def b0y {R : Type} (N : Nat) (ds : List D) (m : Mem) (K : Ex -> List D -> Mem -> Option R) : Option R :=
 match ds, m with
 | [(.ptr 0 5 0), (.v (.sl 9 Aa) .no), (.v (.sl 54 Ab) .no), (.v (.int .i64 d) .no), (.v (.int .i64 i) .no)], [[(5, ⟨75, [.bld, (.v (.bytes l4) (.own (.slot 0) 5))]⟩)]] => a0a N Aa Ab d N i l4 (fun a0 => K (.exit 0) [(.ptr 0 5 0)] (mm3 a0))
 | _, _ => none
def a3L (N : Nat) (f : List V) : Option (LB) := s7 (a2y N f) fun w u => br (!decide (u = 0)) (some []) (j3 (a8E N) fun l2 => a0a N l2 f (f.length : Int) N 0 [] fun l3 => j3 (a9v N l3) fun l4 => some l4)
def b3w (N : Nat) : Cx := cl [b0j N, b9q N, a3M N, a2J N, b3Q N, d6S N] [⟨24, a2g (p6 N)⟩, ⟨29, a9x (a9v N)⟩] [⟨7, [5, 6, 21, 22, 23], [5], b0y N⟩, ⟨12, [5, 6, 8, 9, 21, 22, 23, 37, 38], [5, 6, 8, 9, 21, 22, 23], a7x N⟩]
theorem c4g (N : Nat) : p9 (b3w N) 58 (s4 Tryz.f9 0) := by
 refine j7 (rid := 7) (by kernel_rfl) rfl rfl fun R ds m K r h => ?_
 change b0y N ds m K = _ at h
 unfold b0y at h
 split at h
 . rename_i Aa Ab d i l4
   exact ⟨N, Gs (lpI (fun (e : (LB -> Option R)) L (s : Int × LB) => a6w N Aa Ab d (fun i l4 => L (i, l4)) e s.1 s.2) (fun e t s => a0a N Aa Ab d t s.1 s.2 e) (fun s => [(.ptr 0 5 0), (.v (.sl 9 Aa) .no), (.v (.sl 54 Ab) .no), (.v (.int .i64 d) .no), (.v (.int .i64 s.1) .no)]) (fun s => mm3 s.2) (fun _ _ => rfl) (fun _ _ _ => rfl) (e := _) (fun L s => by kernel_rfl) N (i, l4)) h⟩
 . cases h
theorem c0Z (N : Nat) : p9 (b3w N) 58 (s4 Tryz.f9 1) := by
 refine j7 (rid := 12) (by kernel_rfl) rfl rfl fun R ds m K r h => ?_
 change a7x N ds m K = _ at h
 unfold a7x at h
 split at h
 . rename_i Aa Ab d i x O n6 n7 l8 n9 na nb nc nd Af nf
   exact ⟨N, Gs (lpI (fun (e : (LB -> Option R)) L (s : Int × LB) => b5h N Aa Ab d i x O n6 n9 na nb nc nd Af nf (fun n7 l8 => L (n7, l8)) e s.1 s.2) (fun e t s => I6 N Aa Ab d i x O n6 n9 na nb nc nd Af nf t s.1 s.2 e) (fun s => [(.ptr 0 5 0), (.v (.sl 9 Aa) .no), (.ptr 0 8 0), (.ptr 0 9 0), (.v (.sl 54 Ab) .no), (.v (.int .i64 d) .no), (.v (.int .i64 i) .no), (.agg [(.v (.int .i64 x) .no), (.v (.int .i64 O) .no), (.v (.int .i64 n6) .no)]), (.v (.int .i64 s.1) .no)]) (fun s => mm2 s.2 n9 na nb nc nd Af nf) (fun _ _ => rfl) (fun _ _ _ => rfl) (e := _) (fun L s => by kernel_rfl) N (n7, l8)) h⟩
 . cases h
def c7U (N : Nat) : Ent := pE 9 (.v (.l 54) .z) (.v .s .z) (a3L N)
theorem c7v (N : Nat) : POK Tryz.prog T 9 (.v (.l 54) .z) (.v .s .z) (a3L N) := pok (cx := b3w N) fo (D4 ⟨b4L N, c3h N, a4U N, a3q N, b7z N, d8k N, trivial⟩ ⟨b2P _ (b5G N), c5E _ (d1b N), trivial⟩) (j6 (k := 2) (by kernel_rfl) ⟨⟨trivial, c4g N⟩, c0Z N⟩) Tryz.func9 (by kernel_rfl) rfl fun h => by kernel_rfl
theorem d2I (N : Nat) : EO (c7U N) := a1i (gz Tryz.func9 (by kernel_rfl)) rfl (c7v N)
theorem e0y (N : Nat) (f : List V) (r0 : LB) (h : a3L N f = some r0) : PRT 9 [.v (.sl 54 f) .no] [.v (.str r0) .no] := c7v N (f, ()) r0 h
def c0J (N : Nat) : Ent := pE 91 (.v .s .z) (.a (.v fI (.v .b (.v .b .z))) .z) (a1A N)
theorem d1h (N : Nat) : EO (c0J N) := a1i (gz Tryz.func91 (by kernel_rfl)) rfl fun h t q => d1J N h.1 t.1 t.2.1 t.2.2 q
def a4q (N : Nat) (f : Int) (x1 : LB) : Option (Int × Bool × Bool) := br (decide (f = 7)) (j3 (a8J N) fun w => j3 (a5c N w x1) fun u => some (FK.wrap (u + 2), decide (0 <= u), true)) (br (decide (f = 5)) (br (decide (x1 = ([115, 121, 115, 116, 101, 109] : LB))) (some (255, true, true)) (T4 (a1A N x1) fun d b3 b4 => br (decide (f = 5)) (br (decide (d = 255)) (some (0, false, false)) (some (d, b3, b4))) (some (d, b3, b4)))) (T4 (a1A N x1) fun O b6 b7 => br (decide (f = 5)) (br (decide (O = 255)) (some (0, false, false)) (some (O, b6, b7))) (some (O, b6, b7))))
def c7A (N : Nat) : Ent := pE 43 (.v fI (.v .s .z)) (.a (.v fI (.v .b (.v .b .z))) .z) (a4q N)
theorem d6E (N : Nat) : EO (c7A N) := pk0 (cx := cz [b7I N, b4Z N, c0J N] []) (A9 ⟨c1T N, b6k N, d1h N, trivial⟩ trivial) Tryz.func43 (by kernel_rfl) fun h => by kernel_rfl
def b7c {R : Type} (N : Nat) (i x O : Int) (Lq : List V -> List V -> Int -> Option R) (K0 : List V -> List V -> Bool -> List V -> Option R) (K1 : List V -> List V -> Option R) (Aa Ab : List V) (d : Int) : Option R := br (decide (d < 3)) (br (decide (d = 0)) (br (!decide (i = 0)) (br (decide ((Aa.length : Int) = 0)) (K0 Aa [] false Ab) (br (decide (FK.wrap (d + 1) < 3)) (br (decide (FK.wrap (d + 1) = 0)) (j3 (G3 N i) fun b0 => br b0 (br (decide (0 < (Aa.length : Int))) (at? Aa 0 fun x1 => x1.unStr fun l2 => T4 (a0G N l2 ([46] : LB)) fun l3 l4 b5 => br (!b5) (K0 Aa [] false Ab) (br (decide ((Ab.length + [V.str l3, V.str l4].length) * 16 <= 140737488355328)) (br (decide (1 <= (Aa.length : Int))) (Lq (Gj 1 Aa) (Ab ++ [V.str l3, V.str l4]) (FK.wrap (FK.wrap (d + 1) + 1))) none) none)) none) (br (decide (0 < (Aa.length : Int))) (at? Aa 0 fun x6 => x6.unStr fun l7 => br (decide ((Ab.length + [V.str l7].length) * 16 <= 140737488355328)) (br (decide (1 <= (Aa.length : Int))) (Lq (Gj 1 Aa) (Ab ++ [V.str l7]) (FK.wrap (d + 1))) none) none) none)) (br (decide (FK.wrap (d + 1) = 1)) (j3 (G3 N x) fun b8 => br b8 (br (decide (0 < (Aa.length : Int))) (at? Aa 0 fun x9 => x9.unStr fun la => T4 (a0G N la ([46] : LB)) fun Ay Ax bd => br (!bd) (K0 Aa [] false Ab) (br (decide ((Ab.length + [V.str Ay, V.str Ax].length) * 16 <= 140737488355328)) (br (decide (1 <= (Aa.length : Int))) (Lq (Gj 1 Aa) (Ab ++ [V.str Ay, V.str Ax]) (FK.wrap (FK.wrap (d + 1) + 1))) none) none)) none) (br (decide (0 < (Aa.length : Int))) (at? Aa 0 fun xe => xe.unStr fun AC => br (decide ((Ab.length + [V.str AC].length) * 16 <= 140737488355328)) (br (decide (1 <= (Aa.length : Int))) (Lq (Gj 1 Aa) (Ab ++ [V.str AC]) (FK.wrap (d + 1))) none) none) none)) (br (decide (FK.wrap (d + 1) = 2)) (j3 (G3 N O) fun bg => br bg (br (decide (0 < (Aa.length : Int))) (at? Aa 0 fun xh => xh.unStr fun AO => T4 (a0G N AO ([46] : LB)) fun lj lk CS => br (!CS) (K0 Aa [] false Ab) (br (decide ((Ab.length + [V.str lj, V.str lk].length) * 16 <= 140737488355328)) (br (decide (1 <= (Aa.length : Int))) (Lq (Gj 1 Aa) (Ab ++ [V.str lj, V.str lk]) (FK.wrap (FK.wrap (d + 1) + 1))) none) none)) none) (br (decide (0 < (Aa.length : Int))) (at? Aa 0 fun xm => xm.unStr fun ln => br (decide ((Ab.length + [V.str ln].length) * 16 <= 140737488355328)) (br (decide (1 <= (Aa.length : Int))) (Lq (Gj 1 Aa) (Ab ++ [V.str ln]) (FK.wrap (d + 1))) none) none) none)) none))) (br (decide (0 < (Aa.length : Int))) (at? Aa 0 fun xo => xo.unStr fun AX => br (decide ((Ab.length + [V.str AX].length) * 16 <= 140737488355328)) (br (decide (1 <= (Aa.length : Int))) (Lq (Gj 1 Aa) (Ab ++ [V.str AX]) (FK.wrap (d + 1))) none) none) none))) (K1 Aa Ab)) (br (decide (d = 1)) (br (!decide (x = 0)) (br (decide ((Aa.length : Int) = 0)) (K0 Aa [] false Ab) (br (decide (FK.wrap (d + 1) < 3)) (br (decide (FK.wrap (d + 1) = 0)) (j3 (G3 N i) fun bq => br bq (br (decide (0 < (Aa.length : Int))) (at? Aa 0 fun xr => xr.unStr fun Ba => T4 (a0G N Ba ([46] : LB)) fun Bk lu CT => br (!CT) (K0 Aa [] false Ab) (br (decide ((Ab.length + [V.str Bk, V.str lu].length) * 16 <= 140737488355328)) (br (decide (1 <= (Aa.length : Int))) (Lq (Gj 1 Aa) (Ab ++ [V.str Bk, V.str lu]) (FK.wrap (FK.wrap (d + 1) + 1))) none) none)) none) (br (decide (0 < (Aa.length : Int))) (at? Aa 0 fun xw => xw.unStr fun lx => br (decide ((Ab.length + [V.str lx].length) * 16 <= 140737488355328)) (br (decide (1 <= (Aa.length : Int))) (Lq (Gj 1 Aa) (Ab ++ [V.str lx]) (FK.wrap (d + 1))) none) none) none)) (br (decide (FK.wrap (d + 1) = 1)) (j3 (G3 N x) fun CU => br CU (br (decide (0 < (Aa.length : Int))) (at? Aa 0 fun xz => xz.unStr fun Bd => T4 (a0G N Bd ([46] : LB)) fun BA BC BX => br (!BX) (K0 Aa [] false Ab) (br (decide ((Ab.length + [V.str BA, V.str BC].length) * 16 <= 140737488355328)) (br (decide (1 <= (Aa.length : Int))) (Lq (Gj 1 Aa) (Ab ++ [V.str BA, V.str BC]) (FK.wrap (FK.wrap (d + 1) + 1))) none) none)) none) (br (decide (0 < (Aa.length : Int))) (at? Aa 0 fun BG => BG.unStr fun Bh => br (decide ((Ab.length + [V.str Bh].length) * 16 <= 140737488355328)) (br (decide (1 <= (Aa.length : Int))) (Lq (Gj 1 Aa) (Ab ++ [V.str Bh]) (FK.wrap (d + 1))) none) none) none)) (br (decide (FK.wrap (d + 1) = 2)) (j3 (G3 N O) fun BY => br BY (br (decide (0 < (Aa.length : Int))) (at? Aa 0 fun BH => BH.unStr fun Bn => T4 (a0G N Bn ([46] : LB)) fun AU BP CV => br (!CV) (K0 Aa [] false Ab) (br (decide ((Ab.length + [V.str AU, V.str BP].length) * 16 <= 140737488355328)) (br (decide (1 <= (Aa.length : Int))) (Lq (Gj 1 Aa) (Ab ++ [V.str AU, V.str BP]) (FK.wrap (FK.wrap (d + 1) + 1))) none) none)) none) (br (decide (0 < (Aa.length : Int))) (at? Aa 0 fun CW => CW.unStr fun BQ => br (decide ((Ab.length + [V.str BQ].length) * 16 <= 140737488355328)) (br (decide (1 <= (Aa.length : Int))) (Lq (Gj 1 Aa) (Ab ++ [V.str BQ]) (FK.wrap (d + 1))) none) none) none)) none))) (br (decide (0 < (Aa.length : Int))) (at? Aa 0 fun BI => BI.unStr fun Bb => br (decide ((Ab.length + [V.str Bb].length) * 16 <= 140737488355328)) (br (decide (1 <= (Aa.length : Int))) (Lq (Gj 1 Aa) (Ab ++ [V.str Bb]) (FK.wrap (d + 1))) none) none) none))) (K1 Aa Ab)) (br (decide (d = 2)) (br (!decide (O = 0)) (br (decide ((Aa.length : Int) = 0)) (K0 Aa [] false Ab) (br (decide (FK.wrap (d + 1) < 3)) (br (decide (FK.wrap (d + 1) = 0)) (j3 (G3 N i) fun CX => br CX (br (decide (0 < (Aa.length : Int))) (at? Aa 0 fun BZ => BZ.unStr fun BB => T4 (a0G N BB ([46] : LB)) fun CF Bj CG => br (!CG) (K0 Aa [] false Ab) (br (decide ((Ab.length + [V.str CF, V.str Bj].length) * 16 <= 140737488355328)) (br (decide (1 <= (Aa.length : Int))) (Lq (Gj 1 Aa) (Ab ++ [V.str CF, V.str Bj]) (FK.wrap (FK.wrap (d + 1) + 1))) none) none)) none) (br (decide (0 < (Aa.length : Int))) (at? Aa 0 fun BJ => BJ.unStr fun BD => br (decide ((Ab.length + [V.str BD].length) * 16 <= 140737488355328)) (br (decide (1 <= (Aa.length : Int))) (Lq (Gj 1 Aa) (Ab ++ [V.str BD]) (FK.wrap (d + 1))) none) none) none)) (br (decide (FK.wrap (d + 1) = 1)) (j3 (G3 N x) fun CY => br CY (br (decide (0 < (Aa.length : Int))) (at? Aa 0 fun BK => BK.unStr fun BL => T4 (a0G N BL ([46] : LB)) fun BE CH CZ => br (!CZ) (K0 Aa [] false Ab) (br (decide ((Ab.length + [V.str BE, V.str CH].length) * 16 <= 140737488355328)) (br (decide (1 <= (Aa.length : Int))) (Lq (Gj 1 Aa) (Ab ++ [V.str BE, V.str CH]) (FK.wrap (FK.wrap (d + 1) + 1))) none) none)) none) (br (decide (0 < (Aa.length : Int))) (at? Aa 0 fun Da => Da.unStr fun Ca => br (decide ((Ab.length + [V.str Ca].length) * 16 <= 140737488355328)) (br (decide (1 <= (Aa.length : Int))) (Lq (Gj 1 Aa) (Ab ++ [V.str Ca]) (FK.wrap (d + 1))) none) none) none)) (br (decide (FK.wrap (d + 1) = 2)) (j3 (G3 N O) fun Db => br Db (br (decide (0 < (Aa.length : Int))) (at? Aa 0 fun Dc => Dc.unStr fun CI => T4 (a0G N CI ([46] : LB)) fun BR CJ Dd => br (!Dd) (K0 Aa [] false Ab) (br (decide ((Ab.length + [V.str BR, V.str CJ].length) * 16 <= 140737488355328)) (br (decide (1 <= (Aa.length : Int))) (Lq (Gj 1 Aa) (Ab ++ [V.str BR, V.str CJ]) (FK.wrap (FK.wrap (d + 1) + 1))) none) none)) none) (br (decide (0 < (Aa.length : Int))) (at? Aa 0 fun De => De.unStr fun CL => br (decide ((Ab.length + [V.str CL].length) * 16 <= 140737488355328)) (br (decide (1 <= (Aa.length : Int))) (Lq (Gj 1 Aa) (Ab ++ [V.str CL]) (FK.wrap (d + 1))) none) none) none)) none))) (br (decide (0 < (Aa.length : Int))) (at? Aa 0 fun Cb => Cb.unStr fun BS => br (decide ((Ab.length + [V.str BS].length) * 16 <= 140737488355328)) (br (decide (1 <= (Aa.length : Int))) (Lq (Gj 1 Aa) (Ab ++ [V.str BS]) (FK.wrap (d + 1))) none) none) none))) (K1 Aa Ab)) none))) (K1 Aa Ab)
def H0 {R : Type} (N : Nat) (i x O : Int) : Nat -> List V -> List V -> Int -> (List V -> List V -> Bool -> List V -> Option R) -> (List V -> List V -> Option R) -> Option R | 0, _, _, _, _, _ => none | t + 1, Aa, Ab, d, K0, K1 => b7c N i x O (fun Aa Ab d => H0 N i x O t Aa Ab d K0 K1) K0 K1 Aa Ab d
def a9D {R : Type} (N : Nat) (ds : List D) (m : Mem) (K : Ex -> List D -> Mem -> Option R) : Option R :=
 match ds, m with
 | [(.v (.sl 9 Aa) .no), (.ptr 0 2 0), (.v (.sl 9 Ab) (.own (.slot 6) 9)), (.v (.int .i64 d) .no)], [[(2, ⟨84, [(.v (.int .i64 i) .no), (.v (.int .i64 x) .no), (.v (.int .i64 O) .no)]⟩)]] => H0 N i x O N Aa Ab d (fun a0 a1 a2 a3 => K .ret [(.v (.sl 9 a0) .no), (.ptr 0 2 0), (.v (.sl 9 a1) (.own (.slot 4) 9)), (.v (.bool a2) .no), (.v (.sl 9 a3) (.own (.slot 6) 9))] (mm4 i x O)) (fun a0 a1 => K (.exit 0) [(.v (.sl 9 a0) .no), (.ptr 0 2 0), .any, .any, (.v (.sl 9 a1) (.own (.slot 6) 9))] (mm4 i x O))
 | _, _ => none
def b1y (N : Nat) (f x1 x2 : Int) (x3 : List V) : Option (List V × Bool) := H0 N f x1 x2 N x3 [] 0 (fun w l1 b2 l3 => some (l1, b2)) fun l4 l5 => some (l5, decide ((l4.length : Int) = 0))
def c3F (N : Nat) : Cx := cl [b3Q N, d4J N] [] [⟨3, [1, 2, 6, 7], [1, 2, 4, 5, 6], a9D N⟩]
theorem c6e (N : Nat) : p9 (c3F N) 63 (s4 Tryz.f42 0) := by
 refine j7 (rid := 3) (by kernel_rfl) rfl rfl fun R ds m K r h => ?_
 change a9D N ds m K = _ at h
 unfold a9D at h
 split at h
 . rename_i Aa Ab d i x O
   exact ⟨N, Gs (lpI (fun (e : (List V -> List V -> Bool -> List V -> Option R) × (List V -> List V -> Option R)) L (s : List V × List V × Int) => b7c N i x O (fun Aa Ab d => L (Aa, Ab, d)) e.1 e.2 s.1 s.2.1 s.2.2) (fun e t s => H0 N i x O t s.1 s.2.1 s.2.2 e.1 e.2) (fun s => [(.v (.sl 9 s.1) .no), (.ptr 0 2 0), (.v (.sl 9 s.2.1) (.own (.slot 6) 9)), (.v (.int .i64 s.2.2) .no)]) (fun s => mm4 i x O) (fun _ _ => rfl) (fun _ _ _ => rfl) (e := (_, _)) (fun L s => by kernel_rfl) N (Aa, Ab, d)) h⟩
 . cases h
def c8o (N : Nat) : Ent := pE 42 sh2 (.v (.l 9) (.v .b .z)) (b1y N)
theorem d6q (N : Nat) : EO (c8o N) := pk (cx := c3F N) (D4 ⟨b7z N, d6G N, trivial⟩ trivial) Tryz.func42 (j6 (k := 1) (by kernel_rfl) ⟨trivial, c6e N⟩) (by kernel_rfl) fun h => by kernel_rfl
def b6G {R : Type} (N : Nat) (j : Int) (AV : List V) (i O n6 n7 n8 n9 na nb : Int) (Lq : Bool -> Int -> Int -> Int -> Int -> Option R) (K0 : Int -> Bool -> Int -> Int -> Int -> Int -> Int -> Int -> Int -> Option R) (K1 : Bool -> Int -> Int -> Int -> Option R) (b1 : Bool) (x nc nd Af : Int) : Option R := br (decide (x < i)) (br (decide (0 <= x) && decide (x < (AV.length : Int))) (at? AV x.toNat fun f => f.unStr fun l1 => br (decide (x = 0)) (T4 (a4q N n9 l1) fun d b3 b4 => br (!b3) (K0 30 b1 0 0 0 0 nc nd Af) (br b1 (br (decide (x = 0)) (Lq b4 (FK.wrap (x + 1)) d nd Af) (br (decide (x = 1)) (Lq b4 (FK.wrap (x + 1)) nc d Af) (br (decide (x = 2)) (Lq b4 (FK.wrap (x + 1)) nc nd d) none))) (br (decide (x = 0)) (Lq false (FK.wrap (x + 1)) d nd Af) (br (decide (x = 1)) (Lq false (FK.wrap (x + 1)) nc d Af) (br (decide (x = 2)) (Lq false (FK.wrap (x + 1)) nc nd d) none))))) (br (decide (x = 1)) (T4 (a4q N na l1) fun O b6 b7 => br (!b6) (K0 30 b1 0 0 0 0 nc nd Af) (br b1 (br (decide (x = 0)) (Lq b7 (FK.wrap (x + 1)) O nd Af) (br (decide (x = 1)) (Lq b7 (FK.wrap (x + 1)) nc O Af) (br (decide (x = 2)) (Lq b7 (FK.wrap (x + 1)) nc nd O) none))) (br (decide (x = 0)) (Lq false (FK.wrap (x + 1)) O nd Af) (br (decide (x = 1)) (Lq false (FK.wrap (x + 1)) nc O Af) (br (decide (x = 2)) (Lq false (FK.wrap (x + 1)) nc nd O) none))))) (br (decide (x = 2)) (T4 (a4q N nb l1) fun n8 b9 AA => br (!b9) (K0 30 b1 0 0 0 0 nc nd Af) (br b1 (br (decide (x = 0)) (Lq AA (FK.wrap (x + 1)) n8 nd Af) (br (decide (x = 1)) (Lq AA (FK.wrap (x + 1)) nc n8 Af) (br (decide (x = 2)) (Lq AA (FK.wrap (x + 1)) nc nd n8) none))) (br (decide (x = 0)) (Lq false (FK.wrap (x + 1)) n8 nd Af) (br (decide (x = 1)) (Lq false (FK.wrap (x + 1)) nc n8 Af) (br (decide (x = 2)) (Lq false (FK.wrap (x + 1)) nc nd n8) none))))) none))) none) (K1 b1 nc nd Af)
def R4 {R : Type} (N : Nat) (j : Int) (AV : List V) (i O n6 n7 n8 n9 na nb : Int) : Nat -> Bool -> Int -> Int -> Int -> Int -> (Int -> Bool -> Int -> Int -> Int -> Int -> Int -> Int -> Int -> Option R) -> (Bool -> Int -> Int -> Int -> Option R) -> Option R | 0, _, _, _, _, _, _, _ => none | t + 1, b1, x, nc, nd, Af, K0, K1 => b6G N j AV i O n6 n7 n8 n9 na nb (fun b1 x nc nd Af => R4 N j AV i O n6 n7 n8 n9 na nb t b1 x nc nd Af K0 K1) K0 K1 b1 x nc nd Af
def b0b {R : Type} (N : Nat) (ds : List D) (m : Mem) (K : Ex -> List D -> Mem -> Option R) : Option R :=
 match ds, m with
 | [(.ptr 0 2 0), (.v (.int .i64 j) .no), (.ptr 0 6 0), (.ptr 0 9 0), (.v (.bool b1) .no), .any, (.v (.sl 9 AV) .no), (.v (.int .i64 i) .no), (.v (.int .i64 x) .no)], [[(2, ⟨54, [(.v (.int .i64 O) .no), (.v (.int .i64 n6) .no), (.v (.int .i64 n7) .no), (.v (.int .i64 n8) .no)]⟩), (6, ⟨84, [(.v (.int .i64 n9) .no), (.v (.int .i64 na) .no), (.v (.int .i64 nb) .no)]⟩), (9, ⟨82, [(.v (.int .i64 nc) .no), (.v (.int .i64 nd) .no), (.v (.int .i64 Af) .no)]⟩)]] => R4 N j AV i O n6 n7 n8 n9 na nb N b1 x nc nd Af (fun a0 a2 a3 a4 a5 a6 AN AW Be => K .ret [(.ptr 0 2 0), (.v (.int .i64 a0) .no), (.v (.int .i64 j) .no), (.ptr 0 6 0), (.ptr 0 9 0), (.v (.bool a2) .no), .any] (mm5 a3 a4 a5 a6 n9 na nb AN AW Be)) (fun a1 a9 AN AW => K (.exit 0) [(.ptr 0 2 0), .any, (.v (.int .i64 j) .no), (.ptr 0 6 0), (.ptr 0 9 0), (.v (.bool a1) .no), .any] (mm5 O n6 n7 n8 n9 na nb a9 AN AW))
 | _, _ => none
def b8S (N : Nat) (f : LB) : Option (Int × Int × Int × Int × Int) := j3 (a6B N f ([32] : LB)) fun w => j3 (a8E N) fun l1 => br (decide (0 < (w.length : Int))) (at? w 0 fun x2 => x2.unStr fun l3 => j3 (a5c N l1 l3) fun x => br (decide (x < 0)) (some (0, 0, 0, 0, 30)) (T4 (V7 N x) fun O n6 n7 => br (decide (1 <= (w.length : Int))) (s7 (b1y N O n6 n7 (Gj 1 w)) fun l8 b9 => br (!b9) (some (0, 0, 0, 0, 30)) (R4 N x l8 (l8.length : Int) 0 0 0 0 O n6 n7 N true 0 0 0 0 (fun na AH nc nd Af nf ng nh ni => some (nc, nd, Af, nf, na)) fun bj nk Aw AB => br (!bj) (some (0, 0, 0, 0, 2)) (j3 (O7 N x nk Aw AB) fun nn => some (x, nk, Aw, AB, nn)))) none)) none
def c8H (N : Nat) : Cx := cl [c8y N, b9q N, b4Z N, a2J N, c8o N, c7A N, a5a N] [] [⟨12, [2, 5, 6, 9, 10, 14, 37, 38, 39], [2, 3, 5, 6, 9, 10, 14], b0b N⟩] true
theorem c5a (N : Nat) : p9 (c8H N) 77 (s4 Tryz.f21 0) := by
 refine j7 (rid := 12) (by kernel_rfl) rfl rfl fun R ds m K r h => ?_
 change b0b N ds m K = _ at h
 unfold b0b at h
 split at h
 . rename_i j b1 AV i x O n6 n7 n8 n9 na nb nc nd Af
   exact ⟨N, Gs (lpI (fun (e : (Int -> Bool -> Int -> Int -> Int -> Int -> Int -> Int -> Int -> Option R) × (Bool -> Int -> Int -> Int -> Option R)) L (s : Bool × Int × Int × Int × Int) => b6G N j AV i O n6 n7 n8 n9 na nb (fun b1 x nc nd Af => L (b1, x, nc, nd, Af)) e.1 e.2 s.1 s.2.1 s.2.2.1 s.2.2.2.1 s.2.2.2.2) (fun e t s => R4 N j AV i O n6 n7 n8 n9 na nb t s.1 s.2.1 s.2.2.1 s.2.2.2.1 s.2.2.2.2 e.1 e.2) (fun s => [(.ptr 0 2 0), (.v (.int .i64 j) .no), (.ptr 0 6 0), (.ptr 0 9 0), (.v (.bool s.1) .no), .any, (.v (.sl 9 AV) .no), (.v (.int .i64 i) .no), (.v (.int .i64 s.2.1) .no)]) (fun s => mm5 O n6 n7 n8 n9 na nb s.2.2.1 s.2.2.2.1 s.2.2.2.2) (fun _ _ => rfl) (fun _ _ _ => rfl) (e := (_, _)) (fun L s => by kernel_rfl) N (b1, x, nc, nd, Af)) h⟩
 . cases h
def d4W (N : Nat) : Ent := pE 21 (.v .s .z) sh3 (b8S N)
theorem d9H (N : Nat) : EO (d4W N) := pk (cx := c8H N) (D4 ⟨d2p N, c3h N, b6k N, a3q N, d6q N, d6E N, a6x N, trivial⟩ trivial) Tryz.func21 (j6 (k := 1) (by kernel_rfl) ⟨trivial, c5a N⟩) (by kernel_rfl) fun h => by kernel_rfl
def a3G {R : Type} (N : Nat)  (Lq : LB -> List V -> Option R) (K0 : List V -> Int -> List V -> Option R) (K1 : List V -> Option R) (w : LB) (Ab : List V) : Option R := br (!decide (w = [])) (br (decide ((Ab.length : Int) = 256)) (K0 [] 3 Ab) (T4 (a0G N w ([10] : LB)) fun w l1 b2 => br (!b2) (K0 [] 30 Ab) (e0r (b8S N w) fun i x O n6 n7 => br (!decide (n7 = 0)) (K0 [] n7 Ab) (br (decide ((Ab.length + [V.agg [V.int FK i, V.int FK x, V.int FK O, V.int FK n6]].length) * 32 <= 140737488355328)) (Lq l1 (Ab ++ [V.agg [V.int FK i, V.int FK x, V.int FK O, V.int FK n6]])) none)))) (K1 Ab)
def T6 {R : Type} (N : Nat)  : Nat -> LB -> List V -> (List V -> Int -> List V -> Option R) -> (List V -> Option R) -> Option R | 0, _, _, _, _ => none | t + 1, w, Ab, K0, K1 => a3G N  (fun w Ab => T6 N  t w Ab K0 K1) K0 K1 w Ab
def a7j {R : Type} (N : Nat) (ds : List D) (m : Mem) (K : Ex -> List D -> Mem -> Option R) : Option R :=
 match ds, m with
 | [(.v (.str w) .no), (.v (.sl 54 Ab) (.own (.slot 4) 54))], [[]] => T6 N  N w Ab (fun a0 a1 a2 => K .ret [(.v (.sl 54 a0) (.own (.slot 2) 54)), (.v (.int .i64 a1) .no), (.v (.sl 54 a2) (.own (.slot 4) 54))] [[]]) (fun a0 => K (.exit 0) [.any, .any, (.v (.sl 54 a0) (.own (.slot 4) 54))] [[]])
 | _, _ => none
def a2T (N : Nat) (f : LB) : Option (List V × Int) := T6 N N f [] (fun w u l2 => some (w, u)) fun l3 => some (l3, 0)
def b6W (N : Nat) : Cx := cl [d4J N, d4W N] [] [⟨2, [0, 4], [2, 3, 4], a7j N⟩]
theorem c2m (N : Nat) : p9 (b6W N) 37 (s4 Tryz.f8 0) := by
 refine j7 (rid := 2) (by kernel_rfl) rfl rfl fun R ds m K r h => ?_
 change a7j N ds m K = _ at h
 unfold a7j at h
 split at h
 . rename_i w Ab
   exact ⟨N, Gs (lpI (fun (e : (List V -> Int -> List V -> Option R) × (List V -> Option R)) L (s : LB × List V) => a3G N (fun w Ab => L (w, Ab)) e.1 e.2 s.1 s.2) (fun e t s => T6 N t s.1 s.2 e.1 e.2) (fun s => [(.v (.str s.1) .no), (.v (.sl 54 s.2) (.own (.slot 4) 54))]) (fun s => [[]]) (fun _ _ => rfl) (fun _ _ _ => rfl) (e := (_, _)) (fun L s => by kernel_rfl) N (w, Ab)) h⟩
 . cases h
def c1E (N : Nat) : Ent := pE 8 (.v .s .z) (.v (.l 54) (.v fI .z)) (a2T N)
theorem c2a (N : Nat) : POK Tryz.prog T 8 (.v .s .z) (.v (.l 54) (.v fI .z)) (a2T N) := pok (cx := b6W N) fo (D4 ⟨d6G N, d9H N, trivial⟩ trivial) (j6 (k := 1) (by kernel_rfl) ⟨trivial, c2m N⟩) Tryz.func8 (by kernel_rfl) rfl fun h => by kernel_rfl
theorem c9T (N : Nat) : EO (c1E N) := a1i (gz Tryz.func8 (by kernel_rfl)) rfl (c2a N)
theorem d3u (N : Nat) (f : LB) (r0 : List V) (r1 : Int) (h : a2T N f = some (r0, r1)) : PRT 8 [.v (.str f) .no] [.v (.sl 54 r0) .no, dI r1] := c2a N (f, ()) (r0, r1) h
end En
end
end Go.Proofs.YtkoilndpfifapaaGreatDoor
