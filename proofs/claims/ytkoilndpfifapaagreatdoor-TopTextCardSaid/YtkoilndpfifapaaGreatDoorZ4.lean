/- Several texts in one. -/
import Derived.Test.YtkoilndpfifapaaGreatDoorZ3

set_option linter.unusedSimpArgs false
set_option linter.unusedVariables false
set_option linter.unusedSectionVars false
open Eq renaming trans → Gr
open Go.IntKind renaming i64 → FK, u8 → FX, u32 → FL, i8 → KN
open List renaming drop → Gi
open UInt8 renaming ofNat → FR
namespace Go.Proofs.YtkoilndpfifapaaGreatDoor
noncomputable section
namespace En
open Go Go.Proofs
abbrev VR2 := c2m Tryz.prog T
abbrev MEO := MEntOK Tryz.prog T
abbrev EO := EntOK Tryz.prog T
abbrev PRT := H8 Tryz.prog T
set_option maxRecDepth 100000
set_option maxHeartbeats 8000000
abbrev sh0 : Sh := .a (.v fI (.v fI (.v fI (.v fI .z)))) .z
@[match_pattern] abbrev mm0 (v0 v1 v2 v3 v4 v5 v6 : Int) : Mem := [[(1, ⟨54, [(.v (.int .i64 v0) .no), (.v (.int .i64 v1) .no), (.v (.int .i64 v2) .no), (.v (.int .i64 v3) .no)]⟩), (3, ⟨82, [(.v (.int .i64 v4) .no), (.v (.int .i64 v5) .no), (.v (.int .i64 v6) .no)]⟩)]]
@[match_pattern] abbrev mm1 (v0 v1 v2 v3 v4 v5 v6 : Int) : Mem := [[(2, ⟨54, [(.v (.int .i64 v0) .no), (.v (.int .i64 v1) .no), (.v (.int .i64 v2) .no), (.v (.int .i64 v3) .no)]⟩), (6, ⟨82, [(.v (.int .i64 v4) .no), (.v (.int .i64 v5) .no), (.v (.int .i64 v6) .no)]⟩)]]
abbrev sh1 : Sh := .a (.v fI (.v fI (.v fI (.v fI .z)))) (.v .y (.v fI .z))
@[match_pattern] abbrev mm2 (v0 : LB) (v1 v2 v3 v4 v5 v6 v7 : Int) : Mem := [[(5, ⟨75, [.bld, (.v (.bytes v0) (.own (.slot 0) 5))]⟩), (8, ⟨54, [(.v (.int .i64 v1) .no), (.v (.int .i64 v2) .no), (.v (.int .i64 v3) .no), (.v (.int .i64 v4) .no)]⟩), (9, ⟨82, [(.v (.int .i64 v5) .no), (.v (.int .i64 v6) .no), (.v (.int .i64 v7) .no)]⟩)]]
@[match_pattern] abbrev mm3 (v0 : LB) : Mem := [[(5, ⟨75, [.bld, (.v (.bytes v0) (.own (.slot 0) 5))]⟩)]]
@[match_pattern] abbrev mm4 (v0 v1 v2 : Int) : Mem := [[(2, ⟨84, [(.v (.int .i64 v0) .no), (.v (.int .i64 v1) .no), (.v (.int .i64 v2) .no)]⟩)]]
abbrev sh2 : Sh := .a (.v fI (.v fI (.v fI .z))) (.v (.l 9) .z)
@[match_pattern] abbrev mm5 (v0 v1 v2 v3 v4 v5 v6 v7 v8 v9 : Int) : Mem := [[(2, ⟨54, [(.v (.int .i64 v0) .no), (.v (.int .i64 v1) .no), (.v (.int .i64 v2) .no), (.v (.int .i64 v3) .no)]⟩), (6, ⟨84, [(.v (.int .i64 v4) .no), (.v (.int .i64 v5) .no), (.v (.int .i64 v6) .no)]⟩), (9, ⟨82, [(.v (.int .i64 v7) .no), (.v (.int .i64 v8) .no), (.v (.int .i64 v9) .no)]⟩)]]
abbrev sh3 : Sh := .a (.v fI (.v fI (.v fI (.v fI .z)))) (.v fI .z)
abbrev sh4 : Sh := .a (.v fI (.v fI (.v .b (.v (.l 42) (.v (.l 44) (.v (.l 3) (.v (.l 105) .z))))))) .z
abbrev sh5 : Sh := .a (.v .b (.v .b (.v fI (.v (.l 44) (.v fI (.v fI (.v fI (.v fI (.v fI (.v (.l 54) (.v (.l 107) .z))))))))))) .z
abbrev sh6 : Sh := .a (.v fW (.v fW (.v fW (.v fW (.v fW (.v fW (.v fW (.v fW (.v fW (.v fW (.v fW (.v fW (.v fW (.v fW (.v fW (.v fW .z)))))))))))))))) .z
abbrev sh7 : Sh := .a (.v fW (.v fW .z)) (.a (.v fW (.v fW (.v fW (.v fW (.v fW (.v fW (.v fW (.v fW (.v fW (.v fW (.v fW (.v fW (.v fW (.v fW (.v fW (.v fW .z)))))))))))))))) .z)
@[match_pattern] abbrev mm6 (v0 : LB) : Mem := [[], [(0, ⟨96, [(.v (.bytes v0) (.own (.slot 0) 5))]⟩)]]
abbrev sh8 : Sh := .p 0 (.a (.v fI (.v fI (.v .b (.v (.l 42) (.v (.l 44) (.v (.l 3) (.v (.l 105) .z))))))) .z)
abbrev sh9 : Sh := .p 0 (.a (.v .b (.v .b (.v fI (.v (.l 44) (.v fI (.v fI (.v fI (.v fI (.v fI (.v (.l 54) (.v (.l 107) .z))))))))))) .z)
abbrev e7U : Sh := .p 0 (.a (.v .y (.v fI (.v fI (.v (.l 58) (.v (.l 64) (.v (.l 47) (.v (.l 44) (.v (.l 67) .z)))))))) .z)
abbrev b5R : Sh := .a (.v .y (.v fI (.v fI (.v (.l 58) (.v (.l 64) (.v (.l 47) (.v (.l 44) (.v (.l 67) .z)))))))) .z
abbrev e7y : Sh := .a (.v .y (.v fI (.v fI (.v (.l 58) (.v (.l 64) (.v (.l 47) (.v (.l 44) (.v (.l 67) .z)))))))) (.a (.v fI (.v fI .z)) .z)
abbrev e7N : Sh := .a (.v .y (.v fI (.v fI (.v (.l 58) (.v (.l 64) (.v (.l 47) (.v (.l 44) (.v (.l 67) .z)))))))) (.a (.v fI (.v fI (.v fI .z))) .z)
abbrev e7o : Sh := .a (.v .y (.v fI (.v fI (.v (.l 58) (.v (.l 64) (.v (.l 47) (.v (.l 44) (.v (.l 67) .z)))))))) (.a (.v fI (.v fI .z)) (.v fI .z))
abbrev c5u : Bxs := [(90, [.n .y, .n fI, .n fI, .n (.l 58), .n (.l 64), .n (.l 47), .n (.l 44), .n (.l 67)])]
@[match_pattern] abbrev mm7 (v0 : LB) (v1 v2 : Int) (v3 v4 v5 v6 v7 : List V) : Mem := [[], [(0, ⟨90, [(.v (.bytes v0) .no), (.v (.int .i64 v1) .no), (.v (.int .i64 v2) .no), (.v (.sl 58 v3) .no), (.v (.sl 64 v4) .no), (.v (.sl 47 v5) .no), (.v (.sl 44 v6) .no), (.v (.sl 67 v7) .no)]⟩)]]
abbrev e7S : Sh := .a (.v .y (.v fI (.v fI (.v (.l 58) (.v (.l 64) (.v (.l 47) (.v (.l 44) (.v (.l 67) .z)))))))) (.v (.l 44) .z)
@[match_pattern] abbrev mm8 (v0 : LB) (v1 v2 : Int) : Mem := [[], [(0, ⟨58, [(.v (.bytes v0) .no), (.v (.int .i64 v1) .no), (.v (.int .i64 v2) .no)]⟩)]]
abbrev e5K : Sh := .v fI (.a (.v .y (.v fI (.v fI .z))) (.p 0 .z))
abbrev e7m : Sh := .v fI (.a (.v fI (.v fI .z)) (.p 0 (.p 1 .z)))
abbrev e4V : Bxs := [(90, [.n .y, .n fI, .n fI, .n (.l 58), .n (.l 64), .n (.l 47), .n (.l 44), .n (.l 67)]), (3, [.n fI])]
@[match_pattern] abbrev mm9 (v0 : LB) (v1 v2 : Int) (v3 v4 v5 v6 v7 : List V) (v8 : Int) : Mem := [[], [(0, ⟨90, [(.v (.bytes v0) .no), (.v (.int .i64 v1) .no), (.v (.int .i64 v2) .no), (.v (.sl 58 v3) .no), (.v (.sl 64 v4) .no), (.v (.sl 47 v5) .no), (.v (.sl 44 v6) .no), (.v (.sl 67 v7) .no)]⟩), (1, ⟨3, [(.v (.int .i64 v8) .no)]⟩)]]
abbrev e7B : Sh := .a (.v .y (.v fI (.v fI (.v (.l 58) (.v (.l 64) (.v (.l 47) (.v (.l 44) (.v (.l 67) .z)))))))) (.v fI (.a (.v fI (.v fI (.v .b (.v (.l 42) (.v (.l 44) (.v (.l 3) (.v (.l 105) .z))))))) (.v fI (.v fI .z))))
abbrev e5E : Bxs := [(90, [.n .y, .n fI, .n fI, .n (.l 58), .n (.l 64), .n (.l 47), .n (.l 44), .n (.l 67)]), (3, [.n fI]), (64, [.n fI, .n fI, .n .b, .n (.l 42), .n (.l 44), .n (.l 3), .n (.l 105)])]
@[match_pattern] abbrev d9Y (v0 : LB) (v1 v2 : Int) (v3 v4 v5 v6 v7 : List V) (v8 v9 v10 : Int) (v11 : Bool) (v12 v13 v14 v15 : List V) : Mem := [[], [(0, ⟨90, [(.v (.bytes v0) .no), (.v (.int .i64 v1) .no), (.v (.int .i64 v2) .no), (.v (.sl 58 v3) .no), (.v (.sl 64 v4) .no), (.v (.sl 47 v5) .no), (.v (.sl 44 v6) .no), (.v (.sl 67 v7) .no)]⟩), (1, ⟨3, [(.v (.int .i64 v8) .no)]⟩), (2, ⟨64, [(.v (.int .i64 v9) .no), (.v (.int .i64 v10) .no), (.v (.bool v11) .no), (.v (.sl 42 v12) .no), (.v (.sl 44 v13) .no), (.v (.sl 3 v14) .no), (.v (.sl 105 v15) .no)]⟩)]]
abbrev e7E : Sh := .v (.l 3) (.c 158 (.p 0 (.p 1 (.p 2 .z))) .z)
abbrev e7u : Sh := .a (.v fI (.v fI (.v (.l 3) .z))) (.p 0 .z)
@[match_pattern] abbrev e1F (v0 v1 : Int) (v2 : List V) : Mem := [[], [(0, ⟨105, [(.v (.int .i64 v0) .no), (.v (.int .i64 v1) .no), (.v (.sl 3 v2) .no)]⟩)]]
abbrev e7M : Sh := .v fI (.a (.v fI (.v fI (.v (.l 3) .z))) (.p 0 (.p 1 .z)))
abbrev e5v : Bxs := [(90, [.n .y, .n fI, .n fI, .n (.l 58), .n (.l 64), .n (.l 47), .n (.l 44), .n (.l 67)]), (64, [.n fI, .n fI, .n .b, .n (.l 42), .n (.l 44), .n (.l 3), .n (.l 105)])]
@[match_pattern] abbrev d8s (v0 : LB) (v1 v2 : Int) (v3 v4 v5 v6 v7 : List V) (v8 v9 : Int) (v10 : Bool) (v11 v12 v13 v14 : List V) : Mem := [[], [(0, ⟨90, [(.v (.bytes v0) .no), (.v (.int .i64 v1) .no), (.v (.int .i64 v2) .no), (.v (.sl 58 v3) .no), (.v (.sl 64 v4) .no), (.v (.sl 47 v5) .no), (.v (.sl 44 v6) .no), (.v (.sl 67 v7) .no)]⟩), (1, ⟨64, [(.v (.int .i64 v8) .no), (.v (.int .i64 v9) .no), (.v (.bool v10) .no), (.v (.sl 42 v11) .no), (.v (.sl 44 v12) .no), (.v (.sl 3 v13) .no), (.v (.sl 105 v14) .no)]⟩)]]
abbrev e7A : Sh := .v (.l 105) (.c 161 (.p 0 (.p 1 .z)) .z)
abbrev e7Z : Sh := .a (.v .y (.v fI (.v fI (.v (.l 58) (.v (.l 64) (.v (.l 47) (.v (.l 44) (.v (.l 67) .z)))))))) (.v fI (.a (.v fI (.v fI (.v .b (.v (.l 42) (.v (.l 44) (.v (.l 3) (.v (.l 105) .z))))))) .z))
abbrev e5m : Sh := .a (.v .y (.v fI (.v fI (.v (.l 58) (.v (.l 64) (.v (.l 47) (.v (.l 44) (.v (.l 67) .z)))))))) (.a (.v .b (.v .b (.v fI (.v (.l 44) (.v fI (.v fI (.v fI (.v fI (.v fI (.v (.l 54) (.v (.l 107) .z))))))))))) (.a (.v fI (.v fI (.v fI (.v fI .z)))) .z))
abbrev e7R : Sh := .v fI (.a (.v fI (.v fI (.v fI (.v fI .z)))) (.p 0 (.p 1 .z)))
abbrev e6B : Bxs := [(90, [.n .y, .n fI, .n fI, .n (.l 58), .n (.l 64), .n (.l 47), .n (.l 44), .n (.l 67)]), (47, [.n .b, .n .b, .n fI, .n (.l 44), .n fI, .n fI, .n fI, .n fI, .n fI, .n (.l 54), .n (.l 107)])]
@[match_pattern] abbrev e0k (v0 : LB) (v1 v2 : Int) (v3 v4 v5 v6 v7 : List V) (v8 v9 : Bool) (v10 : Int) (v11 : List V) (v12 v13 v14 v15 v16 : Int) (v17 v18 : List V) : Mem := [[], [(0, ⟨90, [(.v (.bytes v0) .no), (.v (.int .i64 v1) .no), (.v (.int .i64 v2) .no), (.v (.sl 58 v3) .no), (.v (.sl 64 v4) .no), (.v (.sl 47 v5) .no), (.v (.sl 44 v6) .no), (.v (.sl 67 v7) .no)]⟩), (1, ⟨47, [(.v (.bool v8) .no), (.v (.bool v9) .no), (.v (.int .i64 v10) .no), (.v (.sl 44 v11) .no), (.v (.int .i64 v12) .no), (.v (.int .i64 v13) .no), (.v (.int .i64 v14) .no), (.v (.int .i64 v15) .no), (.v (.int .i64 v16) .no), (.v (.sl 54 v17) .no), (.v (.sl 107 v18) .no)]⟩)]]
abbrev e7t : Sh := .v fI (.a (.v fI (.v fI (.v fI (.v fI .z)))) (.p 0 .z))
abbrev e5A : Bxs := [(47, [.n .b, .n .b, .n fI, .n (.l 44), .n fI, .n fI, .n fI, .n fI, .n fI, .n (.l 54), .n (.l 107)])]
@[match_pattern] abbrev e1n (v0 v1 : Bool) (v2 : Int) (v3 : List V) (v4 v5 v6 v7 v8 : Int) (v9 v10 : List V) : Mem := [[], [(0, ⟨47, [(.v (.bool v0) .no), (.v (.bool v1) .no), (.v (.int .i64 v2) .no), (.v (.sl 44 v3) .no), (.v (.int .i64 v4) .no), (.v (.int .i64 v5) .no), (.v (.int .i64 v6) .no), (.v (.int .i64 v7) .no), (.v (.int .i64 v8) .no), (.v (.sl 54 v9) .no), (.v (.sl 107 v10) .no)]⟩)]]
abbrev e7p : Sh := .a (.v .y (.v fI (.v fI (.v (.l 58) (.v (.l 64) (.v (.l 47) (.v (.l 44) (.v (.l 67) .z)))))))) (.v fI (.a (.v .b (.v .b (.v fI (.v (.l 44) (.v fI (.v fI (.v fI (.v fI (.v fI (.v (.l 54) (.v (.l 107) .z))))))))))) .z))
@[match_pattern] abbrev d9u (v0 : LB) (v1 v2 : Int) : Mem := [[], [(0, ⟨67, [(.v (.bytes v0) .no), (.v (.int .i64 v1) .no), (.v (.int .i64 v2) .no)]⟩)]]
abbrev e7L : Sh := .v (.l 64) (.c 1000107 (.a (.v .y (.v fI (.v fI (.v (.l 58) (.v (.l 64) (.v (.l 47) (.v (.l 44) (.v (.l 67) .z)))))))) .z) .z)
abbrev e7C : Sh := .v (.l 47) (.c 1000109 (.a (.v .y (.v fI (.v fI (.v (.l 58) (.v (.l 64) (.v (.l 47) (.v (.l 44) (.v (.l 67) .z)))))))) .z) .z)
@[match_pattern] abbrev c3X (v0 v1 : Int) (v2 : Bool) (v3 v4 v5 v6 : List V) (v7 v8 : Int) (v9 : Bool) (v10 v11 v12 v13 : List V) : Mem := [[(2, ⟨64, [(.v (.int .i64 v0) .no), (.v (.int .i64 v1) .no), (.v (.bool v2) .no), (.v (.sl 42 v3) .no), (.v (.sl 44 v4) .no), (.v (.sl 3 v5) .no), (.v (.sl 105 v6) .no)]⟩), (3, ⟨64, [(.v (.int .i64 v7) .no), (.v (.int .i64 v8) .no), (.v (.bool v9) .no), (.v (.sl 42 v10) .no), (.v (.sl 44 v11) .no), (.v (.sl 3 v12) .no), (.v (.sl 105 v13) .no)]⟩)]]
abbrev e7q : Sh := .a (.v fI (.v fI (.v .b (.v (.l 42) (.v (.l 44) (.v (.l 3) (.v (.l 105) .z))))))) (.a (.v fI (.v fI (.v .b (.v (.l 42) (.v (.l 44) (.v (.l 3) (.v (.l 105) .z))))))) .z)
@[match_pattern] abbrev c2G (v0 v1 : Bool) (v2 : Int) (v3 : List V) (v4 v5 v6 v7 v8 : Int) (v9 v10 : List V) (v11 v12 : Bool) (v13 : Int) (v14 : List V) (v15 v16 v17 v18 v19 : Int) (v20 v21 : List V) : Mem := [[(2, ⟨47, [(.v (.bool v0) .no), (.v (.bool v1) .no), (.v (.int .i64 v2) .no), (.v (.sl 44 v3) .no), (.v (.int .i64 v4) .no), (.v (.int .i64 v5) .no), (.v (.int .i64 v6) .no), (.v (.int .i64 v7) .no), (.v (.int .i64 v8) .no), (.v (.sl 54 v9) .no), (.v (.sl 107 v10) .no)]⟩), (3, ⟨47, [(.v (.bool v11) .no), (.v (.bool v12) .no), (.v (.int .i64 v13) .no), (.v (.sl 44 v14) .no), (.v (.int .i64 v15) .no), (.v (.int .i64 v16) .no), (.v (.int .i64 v17) .no), (.v (.int .i64 v18) .no), (.v (.int .i64 v19) .no), (.v (.sl 54 v20) .no), (.v (.sl 107 v21) .no)]⟩)]]
abbrev e7W : Sh := .a (.v .b (.v .b (.v fI (.v (.l 44) (.v fI (.v fI (.v fI (.v fI (.v fI (.v (.l 54) (.v (.l 107) .z))))))))))) (.a (.v .b (.v .b (.v fI (.v (.l 44) (.v fI (.v fI (.v fI (.v fI (.v fI (.v (.l 54) (.v (.l 107) .z))))))))))) .z)
@[match_pattern] abbrev a6J (v0 : LB) (v1 v2 : Int) (v3 v4 v5 v6 v7 : List V) (v8 : LB) (v9 v10 : Int) (v11 v12 v13 v14 v15 : List V) : Mem := [[(2, ⟨29, [(.v (.bytes v0) .no), (.v (.int .i64 v1) .no), (.v (.int .i64 v2) .no), (.v (.sl 58 v3) .no), (.v (.sl 64 v4) .no), (.v (.sl 47 v5) .no), (.v (.sl 44 v6) .no), (.v (.sl 67 v7) .no)]⟩), (3, ⟨29, [(.v (.bytes v8) .no), (.v (.int .i64 v9) .no), (.v (.int .i64 v10) .no), (.v (.sl 58 v11) .no), (.v (.sl 64 v12) .no), (.v (.sl 47 v13) .no), (.v (.sl 44 v14) .no), (.v (.sl 67 v15) .no)]⟩)]]
abbrev e7P : Sh := .a (.v .y (.v fI (.v fI (.v (.l 58) (.v (.l 64) (.v (.l 47) (.v (.l 44) (.v (.l 67) .z)))))))) (.a (.v .y (.v fI (.v fI (.v (.l 58) (.v (.l 64) (.v (.l 47) (.v (.l 44) (.v (.l 67) .z)))))))) .z)
def a5O {R : Type} (s : LB -> Option (Unit)) (dst : Nat) (ds : List D) (m : Mem) (K : List D -> Mem -> Option R) : Option R :=
 match ds with
 | [.ptr (As + 1) Av 0] => a0u [(As, Av)] m fun Bs => (match Bs with
   | [⟨75, [.bld, .v (.bytes U) (.own (.slot 0) 5)]⟩] => j3 (s U) fun _ => J6 [(As, Av)] [⟨75, [.bld, .v (.bytes U) (.own (.slot 0) 5)]⟩] m fun m' => K [] m'
   | _ => none)
 | _ => none
abbrev c0E (s : LB -> Option (Unit)) : Prop := ∀ U, s U = some () -> W4 Tryz.prog T 46 [.ptr 1 0 0] [⟨75, [.bld, .v (.bytes U) (.own (.slot 0) 5)]⟩] [] [⟨75, [.bld, .v (.bytes U) (.own (.slot 0) 5)]⟩]
theorem b7L (s : LB -> Option (Unit)) (hs : c0E s) : MEO ⟨46, a5O s⟩ := by
 refine ⟨K6 Tryz.func46 (by kernel_rfl) (c := s6 Tryz.f46) (by kernel_rfl), fun R dst ds m K r h => ?_⟩
 simp only [a5O] at h
 split at h
 . obtain ⟨Bs, a1, a2, a3, h⟩ := F9 h
   split at h
   . obtain ⟨_, h1, h2⟩ := L2 h
     rw [F5] at h2
     exact ⟨_, _, h2, hs _ h1 _ _ m dst a1 a2 a3 ⟨G0 _ rfl, trivial⟩⟩
   . cases h
 . cases h
def a2g {R : Type} (s : LB -> LB -> Option (Int × LB)) (dst : Nat) (ds : List D) (m : Mem) (K : List D -> Mem -> Option R) : Option R :=
 match ds with
 | [.ptr (As + 1) Av 0, .v (.str f) .no] => a0u [(As, Av)] m fun Bs => (match Bs with
   | [⟨75, [.bld, .v (.bytes U) (.own (.slot 0) 5)]⟩] => s7 (s f U) fun r0 z0 => J6 [(As, Av)] [⟨75, [.bld, .v (.bytes z0) (.own (.slot 0) 5)]⟩] m fun m' => K [dI r0, .v .nilI .no] m'
   | _ => none)
 | _ => none
def a2i {α : Type} (K : Int -> LB -> Option α) (rs : List D) (m : Mem) : Option α :=
 match rs, m with
 | [.v (.int .i64 r0) _, .v .nilI _], [_, [(0, ⟨75, [.bld, .v (.bytes z0) (.own (.slot 0) 5)]⟩)]] => K r0 z0
 | _, _ => none
def a2k {R : Type} (N : Nat) (f U : LB) (K0 : Int -> LB -> Option R) : Option R := j3 (a2d N U) fun x0_1 => br (decide ((U.length + f.length) * 1 <= 140737488355328)) (K0 (f.length : Int) (U ++ f)) none
def p6 (N : Nat) : LB -> LB -> Option (Int × LB) := fun f U => a2k N f U (fun r0 z0 => some (r0, z0))
def a5T (N : Nat) : Cx := cxO [] [⟨46, a5O (a2d N)⟩]
theorem b0z {R : Type} (N : Nat) (f U K : _) : M2 (R := R) (a5T N) Tryz.f24 [.ptr 1 0 0, .v (.str f) .no] [J4 0 [⟨75, [.bld, .v (.bytes U) (.own (.slot 0) 5)]⟩]] (a2i K) = a2k N f U (fun r0 z0 => K r0 z0) := by
 kernel_rfl
abbrev a6L (s : LB -> LB -> Option (Int × LB)) : Prop := ∀ {f U r0 z0}, s f U = some (r0, z0) -> W4 Tryz.prog T 24 [.ptr 1 0 0, .v (.str f) .no] [⟨75, [.bld, .v (.bytes U) (.own (.slot 0) 5)]⟩] [dI r0, .v .nilI .no] [⟨75, [.bld, .v (.bytes z0) (.own (.slot 0) 5)]⟩]
theorem b4l (s : LB -> LB -> Option (Int × LB)) (hs : a6L s) : MEO ⟨24, a2g s⟩ := by
 refine ⟨K6 Tryz.func24 (by kernel_rfl) (c := s6 Tryz.f24) (by kernel_rfl), fun R dst ds m K r h => ?_⟩
 simp only [a2g] at h
 split at h
 . obtain ⟨Bs, a1, a2, a3, h⟩ := F9 h
   split at h
   . obtain ⟨r0, z0, h1, h2⟩ := a6w h
     rw [F5] at h2
     exact ⟨_, _, h2, hs h1 _ _ m dst a1 a2 a3 ⟨G0 _ rfl, M8 _, trivial⟩⟩
   . cases h
 . cases h
open Classical in
theorem b5K (N : Nat) : a6L (p6 N) := fun {f U r0 z0} h => by
 refine b1I (Bs := [⟨75, [.bld, .v (.bytes U) (.own (.slot 0) 5)]⟩]) (Bs' := [⟨75, [.bld, .v (.bytes z0) (.own (.slot 0) 5)]⟩]) (cx := a5T N) (by kernel_rfl) (a9u trivial ⟨b7L _ (c0C N), trivial⟩) Tryz.func24 (by kernel_rfl) (by kernel_rfl) (lz (by kernel_rfl)) rfl (by rfl) (by rfl) (by rfl) (rf := a2i (fun BU Z0 => some (BU, Z0))) (r := (r0, z0)) ?_ ?_
 . exact (b0z ..).trans h
 . intro rs' m' hx
   unfold a2i at hx
   split at hx
   . cases hx; exact ⟨rfl, rfl, _, rfl⟩
   . cases hx
def b0p {R : Type} (s : LB -> Option (LB)) (dst : Nat) (ds : List D) (m : Mem) (K : List D -> Mem -> Option R) : Option R :=
 match ds with
 | [.ptr (As + 1) Av 0] => a0u [(As, Av)] m fun Bs => (match Bs with
   | [⟨75, [.bld, .v (.bytes U) (.own (.slot 0) 5)]⟩] => j3 (s U) fun r0 => J6 [(As, Av)] [⟨75, [.bld, dY U]⟩] m fun m' => K [.v (.str r0) .no] m'
   | _ => none)
 | _ => none
abbrev d0Y (s : LB -> Option (LB)) : Prop := ∀ U r0, s U = some r0 -> W4 Tryz.prog T 29 [.ptr 1 0 0] [⟨75, [.bld, .v (.bytes U) (.own (.slot 0) 5)]⟩] [.v (.str r0) .no] [⟨75, [.bld, dY U]⟩]
theorem c6P (s : LB -> Option (LB)) (hs : d0Y s) : MEO ⟨29, b0p s⟩ := by
 refine ⟨K6 Tryz.func29 (by kernel_rfl) (c := s6 Tryz.f29) (by kernel_rfl), fun R dst ds m K r h => ?_⟩
 simp only [b0p] at h
 split at h
 . obtain ⟨Bs, a1, a2, a3, h⟩ := F9 h
   split at h
   . obtain ⟨r0, h1, h2⟩ := L2 h
     rw [F5] at h2
     exact ⟨_, _, h2, hs _ _ h1 _ _ m dst a1 a2 a3 ⟨G0 _ rfl, trivial⟩⟩
   . cases h
 . cases h
def c1q (N : Nat) : Ent := pE 45 (.v .s .z) (.v (.l 9) .z) (a5j N)
theorem d1p (N : Nat) : EO (c1q N) := a1E (gz Tryz.func45 (by kernel_rfl)) rfl fun h t q => d6u N h.1 t q
def d7w (N : Nat) : Ent := pE 20 (.v .s (.v .s .z)) (.v .s (.v .s (.v .b .z))) (a0I N)
theorem d6A (N : Nat) : EO (d7w N) := a1E (gz Tryz.func20 (by kernel_rfl)) rfl fun h t q => e6C N h.1 h.2.1 t.1 t.2.1 t.2.2 q
def c7N (N : Nat) : Ent := pE 40 (.v .s (.v .s .z)) (.v (.l 9) .z) (a6f N)
theorem d5B (N : Nat) : EO (c7N N) := a1E (gz Tryz.func40 (by kernel_rfl)) rfl fun h t q => d9t N h.1 h.2.1 t q
def d3V (N : Nat) : Ent := pE 48 (.v fI .z) (.v .s .z) (b4h N)
theorem e1m (N : Nat) : EO (d3V N) := a1E (gz Tryz.func48 (by kernel_rfl)) rfl fun h t q => e4d N h.1 t q
def a4p {R : Type} (N : Nat) (Aa : List V) (l1 : LB) (d : Int) (Lq : Int -> Option R) (K0 : Int -> Option R) (K1 : Option R) (i : Int) : Option R := br (decide (i < d)) (br (decide (0 <= i) && decide (i < (Aa.length : Int))) (at? Aa i.toNat fun f => f.unStr fun l1_1 => br (decide (l1 = l1_1)) (K0 i) (Lq (FK.wrap (i + 1)))) none) K1
def T4 {R : Type} (N : Nat) (Aa : List V) (l1 : LB) (d : Int) : Nat -> Int -> (Int -> Option R) -> (Option R) -> Option R | 0, _, _, _ => none | t + 1, i, K0, K1 => a4p N Aa l1 d (fun i => T4 N Aa l1 d t i K0 K1) K0 K1 i
def a7w {R : Type} (N : Nat) (ds : List D) (m : Mem) (K : Ex -> List D -> Mem -> Option R) : Option R :=
 match ds, m with
 | [(.v (.sl 9 Aa) .no), (.v (.str l1) .no), (.v (.int .i64 d) .no), (.v (.int .i64 i) .no)], [[]] => T4 N Aa l1 d N i (fun a0 => K .ret [(.v (.int .i64 a0) .no)] [[]]) (K (.exit 0) [.any] [[]])
 | _, _ => none
def a5h (N : Nat) (f : List V) (x1 : LB) : Option (Int) := T4 N f x1 (f.length : Int) N 0 (fun j => some j) (some (-1))
def b6x (N : Nat) : Cx := cl [] [] [⟨2, [0, 1, 7, 8], [4], a7w N⟩]
theorem c3u (N : Nat) : p9 (b6x N) 19 (s4 Tryz.f41 0) := by
 refine j7 (rid := 2) (by kernel_rfl) rfl rfl fun R ds m K r h => ?_
 change a7w N ds m K = _ at h
 unfold a7w at h
 split at h
 . rename_i Aa l1 d i
   exact ⟨N, Gr (lpI (fun (e : (Int -> Option R) × (Option R)) L (s : Int) => a4p N Aa l1 d (fun i => L i) e.1 e.2 s) (fun e t s => T4 N Aa l1 d t s e.1 e.2) (fun s => [(.v (.sl 9 Aa) .no), (.v (.str l1) .no), (.v (.int .i64 d) .no), (.v (.int .i64 s) .no)]) (fun s => [[]]) (fun _ _ => rfl) (fun _ _ _ => rfl) (e := (_, _)) (fun L s => by kernel_rfl) N i) h⟩
 . cases h
def b2j (N : Nat) : Ent := pE 41 (.v (.l 9) (.v .s .z)) (.v fI .z) (a5h N)
theorem b7A (N : Nat) : EO (b2j N) := pk (cx := b6x N) (D4 trivial trivial) Tryz.func41 (j6 (k := 1) (by kernel_rfl) ⟨trivial, c3u N⟩) (by kernel_rfl) fun h => by kernel_rfl
def W8 (N : Nat) (f : Int) : Option (Int × Int × Int) := br (decide (f = 1)) (some (1, 0, 0)) (br (decide (f = 3)) (some (2, 0, 0)) (br (decide (f = 4)) (some (2, 0, 0)) (br (decide (f = 5)) (some (2, 3, 0)) (br (decide (21 <= f)) (br (decide (f <= 32)) (some (4, 0, 0)) (br (decide (f = 33)) (some (5, 6, 0)) (br (decide (f = 51)) (some (5, 6, 0)) (br (decide (f = 52)) (some (5, 6, 0)) (br (decide (f = 34)) (some (7, 0, 0)) (br (decide (f = 42)) (some (5, 6, 8)) (br (decide (f = 43)) (some (5, 6, 8)) (br (decide (f = 44)) (some (9, 0, 0)) (br (decide (f = 45)) (some (9, 0, 0)) (br (decide (f = 46)) (some (10, 11, 0)) (br (decide (f = 47)) (some (5, 6, 12)) (br (decide (f = 48)) (some (5, 6, 12)) (br (decide (f = 53)) (some (13, 0, 0)) (some (0, 0, 0))))))))))))))) (br (decide (f = 33)) (some (5, 6, 0)) (br (decide (f = 51)) (some (5, 6, 0)) (br (decide (f = 52)) (some (5, 6, 0)) (br (decide (f = 34)) (some (7, 0, 0)) (br (decide (f = 42)) (some (5, 6, 8)) (br (decide (f = 43)) (some (5, 6, 8)) (br (decide (f = 44)) (some (9, 0, 0)) (br (decide (f = 45)) (some (9, 0, 0)) (br (decide (f = 46)) (some (10, 11, 0)) (br (decide (f = 47)) (some (5, 6, 12)) (br (decide (f = 48)) (some (5, 6, 12)) (br (decide (f = 53)) (some (13, 0, 0)) (some (0, 0, 0))))))))))))))))))
def d0O (N : Nat) : Cx := cz [] []
def a2Y (N : Nat) : Ent := pE 26 (.v fI .z) (.a (.v fI (.v fI (.v fI .z))) .z) (W8 N)
theorem a2V (N : Nat) : EO (a2Y N) := pk0 (cx := d0O N) (A9 trivial trivial) Tryz.func26 (by kernel_rfl) fun h => by kernel_rfl
def N5 (N : Nat) (f x1 : Int) : Option (Int × Int) := br (decide (f = 1)) (some (-2147483648, 2147483647)) (br (decide (f = 2)) (some (0, 15)) (br (decide (f = 3)) (some (-128, 127)) (br (decide (f = 4)) (some (0, 255)) (br (decide (f = 5)) (some (0, 4)) (br (decide (f = 10)) (some (0, 4)) (br (decide (f = 6)) (br (decide (x1 = 255)) (some (0, 1)) (some (0, 31))) (br (decide (f = 7)) (some (2, 4)) (br (decide (f = 8)) (some (0, 15)) (br (decide (f = 9)) (some (0, 255)) (br (decide (f = 11)) (some (0, 63)) (br (decide (f = 12)) (some (0, 15)) (br (decide (f = 13)) (some (0, 14)) (some (0, 0))))))))))))))
def c9Z (N : Nat) : Cx := cz [] []
def c0L (N : Nat) : Ent := pE 92 (.v fI (.v fI .z)) (.v fI (.v fI .z)) (N5 N)
theorem c9G (N : Nat) : EO (c0L N) := pk0 (cx := c9Z N) (A9 trivial trivial) Tryz.func92 (by kernel_rfl) fun h => by kernel_rfl
def Z7 (N : Nat) (f x1 x2 x3 : Int) : Option (Int × Int × Int) := some (x1, x2, x3)
def c1f (N : Nat) : Cx := cz [] []
def a4q (N : Nat) : Ent := pE 25 sh0 (.a (.v fI (.v fI (.v fI .z))) .z) (Z7 N)
theorem a5l (N : Nat) : EO (a4q N) := pk0 (cx := c1f N) (A9 trivial trivial) Tryz.func25 (by kernel_rfl) fun h => by kernel_rfl
def b4Y {R : Type} (N : Nat) (j u d x O n6 n7 n8 n9 na : Int) (Lq : Int -> Option R) (K0 : Int -> Option R) (K1 : Option R) (i : Int) : Option R := br (decide (i < 3)) (br (decide (i = 0)) (br (decide (i = 0)) (br (decide (j = 0)) (br (!decide (n8 = 0)) (K0 4) (Lq (FK.wrap (i + 1)))) (s7 (N5 N j O) fun n0_1 u => br (decide (n8 < n0_1)) (br (decide (j = 5)) (br (!decide (n8 = 255)) (K0 2) (Lq (FK.wrap (i + 1)))) (K0 2)) (br (decide (u < n8)) (br (decide (j = 5)) (br (!decide (n8 = 255)) (K0 2) (Lq (FK.wrap (i + 1)))) (K0 2)) (Lq (FK.wrap (i + 1)))))) (br (decide (i = 1)) (br (decide (j = 0)) (br (!decide (n9 = 0)) (K0 4) (Lq (FK.wrap (i + 1)))) (s7 (N5 N j O) fun d n3_1 => br (decide (n9 < d)) (br (decide (j = 5)) (br (!decide (n9 = 255)) (K0 2) (Lq (FK.wrap (i + 1)))) (K0 2)) (br (decide (n3_1 < n9)) (br (decide (j = 5)) (br (!decide (n9 = 255)) (K0 2) (Lq (FK.wrap (i + 1)))) (K0 2)) (Lq (FK.wrap (i + 1)))))) (br (decide (i = 2)) (br (decide (j = 0)) (br (!decide (na = 0)) (K0 4) (Lq (FK.wrap (i + 1)))) (s7 (N5 N j O) fun x O => br (decide (na < x)) (br (decide (j = 5)) (br (!decide (na = 255)) (K0 2) (Lq (FK.wrap (i + 1)))) (K0 2)) (br (decide (O < na)) (br (decide (j = 5)) (br (!decide (na = 255)) (K0 2) (Lq (FK.wrap (i + 1)))) (K0 2)) (Lq (FK.wrap (i + 1)))))) none))) (br (decide (i = 1)) (br (decide (i = 0)) (br (decide (u = 0)) (br (!decide (n8 = 0)) (K0 4) (Lq (FK.wrap (i + 1)))) (s7 (N5 N u O) fun n6 n7 => br (decide (n8 < n6)) (br (decide (u = 5)) (br (!decide (n8 = 255)) (K0 2) (Lq (FK.wrap (i + 1)))) (K0 2)) (br (decide (n7 < n8)) (br (decide (u = 5)) (br (!decide (n8 = 255)) (K0 2) (Lq (FK.wrap (i + 1)))) (K0 2)) (Lq (FK.wrap (i + 1)))))) (br (decide (i = 1)) (br (decide (u = 0)) (br (!decide (n9 = 0)) (K0 4) (Lq (FK.wrap (i + 1)))) (s7 (N5 N u O) fun n8 n9_1 => br (decide (n9 < n8)) (br (decide (u = 5)) (br (!decide (n9 = 255)) (K0 2) (Lq (FK.wrap (i + 1)))) (K0 2)) (br (decide (n9_1 < n9)) (br (decide (u = 5)) (br (!decide (n9 = 255)) (K0 2) (Lq (FK.wrap (i + 1)))) (K0 2)) (Lq (FK.wrap (i + 1)))))) (br (decide (i = 2)) (br (decide (u = 0)) (br (!decide (na = 0)) (K0 4) (Lq (FK.wrap (i + 1)))) (s7 (N5 N u O) fun n10_1 nb => br (decide (na < n10_1)) (br (decide (u = 5)) (br (!decide (na = 255)) (K0 2) (Lq (FK.wrap (i + 1)))) (K0 2)) (br (decide (nb < na)) (br (decide (u = 5)) (br (!decide (na = 255)) (K0 2) (Lq (FK.wrap (i + 1)))) (K0 2)) (Lq (FK.wrap (i + 1)))))) none))) (br (decide (i = 2)) (br (decide (i = 0)) (br (decide (d = 0)) (br (!decide (n8 = 0)) (K0 4) (Lq (FK.wrap (i + 1)))) (s7 (N5 N d O) fun nc nd => br (decide (n8 < nc)) (br (decide (d = 5)) (br (!decide (n8 = 255)) (K0 2) (Lq (FK.wrap (i + 1)))) (K0 2)) (br (decide (nd < n8)) (br (decide (d = 5)) (br (!decide (n8 = 255)) (K0 2) (Lq (FK.wrap (i + 1)))) (K0 2)) (Lq (FK.wrap (i + 1)))))) (br (decide (i = 1)) (br (decide (d = 0)) (br (!decide (n9 = 0)) (K0 4) (Lq (FK.wrap (i + 1)))) (s7 (N5 N d O) fun Af nf => br (decide (n9 < Af)) (br (decide (d = 5)) (br (!decide (n9 = 255)) (K0 2) (Lq (FK.wrap (i + 1)))) (K0 2)) (br (decide (nf < n9)) (br (decide (d = 5)) (br (!decide (n9 = 255)) (K0 2) (Lq (FK.wrap (i + 1)))) (K0 2)) (Lq (FK.wrap (i + 1)))))) (br (decide (i = 2)) (br (decide (d = 0)) (br (!decide (na = 0)) (K0 4) (Lq (FK.wrap (i + 1)))) (s7 (N5 N d O) fun ng nh => br (decide (na < ng)) (br (decide (d = 5)) (br (!decide (na = 255)) (K0 2) (Lq (FK.wrap (i + 1)))) (K0 2)) (br (decide (nh < na)) (br (decide (d = 5)) (br (!decide (na = 255)) (K0 2) (Lq (FK.wrap (i + 1)))) (K0 2)) (Lq (FK.wrap (i + 1)))))) none))) none))) K1
def I6 {R : Type} (N : Nat) (j u d x O n6 n7 n8 n9 na : Int) : Nat -> Int -> (Int -> Option R) -> (Option R) -> Option R | 0, _, _, _ => none | t + 1, i, K0, K1 => b4Y N j u d x O n6 n7 n8 n9 na (fun i => I6 N j u d x O n6 n7 n8 n9 na t i K0 K1) K0 K1 i
def a7L {R : Type} (N : Nat) (ds : List D) (m : Mem) (K : Ex -> List D -> Mem -> Option R) : Option R :=
 match ds, m with
 | [(.ptr 0 1 0), (.ptr 0 3 0), (.agg [(.v (.int .i64 j) .no), (.v (.int .i64 u) .no), (.v (.int .i64 d) .no)]), (.v (.int .i64 i) .no)], mm0 x O n6 n7 n8 n9 na => I6 N j u d x O n6 n7 n8 n9 na N i (fun a0 => K .ret [(.ptr 0 1 0), (.v (.int .i64 a0) .no), (.ptr 0 3 0)] (mm0 x O n6 n7 n8 n9 na)) (K (.exit 0) [(.ptr 0 1 0), .any, (.ptr 0 3 0)] (mm0 x O n6 n7 n8 n9 na))
 | _, _ => none
def O7 (N : Nat) (f x1 x2 x3 : Int) : Option (Int) := br (decide (f < 0)) (some 4) (br (decide (54 <= f)) (some 4) (T6 (Z7 N f x1 x2 x3) fun j u d => T6 (W8 N f) fun i x O => I6 N i x O f x1 x2 x3 j u d N 0 (fun n6 => some n6) (some 0)))
def b7f (N : Nat) : Cx := cl [a4q N, a2Y N, c0L N] [] [⟨5, [1, 3, 21, 22], [1, 2, 3], a7L N⟩]
theorem c1X (N : Nat) : p9 (b7f N) 58 (s4 Tryz.f44 0) := by
 refine j7 (rid := 5) (by kernel_rfl) rfl rfl fun R ds m K r h => ?_
 change a7L N ds m K = _ at h
 unfold a7L at h
 split at h
 . rename_i j u d i x O n6 n7 n8 n9 na
   exact ⟨N, Gr (lpI (fun (e : (Int -> Option R) × (Option R)) L (s : Int) => b4Y N j u d x O n6 n7 n8 n9 na (fun i => L i) e.1 e.2 s) (fun e t s => I6 N j u d x O n6 n7 n8 n9 na t s e.1 e.2) (fun s => [(.ptr 0 1 0), (.ptr 0 3 0), (.agg [(.v (.int .i64 j) .no), (.v (.int .i64 u) .no), (.v (.int .i64 d) .no)]), (.v (.int .i64 s) .no)]) (fun s => mm0 x O n6 n7 n8 n9 na) (fun _ _ => rfl) (fun _ _ _ => rfl) (e := (_, _)) (fun L s => by kernel_rfl) N i) h⟩
 . cases h
def a4Z (N : Nat) : Ent := pE 44 sh0 (.v fI .z) (O7 N)
theorem a6l (N : Nat) : EO (a4Z N) := pk (cx := b7f N) (D4 ⟨a5l N, a2V N, c9G N, trivial⟩ trivial) Tryz.func44 (j6 (k := 1) (by kernel_rfl) ⟨trivial, c1X N⟩) (by kernel_rfl) fun h => by kernel_rfl
def O8 {R : Type} (N : Nat) (K0 : LB -> List V -> Int -> Int -> Int -> Int -> Int -> Int -> Int -> Int -> Int -> Option R) (w : LB) (Ab : List V) (d i x O n6 n8 n9 na nb nc nd Af : Int) : Option R := K0 w Ab d i n8 n9 na nb nc nd Af
def P2 {R : Type} (N : Nat) (K0 : LB -> List V -> Int -> Int -> Int -> Int -> Int -> Int -> Int -> Int -> Int -> Option R) (w : LB) (Ab : List V) (d i x O n6 n8 n9 na nb nc nd Af : Int) : Option R := br (decide (n6 = 0)) (O8 N K0 w Ab d i x O n6 n8 n9 na nb nc nd Af) (br (decide (n6 = 1)) (br (decide ((w.length + [FR (FX.wrap (G8 FK Af 24)).toNat, FR (FX.wrap (G8 FK Af 16)).toNat, FR (FX.wrap (G8 FK Af 8)).toNat, FR (FX.wrap Af).toNat].length) * 1 <= 140737488355328)) (O8 N K0 (w ++ [FR (FX.wrap (G8 FK Af 24)).toNat, FR (FX.wrap (G8 FK Af 16)).toNat, FR (FX.wrap (G8 FK Af 8)).toNat, FR (FX.wrap Af).toNat]) Ab d i x O n6 n8 n9 na nb nc nd Af) none) (br (decide ((w.length + [FR (FX.wrap Af).toNat].length) * 1 <= 140737488355328)) (O8 N K0 (w ++ [FR (FX.wrap Af).toNat]) Ab d i x O n6 n8 n9 na nb nc nd Af) none))
def O6 {R : Type} (N : Nat) (K0 : LB -> List V -> Int -> Int -> Int -> Int -> Int -> Int -> Int -> Int -> Int -> Option R) (w : LB) (Ab : List V) (d i x O n6 n8 n9 na nb nc nd Af : Int) : Option R := br (decide (O = 0)) (P2 N K0 w Ab d i x O n6 n8 n9 na nb nc nd Af) (br (decide (O = 1)) (br (decide ((w.length + [FR (FX.wrap (G8 FK nd 24)).toNat, FR (FX.wrap (G8 FK nd 16)).toNat, FR (FX.wrap (G8 FK nd 8)).toNat, FR (FX.wrap nd).toNat].length) * 1 <= 140737488355328)) (P2 N K0 (w ++ [FR (FX.wrap (G8 FK nd 24)).toNat, FR (FX.wrap (G8 FK nd 16)).toNat, FR (FX.wrap (G8 FK nd 8)).toNat, FR (FX.wrap nd).toNat]) Ab d i x O n6 n8 n9 na nb nc nd Af) none) (br (decide ((w.length + [FR (FX.wrap nd).toNat].length) * 1 <= 140737488355328)) (P2 N K0 (w ++ [FR (FX.wrap nd).toNat]) Ab d i x O n6 n8 n9 na nb nc nd Af) none))
def O9 {R : Type} (N : Nat) (K0 : LB -> List V -> Int -> Int -> Int -> Int -> Int -> Int -> Int -> Int -> Int -> Option R) (w : LB) (Ab : List V) (d i x O n6 n8 n9 na nb nc nd Af : Int) : Option R := br (decide (x = 0)) (O6 N K0 w Ab d i x O n6 n8 n9 na nb nc nd Af) (br (decide (x = 1)) (br (decide ((w.length + [FR (FX.wrap (G8 FK nc 24)).toNat, FR (FX.wrap (G8 FK nc 16)).toNat, FR (FX.wrap (G8 FK nc 8)).toNat, FR (FX.wrap nc).toNat].length) * 1 <= 140737488355328)) (O6 N K0 (w ++ [FR (FX.wrap (G8 FK nc 24)).toNat, FR (FX.wrap (G8 FK nc 16)).toNat, FR (FX.wrap (G8 FK nc 8)).toNat, FR (FX.wrap nc).toNat]) Ab d i x O n6 n8 n9 na nb nc nd Af) none) (br (decide ((w.length + [FR (FX.wrap nc).toNat].length) * 1 <= 140737488355328)) (O6 N K0 (w ++ [FR (FX.wrap nc).toNat]) Ab d i x O n6 n8 n9 na nb nc nd Af) none))
def a3P {R : Type} (N : Nat) (ds : List D) (m : Mem) (K : Ex -> List D -> Mem -> Option R) : Option R :=
 match ds, m with
 | [(.v (.bytes w) (.own (.slot 4) 5)), (.ptr 0 6 0), (.ptr 0 8 0), (.v (.sl 54 Ab) .no), (.v (.int .i64 d) .no), (.v (.int .i64 i) .no), (.agg [(.v (.int .i64 x) .no), (.v (.int .i64 O) .no), (.v (.int .i64 n6) .no)]), (.v (.int .i64 n7) .no)], [[(6, ⟨54, [(.v (.int .i64 n8) .no), (.v (.int .i64 n9) .no), (.v (.int .i64 na) .no), (.v (.int .i64 nb) .no)]⟩), (8, ⟨82, [(.v (.int .i64 nc) .no), (.v (.int .i64 nd) .no), (.v (.int .i64 Af) .no)]⟩)]] => cond ((decide (n7 = 0) && true)) (O9 N (fun a0 a1 a2 a3 a4 a5 a6 a7 a8 a9 AN => K (.exit 2) [(.v (.bytes a0) (.own (.slot 4) 5)), (.ptr 0 6 0), (.ptr 0 8 0), (.v (.sl 54 a1) .no), (.v (.int .i64 a2) .no), (.v (.int .i64 a3) .no)] [[(6, ⟨54, [(.v (.int .i64 a4) .no), (.v (.int .i64 a5) .no), (.v (.int .i64 a6) .no), (.v (.int .i64 a7) .no)]⟩), (8, ⟨82, [(.v (.int .i64 a8) .no), (.v (.int .i64 a9) .no), (.v (.int .i64 AN) .no)]⟩)]]) w Ab d i x O n6 n8 n9 na nb nc nd Af) none
 | _, _ => none
def a0z {R : Type} (N : Nat)  (Lq : LB -> List V -> Int -> Int -> Option R) (K0 : LB -> Int -> LB -> Option R) (K1 : LB -> Option R) (w : LB) (Ab : List V) (d i : Int) : Option R := br (decide (i < d)) (br (decide (0 <= i) && decide (i < (Ab.length : Int))) (at? Ab i.toNat fun f => f.unAgg fun l1 => e9 l1 fun x2 l3 => V.unInt FK x2 fun x => e9 l3 fun x5 l6 => V.unInt FK x5 fun n7 => e9 l6 fun x8 l9 => V.unInt FK x8 fun na => e9 l9 fun xb Ax => V.unInt FK xb fun nd => D2 Ax (j3 (O7 N x n7 na nd) fun Af => br (!decide (Af = 0)) (K0 [] Af w) (br (decide ((w.length + [FR (FX.wrap x).toNat].length) * 1 <= 140737488355328)) (T6 (Z7 N x n7 na nd) fun nf ng nh => T6 (W8 N x) fun ni nj nk => O9 N (fun ll AP nn AD AE AK nr ns nt nu nv => Lq ll AP nn (FK.wrap (AD + 1))) (w ++ [FR (FX.wrap x).toNat]) Ab d i ni nj nk x n7 na nd nf ng nh) none))) none) (K1 w)
def Q5 {R : Type} (N : Nat)  : Nat -> LB -> List V -> Int -> Int -> (LB -> Int -> LB -> Option R) -> (LB -> Option R) -> Option R | 0, _, _, _, _, _, _ => none | t + 1, w, Ab, d, i, K0, K1 => a0z N  (fun w Ab d i => Q5 N  t w Ab d i K0 K1) K0 K1 w Ab d i
def a5J {R : Type} (N : Nat) (ds : List D) (m : Mem) (K : Ex -> List D -> Mem -> Option R) : Option R :=
 match ds, m with
 | [(.v (.bytes w) (.own (.slot 4) 5)), (.v (.sl 54 Ab) .no), (.v (.int .i64 d) .no), (.v (.int .i64 i) .no)], [[]] => Q5 N  N w Ab d i (fun a0 a1 a2 => K .ret [(.v (.bytes a0) (.own (.slot 2) 5)), (.v (.int .i64 a1) .no), (.v (.bytes a2) (.own (.slot 4) 5))] [[]]) (fun a0 => K (.exit 0) [.any, .any, (.v (.bytes a0) (.own (.slot 4) 5))] [[]])
 | _, _ => none
def a3a (N : Nat) (f : List V) : Option (LB × Int) := br (decide (256 < (f.length : Int))) (some ([], 3)) (Q5 N N [] f (f.length : Int) 0 (fun w u l2 => some (w, u)) fun l3 => some (l3, 0))
def a0c (N : Nat) : Cx := cl [a4Z N, a4q N, a2Y N] [] [⟨5, [4, 14, 15, 16], [2, 3, 4], a5J N⟩, ⟨13, [4, 6, 8, 14, 15, 16, 35, 36], [4, 6, 8, 14, 15, 16], a3P N⟩]
theorem b1w {R : Type} (N : Nat) (w : LB) (Ab : List V) (d i x O n6 n8 n9 na nb nc nd Af : Int) (K : Ex -> List D -> Mem -> Option R) : P1 (fun st K => codeK (a0c N) (s4 Tryz.f22 1) st K) 77 [4, 6, 8, 14, 15, 16, 35, 36] [4, 6, 8, 14, 15, 16] 4 [(.v (.bytes w) (.own (.slot 4) 5)), (.ptr 0 6 0), (.ptr 0 8 0), (.v (.sl 54 Ab) .no), (.v (.int .i64 d) .no), (.v (.int .i64 i) .no), (.agg [(.v (.int .i64 x) .no), (.v (.int .i64 O) .no), (.v (.int .i64 n6) .no)]), (.v (.int .i64 0) .no)] [[(6, ⟨54, [(.v (.int .i64 n8) .no), (.v (.int .i64 n9) .no), (.v (.int .i64 na) .no), (.v (.int .i64 nb) .no)]⟩), (8, ⟨82, [(.v (.int .i64 nc) .no), (.v (.int .i64 nd) .no), (.v (.int .i64 Af) .no)]⟩)]] K = O9 N (fun a0 a1 a2 a3 a4 a5 a6 a7 a8 a9 AN => K (.exit 2) [(.v (.bytes a0) (.own (.slot 4) 5)), (.ptr 0 6 0), (.ptr 0 8 0), (.v (.sl 54 a1) .no), (.v (.int .i64 a2) .no), (.v (.int .i64 a3) .no)] [[(6, ⟨54, [(.v (.int .i64 a4) .no), (.v (.int .i64 a5) .no), (.v (.int .i64 a6) .no), (.v (.int .i64 a7) .no)]⟩), (8, ⟨82, [(.v (.int .i64 a8) .no), (.v (.int .i64 a9) .no), (.v (.int .i64 AN) .no)]⟩)]]) w Ab d i x O n6 n8 n9 na nb nc nd Af := by
 kernel_rfl
theorem b2A {R : Type} (N : Nat)  (w : LB) (Ab : List V) (d i : Int) (L : List D -> Mem -> Option R) (K : Ex -> List D -> Mem -> Option R) :
 W3 (fun st K => codeK (a0c N) (s4 Tryz.f22 0) st K) 77 [4, 14, 15, 16] [2, 3, 4] L [(.v (.bytes w) (.own (.slot 4) 5)), (.v (.sl 54 Ab) .no), (dI d), (dI i)] [[]] K = a0z N  (fun w Ab d i => L [(.v (.bytes w) (.own (.slot 4) 5)), (.v (.sl 54 Ab) .no), (dI d), (dI i)] [[]]) (fun a0 a1 a2 => K .ret [(.v (.bytes a0) (.own (.slot 2) 5)), (dI a1), (.v (.bytes a2) (.own (.slot 4) 5))] [[]]) (fun a0 => K (.exit 0) [.any, .any, (.v (.bytes a0) (.own (.slot 4) 5))] [[]]) w Ab d i := by
 kernel_rfl
theorem a4P {R : Type} (N : Nat)  (K : Ex -> List D -> Mem -> Option R) : ∀ (t : Nat) (w : LB) (Ab : List V) (d i : Int),
 P1 (fun st K => codeK (a0c N) (s4 Tryz.f22 0) st K) 77 [4, 14, 15, 16] [2, 3, 4] t [(.v (.bytes w) (.own (.slot 4) 5)), (.v (.sl 54 Ab) .no), (dI d), (dI i)] [[]] K = Q5 N  t w Ab d i (fun a0 a1 a2 => K .ret [(.v (.bytes a0) (.own (.slot 2) 5)), (dI a1), (.v (.bytes a2) (.own (.slot 4) 5))] [[]]) (fun a0 => K (.exit 0) [.any, .any, (.v (.bytes a0) (.own (.slot 4) 5))] [[]])
 | 0, w, Ab, d, i => rfl
 | t + 1, w, Ab, d, i => (b2A N  w Ab d i _ K).trans (congrArg (fun L => a0z N  L (fun a0 a1 a2 => K .ret [(.v (.bytes a0) (.own (.slot 2) 5)), (dI a1), (.v (.bytes a2) (.own (.slot 4) 5))] [[]]) (fun a0 => K (.exit 0) [.any, .any, (.v (.bytes a0) (.own (.slot 4) 5))] [[]]) w Ab d i) (funext fun w => funext fun Ab => funext fun d => funext fun i => a4P N  K t w Ab d i))
theorem b8Q (N : Nat) : p9 (a0c N) 77 (s4 Tryz.f22 0) := by
 refine j7 (rid := 5) (by kernel_rfl) rfl rfl fun R ds m K r h => ?_
 have h : a5J N ds m K = some r := h
 unfold a5J at h
 split at h
 . exact ⟨N, Gr (a4P ..) h⟩
 . cases h
theorem b5S (N : Nat) : p9 (a0c N) 77 (s4 Tryz.f22 1) := by
 refine j7 (rid := 13) (by kernel_rfl) rfl rfl fun R ds m K r h => ?_
 have h : a3P N ds m K = some r := h
 unfold a3P at h
 split at h
 . rcases j8 h with ⟨hc, hq⟩ | ⟨_, hq⟩
   . simp only [Bool.and_eq_true, decide_eq_true_eq] at hc
     obtain ⟨rfl, _⟩ := hc
     refine ⟨4, ?_⟩
     show P1 _ _ [4, 6, 8, 14, 15, 16, 35, 36] [4, 6, 8, 14, 15, 16] _ _ _ _ = _
     rw [b1w]
     exact hq
   . cases hq
 . cases h
def a9I (N : Nat) : Ent := pE 22 (.v (.l 54) .z) (.v .y (.v fI .z)) (a3a N)
theorem b4A (N : Nat) : EO (a9I N) := pk (cx := a0c N) (D4 ⟨a6l N, a5l N, a2V N, trivial⟩ trivial) Tryz.func22 (j6 (k := 2) (by kernel_rfl) ⟨⟨trivial, b8Q N⟩, b5S N⟩) (by kernel_rfl) fun h => by kernel_rfl
def Z4 (N : Nat) (f : Int) (x1 : LB) : Option (Int × Int) := br (decide (f = 1)) (br (decide (4 <= (x1.length : Int))) (br (decide (0 < (x1.length : Int))) (at? x1 0 fun u0 => br (decide (1 < (x1.length : Int))) (at? x1 1 fun u1 => br (decide (2 < (x1.length : Int))) (at? x1 2 fun u2 => br (decide (3 < (x1.length : Int))) (at? x1 3 fun u3 => some (FK.wrap (IntKind.i32.wrap (j9 BinOp.or FL (j9 BinOp.or FL (j9 BinOp.or FL (a0q FL (FL.wrap (u0.toNat : Int)) 24) (a0q FL (FL.wrap (u1.toNat : Int)) 16)) (a0q FL (FL.wrap (u2.toNat : Int)) 8)) (FL.wrap (u3.toNat : Int)))), 4)) none) none) none) none) (br (decide (f = 1)) (some (0, 0)) (br (decide ((x1.length : Int) = 0)) (some (0, 0)) (br (decide (f = 3)) (br (decide (0 < (x1.length : Int))) (at? x1 0 fun u4 => some (FK.wrap (KN.wrap (u4.toNat : Int)), 1)) none) (br (decide (0 < (x1.length : Int))) (at? x1 0 fun u5 => some (FK.wrap (u5.toNat : Int), 1)) none))))) (br (decide (f = 1)) (some (0, 0)) (br (decide ((x1.length : Int) = 0)) (some (0, 0)) (br (decide (f = 3)) (br (decide (0 < (x1.length : Int))) (at? x1 0 fun u6 => some (FK.wrap (KN.wrap (u6.toNat : Int)), 1)) none) (br (decide (0 < (x1.length : Int))) (at? x1 0 fun u7 => some (FK.wrap (u7.toNat : Int), 1)) none))))
def c4o (N : Nat) : Cx := cz [] []
def b7x (N : Nat) : Ent := pE 196 (.v fI (.v .y .z)) (.v fI (.v fI .z)) (Z4 N)
theorem c6f (N : Nat) : EO (b7x N) := pk0 (cx := c4o N) (A9 trivial trivial) Tryz.func196 (by kernel_rfl) fun h => by kernel_rfl
def a4w {R : Type} (N : Nat) (u d i x n6 n7 n8 n9 : Int) (Lq : LB -> Int -> Int -> Int -> Int -> Option R) (K0 : LB -> LB -> Int -> Int -> Int -> Int -> Int -> Int -> Int -> Int -> Option R) (K1 : LB -> Int -> Int -> Int -> Option R) (w : LB) (O na nb nc : Int) : Option R := br (decide (O < 3)) (br (decide (O = 0)) (br (decide (d = 0)) (Lq w (FK.wrap (O + 1)) na nb nc) (s7 (Z4 N d w) fun j u => br (decide (u = 0)) (K0 w [] 5 0 0 0 0 na nb nc) (br (decide (0 <= u) && decide (u <= (w.length : Int))) (br (decide (O = 0)) (Lq (Gi u.toNat w) (FK.wrap (O + 1)) j nb nc) (br (decide (O = 1)) (Lq (Gi u.toNat w) (FK.wrap (O + 1)) na j nc) (br (decide (O = 2)) (Lq (Gi u.toNat w) (FK.wrap (O + 1)) na nb j) none))) none))) (br (decide (O = 1)) (br (decide (i = 0)) (Lq w (FK.wrap (O + 1)) na nb nc) (s7 (Z4 N i w) fun d i => br (decide (i = 0)) (K0 w [] 5 0 0 0 0 na nb nc) (br (decide (0 <= i) && decide (i <= (w.length : Int))) (br (decide (O = 0)) (Lq (Gi i.toNat w) (FK.wrap (O + 1)) d nb nc) (br (decide (O = 1)) (Lq (Gi i.toNat w) (FK.wrap (O + 1)) na d nc) (br (decide (O = 2)) (Lq (Gi i.toNat w) (FK.wrap (O + 1)) na nb d) none))) none))) (br (decide (O = 2)) (br (decide (x = 0)) (Lq w (FK.wrap (O + 1)) na nb nc) (s7 (Z4 N x w) fun x n5_1 => br (decide (n5_1 = 0)) (K0 w [] 5 0 0 0 0 na nb nc) (br (decide (0 <= n5_1) && decide (n5_1 <= (w.length : Int))) (br (decide (O = 0)) (Lq (Gi n5_1.toNat w) (FK.wrap (O + 1)) x nb nc) (br (decide (O = 1)) (Lq (Gi n5_1.toNat w) (FK.wrap (O + 1)) na x nc) (br (decide (O = 2)) (Lq (Gi n5_1.toNat w) (FK.wrap (O + 1)) na nb x) none))) none))) none))) (K1 w na nb nc)
def D0 {R : Type} (N : Nat) (u d i x n6 n7 n8 n9 : Int) : Nat -> LB -> Int -> Int -> Int -> Int -> (LB -> LB -> Int -> Int -> Int -> Int -> Int -> Int -> Int -> Int -> Option R) -> (LB -> Int -> Int -> Int -> Option R) -> Option R | 0, _, _, _, _, _, _, _ => none | t + 1, w, O, na, nb, nc, K0, K1 => a4w N u d i x n6 n7 n8 n9 (fun w O na nb nc => D0 N u d i x n6 n7 n8 n9 t w O na nb nc K0 K1) K0 K1 w O na nb nc
@[match_pattern] abbrev a2D (w : LB) (u d i x O : Int) : List D := [(.v (.bytes w) .no), (.ptr 0 2 0), (.v (.int .i64 u) .no), (.ptr 0 6 0), .any, (.agg [(.v (.int .i64 d) .no), (.v (.int .i64 i) .no), (.v (.int .i64 x) .no)]), (.v (.int .i64 O) .no)]
def a0C {R : Type} (N : Nat) (ds : List D) (m : Mem) (K : Ex -> List D -> Mem -> Option R) : Option R :=
 match ds, m with
 | a2D w u d i x O, mm1 n6 n7 n8 n9 na nb nc => D0 N u d i x n6 n7 n8 n9 N w O na nb nc (fun a0 a1 a2 a4 a5 a6 a7 a8 a9 AN => K .ret [(.v (.bytes a0) .no), (.ptr 0 2 0), (.v (.bytes a1) (.own (.slot 3) 5)), (.v (.int .i64 a2) .no), (.v (.int .i64 u) .no), (.ptr 0 6 0), .any] (mm1 a4 a5 a6 a7 a8 a9 AN)) (fun a0 a6 a7 a8 => K (.exit 0) [(.v (.bytes a0) .no), (.ptr 0 2 0), .any, .any, (.v (.int .i64 u) .no), (.ptr 0 6 0), .any] (mm1 n6 n7 n8 n9 a6 a7 a8))
 | _, _ => none
def a0j (N : Nat) (f : LB) : Option (Int × Int × Int × Int × LB × Int) := br (decide (0 < (f.length : Int))) (at? f 0 fun u0 => br (decide (54 <= FK.wrap (u0.toNat : Int))) (some (0, 0, 0, 0, [], 4)) (br (decide (1 <= (f.length : Int))) (T6 (W8 N (FK.wrap (u0.toNat : Int))) fun u d i => D0 N (FK.wrap (u0.toNat : Int)) u d i 0 0 0 0 N (Gi 1 f) 0 0 0 0 (fun l4 l5 n6 n7 n8 n9 na nb nc nd => some (n7, n8, n9, na, l5, n6)) fun AL nf ng nh => j3 (O7 N (FK.wrap (u0.toNat : Int)) nf ng nh) fun ni => some (FK.wrap (u0.toNat : Int), nf, ng, nh, AL, ni)) none)) none
def a5w (N : Nat) : Cx := cl [a2Y N, b7x N, a4Z N] [] [⟨7, [0, 2, 5, 6, 11, 22, 23], [0, 2, 3, 4, 5, 6, 11], a0C N⟩]
theorem b0u (N : Nat) : p9 (a5w N) 57 (s4 Tryz.f176 0) := by
 refine j7 (rid := 7) (by kernel_rfl) rfl rfl fun R ds m K r h => ?_
 change a0C N ds m K = _ at h
 unfold a0C at h
 split at h
 . rename_i w u d i x O n6 n7 n8 n9 na nb nc
   exact ⟨N, Gr (lpI (fun (e : (LB -> LB -> Int -> Int -> Int -> Int -> Int -> Int -> Int -> Int -> Option R) × (LB -> Int -> Int -> Int -> Option R)) L (s : LB × Int × Int × Int × Int) => a4w N u d i x n6 n7 n8 n9 (fun w O na nb nc => L (w, O, na, nb, nc)) e.1 e.2 s.1 s.2.1 s.2.2.1 s.2.2.2.1 s.2.2.2.2) (fun e t s => D0 N u d i x n6 n7 n8 n9 t s.1 s.2.1 s.2.2.1 s.2.2.2.1 s.2.2.2.2 e.1 e.2) (fun s => a2D s.1 u d i x s.2.1) (fun s => mm1 n6 n7 n8 n9 s.2.2.1 s.2.2.2.1 s.2.2.2.2) (fun _ _ => rfl) (fun _ _ _ => rfl) (e := (_, _)) (fun L s => by kernel_rfl) N (w, O, na, nb, nc)) h⟩
 . cases h
def a6U (N : Nat) : Ent := pE 176 (.v .y .z) sh1 (a0j N)
theorem b3U (N : Nat) : EO (a6U N) := pk (cx := a5w N) (D4 ⟨a2V N, c6f N, a6l N, trivial⟩ trivial) Tryz.func176 (j6 (k := 1) (by kernel_rfl) ⟨trivial, b0u N⟩) (by kernel_rfl) fun h => by kernel_rfl
def a1S {R : Type} (N : Nat)  (Lq : LB -> List V -> Option R) (K0 : List V -> Int -> List V -> Option R) (K1 : List V -> Option R) (w : LB) (Ab : List V) : Option R := br (decide (0 < (w.length : Int))) (br (decide ((Ab.length : Int) = 256)) (K0 [] 3 Ab) (e4G (a0j N w) fun j u d i l4 O => br (!decide (O = 0)) (K0 [] O Ab) (br (decide ((Ab.length + [V.agg [V.int FK j, V.int FK u, V.int FK d, V.int FK i]].length) * 32 <= 140737488355328)) (Lq l4 (Ab ++ [V.agg [V.int FK j, V.int FK u, V.int FK d, V.int FK i]])) none))) (K1 Ab)
def Q4 {R : Type} (N : Nat)  : Nat -> LB -> List V -> (List V -> Int -> List V -> Option R) -> (List V -> Option R) -> Option R | 0, _, _, _, _ => none | t + 1, w, Ab, K0, K1 => a1S N  (fun w Ab => Q4 N  t w Ab K0 K1) K0 K1 w Ab
def a6b {R : Type} (N : Nat) (ds : List D) (m : Mem) (K : Ex -> List D -> Mem -> Option R) : Option R :=
 match ds, m with
 | [(.v (.bytes w) .no), (.v (.sl 54 Ab) (.own (.slot 4) 54))], [[]] => Q4 N  N w Ab (fun a0 a1 a2 => K .ret [(.v (.sl 54 a0) (.own (.slot 2) 54)), (.v (.int .i64 a1) .no), (.v (.sl 54 a2) (.own (.slot 4) 54))] [[]]) (fun a0 => K (.exit 0) [.any, .any, (.v (.sl 54 a0) (.own (.slot 4) 54))] [[]])
 | _, _ => none
def a9J (N : Nat) (f : LB) : Option (List V × Int) := Q4 N N f [] (fun w u l2 => some (w, u)) fun l3 => some (l3, 0)
def b4j (N : Nat) : Cx := cl [a6U N] [] [⟨2, [0, 4], [2, 3, 4], a6b N⟩]
theorem b9u (N : Nat) : p9 (b4j N) 29 (s4 Tryz.f136 0) := by
 refine j7 (rid := 2) (by kernel_rfl) rfl rfl fun R ds m K r h => ?_
 change a6b N ds m K = _ at h
 unfold a6b at h
 split at h
 . rename_i w Ab
   exact ⟨N, Gr (lpI (fun (e : (List V -> Int -> List V -> Option R) × (List V -> Option R)) L (s : LB × List V) => a1S N (fun w Ab => L (w, Ab)) e.1 e.2 s.1 s.2) (fun e t s => Q4 N t s.1 s.2 e.1 e.2) (fun s => [(.v (.bytes s.1) .no), (.v (.sl 54 s.2) (.own (.slot 4) 54))]) (fun s => [[]]) (fun _ _ => rfl) (fun _ _ _ => rfl) (e := (_, _)) (fun L s => by kernel_rfl) N (w, Ab)) h⟩
 . cases h
def b6I (N : Nat) : Ent := pE 136 (.v .y .z) (.v (.l 54) (.v fI .z)) (a9J N)
theorem c6O (N : Nat) : EO (b6I N) := pk (cx := b4j N) (D4 ⟨b3U N, trivial⟩ trivial) Tryz.func136 (j6 (k := 1) (by kernel_rfl) ⟨trivial, b9u N⟩) (by kernel_rfl) fun h => by kernel_rfl
def a8Z (N : Nat)  : Option (List V) := j3 (a5j N ([110, 111, 112, 32, 112, 117, 115, 104, 32, 110, 117, 108, 108, 32, 108, 111, 97, 100, 32, 115, 116, 111, 114, 101, 32, 105, 110, 99, 32, 112, 111, 112, 32, 100, 117, 112, 32, 115, 119, 97, 112, 32, 97, 100, 100, 32, 115, 117, 98, 32, 109, 117, 108, 32, 100, 105, 118, 32, 114, 101, 109, 32, 110, 101, 103, 32, 97, 110, 100, 32, 111, 114, 32, 120, 111, 114, 32, 115, 104, 108, 32, 115, 104, 114, 32, 117, 115, 104, 114, 32, 103, 111, 116, 111, 32, 105, 102, 122, 101, 114, 111, 32, 105, 102, 110, 111, 116, 32, 105, 102, 110, 101, 103, 32, 105, 102, 101, 113, 32, 105, 102, 110, 101, 32, 105, 102, 108, 116, 32, 105, 102, 103, 101, 32, 105, 102, 110, 117, 108, 108, 32, 105, 102, 115, 111, 109, 101, 32, 105, 102, 115, 97, 109, 101, 32, 105, 102, 111, 116, 104, 101, 114, 32, 110, 101, 119, 32, 97, 114, 114, 97, 121, 32, 108, 101, 110, 103, 116, 104, 32, 103, 101, 116, 98, 121, 116, 101, 32, 112, 117, 116, 98, 121, 116, 101, 32, 103, 101, 116, 105, 110, 116, 32, 112, 117, 116, 105, 110, 116, 32, 103, 101, 116, 114, 101, 102, 32, 112, 117, 116, 114, 101, 102, 32, 103, 101, 116, 102, 105, 101, 108, 100, 32, 112, 117, 116, 102, 105, 101, 108, 100, 32, 103, 101, 116, 115, 116, 97, 116, 105, 99, 32, 112, 117, 116, 115, 116, 97, 116, 105, 99, 32, 99, 97, 108, 108, 32, 118, 105, 114, 116, 117, 97, 108, 32, 105, 110, 118, 111, 107, 101, 32, 114, 101, 116, 117, 114, 110, 32, 116, 104, 114, 111, 119, 32, 99, 97, 115, 116, 32, 105, 115, 32, 110, 97, 116, 105, 118, 101] : LB)) fun w => some w
def d4W (N : Nat) : Cx := cz [c1q N] []
def c0h (N : Nat) : Ent := pE 23 .z (.v (.l 9) .z) (a8Z N)
theorem c0H (N : Nat) : EO (c0h N) := pk0 (cx := d4W N) (A9 ⟨d1p N, trivial⟩ trivial) Tryz.func23 (by kernel_rfl) fun h => by kernel_rfl
def a8L (N : Nat)  : Option (List V) := some [V.str ([98, 121, 116, 101, 115] : LB), V.str ([105, 110, 116, 115] : LB), V.str ([114, 101, 102, 115] : LB)]
def d7z (N : Nat) : Cx := cz [] []
def b8p (N : Nat) : Ent := pE 47 .z (.v (.l 9) .z) (a8L N)
theorem c0z (N : Nat) : EO (b8p N) := pk0 (cx := d7z N) (A9 trivial trivial) Tryz.func47 (by kernel_rfl) fun h => by kernel_rfl
def G6 (N : Nat) (f : Int) : Option (Bool) := br (decide (f = 6)) (some true) (some (decide (f = 11)))
def d0j (N : Nat) : Cx := cz [] []
def b5n (N : Nat) : Ent := pE 27 (.v fI .z) (.v .b .z) (G6 N)
theorem b7c (N : Nat) : EO (b5n N) := pk0 (cx := d0j N) (A9 trivial trivial) Tryz.func27 (by kernel_rfl) fun h => by kernel_rfl
def K4 (N : Nat) (f x1 : Int) : Option (LB) := br (decide (f = 5)) (br (decide (x1 = 255)) (some ([115, 121, 115, 116, 101, 109] : LB)) (br (decide (f = 7)) (j3 (a8L N) fun w => br (decide (0 <= FK.wrap (x1 - 2)) && decide (FK.wrap (x1 - 2) < (w.length : Int))) (at? w (FK.wrap (x1 - 2)).toNat fun x1 => x1.unStr fun l2 => some l2) none) (j3 (b4h N x1) fun l3 => some l3))) (br (decide (f = 7)) (j3 (a8L N) fun l4 => br (decide (0 <= FK.wrap (x1 - 2)) && decide (FK.wrap (x1 - 2) < (l4.length : Int))) (at? l4 (FK.wrap (x1 - 2)).toNat fun x5 => x5.unStr fun l6 => some l6) none) (j3 (b4h N x1) fun l7 => some l7))
def e1A (N : Nat) : Cx := cz [b8p N, d3V N] []
def d7y (N : Nat) : Ent := pE 28 (.v fI (.v fI .z)) (.v .s .z) (K4 N)
theorem d9M (N : Nat) : EO (d7y N) := pk0 (cx := e1A N) (A9 ⟨c0z N, e1m N, trivial⟩ trivial) Tryz.func28 (by kernel_rfl) fun h => by kernel_rfl
def b4O {R : Type} (N : Nat) (Aa Ab : List V) (d i x O n6 n9 na nb nc nd Af nf : Int) (Lq : Int -> LB -> Option R) (K0 : LB -> Option R) (n7 : Int) (l8 : LB) : Option R := br (decide (n7 < 3)) (br (decide (n7 = 0)) (br (decide (x = 0)) (Lq (FK.wrap (n7 + 1)) l8) (j3 (G6 N x) fun b0 => br b0 (br (decide (n7 = 0)) (j3 (K4 N x nd) fun l1 => br (decide (1 + l1.length <= 9223372036854775807)) (s7 (p6 N (([46] : LB) ++ l1) l8) fun d l3 => Lq (FK.wrap (n7 + 1)) l3) none) (br (decide (n7 = 1)) (j3 (K4 N x Af) fun l4 => br (decide (1 + l4.length <= 9223372036854775807)) (s7 (p6 N (([46] : LB) ++ l4) l8) fun O l6 => Lq (FK.wrap (n7 + 1)) l6) none) (br (decide (n7 = 2)) (j3 (K4 N x nf) fun l7 => br (decide (1 + l7.length <= 9223372036854775807)) (s7 (p6 N (([46] : LB) ++ l7) l8) fun n8 l9 => Lq (FK.wrap (n7 + 1)) l9) none) none))) (br (decide (n7 = 0)) (j3 (K4 N x nd) fun la => br (decide (1 + la.length <= 9223372036854775807)) (s7 (p6 N (([32] : LB) ++ la) l8) fun nb Ax => Lq (FK.wrap (n7 + 1)) Ax) none) (br (decide (n7 = 1)) (j3 (K4 N x Af) fun ld => br (decide (1 + ld.length <= 9223372036854775807)) (s7 (p6 N (([32] : LB) ++ ld) l8) fun Af AC => Lq (FK.wrap (n7 + 1)) AC) none) (br (decide (n7 = 2)) (j3 (K4 N x nf) fun lg => br (decide (1 + lg.length <= 9223372036854775807)) (s7 (p6 N (([32] : LB) ++ lg) l8) fun nh AO => Lq (FK.wrap (n7 + 1)) AO) none) none))))) (br (decide (n7 = 1)) (br (decide (O = 0)) (Lq (FK.wrap (n7 + 1)) l8) (j3 (G6 N O) fun bj => br bj (br (decide (n7 = 0)) (j3 (K4 N O nd) fun lk => br (decide (1 + lk.length <= 9223372036854775807)) (s7 (p6 N (([46] : LB) ++ lk) l8) fun Aw AP => Lq (FK.wrap (n7 + 1)) AP) none) (br (decide (n7 = 1)) (j3 (K4 N O Af) fun ln => br (decide (1 + ln.length <= 9223372036854775807)) (s7 (p6 N (([46] : LB) ++ ln) l8) fun AD AX => Lq (FK.wrap (n7 + 1)) AX) none) (br (decide (n7 = 2)) (j3 (K4 N O nf) fun AT => br (decide (1 + AT.length <= 9223372036854775807)) (s7 (p6 N (([46] : LB) ++ AT) l8) fun nr Ba => Lq (FK.wrap (n7 + 1)) Ba) none) none))) (br (decide (n7 = 0)) (j3 (K4 N O nd) fun Bk => br (decide (1 + Bk.length <= 9223372036854775807)) (s7 (p6 N (([32] : LB) ++ Bk) l8) fun nu AU => Lq (FK.wrap (n7 + 1)) AU) none) (br (decide (n7 = 1)) (j3 (K4 N O Af) fun Bl => br (decide (1 + Bl.length <= 9223372036854775807)) (s7 (p6 N (([32] : LB) ++ Bl) l8) fun BO ly => Lq (FK.wrap (n7 + 1)) ly) none) (br (decide (n7 = 2)) (j3 (K4 N O nf) fun Bm => br (decide (1 + Bm.length <= 9223372036854775807)) (s7 (p6 N (([32] : LB) ++ Bm) l8) fun EX BA => Lq (FK.wrap (n7 + 1)) BA) none) none))))) (br (decide (n7 = 2)) (br (decide (n6 = 0)) (Lq (FK.wrap (n7 + 1)) l8) (j3 (G6 N n6) fun CO => br CO (br (decide (n7 = 0)) (j3 (K4 N n6 nd) fun AY => br (decide (1 + AY.length <= 9223372036854775807)) (s7 (p6 N (([46] : LB) ++ AY) l8) fun CP Bh => Lq (FK.wrap (n7 + 1)) Bh) none) (br (decide (n7 = 1)) (j3 (K4 N n6 Af) fun AZ => br (decide (1 + AZ.length <= 9223372036854775807)) (s7 (p6 N (([46] : LB) ++ AZ) l8) fun EY Bn => Lq (FK.wrap (n7 + 1)) Bn) none) (br (decide (n7 = 2)) (j3 (K4 N n6 nf) fun AV => br (decide (1 + AV.length <= 9223372036854775807)) (s7 (p6 N (([46] : LB) ++ AV) l8) fun CE BV => Lq (FK.wrap (n7 + 1)) BV) none) none))) (br (decide (n7 = 0)) (j3 (K4 N n6 nd) fun Bi => br (decide (1 + Bi.length <= 9223372036854775807)) (s7 (p6 N (([32] : LB) ++ Bi) l8) fun EZ BW => Lq (FK.wrap (n7 + 1)) BW) none) (br (decide (n7 = 1)) (j3 (K4 N n6 Af) fun Bb => br (decide (1 + Bb.length <= 9223372036854775807)) (s7 (p6 N (([32] : LB) ++ Bb) l8) fun CQ BF => Lq (FK.wrap (n7 + 1)) BF) none) (br (decide (n7 = 2)) (j3 (K4 N n6 nf) fun BB => br (decide (1 + BB.length <= 9223372036854775807)) (s7 (p6 N (([32] : LB) ++ BB) l8) fun CR Bj => Lq (FK.wrap (n7 + 1)) Bj) none) none))))) none))) (K0 l8)
def I3 {R : Type} (N : Nat) (Aa Ab : List V) (d i x O n6 n9 na nb nc nd Af nf : Int) : Nat -> Int -> LB -> (LB -> Option R) -> Option R | 0, _, _, _ => none | t + 1, n7, l8, K0 => b4O N Aa Ab d i x O n6 n9 na nb nc nd Af nf (fun n7 l8 => I3 N Aa Ab d i x O n6 n9 na nb nc nd Af nf t n7 l8 K0) K0 n7 l8
@[match_pattern] abbrev b1n (Aa Ab : List V) (d i x O n6 n7 : Int) : List D := [(.ptr 0 5 0), (.v (.sl 9 Aa) .no), (.ptr 0 8 0), (.ptr 0 9 0), (.v (.sl 54 Ab) .no), (.v (.int .i64 d) .no), (.v (.int .i64 i) .no), (.agg [(.v (.int .i64 x) .no), (.v (.int .i64 O) .no), (.v (.int .i64 n6) .no)]), (.v (.int .i64 n7) .no)]
def a7D {R : Type} (N : Nat) (ds : List D) (m : Mem) (K : Ex -> List D -> Mem -> Option R) : Option R :=
 match ds, m with
 | b1n Aa Ab d i x O n6 n7, mm2 l8 n9 na nb nc nd Af nf => I3 N Aa Ab d i x O n6 n9 na nb nc nd Af nf N n7 l8 (fun a4 => K (.exit 2) [(.ptr 0 5 0), (.v (.sl 9 Aa) .no), (.ptr 0 8 0), (.ptr 0 9 0), (.v (.sl 54 Ab) .no), (.v (.int .i64 d) .no), (.v (.int .i64 i) .no)] (mm2 a4 n9 na nb nc nd Af nf))
 | _, _ => none
def a6B {R : Type} (N : Nat) (Aa Ab : List V) (d : Int) (Lq : Int -> LB -> Option R) (K0 : LB -> Option R) (i : Int) (l4 : LB) : Option R := br (decide (i < d)) (br (decide (0 <= i) && decide (i < (Ab.length : Int))) (at? Ab i.toNat fun f => f.unAgg fun l1 => e9 l1 fun x2 l3 => V.unInt FK x2 fun x => e9 l3 fun x5 l6 => V.unInt FK x5 fun n7 => e9 l6 fun x8 l9 => V.unInt FK x8 fun na => e9 l9 fun xb Ax => V.unInt FK xb fun nd => D2 Ax (br (decide (0 <= x) && decide (x < (Aa.length : Int))) (at? Aa x.toNat fun xe => xe.unStr fun AC => s7 (p6 N AC l4) fun ng lh => T6 (Z7 N x n7 na nd) fun ni nj nk => T6 (W8 N x) fun Aw AB nn => I3 N Aa Ab d i Aw AB nn x n7 na nd ni nj nk N 0 lh fun Bc => s7 (p6 N ([10] : LB) Bc) fun AE AT => Lq (FK.wrap (i + 1)) AT) none)) none) (K0 l4)
def a0g {R : Type} (N : Nat) (Aa Ab : List V) (d : Int) : Nat -> Int -> LB -> (LB -> Option R) -> Option R | 0, _, _, _ => none | t + 1, i, l4, K0 => a6B N Aa Ab d (fun i l4 => a0g N Aa Ab d t i l4 K0) K0 i l4
def a9t {R : Type} (N : Nat) (ds : List D) (m : Mem) (K : Ex -> List D -> Mem -> Option R) : Option R :=
 match ds, m with
 | [(.ptr 0 5 0), (.v (.sl 9 Aa) .no), (.v (.sl 54 Ab) .no), (.v (.int .i64 d) .no), (.v (.int .i64 i) .no)], mm3 l4 => a0g N Aa Ab d N i l4 (fun a0 => K (.exit 0) [(.ptr 0 5 0)] (mm3 a0))
 | _, _ => none
def a4m (N : Nat) (f : List V) : Option (LB) := s7 (a3a N f) fun w u => br (!decide (u = 0)) (some []) (j3 (a8Z N) fun l2 => a0g N l2 f (f.length : Int) N 0 [] fun l3 => j3 (a9x N l3) fun l4 => some l4)
def b4P (N : Nat) : Cx := cl [a9I N, c0h N, a4q N, a2Y N, b5n N, d7y N] [⟨24, a2g (p6 N)⟩, ⟨29, b0p (a9x N)⟩] [⟨7, [5, 6, 21, 22, 23], [5], a9t N⟩, ⟨12, [5, 6, 8, 9, 21, 22, 23, 37, 38], [5, 6, 8, 9, 21, 22, 23], a7D N⟩]
theorem c4k (N : Nat) : p9 (b4P N) 58 (s4 Tryz.f9 0) := by
 refine j7 (rid := 7) (by kernel_rfl) rfl rfl fun R ds m K r h => ?_
 change a9t N ds m K = _ at h
 unfold a9t at h
 split at h
 . rename_i Aa Ab d i l4
   exact ⟨N, Gr (lpI (fun (e : (LB -> Option R)) L (s : Int × LB) => a6B N Aa Ab d (fun i l4 => L (i, l4)) e s.1 s.2) (fun e t s => a0g N Aa Ab d t s.1 s.2 e) (fun s => [(.ptr 0 5 0), (.v (.sl 9 Aa) .no), (.v (.sl 54 Ab) .no), (.v (.int .i64 d) .no), (.v (.int .i64 s.1) .no)]) (fun s => mm3 s.2) (fun _ _ => rfl) (fun _ _ _ => rfl) (e := _) (fun L s => by kernel_rfl) N (i, l4)) h⟩
 . cases h
theorem c0M (N : Nat) : p9 (b4P N) 58 (s4 Tryz.f9 1) := by
 refine j7 (rid := 12) (by kernel_rfl) rfl rfl fun R ds m K r h => ?_
 change a7D N ds m K = _ at h
 unfold a7D at h
 split at h
 . rename_i Aa Ab d i x O n6 n7 l8 n9 na nb nc nd Af nf
   exact ⟨N, Gr (lpI (fun (e : (LB -> Option R)) L (s : Int × LB) => b4O N Aa Ab d i x O n6 n9 na nb nc nd Af nf (fun n7 l8 => L (n7, l8)) e s.1 s.2) (fun e t s => I3 N Aa Ab d i x O n6 n9 na nb nc nd Af nf t s.1 s.2 e) (fun s => b1n Aa Ab d i x O n6 s.1) (fun s => mm2 s.2 n9 na nb nc nd Af nf) (fun _ _ => rfl) (fun _ _ _ => rfl) (e := _) (fun L s => by kernel_rfl) N (n7, l8)) h⟩
 . cases h
def c8Q (N : Nat) : Ent := pE 9 (.v (.l 54) .z) (.v .s .z) (a4m N)
theorem c9e (N : Nat) : POK Tryz.prog T 9 (.v (.l 54) .z) (.v .s .z) (a4m N) := pok (cx := b4P N) fo (D4 ⟨b4A N, c0H N, a5l N, a2V N, b7c N, d9M N, trivial⟩ ⟨b4l _ (b5K N), c6P _ (d1H N), trivial⟩) (j6 (k := 2) (by kernel_rfl) ⟨⟨trivial, c4k N⟩, c0M N⟩) Tryz.func9 (by kernel_rfl) rfl fun h => by kernel_rfl
theorem d4O (N : Nat) : EO (c8Q N) := a1E (gz Tryz.func9 (by kernel_rfl)) rfl (c9e N)
theorem e1S (N : Nat) (f : List V) (r0 : LB) (h : a4m N f = some r0) : PRT 9 [.v (.sl 54 f) .no] [.v (.str r0) .no] := c9e N (f, ()) r0 h
def c0W (N : Nat) : Ent := pE 91 (.v .s .z) (.a (.v fI (.v .b (.v .b .z))) .z) (a1g N)
theorem c9I (N : Nat) : EO (c0W N) := a1E (gz Tryz.func91 (by kernel_rfl)) rfl fun h t q => d3J N h.1 t.1 t.2.1 t.2.2 q
def a4l (N : Nat) (f : Int) (x1 : LB) : Option (Int × Bool × Bool) := br (decide (f = 7)) (j3 (a8L N) fun w => j3 (a5h N w x1) fun u => some (FK.wrap (u + 2), decide (0 <= u), true)) (br (decide (f = 5)) (br (decide (x1 = ([115, 121, 115, 116, 101, 109] : LB))) (some (255, true, true)) (T6 (a1g N x1) fun d b3 b4 => br (decide (f = 5)) (br (decide (d = 255)) (some (0, false, false)) (some (d, b3, b4))) (some (d, b3, b4)))) (T6 (a1g N x1) fun O b6 b7 => br (decide (f = 5)) (br (decide (O = 255)) (some (0, false, false)) (some (O, b6, b7))) (some (O, b6, b7))))
def d6J (N : Nat) : Cx := cz [b8p N, b2j N, c0W N] []
def c8n (N : Nat) : Ent := pE 43 (.v fI (.v .s .z)) (.a (.v fI (.v .b (.v .b .z))) .z) (a4l N)
theorem d6s (N : Nat) : EO (c8n N) := pk0 (cx := d6J N) (A9 ⟨c0z N, b7A N, c9I N, trivial⟩ trivial) Tryz.func43 (by kernel_rfl) fun h => by kernel_rfl
def b6W {R : Type} (N : Nat) (i x O : Int) (Lq : List V -> List V -> Int -> Option R) (K0 : List V -> List V -> Bool -> List V -> Option R) (K1 : List V -> List V -> Option R) (Aa Ab : List V) (d : Int) : Option R := br (decide (d < 3)) (br (decide (d = 0)) (br (!decide (i = 0)) (br (decide ((Aa.length : Int) = 0)) (K0 Aa [] false Ab) (br (decide (FK.wrap (d + 1) < 3)) (br (decide (FK.wrap (d + 1) = 0)) (j3 (G6 N i) fun b0 => br b0 (br (decide (0 < (Aa.length : Int))) (at? Aa 0 fun x1 => x1.unStr fun l2 => T6 (a0I N l2 ([46] : LB)) fun l3 l4 b5 => br (!b5) (K0 Aa [] false Ab) (br (decide ((Ab.length + [V.str l3, V.str l4].length) * 16 <= 140737488355328)) (br (decide (1 <= (Aa.length : Int))) (Lq (Gi 1 Aa) (Ab ++ [V.str l3, V.str l4]) (FK.wrap (FK.wrap (d + 1) + 1))) none) none)) none) (br (decide (0 < (Aa.length : Int))) (at? Aa 0 fun x6 => x6.unStr fun l7 => br (decide ((Ab.length + [V.str l7].length) * 16 <= 140737488355328)) (br (decide (1 <= (Aa.length : Int))) (Lq (Gi 1 Aa) (Ab ++ [V.str l7]) (FK.wrap (d + 1))) none) none) none)) (br (decide (FK.wrap (d + 1) = 1)) (j3 (G6 N x) fun b8 => br b8 (br (decide (0 < (Aa.length : Int))) (at? Aa 0 fun x9 => x9.unStr fun la => T6 (a0I N la ([46] : LB)) fun Ay Ax bd => br (!bd) (K0 Aa [] false Ab) (br (decide ((Ab.length + [V.str Ay, V.str Ax].length) * 16 <= 140737488355328)) (br (decide (1 <= (Aa.length : Int))) (Lq (Gi 1 Aa) (Ab ++ [V.str Ay, V.str Ax]) (FK.wrap (FK.wrap (d + 1) + 1))) none) none)) none) (br (decide (0 < (Aa.length : Int))) (at? Aa 0 fun xe => xe.unStr fun AC => br (decide ((Ab.length + [V.str AC].length) * 16 <= 140737488355328)) (br (decide (1 <= (Aa.length : Int))) (Lq (Gi 1 Aa) (Ab ++ [V.str AC]) (FK.wrap (d + 1))) none) none) none)) (br (decide (FK.wrap (d + 1) = 2)) (j3 (G6 N O) fun bg => br bg (br (decide (0 < (Aa.length : Int))) (at? Aa 0 fun xh => xh.unStr fun AO => T6 (a0I N AO ([46] : LB)) fun lj lk CS => br (!CS) (K0 Aa [] false Ab) (br (decide ((Ab.length + [V.str lj, V.str lk].length) * 16 <= 140737488355328)) (br (decide (1 <= (Aa.length : Int))) (Lq (Gi 1 Aa) (Ab ++ [V.str lj, V.str lk]) (FK.wrap (FK.wrap (d + 1) + 1))) none) none)) none) (br (decide (0 < (Aa.length : Int))) (at? Aa 0 fun xm => xm.unStr fun ln => br (decide ((Ab.length + [V.str ln].length) * 16 <= 140737488355328)) (br (decide (1 <= (Aa.length : Int))) (Lq (Gi 1 Aa) (Ab ++ [V.str ln]) (FK.wrap (d + 1))) none) none) none)) none))) (br (decide (0 < (Aa.length : Int))) (at? Aa 0 fun xo => xo.unStr fun AX => br (decide ((Ab.length + [V.str AX].length) * 16 <= 140737488355328)) (br (decide (1 <= (Aa.length : Int))) (Lq (Gi 1 Aa) (Ab ++ [V.str AX]) (FK.wrap (d + 1))) none) none) none))) (K1 Aa Ab)) (br (decide (d = 1)) (br (!decide (x = 0)) (br (decide ((Aa.length : Int) = 0)) (K0 Aa [] false Ab) (br (decide (FK.wrap (d + 1) < 3)) (br (decide (FK.wrap (d + 1) = 0)) (j3 (G6 N i) fun bq => br bq (br (decide (0 < (Aa.length : Int))) (at? Aa 0 fun xr => xr.unStr fun Ba => T6 (a0I N Ba ([46] : LB)) fun Bk lu CT => br (!CT) (K0 Aa [] false Ab) (br (decide ((Ab.length + [V.str Bk, V.str lu].length) * 16 <= 140737488355328)) (br (decide (1 <= (Aa.length : Int))) (Lq (Gi 1 Aa) (Ab ++ [V.str Bk, V.str lu]) (FK.wrap (FK.wrap (d + 1) + 1))) none) none)) none) (br (decide (0 < (Aa.length : Int))) (at? Aa 0 fun xw => xw.unStr fun lx => br (decide ((Ab.length + [V.str lx].length) * 16 <= 140737488355328)) (br (decide (1 <= (Aa.length : Int))) (Lq (Gi 1 Aa) (Ab ++ [V.str lx]) (FK.wrap (d + 1))) none) none) none)) (br (decide (FK.wrap (d + 1) = 1)) (j3 (G6 N x) fun CU => br CU (br (decide (0 < (Aa.length : Int))) (at? Aa 0 fun xz => xz.unStr fun Bd => T6 (a0I N Bd ([46] : LB)) fun BA BC BX => br (!BX) (K0 Aa [] false Ab) (br (decide ((Ab.length + [V.str BA, V.str BC].length) * 16 <= 140737488355328)) (br (decide (1 <= (Aa.length : Int))) (Lq (Gi 1 Aa) (Ab ++ [V.str BA, V.str BC]) (FK.wrap (FK.wrap (d + 1) + 1))) none) none)) none) (br (decide (0 < (Aa.length : Int))) (at? Aa 0 fun BG => BG.unStr fun Bh => br (decide ((Ab.length + [V.str Bh].length) * 16 <= 140737488355328)) (br (decide (1 <= (Aa.length : Int))) (Lq (Gi 1 Aa) (Ab ++ [V.str Bh]) (FK.wrap (d + 1))) none) none) none)) (br (decide (FK.wrap (d + 1) = 2)) (j3 (G6 N O) fun BY => br BY (br (decide (0 < (Aa.length : Int))) (at? Aa 0 fun BH => BH.unStr fun Bn => T6 (a0I N Bn ([46] : LB)) fun AV BP CV => br (!CV) (K0 Aa [] false Ab) (br (decide ((Ab.length + [V.str AV, V.str BP].length) * 16 <= 140737488355328)) (br (decide (1 <= (Aa.length : Int))) (Lq (Gi 1 Aa) (Ab ++ [V.str AV, V.str BP]) (FK.wrap (FK.wrap (d + 1) + 1))) none) none)) none) (br (decide (0 < (Aa.length : Int))) (at? Aa 0 fun CW => CW.unStr fun BQ => br (decide ((Ab.length + [V.str BQ].length) * 16 <= 140737488355328)) (br (decide (1 <= (Aa.length : Int))) (Lq (Gi 1 Aa) (Ab ++ [V.str BQ]) (FK.wrap (d + 1))) none) none) none)) none))) (br (decide (0 < (Aa.length : Int))) (at? Aa 0 fun BI => BI.unStr fun Bb => br (decide ((Ab.length + [V.str Bb].length) * 16 <= 140737488355328)) (br (decide (1 <= (Aa.length : Int))) (Lq (Gi 1 Aa) (Ab ++ [V.str Bb]) (FK.wrap (d + 1))) none) none) none))) (K1 Aa Ab)) (br (decide (d = 2)) (br (!decide (O = 0)) (br (decide ((Aa.length : Int) = 0)) (K0 Aa [] false Ab) (br (decide (FK.wrap (d + 1) < 3)) (br (decide (FK.wrap (d + 1) = 0)) (j3 (G6 N i) fun CX => br CX (br (decide (0 < (Aa.length : Int))) (at? Aa 0 fun BZ => BZ.unStr fun BB => T6 (a0I N BB ([46] : LB)) fun CF Bj CG => br (!CG) (K0 Aa [] false Ab) (br (decide ((Ab.length + [V.str CF, V.str Bj].length) * 16 <= 140737488355328)) (br (decide (1 <= (Aa.length : Int))) (Lq (Gi 1 Aa) (Ab ++ [V.str CF, V.str Bj]) (FK.wrap (FK.wrap (d + 1) + 1))) none) none)) none) (br (decide (0 < (Aa.length : Int))) (at? Aa 0 fun BJ => BJ.unStr fun BD => br (decide ((Ab.length + [V.str BD].length) * 16 <= 140737488355328)) (br (decide (1 <= (Aa.length : Int))) (Lq (Gi 1 Aa) (Ab ++ [V.str BD]) (FK.wrap (d + 1))) none) none) none)) (br (decide (FK.wrap (d + 1) = 1)) (j3 (G6 N x) fun CY => br CY (br (decide (0 < (Aa.length : Int))) (at? Aa 0 fun BK => BK.unStr fun BL => T6 (a0I N BL ([46] : LB)) fun BE CH CZ => br (!CZ) (K0 Aa [] false Ab) (br (decide ((Ab.length + [V.str BE, V.str CH].length) * 16 <= 140737488355328)) (br (decide (1 <= (Aa.length : Int))) (Lq (Gi 1 Aa) (Ab ++ [V.str BE, V.str CH]) (FK.wrap (FK.wrap (d + 1) + 1))) none) none)) none) (br (decide (0 < (Aa.length : Int))) (at? Aa 0 fun Da => Da.unStr fun Ca => br (decide ((Ab.length + [V.str Ca].length) * 16 <= 140737488355328)) (br (decide (1 <= (Aa.length : Int))) (Lq (Gi 1 Aa) (Ab ++ [V.str Ca]) (FK.wrap (d + 1))) none) none) none)) (br (decide (FK.wrap (d + 1) = 2)) (j3 (G6 N O) fun Db => br Db (br (decide (0 < (Aa.length : Int))) (at? Aa 0 fun Dc => Dc.unStr fun CI => T6 (a0I N CI ([46] : LB)) fun BR CJ Dd => br (!Dd) (K0 Aa [] false Ab) (br (decide ((Ab.length + [V.str BR, V.str CJ].length) * 16 <= 140737488355328)) (br (decide (1 <= (Aa.length : Int))) (Lq (Gi 1 Aa) (Ab ++ [V.str BR, V.str CJ]) (FK.wrap (FK.wrap (d + 1) + 1))) none) none)) none) (br (decide (0 < (Aa.length : Int))) (at? Aa 0 fun De => De.unStr fun CL => br (decide ((Ab.length + [V.str CL].length) * 16 <= 140737488355328)) (br (decide (1 <= (Aa.length : Int))) (Lq (Gi 1 Aa) (Ab ++ [V.str CL]) (FK.wrap (d + 1))) none) none) none)) none))) (br (decide (0 < (Aa.length : Int))) (at? Aa 0 fun Cb => Cb.unStr fun BS => br (decide ((Ab.length + [V.str BS].length) * 16 <= 140737488355328)) (br (decide (1 <= (Aa.length : Int))) (Lq (Gi 1 Aa) (Ab ++ [V.str BS]) (FK.wrap (d + 1))) none) none) none))) (K1 Aa Ab)) none))) (K1 Aa Ab)
def H0 {R : Type} (N : Nat) (i x O : Int) : Nat -> List V -> List V -> Int -> (List V -> List V -> Bool -> List V -> Option R) -> (List V -> List V -> Option R) -> Option R | 0, _, _, _, _, _ => none | t + 1, Aa, Ab, d, K0, K1 => b6W N i x O (fun Aa Ab d => H0 N i x O t Aa Ab d K0 K1) K0 K1 Aa Ab d
def b0C {R : Type} (N : Nat) (ds : List D) (m : Mem) (K : Ex -> List D -> Mem -> Option R) : Option R :=
 match ds, m with
 | [(.v (.sl 9 Aa) .no), (.ptr 0 2 0), (.v (.sl 9 Ab) (.own (.slot 6) 9)), (.v (.int .i64 d) .no)], mm4 i x O => H0 N i x O N Aa Ab d (fun a0 a1 a2 a3 => K .ret [(.v (.sl 9 a0) .no), (.ptr 0 2 0), (.v (.sl 9 a1) (.own (.slot 4) 9)), (.v (.bool a2) .no), (.v (.sl 9 a3) (.own (.slot 6) 9))] (mm4 i x O)) (fun a0 a1 => K (.exit 0) [(.v (.sl 9 a0) .no), (.ptr 0 2 0), .any, .any, (.v (.sl 9 a1) (.own (.slot 6) 9))] (mm4 i x O))
 | _, _ => none
def b2a (N : Nat) (f x1 x2 : Int) (x3 : List V) : Option (List V × Bool) := H0 N f x1 x2 N x3 [] 0 (fun w l1 b2 l3 => some (l1, b2)) fun l4 l5 => some (l5, decide ((l4.length : Int) = 0))
def c2W (N : Nat) : Cx := cl [b5n N, d7w N] [] [⟨3, [1, 2, 6, 7], [1, 2, 4, 5, 6], b0C N⟩]
theorem c5H (N : Nat) : p9 (c2W N) 63 (s4 Tryz.f42 0) := by
 refine j7 (rid := 3) (by kernel_rfl) rfl rfl fun R ds m K r h => ?_
 change b0C N ds m K = _ at h
 unfold b0C at h
 split at h
 . rename_i Aa Ab d i x O
   exact ⟨N, Gr (lpI (fun (e : (List V -> List V -> Bool -> List V -> Option R) × (List V -> List V -> Option R)) L (s : List V × List V × Int) => b6W N i x O (fun Aa Ab d => L (Aa, Ab, d)) e.1 e.2 s.1 s.2.1 s.2.2) (fun e t s => H0 N i x O t s.1 s.2.1 s.2.2 e.1 e.2) (fun s => [(.v (.sl 9 s.1) .no), (.ptr 0 2 0), (.v (.sl 9 s.2.1) (.own (.slot 6) 9)), (.v (.int .i64 s.2.2) .no)]) (fun s => mm4 i x O) (fun _ _ => rfl) (fun _ _ _ => rfl) (e := (_, _)) (fun L s => by kernel_rfl) N (Aa, Ab, d)) h⟩
 . cases h
def c7L (N : Nat) : Ent := pE 42 sh2 (.v (.l 9) (.v .b .z)) (b2a N)
theorem d5j (N : Nat) : EO (c7L N) := pk (cx := c2W N) (D4 ⟨b7c N, d6A N, trivial⟩ trivial) Tryz.func42 (j6 (k := 1) (by kernel_rfl) ⟨trivial, c5H N⟩) (by kernel_rfl) fun h => by kernel_rfl
def b6L {R : Type} (N : Nat) (j : Int) (AQ : List V) (i O n6 n7 n8 n9 na nb : Int) (Lq : Bool -> Int -> Int -> Int -> Int -> Option R) (K0 : Int -> Bool -> Int -> Int -> Int -> Int -> Int -> Int -> Int -> Option R) (K1 : Bool -> Int -> Int -> Int -> Option R) (b1 : Bool) (x nc nd Af : Int) : Option R := br (decide (x < i)) (br (decide (0 <= x) && decide (x < (AQ.length : Int))) (at? AQ x.toNat fun f => f.unStr fun l1 => br (decide (x = 0)) (T6 (a4l N n9 l1) fun d b3 b4 => br (!b3) (K0 30 b1 0 0 0 0 nc nd Af) (br b1 (br (decide (x = 0)) (Lq b4 (FK.wrap (x + 1)) d nd Af) (br (decide (x = 1)) (Lq b4 (FK.wrap (x + 1)) nc d Af) (br (decide (x = 2)) (Lq b4 (FK.wrap (x + 1)) nc nd d) none))) (br (decide (x = 0)) (Lq false (FK.wrap (x + 1)) d nd Af) (br (decide (x = 1)) (Lq false (FK.wrap (x + 1)) nc d Af) (br (decide (x = 2)) (Lq false (FK.wrap (x + 1)) nc nd d) none))))) (br (decide (x = 1)) (T6 (a4l N na l1) fun O b6 b7 => br (!b6) (K0 30 b1 0 0 0 0 nc nd Af) (br b1 (br (decide (x = 0)) (Lq b7 (FK.wrap (x + 1)) O nd Af) (br (decide (x = 1)) (Lq b7 (FK.wrap (x + 1)) nc O Af) (br (decide (x = 2)) (Lq b7 (FK.wrap (x + 1)) nc nd O) none))) (br (decide (x = 0)) (Lq false (FK.wrap (x + 1)) O nd Af) (br (decide (x = 1)) (Lq false (FK.wrap (x + 1)) nc O Af) (br (decide (x = 2)) (Lq false (FK.wrap (x + 1)) nc nd O) none))))) (br (decide (x = 2)) (T6 (a4l N nb l1) fun n8 b9 AA => br (!b9) (K0 30 b1 0 0 0 0 nc nd Af) (br b1 (br (decide (x = 0)) (Lq AA (FK.wrap (x + 1)) n8 nd Af) (br (decide (x = 1)) (Lq AA (FK.wrap (x + 1)) nc n8 Af) (br (decide (x = 2)) (Lq AA (FK.wrap (x + 1)) nc nd n8) none))) (br (decide (x = 0)) (Lq false (FK.wrap (x + 1)) n8 nd Af) (br (decide (x = 1)) (Lq false (FK.wrap (x + 1)) nc n8 Af) (br (decide (x = 2)) (Lq false (FK.wrap (x + 1)) nc nd n8) none))))) none))) none) (K1 b1 nc nd Af)
def R0 {R : Type} (N : Nat) (j : Int) (AQ : List V) (i O n6 n7 n8 n9 na nb : Int) : Nat -> Bool -> Int -> Int -> Int -> Int -> (Int -> Bool -> Int -> Int -> Int -> Int -> Int -> Int -> Int -> Option R) -> (Bool -> Int -> Int -> Int -> Option R) -> Option R | 0, _, _, _, _, _, _, _ => none | t + 1, b1, x, nc, nd, Af, K0, K1 => b6L N j AQ i O n6 n7 n8 n9 na nb (fun b1 x nc nd Af => R0 N j AQ i O n6 n7 n8 n9 na nb t b1 x nc nd Af K0 K1) K0 K1 b1 x nc nd Af
@[match_pattern] abbrev b3w (j : Int) (b1 : Bool) (AQ : List V) (i x : Int) : List D := [(.ptr 0 2 0), (.v (.int .i64 j) .no), (.ptr 0 6 0), (.ptr 0 9 0), (.v (.bool b1) .no), .any, (.v (.sl 9 AQ) .no), (.v (.int .i64 i) .no), (.v (.int .i64 x) .no)]
def a9Q {R : Type} (N : Nat) (ds : List D) (m : Mem) (K : Ex -> List D -> Mem -> Option R) : Option R :=
 match ds, m with
 | b3w j b1 AQ i x, mm5 O n6 n7 n8 n9 na nb nc nd Af => R0 N j AQ i O n6 n7 n8 n9 na nb N b1 x nc nd Af (fun a0 a2 a3 a4 a5 a6 AN AW Be => K .ret [(.ptr 0 2 0), (.v (.int .i64 a0) .no), (.v (.int .i64 j) .no), (.ptr 0 6 0), (.ptr 0 9 0), (.v (.bool a2) .no), .any] (mm5 a3 a4 a5 a6 n9 na nb AN AW Be)) (fun a1 a9 AN AW => K (.exit 0) [(.ptr 0 2 0), .any, (.v (.int .i64 j) .no), (.ptr 0 6 0), (.ptr 0 9 0), (.v (.bool a1) .no), .any] (mm5 O n6 n7 n8 n9 na nb a9 AN AW))
 | _, _ => none
def c0n (N : Nat) (f : LB) : Option (Int × Int × Int × Int × Int) := j3 (a6f N f ([32] : LB)) fun w => j3 (a8Z N) fun l1 => br (decide (0 < (w.length : Int))) (at? w 0 fun x2 => x2.unStr fun l3 => j3 (a5h N l1 l3) fun x => br (decide (x < 0)) (some (0, 0, 0, 0, 30)) (T6 (W8 N x) fun O n6 n7 => br (decide (1 <= (w.length : Int))) (s7 (b2a N O n6 n7 (Gi 1 w)) fun l8 b9 => br (!b9) (some (0, 0, 0, 0, 30)) (R0 N x l8 (l8.length : Int) 0 0 0 0 O n6 n7 N true 0 0 0 0 (fun na AI nc nd Af nf ng nh ni => some (nc, nd, Af, nf, na)) fun bj nk Aw AB => br (!bj) (some (0, 0, 0, 0, 2)) (j3 (O7 N x nk Aw AB) fun nn => some (x, nk, Aw, AB, nn)))) none)) none
def c8r (N : Nat) : Cx := cl [c7N N, c0h N, b2j N, a2Y N, c7L N, c8n N, a4Z N] [] [⟨12, [2, 5, 6, 9, 10, 14, 37, 38, 39], [2, 3, 5, 6, 9, 10, 14], a9Q N⟩] true
theorem c4U (N : Nat) : p9 (c8r N) 77 (s4 Tryz.f21 0) := by
 refine j7 (rid := 12) (by kernel_rfl) rfl rfl fun R ds m K r h => ?_
 change a9Q N ds m K = _ at h
 unfold a9Q at h
 split at h
 . rename_i j b1 AQ i x O n6 n7 n8 n9 na nb nc nd Af
   exact ⟨N, Gr (lpI (fun (e : (Int -> Bool -> Int -> Int -> Int -> Int -> Int -> Int -> Int -> Option R) × (Bool -> Int -> Int -> Int -> Option R)) L (s : Bool × Int × Int × Int × Int) => b6L N j AQ i O n6 n7 n8 n9 na nb (fun b1 x nc nd Af => L (b1, x, nc, nd, Af)) e.1 e.2 s.1 s.2.1 s.2.2.1 s.2.2.2.1 s.2.2.2.2) (fun e t s => R0 N j AQ i O n6 n7 n8 n9 na nb t s.1 s.2.1 s.2.2.1 s.2.2.2.1 s.2.2.2.2 e.1 e.2) (fun s => b3w j s.1 AQ i s.2.1) (fun s => mm5 O n6 n7 n8 n9 na nb s.2.2.1 s.2.2.2.1 s.2.2.2.2) (fun _ _ => rfl) (fun _ _ _ => rfl) (e := (_, _)) (fun L s => by kernel_rfl) N (b1, x, nc, nd, Af)) h⟩
 . cases h
def d2o (N : Nat) : Ent := pE 21 (.v .s .z) sh3 (c0n N)
theorem d8w (N : Nat) : EO (d2o N) := pk (cx := c8r N) (D4 ⟨d5B N, c0H N, b7A N, a2V N, d5j N, d6s N, a6l N, trivial⟩ trivial) Tryz.func21 (j6 (k := 1) (by kernel_rfl) ⟨trivial, c4U N⟩) (by kernel_rfl) fun h => by kernel_rfl
def a3F {R : Type} (N : Nat)  (Lq : LB -> List V -> Option R) (K0 : List V -> Int -> List V -> Option R) (K1 : List V -> Option R) (w : LB) (Ab : List V) : Option R := br (!decide (w = [])) (br (decide ((Ab.length : Int) = 256)) (K0 [] 3 Ab) (T6 (a0I N w ([10] : LB)) fun w l1 b2 => br (!b2) (K0 [] 30 Ab) (d8K (c0n N w) fun i x O n6 n7 => br (!decide (n7 = 0)) (K0 [] n7 Ab) (br (decide ((Ab.length + [V.agg [V.int FK i, V.int FK x, V.int FK O, V.int FK n6]].length) * 32 <= 140737488355328)) (Lq l1 (Ab ++ [V.agg [V.int FK i, V.int FK x, V.int FK O, V.int FK n6]])) none)))) (K1 Ab)
def T7 {R : Type} (N : Nat)  : Nat -> LB -> List V -> (List V -> Int -> List V -> Option R) -> (List V -> Option R) -> Option R | 0, _, _, _, _ => none | t + 1, w, Ab, K0, K1 => a3F N  (fun w Ab => T7 N  t w Ab K0 K1) K0 K1 w Ab
def a7G {R : Type} (N : Nat) (ds : List D) (m : Mem) (K : Ex -> List D -> Mem -> Option R) : Option R :=
 match ds, m with
 | [(.v (.str w) .no), (.v (.sl 54 Ab) (.own (.slot 4) 54))], [[]] => T7 N  N w Ab (fun a0 a1 a2 => K .ret [(.v (.sl 54 a0) (.own (.slot 2) 54)), (.v (.int .i64 a1) .no), (.v (.sl 54 a2) (.own (.slot 4) 54))] [[]]) (fun a0 => K (.exit 0) [.any, .any, (.v (.sl 54 a0) (.own (.slot 4) 54))] [[]])
 | _, _ => none
def a2S (N : Nat) (f : LB) : Option (List V × Int) := T7 N N f [] (fun w u l2 => some (w, u)) fun l3 => some (l3, 0)
def b7l (N : Nat) : Cx := cl [d7w N, d2o N] [] [⟨2, [0, 4], [2, 3, 4], a7G N⟩]
theorem c2q (N : Nat) : p9 (b7l N) 37 (s4 Tryz.f8 0) := by
 refine j7 (rid := 2) (by kernel_rfl) rfl rfl fun R ds m K r h => ?_
 change a7G N ds m K = _ at h
 unfold a7G at h
 split at h
 . rename_i w Ab
   exact ⟨N, Gr (lpI (fun (e : (List V -> Int -> List V -> Option R) × (List V -> Option R)) L (s : LB × List V) => a3F N (fun w Ab => L (w, Ab)) e.1 e.2 s.1 s.2) (fun e t s => T7 N t s.1 s.2 e.1 e.2) (fun s => [(.v (.str s.1) .no), (.v (.sl 54 s.2) (.own (.slot 4) 54))]) (fun s => [[]]) (fun _ _ => rfl) (fun _ _ _ => rfl) (e := (_, _)) (fun L s => by kernel_rfl) N (w, Ab)) h⟩
 . cases h
def c2T (N : Nat) : Ent := pE 8 (.v .s .z) (.v (.l 54) (.v fI .z)) (a2S N)
theorem c2J (N : Nat) : POK Tryz.prog T 8 (.v .s .z) (.v (.l 54) (.v fI .z)) (a2S N) := pok (cx := b7l N) fo (D4 ⟨d6A N, d8w N, trivial⟩ trivial) (j6 (k := 1) (by kernel_rfl) ⟨trivial, c2q N⟩) Tryz.func8 (by kernel_rfl) rfl fun h => by kernel_rfl
theorem d0x (N : Nat) : EO (c2T N) := a1E (gz Tryz.func8 (by kernel_rfl)) rfl (c2J N)
theorem d5a (N : Nat) (f : LB) (r0 : List V) (r1 : Int) (h : a2S N f = some (r0, r1)) : PRT 8 [.v (.str f) .no] [.v (.sl 54 r0) .no, dI r1] := c2J N (f, ()) (r0, r1) h
end En
end
end Go.Proofs.YtkoilndpfifapaaGreatDoor
