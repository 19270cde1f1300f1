/- Texts. -/
import Derived.Test.YtfafflepalgcnaaGreatZ8
import Derived.ProofKit
import Derived.OpenShut
import Derived.ChangeOld
import Derived.ShutString
import Derived.Lib.SmallJoins
set_option linter.unusedSimpArgs false
set_option linter.unusedVariables false
set_option linter.unusedSectionVars false
open Bool renaming false_eq_true → GZ, and_eq_true → GP
open Decidable renaming byContradiction → Jm
open Go renaming TypeId → GF, Field → LU, Value → GK, MemPlace → Oy
open Go.DataW renaming trod → Pc, trod_int → Nn, trod_slice → MB, Trod → No
open Go.IntKind renaming i64 → GA
open Go.World renaming cells?_some → KW
open Int renaming toNat → GX
open List renaming take → Ig, length_pos_iff → HA, length_append → GW, length_take → HN, append_assoc → Ic, take_append_drop → Ip, length_drop → Ih, mem_cons_of_mem → Hv, length_map → II, drop → GU, take_length → IU, length → Ke, length_cons → Hu, nil_append → IJ, getElem?_append_left → GS, getD_eq_getElem?_getD → GJ, getElem?_append_right → GV, getElem?_eq_getElem → GH, all_eq_true → Ib, flatten_cons → KX, getElem?_eq_some_iff → GD, any_eq_true → MA, getElem?_of_mem → Jp, mem_map → Kn, getElem?_map → Hz
open Nat renaming mod_eq_of_lt → Ii, beq → GR, lt_or_ge → Ir, succ_mul → Oa, eq_of_beq_eq_true → GE, le_refl → GB
open Option renaming bind_eq_some_iff → Jf
open UInt8 renaming ofNat → Gz, toNat_ofNat' → Iy, toNat_lt → He
namespace Go.Proofs.YtfafflepalgcnaaGreat
namespace En
open Go Go.Proofs
set_option maxRecDepth 100000
set_option maxHeartbeats 8000000
abbrev d4p := a0a (LB -> Int -> Option (Int × Int × Int × Int × LB × Int × Bool × LB × Int × Bool))
noncomputable def a6n {R : Type} (s : d4p) (ds : List D) (K : List D -> Option R) : Option R :=
 match ds with
 | [.agg [.v (.int .i64 a) .no, .v (.int .i64 y) .no, .v (.int .i64 z) .no, .v (.int .i64 O) .no, .v (.bytes x4) .no, .v (.int .i64 x5) .no, .v (.bool x6) .no], .agg [.v (.bytes x7) .no, .v (.int .i64 x8) .no]] => a5D (s a y z O x4 x5 x6 x7 x8) fun u r1 r2 r3 r4 r5 r6 r7 r8 r9 => K [g3a u r1 r2 r3 r4 r5 r6, .agg [dY r7, dI r8], dB r9]
 | _ => none
noncomputable def c2p (rs : List D) (_ : Mem) : Option (Int × Int × Int × Int × LB × Int × Bool × LB × Int × Bool) :=
 match rs with
 | [.agg [.v (.int .i64 u) _, .v (.int .i64 r1) _, .v (.int .i64 r2) _, .v (.int .i64 r3) _, .v (.bytes r4) _, .v (.int .i64 r5) _, .v (.bool r6) _], .agg [.v (.bytes r7) _, .v (.int .i64 r8) _], .v (.bool r9) _] => some (u, r1, r2, r3, r4, r5, r6, r7, r8, r9)
 | _ => none
noncomputable def a0H {R : Type} (N : Nat) (n2 n3 n4 n5 : Int) (l6 : LB) (n7 : Int) (b8 : Bool) (l9 : LB) (na nb nc nd Ad : Int) (lf : LB) (ng : Int) (bh : Bool) (AY : LB) (nj : Int) (Ah : Bool) (ns nt nu nv : Int) (Bk : LB) (AA : Int) (Bm : Bool) (Bq : List Int) (Lq : LB -> Int -> a0a (Bool -> Int -> Int -> Int -> Int -> Int -> Int -> Bool -> Bool -> Int -> Int -> LB -> Bool -> LB -> Int -> Bool -> Int -> LB -> Int -> Int -> Int -> Int -> Int -> a0a (Bool -> LB -> Int -> Option R))) (K0 : a0a (Bool -> Int -> Int -> Int -> Int -> Int -> Int -> Bool -> Bool -> Int -> Int -> LB -> Bool -> LB -> Int -> Bool -> Int -> LB -> Int -> Int -> Int -> Int -> Int -> a0a (Bool -> LB -> Int -> Option R))) (l0 : LB) (n1 nk nl Af nn : Int) (Al : LB) (np : Int) (bq bz : Bool) (Aq Ar Aw Ao AC As : Int) (AM AG : Bool) (Ax Ay : Int) (AO : LB) (AH : Bool) (AI : LB) (Ak : Int) (AW : Bool) (AB : Int) (Bo : LB) (AP AQ Am AU AD AE AL AV Bc : Int) (AZ : LB) (Ba : Int) (AX AT : Bool) (Bb : LB) (Bd : Int) : Option R := br (decide (n1 < 200000)) (br (decide (0 < (l0.length : Int))) (b6n (a0f N l0 Bq AB Bo AP AQ Am AU AD AE AL AV Bc AZ Ba AX AT Bb Bd) fun l0 n1_1 l2 n3 n4 n5 n6 n7 n8 n9 n10_1 nb Ag nd BH bf Ap nh => H9 (K3 N Bq n1_1 l2 n3 n4 n5 n6 n7 n8 n9 n10_1 nb Ag nd BH bf Ap nh) fun ni nj n20_1 n21_1 BM n23_1 bo bp => br bp (M8 (a0M N l9 na Bq n1_1 l2 n3 n4 n5 n6 n7 n8 n9 n10_1 nb Ag nd BH bf Ap nh) fun lq nr AN n29_1 => d3 (a1I N [V.bytes l0, V.bytes lq]) fun lu => b9C (S4 N lu Ah ns nt nu nv Bk AA Bm bz Aq Ar Aw Ao AC As AM AG Ax Ay AO AH AI Ak AW) fun Db bw AA ny nz Aq Ar Aw DI CO As BC CH DJ Dc CI AH => Lq Db (GA.wrap (n1 + 1)) ni nj n20_1 n21_1 BM n23_1 bo bw AA ny nz Aq Ar Aw DI CO As BC CH DJ Dc CI AH nr l2 n3 n4 n5 n6 n7 n8 n9 n10_1 nb Ag nd BH bf AN n29_1) (b9C (S4 N l0 Ah ns nt nu nv Bk AA Bm bz Aq Ar Aw Ao AC As AM AG Ax Ay AO AH AI Ak AW) fun AI Fx BE BB AB Bz AP AQ Fy BF AD AE Fz DK CP CR CZ => Lq AI (GA.wrap (n1 + 1)) nk nl Af nn Al np bq Fx BE BB AB Bz AP AQ Fy BF AD AE Fz DK CP CR CZ n1_1 l2 n3 n4 n5 n6 n7 n8 n9 n10_1 nb Ag nd BH bf Ap nh)) (K0 nk nl Af nn Al np bq bz Aq Ar Aw Ao AC As AM AG Ax Ay AO AH AI Ak AW AB Bo AP AQ Am AU AD AE AL AV Bc AZ Ba AX AT Bb Bd)) (K0 nk nl Af nn Al np bq bz Aq Ar Aw Ao AC As AM AG Ax Ay AO AH AI Ak AW AB Bo AP AQ Am AU AD AE AL AV Bc AZ Ba AX AT Bb Bd)
noncomputable def N8 {R : Type} (N : Nat) (n2 n3 n4 n5 : Int) (l6 : LB) (n7 : Int) (b8 : Bool) (l9 : LB) (na nb nc nd Ad : Int) (lf : LB) (ng : Int) (bh : Bool) (AY : LB) (nj : Int) (Ah : Bool) (ns nt nu nv : Int) (Bk : LB) (AA : Int) (Bm : Bool) (Bq : List Int) : Nat -> LB -> Int -> a0a (Bool -> Int -> Int -> Int -> Int -> Int -> Int -> Bool -> Bool -> Int -> Int -> LB -> Bool -> LB -> Int -> Bool -> Int -> LB -> Int -> Int -> Int -> Int -> Int -> a0a (Bool -> LB -> Int -> (a0a (Bool -> Int -> Int -> Int -> Int -> Int -> Int -> Bool -> Bool -> Int -> Int -> LB -> Bool -> LB -> Int -> Bool -> Int -> LB -> Int -> Int -> Int -> Int -> Int -> a0a (Bool -> LB -> Int -> Option R))) -> Option R)) | 0, _, _, _, _, _, _, _, _, _, _, _, _, _, _, _, _, _, _, _, _, _, _, _, _, _, _, _, _, _, _, _, _, _, _, _, _, _, _, _, _, _, _, _ => none | t + 1, l0, n1, nk, nl, Af, nn, Al, np, bq, bz, Aq, Ar, Aw, Ao, AC, As, AM, AG, Ax, Ay, AO, AH, AI, Ak, AW, AB, Bo, AP, AQ, Am, AU, AD, AE, AL, AV, Bc, AZ, Ba, AX, AT, Bb, Bd, K0 => a0H N n2 n3 n4 n5 l6 n7 b8 l9 na nb nc nd Ad lf ng bh AY nj Ah ns nt nu nv Bk AA Bm Bq (fun l0 n1 nk nl Af nn Al np bq bz Aq Ar Aw Ao AC As AM AG Ax Ay AO AH AI Ak AW AB Bo AP AQ Am AU AD AE AL AV Bc AZ Ba AX AT Bb Bd => N8 N n2 n3 n4 n5 l6 n7 b8 l9 na nb nc nd Ad lf ng bh AY nj Ah ns nt nu nv Bk AA Bm Bq t l0 n1 nk nl Af nn Al np bq bz Aq Ar Aw Ao AC As AM AG Ax Ay AO AH AI Ak AW AB Bo AP AQ Am AU AD AE AL AV Bc AZ Ba AX AT Bb Bd K0) K0 l0 n1 nk nl Af nn Al np bq bz Aq Ar Aw Ao AC As AM AG Ax Ay AO AH AI Ak AW AB Bo AP AQ Am AU AD AE AL AV Bc AZ Ba AX AT Bb Bd
noncomputable def a9a {R : Type} (N : Nat) (ds : List D) (m : Mem) (K : Ex -> List D -> Mem -> Option R) : Option R :=
 match ds, m with
 | [(.ptr 0 2 0), (.ptr 0 3 0), (.ptr 0 4 0), (.ptr 0 5 0), (.ptr 0 29 0), (.ptr 0 31 0), (.ptr 0 10 0), (.v (.bytes l0) .no), (.v (.int .i64 n1) .no), .any, (.ptr 0 29 0), (.ptr 0 31 0), .any], [[(2, ⟨24, [(.v (.int .i64 n2) .no), (.v (.int .i64 n3) .no), (.v (.int .i64 n4) .no), (.v (.int .i64 n5) .no), (.v (.bytes l6) .no), (.v (.int .i64 n7) .no), (.v (.bool b8) .no)]⟩), (3, ⟨26, [(.v (.bytes l9) .no), (.v (.int .i64 na) .no)]⟩), (4, ⟨24, [(.v (.int .i64 nb) .no), (.v (.int .i64 nc) .no), (.v (.int .i64 nd) .no), (.v (.int .i64 Ad) .no), (.v (.bytes lf) (.own (.slot 0) 5)), (.v (.int .i64 ng) .no), (.v (.bool bh) .no)]⟩), (5, ⟨26, [(.v (.bytes AY) (.own (.slot 0) 5)), (.v (.int .i64 nj) .no)]⟩), (10, ⟨24, [(.v (.int .i64 nk) .no), (.v (.int .i64 nl) .no), (.v (.int .i64 Af) .no), (.v (.int .i64 nn) .no), (.v (.bytes Al) .no), (.v (.int .i64 np) .no), (.v (.bool bq) .no)]⟩), (29, ⟨99, [(.v (.bool Ah) .no), (.v (.int .i64 ns) .no), (.v (.int .i64 nt) .no), (.v (.int .i64 nu) .no), (.v (.int .i64 nv) .no), (.v (.bytes Bk) .no), (.v (.int .i64 AA) .no), (.v (.bool Bm) .no), (.v (.bool bz) .no), (.fn Aq [79, 87, 93] 0 29), (.v (.int .i64 Ar) .no), (.v (.int .i64 Aw) .no), (.v (.int .i64 Ao) .no), (.v (.int .i64 AC) .no), (.v (.int .i64 As) .no), (.v (.bool AM) .no), (.v (.bool AG) .no), (.v (.int .i64 Ax) .no), (.v (.int .u8 Ay) .no), (.v (.bytes AO) (.own (.slot 0) 5)), (.v (.bool AH) .no), (.v (.bytes AI) .no), (.v (.int .i64 Ak) .no), (.v (.bool AW) .no)]⟩), (31, ⟨102, [(.v (.mset Bq) .no), (.fn AB [59, 76] 0 31), (.v (.bytes Bo) (.own (.slot 0) 5)), (.v (.int .i64 AP) .no), (.v (.int .i64 AQ) .no), (.v (.int .i64 Am) .no), (.v (.int .i64 AU) .no), (.v (.int .i64 AD) .no), (.v (.int .i64 AE) .no), (.v (.int .i64 AL) .no), (.v (.int .i64 AV) .no), (.v (.int .i64 Bc) .no), (.v (.bytes AZ) .no), (.v (.int .i64 Ba) .no), (.v (.bool AX) .no), (.v (.bool AT) .no), (.v (.bytes Bb) .no), (.v (.int .i64 Bd) .no)]⟩)]] => N8 N n2 n3 n4 n5 l6 n7 b8 l9 na nb nc nd Ad lf ng bh AY nj Ah ns nt nu nv Bk AA Bm Bq N l0 n1 nk nl Af nn Al np bq bz Aq Ar Aw Ao AC As AM AG Ax Ay AO AH AI Ak AW AB Bo AP AQ Am AU AD AE AL AV Bc AZ Ba AX AT Bb Bd (fun An Be Bf Bg Bh Bi Bj BN BO BP BQ BR BS BU BV BW BX BY BZ Ca Cb Cc Ce Cf Cg Ch Ci Cj Cl Cm Cn Cp Cq Cr Ct Cu Cv Cw Cy Cz => K (.exit 0) [(.ptr 0 2 0), (.ptr 0 3 0), (.ptr 0 4 0), (.ptr 0 5 0), (.ptr 0 29 0), (.ptr 0 10 0), .any, (.ptr 0 29 0), (.ptr 0 31 0)] [[(2, ⟨24, [(.v (.int .i64 n2) .no), (.v (.int .i64 n3) .no), (.v (.int .i64 n4) .no), (.v (.int .i64 n5) .no), (.v (.bytes l6) .no), (.v (.int .i64 n7) .no), (.v (.bool b8) .no)]⟩), (3, ⟨26, [(.v (.bytes l9) .no), (.v (.int .i64 na) .no)]⟩), (4, ⟨24, [(.v (.int .i64 nb) .no), (.v (.int .i64 nc) .no), (.v (.int .i64 nd) .no), (.v (.int .i64 Ad) .no), (.v (.bytes lf) (.own (.slot 0) 5)), (.v (.int .i64 ng) .no), (.v (.bool bh) .no)]⟩), (5, ⟨26, [(.v (.bytes AY) (.own (.slot 0) 5)), (.v (.int .i64 nj) .no)]⟩), (10, ⟨24, [(.v (.int .i64 An) .no), (.v (.int .i64 Be) .no), (.v (.int .i64 Bf) .no), (.v (.int .i64 Bg) .no), (.v (.bytes Bh) .no), (.v (.int .i64 Bi) .no), (.v (.bool Bj) .no)]⟩), (29, ⟨99, [(.v (.bool Ah) .no), (.v (.int .i64 ns) .no), (.v (.int .i64 nt) .no), (.v (.int .i64 nu) .no), (.v (.int .i64 nv) .no), (.v (.bytes Bk) .no), (.v (.int .i64 AA) .no), (.v (.bool Bm) .no), (.v (.bool BN) .no), (.fn BO [79, 87, 93] 0 29), (.v (.int .i64 BP) .no), (.v (.int .i64 BQ) .no), (.v (.int .i64 BR) .no), (.v (.int .i64 BS) .no), (.v (.int .i64 BU) .no), (.v (.bool BV) .no), (.v (.bool BW) .no), (.v (.int .i64 BX) .no), (.v (.int .u8 BY) .no), (.v (.bytes BZ) (.own (.slot 0) 5)), (.v (.bool Ca) .no), (.v (.bytes Cb) .no), (.v (.int .i64 Cc) .no), (.v (.bool Ce) .no)]⟩), (31, ⟨102, [(.v (.mset Bq) .no), (.fn Cf [59, 76] 0 31), (.v (.bytes Cg) (.own (.slot 0) 5)), (.v (.int .i64 Ch) .no), (.v (.int .i64 Ci) .no), (.v (.int .i64 Cj) .no), (.v (.int .i64 Cl) .no), (.v (.int .i64 Cm) .no), (.v (.int .i64 Cn) .no), (.v (.int .i64 Cp) .no), (.v (.int .i64 Cq) .no), (.v (.int .i64 Cr) .no), (.v (.bytes Ct) .no), (.v (.int .i64 Cu) .no), (.v (.bool Cv) .no), (.v (.bool Cw) .no), (.v (.bytes Cy) .no), (.v (.int .i64 Cz) .no)]⟩)]])
 | _, _ => none
noncomputable def T2 (N : Nat) (a y z O : Int) (x4 : LB) (x5 : Int) (x6 : Bool) (x7 : LB) (x8 : Int) : Option (Int × Int × Int × Int × LB × Int × Bool × LB × Int × Bool) := br (decide (0 < (x4.length : Int))) (d3 (a2Q N) fun x0_1 => d3 (a1N N [V.int GA y]) fun l1 => c1k (a1n N a y z O x4 x5 x6 true 0 0 0 0 [] 0 false false 0 0 0 0 0 0 false false 0 0 [] false [] 0 false) fun l2 n3 b4 n5 n6 n7 n8 l9 na Ai bc nd Ad nf ng nh ni bj bk nl Af ln bo lp nq Ah => br (!decide (n3 = 0)) (some (0, 0, 0, 0, [], 0, false, [], 0, false)) (N8 N a y z O x4 x5 x6 x7 x8 0 0 0 0 [] 0 false [] 0 b4 n5 n6 n7 n8 l9 na Ai l1 N l2 0 0 0 0 0 [] 0 false bc nd Ad nf ng nh ni bj bk nl Af ln bo lp nq Ah 1 [] 0 0 0 0 0 0 0 0 0 [] 0 false false [] 0 fun ns nt nu nv Bk AA Bm bz Aq Ar Aw Ao AC As AM AG Ax Ay AO AH AI Ak AW BB CA Bz AP AQ Am AU AD AE AL AV CP CR CZ AX Gq DQ => a3n (I3 N b4 n5 n6 n7 n8 l9 na Ai bz Aq Ar Aw Ao AC As AM AG Ax Ay AO AH AI Ak AW) fun Df CL DL => some (ns, nt, nu, nv, Bk, AA, Bm, Df, CL, DL))) (d3 (a2Q N) fun Gr => d3 (a1N N []) fun CM => c1k (a1n N a y z O x4 x5 x6 true 0 0 0 0 [] 0 false false 0 0 0 0 0 0 false false 0 0 [] false [] 0 false) fun Di Dj Da CB CT CU CV CW CX CY FA Do Dp Dq Dr Ds FB FC Dt Du Dv FD FE FF FG FH => br (!decide (Dj = 0)) (some (0, 0, 0, 0, [], 0, false, [], 0, false)) (N8 N a y z O x4 x5 x6 x7 x8 0 0 0 0 [] 0 false [] 0 Da CB CT CU CV CW CX CY CM N Di 0 0 0 0 0 [] 0 false FA Do Dp Dq Dr Ds FB FC Dt Du Dv FD FE FF FG FH 1 [] 0 0 0 0 0 0 0 0 0 [] 0 false false [] 0 fun FI Dw Dx Dy FJ Dz FK FL DA FM DB DC DD DE FN FO FP DF FQ FR Fq9 DG FT DR DS DT Gs DU DV DW DX DY Gt DZ Gu Ea Gv Gw Gx Eb => a3n (I3 N Da CB CT CU CV CW CX CY FL DA FM DB DC DD DE FN FO FP DF FQ FR Fq9 DG FT) fun FU FV FW => some (FI, Dw, Dx, Dy, FJ, Dz, FK, FU, FV, FW)))
noncomputable def a3r (N : Nat) : Cx := { T := T, isPure := a5S [⟨36, a5d (a1I N)⟩], pureK := fun g ds K => a2y [⟨36, a5d (a1I N)⟩] g ds K, memK := fun g dst ds m K => Y9 [⟨31, b0H (a2Q N)⟩, ⟨32, b0I (a1N N)⟩, ⟨33, a7l (a1n N)⟩, ⟨34, a1v (a0f N)⟩, ⟨35, a1F (K3 N)⟩, ⟨37, a4N (a0M N)⟩, ⟨38, a1K (S4 N)⟩, ⟨39, a0r (I3 N)⟩] g dst ds m K, meth := a3N [], keep := fun r => match r with | 11 => [2, 3, 4, 5, 8, 9, 10, 11, 13, 17, 29, 31, 100010] | _ => [], keepX := fun r => match r with | 11 => [2, 3, 4, 5, 8, 10, 17, 29, 31] | _ => [], loopT := fun r ds m K => match r with | 11 => a9a N ds m K | _ => none, jumps := 9, dyn := true }
theorem b6J {R : Type} (N : Nat) (n2 n3 n4 n5 : Int) (l6 : LB) (n7 : Int) (b8 : Bool) (l9 : LB) (na nb nc nd Ad : Int) (lf : LB) (ng : Int) (bh : Bool) (AY : LB) (nj : Int) (Ah : Bool) (ns nt nu nv : Int) (Bk : LB) (AA : Int) (Bm : Bool) (Bq : List Int) (l0 : LB) (n1 nk nl Af nn : Int) (Al : LB) (np : Int) (bq bz : Bool) (Aq Ar Aw Ao AC As : Int) (AM AG : Bool) (Ax Ay : Int) (AO : LB) (AH : Bool) (AI : LB) (Ak : Int) (AW : Bool) (AB : Int) (Bo : LB) (AP AQ Am AU AD AE AL AV Bc : Int) (AZ : LB) (Ba : Int) (AX AT : Bool) (Bb : LB) (Bd : Int) (L : List D -> Mem -> Option R) (K : Ex -> List D -> Mem -> Option R) :
 a0k (fun st K => codeK (a3r N) (G1 Tryz.f13 0) st K) 79 [2, 3, 4, 5, 8, 9, 10, 11, 13, 17, 29, 31, 100010] [2, 3, 4, 5, 8, 10, 17, 29, 31] L [(.ptr 0 2 0), (.ptr 0 3 0), (.ptr 0 4 0), (.ptr 0 5 0), (.ptr 0 29 0), (.ptr 0 31 0), (.ptr 0 10 0), (dY l0), (dI n1), .any, (.ptr 0 29 0), (.ptr 0 31 0), .any] [[(2, ⟨24, [(dI n2), (dI n3), (dI n4), (dI n5), (dY l6), (dI n7), (dB b8)]⟩), (3, ⟨26, [(dY l9), (dI na)]⟩), (4, ⟨24, [(dI nb), (dI nc), (dI nd), (dI Ad), (.v (.bytes lf) (.own (.slot 0) 5)), (dI ng), (dB bh)]⟩), (5, ⟨26, [(.v (.bytes AY) (.own (.slot 0) 5)), (dI nj)]⟩), (10, ⟨24, [(dI nk), (dI nl), (dI Af), (dI nn), (dY Al), (dI np), (dB bq)]⟩), (29, ⟨99, [(dB Ah), (dI ns), (dI nt), (dI nu), (dI nv), (dY Bk), (dI AA), (dB Bm), (dB bz), (.fn Aq [79, 87, 93] 0 29), (dI Ar), (dI Aw), (dI Ao), (dI AC), (dI As), (dB AM), (dB AG), (dI Ax), (.v (.int .u8 Ay) .no), (.v (.bytes AO) (.own (.slot 0) 5)), (dB AH), (dY AI), (dI Ak), (dB AW)]⟩), (31, ⟨102, [(.v (.mset Bq) .no), (.fn AB [59, 76] 0 31), (.v (.bytes Bo) (.own (.slot 0) 5)), (dI AP), (dI AQ), (dI Am), (dI AU), (dI AD), (dI AE), (dI AL), (dI AV), (dI Bc), (dY AZ), (dI Ba), (dB AX), (dB AT), (dY Bb), (dI Bd)]⟩)]] K = a0H N n2 n3 n4 n5 l6 n7 b8 l9 na nb nc nd Ad lf ng bh AY nj Ah ns nt nu nv Bk AA Bm Bq (fun l0 n1 nk nl Af nn Al np bq bz Aq Ar Aw Ao AC As AM AG Ax Ay AO AH AI Ak AW AB Bo AP AQ Am AU AD AE AL AV Bc AZ Ba AX AT Bb Bd => L [(.ptr 0 2 0), (.ptr 0 3 0), (.ptr 0 4 0), (.ptr 0 5 0), (.ptr 0 29 0), (.ptr 0 31 0), (.ptr 0 10 0), (dY l0), (dI n1), .any, (.ptr 0 29 0), (.ptr 0 31 0), .any] [[(2, ⟨24, [(dI n2), (dI n3), (dI n4), (dI n5), (dY l6), (dI n7), (dB b8)]⟩), (3, ⟨26, [(dY l9), (dI na)]⟩), (4, ⟨24, [(dI nb), (dI nc), (dI nd), (dI Ad), (.v (.bytes lf) (.own (.slot 0) 5)), (dI ng), (dB bh)]⟩), (5, ⟨26, [(.v (.bytes AY) (.own (.slot 0) 5)), (dI nj)]⟩), (10, ⟨24, [(dI nk), (dI nl), (dI Af), (dI nn), (dY Al), (dI np), (dB bq)]⟩), (29, ⟨99, [(dB Ah), (dI ns), (dI nt), (dI nu), (dI nv), (dY Bk), (dI AA), (dB Bm), (dB bz), (.fn Aq [79, 87, 93] 0 29), (dI Ar), (dI Aw), (dI Ao), (dI AC), (dI As), (dB AM), (dB AG), (dI Ax), (.v (.int .u8 Ay) .no), (.v (.bytes AO) (.own (.slot 0) 5)), (dB AH), (dY AI), (dI Ak), (dB AW)]⟩), (31, ⟨102, [(.v (.mset Bq) .no), (.fn AB [59, 76] 0 31), (.v (.bytes Bo) (.own (.slot 0) 5)), (dI AP), (dI AQ), (dI Am), (dI AU), (dI AD), (dI AE), (dI AL), (dI AV), (dI Bc), (dY AZ), (dI Ba), (dB AX), (dB AT), (dY Bb), (dI Bd)]⟩)]]) (fun An Be Bf Bg Bh Bi Bj BN BO BP BQ BR BS BU BV BW BX BY BZ Ca Cb Cc Ce Cf Cg Ch Ci Cj Cl Cm Cn Cp Cq Cr Ct Cu Cv Cw Cy Cz => K (.exit 0) [(.ptr 0 2 0), (.ptr 0 3 0), (.ptr 0 4 0), (.ptr 0 5 0), (.ptr 0 29 0), (.ptr 0 10 0), .any, (.ptr 0 29 0), (.ptr 0 31 0)] [[(2, ⟨24, [(dI n2), (dI n3), (dI n4), (dI n5), (dY l6), (dI n7), (dB b8)]⟩), (3, ⟨26, [(dY l9), (dI na)]⟩), (4, ⟨24, [(dI nb), (dI nc), (dI nd), (dI Ad), (.v (.bytes lf) (.own (.slot 0) 5)), (dI ng), (dB bh)]⟩), (5, ⟨26, [(.v (.bytes AY) (.own (.slot 0) 5)), (dI nj)]⟩), (10, ⟨24, [(dI An), (dI Be), (dI Bf), (dI Bg), (dY Bh), (dI Bi), (dB Bj)]⟩), (29, ⟨99, [(dB Ah), (dI ns), (dI nt), (dI nu), (dI nv), (dY Bk), (dI AA), (dB Bm), (dB BN), (.fn BO [79, 87, 93] 0 29), (dI BP), (dI BQ), (dI BR), (dI BS), (dI BU), (dB BV), (dB BW), (dI BX), (.v (.int .u8 BY) .no), (.v (.bytes BZ) (.own (.slot 0) 5)), (dB Ca), (dY Cb), (dI Cc), (dB Ce)]⟩), (31, ⟨102, [(.v (.mset Bq) .no), (.fn Cf [59, 76] 0 31), (.v (.bytes Cg) (.own (.slot 0) 5)), (dI Ch), (dI Ci), (dI Cj), (dI Cl), (dI Cm), (dI Cn), (dI Cp), (dI Cq), (dI Cr), (dY Ct), (dI Cu), (dB Cv), (dB Cw), (dY Cy), (dI Cz)]⟩)]]) l0 n1 nk nl Af nn Al np bq bz Aq Ar Aw Ao AC As AM AG Ax Ay AO AH AI Ak AW AB Bo AP AQ Am AU AD AE AL AV Bc AZ Ba AX AT Bb Bd := by
 kernel_rfl
theorem a6X {R : Type} (N : Nat) (n2 n3 n4 n5 : Int) (l6 : LB) (n7 : Int) (b8 : Bool) (l9 : LB) (na nb nc nd Ad : Int) (lf : LB) (ng : Int) (bh : Bool) (AY : LB) (nj : Int) (Ah : Bool) (ns nt nu nv : Int) (Bk : LB) (AA : Int) (Bm : Bool) (Bq : List Int) (K : Ex -> List D -> Mem -> Option R) : ∀ (t : Nat) (l0 : LB) (n1 nk nl Af nn : Int) (Al : LB) (np : Int) (bq bz : Bool) (Aq Ar Aw Ao AC As : Int) (AM AG : Bool) (Ax Ay : Int) (AO : LB) (AH : Bool) (AI : LB) (Ak : Int) (AW : Bool) (AB : Int) (Bo : LB) (AP AQ Am AU AD AE AL AV Bc : Int) (AZ : LB) (Ba : Int) (AX AT : Bool) (Bb : LB) (Bd : Int),
 a0T (fun st K => codeK (a3r N) (G1 Tryz.f13 0) st K) 79 [2, 3, 4, 5, 8, 9, 10, 11, 13, 17, 29, 31, 100010] [2, 3, 4, 5, 8, 10, 17, 29, 31] t [(.ptr 0 2 0), (.ptr 0 3 0), (.ptr 0 4 0), (.ptr 0 5 0), (.ptr 0 29 0), (.ptr 0 31 0), (.ptr 0 10 0), (dY l0), (dI n1), .any, (.ptr 0 29 0), (.ptr 0 31 0), .any] [[(2, ⟨24, [(dI n2), (dI n3), (dI n4), (dI n5), (dY l6), (dI n7), (dB b8)]⟩), (3, ⟨26, [(dY l9), (dI na)]⟩), (4, ⟨24, [(dI nb), (dI nc), (dI nd), (dI Ad), (.v (.bytes lf) (.own (.slot 0) 5)), (dI ng), (dB bh)]⟩), (5, ⟨26, [(.v (.bytes AY) (.own (.slot 0) 5)), (dI nj)]⟩), (10, ⟨24, [(dI nk), (dI nl), (dI Af), (dI nn), (dY Al), (dI np), (dB bq)]⟩), (29, ⟨99, [(dB Ah), (dI ns), (dI nt), (dI nu), (dI nv), (dY Bk), (dI AA), (dB Bm), (dB bz), (.fn Aq [79, 87, 93] 0 29), (dI Ar), (dI Aw), (dI Ao), (dI AC), (dI As), (dB AM), (dB AG), (dI Ax), (.v (.int .u8 Ay) .no), (.v (.bytes AO) (.own (.slot 0) 5)), (dB AH), (dY AI), (dI Ak), (dB AW)]⟩), (31, ⟨102, [(.v (.mset Bq) .no), (.fn AB [59, 76] 0 31), (.v (.bytes Bo) (.own (.slot 0) 5)), (dI AP), (dI AQ), (dI Am), (dI AU), (dI AD), (dI AE), (dI AL), (dI AV), (dI Bc), (dY AZ), (dI Ba), (dB AX), (dB AT), (dY Bb), (dI Bd)]⟩)]] K = N8 N n2 n3 n4 n5 l6 n7 b8 l9 na nb nc nd Ad lf ng bh AY nj Ah ns nt nu nv Bk AA Bm Bq t l0 n1 nk nl Af nn Al np bq bz Aq Ar Aw Ao AC As AM AG Ax Ay AO AH AI Ak AW AB Bo AP AQ Am AU AD AE AL AV Bc AZ Ba AX AT Bb Bd (fun An Be Bf Bg Bh Bi Bj BN BO BP BQ BR BS BU BV BW BX BY BZ Ca Cb Cc Ce Cf Cg Ch Ci Cj Cl Cm Cn Cp Cq Cr Ct Cu Cv Cw Cy Cz => K (.exit 0) [(.ptr 0 2 0), (.ptr 0 3 0), (.ptr 0 4 0), (.ptr 0 5 0), (.ptr 0 29 0), (.ptr 0 10 0), .any, (.ptr 0 29 0), (.ptr 0 31 0)] [[(2, ⟨24, [(dI n2), (dI n3), (dI n4), (dI n5), (dY l6), (dI n7), (dB b8)]⟩), (3, ⟨26, [(dY l9), (dI na)]⟩), (4, ⟨24, [(dI nb), (dI nc), (dI nd), (dI Ad), (.v (.bytes lf) (.own (.slot 0) 5)), (dI ng), (dB bh)]⟩), (5, ⟨26, [(.v (.bytes AY) (.own (.slot 0) 5)), (dI nj)]⟩), (10, ⟨24, [(dI An), (dI Be), (dI Bf), (dI Bg), (dY Bh), (dI Bi), (dB Bj)]⟩), (29, ⟨99, [(dB Ah), (dI ns), (dI nt), (dI nu), (dI nv), (dY Bk), (dI AA), (dB Bm), (dB BN), (.fn BO [79, 87, 93] 0 29), (dI BP), (dI BQ), (dI BR), (dI BS), (dI BU), (dB BV), (dB BW), (dI BX), (.v (.int .u8 BY) .no), (.v (.bytes BZ) (.own (.slot 0) 5)), (dB Ca), (dY Cb), (dI Cc), (dB Ce)]⟩), (31, ⟨102, [(.v (.mset Bq) .no), (.fn Cf [59, 76] 0 31), (.v (.bytes Cg) (.own (.slot 0) 5)), (dI Ch), (dI Ci), (dI Cj), (dI Cl), (dI Cm), (dI Cn), (dI Cp), (dI Cq), (dI Cr), (dY Ct), (dI Cu), (dB Cv), (dB Cw), (dY Cy), (dI Cz)]⟩)]])
 | 0, l0, n1, nk, nl, Af, nn, Al, np, bq, bz, Aq, Ar, Aw, Ao, AC, As, AM, AG, Ax, Ay, AO, AH, AI, Ak, AW, AB, Bo, AP, AQ, Am, AU, AD, AE, AL, AV, Bc, AZ, Ba, AX, AT, Bb, Bd => rfl
 | t + 1, l0, n1, nk, nl, Af, nn, Al, np, bq, bz, Aq, Ar, Aw, Ao, AC, As, AM, AG, Ax, Ay, AO, AH, AI, Ak, AW, AB, Bo, AP, AQ, Am, AU, AD, AE, AL, AV, Bc, AZ, Ba, AX, AT, Bb, Bd => (b6J N n2 n3 n4 n5 l6 n7 b8 l9 na nb nc nd Ad lf ng bh AY nj Ah ns nt nu nv Bk AA Bm Bq l0 n1 nk nl Af nn Al np bq bz Aq Ar Aw Ao AC As AM AG Ax Ay AO AH AI Ak AW AB Bo AP AQ Am AU AD AE AL AV Bc AZ Ba AX AT Bb Bd _ K).trans (congrArg (fun L => a0H N n2 n3 n4 n5 l6 n7 b8 l9 na nb nc nd Ad lf ng bh AY nj Ah ns nt nu nv Bk AA Bm Bq L (fun An Be Bf Bg Bh Bi Bj BN BO BP BQ BR BS BU BV BW BX BY BZ Ca Cb Cc Ce Cf Cg Ch Ci Cj Cl Cm Cn Cp Cq Cr Ct Cu Cv Cw Cy Cz => K (.exit 0) [(.ptr 0 2 0), (.ptr 0 3 0), (.ptr 0 4 0), (.ptr 0 5 0), (.ptr 0 29 0), (.ptr 0 10 0), .any, (.ptr 0 29 0), (.ptr 0 31 0)] [[(2, ⟨24, [(dI n2), (dI n3), (dI n4), (dI n5), (dY l6), (dI n7), (dB b8)]⟩), (3, ⟨26, [(dY l9), (dI na)]⟩), (4, ⟨24, [(dI nb), (dI nc), (dI nd), (dI Ad), (.v (.bytes lf) (.own (.slot 0) 5)), (dI ng), (dB bh)]⟩), (5, ⟨26, [(.v (.bytes AY) (.own (.slot 0) 5)), (dI nj)]⟩), (10, ⟨24, [(dI An), (dI Be), (dI Bf), (dI Bg), (dY Bh), (dI Bi), (dB Bj)]⟩), (29, ⟨99, [(dB Ah), (dI ns), (dI nt), (dI nu), (dI nv), (dY Bk), (dI AA), (dB Bm), (dB BN), (.fn BO [79, 87, 93] 0 29), (dI BP), (dI BQ), (dI BR), (dI BS), (dI BU), (dB BV), (dB BW), (dI BX), (.v (.int .u8 BY) .no), (.v (.bytes BZ) (.own (.slot 0) 5)), (dB Ca), (dY Cb), (dI Cc), (dB Ce)]⟩), (31, ⟨102, [(.v (.mset Bq) .no), (.fn Cf [59, 76] 0 31), (.v (.bytes Cg) (.own (.slot 0) 5)), (dI Ch), (dI Ci), (dI Cj), (dI Cl), (dI Cm), (dI Cn), (dI Cp), (dI Cq), (dI Cr), (dY Ct), (dI Cu), (dB Cv), (dB Cw), (dY Cy), (dI Cz)]⟩)]]) l0 n1 nk nl Af nn Al np bq bz Aq Ar Aw Ao AC As AM AG Ax Ay AO AH AI Ak AW AB Bo AP AQ Am AU AD AE AL AV Bc AZ Ba AX AT Bb Bd) (funext fun l0 => funext fun n1 => funext fun nk => funext fun nl => funext fun Af => funext fun nn => funext fun Al => funext fun np => funext fun bq => funext fun bz => funext fun Aq => funext fun Ar => funext fun Aw => funext fun Ao => funext fun AC => funext fun As => funext fun AM => funext fun AG => funext fun Ax => funext fun Ay => funext fun AO => funext fun AH => funext fun AI => funext fun Ak => funext fun AW => funext fun AB => funext fun Bo => funext fun AP => funext fun AQ => funext fun Am => funext fun AU => funext fun AD => funext fun AE => funext fun AL => funext fun AV => funext fun Bc => funext fun AZ => funext fun Ba => funext fun AX => funext fun AT => funext fun Bb => funext fun Bd => a6X N n2 n3 n4 n5 l6 n7 b8 l9 na nb nc nd Ad lf ng bh AY nj Ah ns nt nu nv Bk AA Bm Bq K t l0 n1 nk nl Af nn Al np bq bz Aq Ar Aw Ao AC As AM AG Ax Ay AO AH AI Ak AW AB Bo AP AQ Am AU AD AE AL AV Bc AZ Ba AX AT Bb Bd))
theorem c6b (N : Nat) (a y z O x4 x5 x6 x7 x8 : _) : g8 (a3r N) Tryz.f13 [g3a a y z O x4 x5 x6, .agg [dY x7, dI x8]] [] c2p = T2 N a y z O x4 x5 x6 x7 x8 := by
 kernel_rfl
abbrev d0F (s : d4p) : Prop := ∀ {a y z O x4 x5 x6 x7 x8 u r1 r2 r3 r4 r5 r6 r7 r8 r9}, s a y z O x4 x5 x6 x7 x8 = some (u, r1, r2, r3, r4, r5, r6, r7, r8, r9) -> PRT 13 [g3a a y z O x4 x5 x6, .agg [dY x7, dI x8]] [g3a u r1 r2 r3 r4 r5 r6, .agg [dY r7, dI r8], dB r9]
theorem c5i (s : d4p) (hs : d0F s) : EO ⟨13, a6n s⟩ := by
 refine ⟨d6 Tryz.func13 (by kernel_rfl) (c := d5 Tryz.f13) (by kernel_rfl), fun R ds K r h => ?_, fun R ds K => ?_⟩
 . simp only [a6n] at h
   split at h
   . obtain ⟨u, r1, r2, r3, r4, r5, r6, r7, r8, r9, h1, h2⟩ := b2L h
     exact ⟨_, h2, hs h1⟩
   . cases h
 . simp only [a6n]
   split
   . rw [d2W]; rfl
   . rfl
theorem d2g (N : Nat) : CxOK Tryz.prog (a3r N) :=
 L2 (es := [⟨36, a5d (a1I N)⟩]) (me := [⟨31, b0H (a2Q N)⟩, ⟨32, b0I (a1N N)⟩, ⟨33, a7l (a1n N)⟩, ⟨34, a1v (a0f N)⟩, ⟨35, a1F (K3 N)⟩, ⟨37, a4N (a0M N)⟩, ⟨38, a1K (S4 N)⟩, ⟨39, a0r (I3 N)⟩]) (ms := []) a6l ⟨d0E _ (d2C N), trivial⟩ ⟨c8Z _ (d2t N), c8C _ (d1X N), c6q _ (d0c N), b6V _ (b9b N), b6A _ (c1Z N), c3P _ (c7y N), b7R _ (b9l N), b4i _ (b7q N), trivial⟩ trivial rfl (fun _ _ _ _ => rfl) (fun _ _ _ _ _ _ => rfl) rfl
theorem c4c (N : Nat) : V4 (a3r N) 79 (G1 Tryz.f13 0) := by
 refine M0 (rid := 11) (by kernel_rfl) rfl rfl fun R ds m K r h => ?_
 have h : a9a N ds m K = some r := h
 unfold a9a at h
 split at h
 . exact ⟨N, Eq.trans (a6X ..) h⟩
 . cases h
theorem d1W (N : Nat) : v8 (a3r N) Tryz.f13.ntmps (d5 Tryz.f13) :=
 C1 (k := 1) (by kernel_rfl) ⟨trivial, c4c N⟩
theorem c8N (N : Nat) : d0F (T2 N) := fun {a y z O x4 x5 x6 x7 x8 u r1 r2 r3 r4 r5 r6 r7 r8 r9} h => q6 (cx := a3r N) (by kernel_rfl) (d2g N) Tryz.func13 (by kernel_rfl) (by kernel_rfl) (d1W N) (by rfl) (by rfl) (by rfl) (rf := c2p) ((c6b ..).trans h) (fun rs' m h => by
 unfold c2p at h
 split at h
 . cases h; exact ⟨rfl, rfl⟩
 . cases h)
abbrev d4X := LB -> LB -> Int -> Int -> Option (LB × LB × Bool)
noncomputable def b2K {R : Type} (s : d4X) (ds : List D) (K : List D -> Option R) : Option R :=
 match ds with
 | [.v (.bytes a) .no, .v (.bytes y) .no, .v (.int .i64 z) .no, .v (.int .i64 O) .no] => a3n (s a y z O) fun u r1 r2 => K [dY u, dY r1, dB r2]
 | _ => none
noncomputable def d0l (rs : List D) (_ : Mem) : Option (LB × LB × Bool) :=
 match rs with
 | [.v (.bytes u) _, .v (.bytes r1) _, .v (.bool r2) _] => some (u, r1, r2)
 | _ => none
noncomputable def a6I {R : Type} (N : Nat) (l0 : LB) (n4 : Int) (lf : LB) (ni nj : Int) (AN : LB) (Lq : LB -> LB -> Int -> Int -> Int -> Int -> Int -> LB -> Int -> List V -> LB -> Int -> Int -> Bool -> Int -> Int -> Int -> Int -> LB -> Int -> List V -> LB -> Int -> Option R) (K0 : LB -> Int -> Int -> Int -> Int -> LB -> Int -> List V -> LB -> Int -> Int -> Bool -> Int -> Int -> Int -> Int -> LB -> Int -> List V -> LB -> Int -> Option R) (l1 l2 : LB) (n3 n5 n6 n7 n8 : Int) (l9 : LB) (na : Int) (Bn : List V) (Ag : LB) (nd Ad : Int) (bg : Bool) (nh nk nl Af : Int) (ln : LB) (Av : Int) (Bp : List V) (lq : LB) (nr : Int) : Option R := br (decide (n3 < 200000)) (br (decide (0 < (l2.length : Int))) (c2V (W2 N l2 ni nj nk nl Af ln Av Bp lq nr AN) fun l0_1 n1 n2 n3_1 l4 n5_1 l6 l7 n8_1 => Q3 (V7 N ni nj n1 n2 n3_1 l4 n5_1 l6 l7 n8_1 AN) fun l9_1 BJ => br BJ (br (decide ((l0_1.length : Int) = 0)) (d1E (a2l N l0 ni nj n1 n2 n3_1 l4 n5_1 l6 l7 n8_1 AN) fun lb nc ld n14_1 l15_1 ng => a9r (N3 N lb n4 n5 n6 n7 n8 l9 na Bn Ag nd Ad lf bg nh) fun lh ni nj nk nl BM nn Al lp nq nr DH nt => Lq l9_1 lh (GA.wrap (n3 + 1)) ni nj nk nl BM nn Al lp nq nr DH nt n1 n2 nc ld n14_1 l15_1 l7 ng) (a9r (N3 N l0_1 n4 n5 n6 n7 n8 l9 na Bn Ag nd Ad lf bg nh) fun lu nv nw AA ny lz Aq Dl CQ Ao AC DM BC => Lq l1 lu (GA.wrap (n3 + 1)) nv nw AA ny lz Aq Dl CQ Ao AC DM BC n1 n2 n3_1 l4 n5_1 l6 l7 n8_1)) (a9r (N3 N l0_1 n4 n5 n6 n7 n8 l9 na Bn Ag nd Ad lf bg nh) fun CH Ax Ay CI CJ AI Ak Dd FX AB Bz BK AQ => Lq l1 CH (GA.wrap (n3 + 1)) Ax Ay CI CJ AI Ak Dd FX AB Bz BK AQ n1 n2 n3_1 l4 n5_1 l6 l7 n8_1)) (K0 l1 n5 n6 n7 n8 l9 na Bn Ag nd Ad bg nh nk nl Af ln Av Bp lq nr)) (K0 l1 n5 n6 n7 n8 l9 na Bn Ag nd Ad bg nh nk nl Af ln Av Bp lq nr)
noncomputable def a3h {R : Type} (N : Nat) (l0 : LB) (n4 : Int) (lf : LB) (ni nj : Int) (AN : LB) : Nat -> LB -> LB -> Int -> Int -> Int -> Int -> Int -> LB -> Int -> List V -> LB -> Int -> Int -> Bool -> Int -> Int -> Int -> Int -> LB -> Int -> List V -> LB -> Int -> (LB -> Int -> Int -> Int -> Int -> LB -> Int -> List V -> LB -> Int -> Int -> Bool -> Int -> Int -> Int -> Int -> LB -> Int -> List V -> LB -> Int -> Option R) -> Option R | 0, _, _, _, _, _, _, _, _, _, _, _, _, _, _, _, _, _, _, _, _, _, _, _, _ => none | t + 1, l1, l2, n3, n5, n6, n7, n8, l9, na, Bn, Ag, nd, Ad, bg, nh, nk, nl, Af, ln, Av, Bp, lq, nr, K0 => a6I N l0 n4 lf ni nj AN (fun l1 l2 n3 n5 n6 n7 n8 l9 na Bn Ag nd Ad bg nh nk nl Af ln Av Bp lq nr => a3h N l0 n4 lf ni nj AN t l1 l2 n3 n5 n6 n7 n8 l9 na Bn Ag nd Ad bg nh nk nl Af ln Av Bp lq nr K0) K0 l1 l2 n3 n5 n6 n7 n8 l9 na Bn Ag nd Ad bg nh nk nl Af ln Av Bp lq nr
noncomputable def b7S {R : Type} (N : Nat) (ds : List D) (m : Mem) (K : Ex -> List D -> Mem -> Option R) : Option R :=
 match ds, m with
 | [(.v (.bytes l0) .no), (.ptr 0 23 0), (.ptr 0 26 0), (.v (.bytes l1) .no), (.v (.bytes l2) .no), (.v (.int .i64 n3) .no), (.ptr 0 23 0), (.ptr 0 26 0), .any], [[(23, ⟨80, [(.v (.int .i64 n4) .no), (.v (.int .i64 n5) .no), (.v (.int .i64 n6) .no), (.v (.int .i64 n7) .no), (.v (.int .i64 n8) .no), (.v (.bytes l9) .no), (.v (.int .i64 na) .no), (.v (.sl 22 Bn) .no), (.v (.bytes Ag) (.own (.slot 0) 5)), (.v (.int .i64 nd) .no), (.v (.int .i64 Ad) .no), (.v (.bytes lf) .no), (.v (.bool bg) .no), (.v (.int .i64 nh) .no)]⟩), (26, ⟨82, [(.v (.int .i64 ni) .no), (.v (.int .i64 nj) .no), (.v (.int .i64 nk) .no), (.v (.int .i64 nl) .no), (.v (.int .i64 Af) .no), (.v (.bytes ln) .no), (.v (.int .i64 Av) .no), (.v (.sl 22 Bp) .no), (.v (.bytes lq) (.own (.slot 0) 5)), (.v (.int .i64 nr) .no), (.v (.bytes AN) .no)]⟩)]] => a3h N l0 n4 lf ni nj AN N l1 l2 n3 n5 n6 n7 n8 l9 na Bn Ag nd Ad bg nh nk nl Af ln Av Bp lq nr (fun a0 a2 a3 a4 a5 a6 a7 a8 a9 Az AJ AK AR AS An Be Bf Bg Bh Bi Bj => K (.exit 0) [(.ptr 0 23 0), (.v (.bytes a0) .no), (.ptr 0 23 0), (.ptr 0 26 0)] [[(23, ⟨80, [(.v (.int .i64 n4) .no), (.v (.int .i64 a2) .no), (.v (.int .i64 a3) .no), (.v (.int .i64 a4) .no), (.v (.int .i64 a5) .no), (.v (.bytes a6) .no), (.v (.int .i64 a7) .no), (.v (.sl 22 a8) .no), (.v (.bytes a9) (.own (.slot 0) 5)), (.v (.int .i64 Az) .no), (.v (.int .i64 AJ) .no), (.v (.bytes lf) .no), (.v (.bool AK) .no), (.v (.int .i64 AR) .no)]⟩), (26, ⟨82, [(.v (.int .i64 ni) .no), (.v (.int .i64 nj) .no), (.v (.int .i64 AS) .no), (.v (.int .i64 An) .no), (.v (.int .i64 Be) .no), (.v (.bytes Bf) .no), (.v (.int .i64 Bg) .no), (.v (.sl 22 Bh) .no), (.v (.bytes Bi) (.own (.slot 0) 5)), (.v (.int .i64 Bj) .no), (.v (.bytes AN) .no)]⟩)]])
 | _, _ => none
noncomputable def a5G (N : Nat) (a y : LB) (z O : Int) : Option (LB × LB × Bool) := d3 (b2s N z O) fun b0 => br b0 (d3 (a8h N z O) fun b1 => br b1 (c2V (a1r N a O 32 z 0 0 [] 0 [] [] 0 0 [] false 0) fun l2 n3 l4 n5 l6 l7 n8 n9 BJ => a3h N y O [] O z [] N [] l2 0 32 z 0 n3 l4 n5 l6 l7 n8 n9 BJ 0 32 0 0 [] 0 [] [] 0 fun lb nc nd Ad nf Ap nh AY lj nk nl bm nn Av np nq lr ns DP lu nv => Q3 (M9 N O nc nd Ad nf Ap nh AY lj nk nl [] bm nn) fun Bk DN => some (lb, Bk, DN)) (c2V (a1r N a O 32 z 0 0 [] 0 [] [] 0 0 [] false 0) fun ly nz DO Ar CQ Gy AC As AM => none)) (d3 (a8h N z O) fun AG => br AG none none)
noncomputable def a6g (N : Nat) : Cx := { T := T, isPure := a5S [], pureK := fun g ds K => a2y [] g ds K, memK := fun g dst ds m K => Y9 [⟨20, b7A (b2s N)⟩, ⟨21, b7f (a8h N)⟩, ⟨22, b0v (a1r N)⟩, ⟨23, a3w (W2 N)⟩, ⟨24, a3l (V7 N)⟩, ⟨25, a7X (a2l N)⟩, ⟨26, a3p (N3 N)⟩, ⟨27, a1T (M9 N)⟩] g dst ds m K, meth := a3N [], keep := fun r => match r with | 6 => [1, 11, 12, 13, 14, 15, 23, 26, 200013] | _ => [], keepX := fun r => match r with | 6 => [11, 13, 23, 26] | _ => [], loopT := fun r ds m K => match r with | 6 => b7S N ds m K | _ => none, jumps := 9 }
theorem c4l {R : Type} (N : Nat) (l0 : LB) (n4 : Int) (lf : LB) (ni nj : Int) (AN l1 l2 : LB) (n3 n5 n6 n7 n8 : Int) (l9 : LB) (na : Int) (Bn : List V) (Ag : LB) (nd Ad : Int) (bg : Bool) (nh nk nl Af : Int) (ln : LB) (Av : Int) (Bp : List V) (lq : LB) (nr : Int) (L : List D -> Mem -> Option R) (K : Ex -> List D -> Mem -> Option R) :
 a0k (fun st K => codeK (a6g N) (G1 Tryz.f7 0) st K) 69 [1, 11, 12, 13, 14, 15, 23, 26, 200013] [11, 13, 23, 26] L [(dY l0), (.ptr 0 23 0), (.ptr 0 26 0), (dY l1), (dY l2), (dI n3), (.ptr 0 23 0), (.ptr 0 26 0), .any] [[(23, ⟨80, [(dI n4), (dI n5), (dI n6), (dI n7), (dI n8), (dY l9), (dI na), (.v (.sl 22 Bn) .no), (.v (.bytes Ag) (.own (.slot 0) 5)), (dI nd), (dI Ad), (dY lf), (dB bg), (dI nh)]⟩), (26, ⟨82, [(dI ni), (dI nj), (dI nk), (dI nl), (dI Af), (dY ln), (dI Av), (.v (.sl 22 Bp) .no), (.v (.bytes lq) (.own (.slot 0) 5)), (dI nr), (dY AN)]⟩)]] K = a6I N l0 n4 lf ni nj AN (fun l1 l2 n3 n5 n6 n7 n8 l9 na Bn Ag nd Ad bg nh nk nl Af ln Av Bp lq nr => L [(dY l0), (.ptr 0 23 0), (.ptr 0 26 0), (dY l1), (dY l2), (dI n3), (.ptr 0 23 0), (.ptr 0 26 0), .any] [[(23, ⟨80, [(dI n4), (dI n5), (dI n6), (dI n7), (dI n8), (dY l9), (dI na), (.v (.sl 22 Bn) .no), (.v (.bytes Ag) (.own (.slot 0) 5)), (dI nd), (dI Ad), (dY lf), (dB bg), (dI nh)]⟩), (26, ⟨82, [(dI ni), (dI nj), (dI nk), (dI nl), (dI Af), (dY ln), (dI Av), (.v (.sl 22 Bp) .no), (.v (.bytes lq) (.own (.slot 0) 5)), (dI nr), (dY AN)]⟩)]]) (fun a0 a2 a3 a4 a5 a6 a7 a8 a9 Az AJ AK AR AS An Be Bf Bg Bh Bi Bj => K (.exit 0) [(.ptr 0 23 0), (dY a0), (.ptr 0 23 0), (.ptr 0 26 0)] [[(23, ⟨80, [(dI n4), (dI a2), (dI a3), (dI a4), (dI a5), (dY a6), (dI a7), (.v (.sl 22 a8) .no), (.v (.bytes a9) (.own (.slot 0) 5)), (dI Az), (dI AJ), (dY lf), (dB AK), (dI AR)]⟩), (26, ⟨82, [(dI ni), (dI nj), (dI AS), (dI An), (dI Be), (dY Bf), (dI Bg), (.v (.sl 22 Bh) .no), (.v (.bytes Bi) (.own (.slot 0) 5)), (dI Bj), (dY AN)]⟩)]]) l1 l2 n3 n5 n6 n7 n8 l9 na Bn Ag nd Ad bg nh nk nl Af ln Av Bp lq nr := by
 kernel_rfl
theorem b2i {R : Type} (N : Nat) (l0 : LB) (n4 : Int) (lf : LB) (ni nj : Int) (AN : LB) (K : Ex -> List D -> Mem -> Option R) : ∀ (t : Nat) (l1 l2 : LB) (n3 n5 n6 n7 n8 : Int) (l9 : LB) (na : Int) (Bn : List V) (Ag : LB) (nd Ad : Int) (bg : Bool) (nh nk nl Af : Int) (ln : LB) (Av : Int) (Bp : List V) (lq : LB) (nr : Int),
 a0T (fun st K => codeK (a6g N) (G1 Tryz.f7 0) st K) 69 [1, 11, 12, 13, 14, 15, 23, 26, 200013] [11, 13, 23, 26] t [(dY l0), (.ptr 0 23 0), (.ptr 0 26 0), (dY l1), (dY l2), (dI n3), (.ptr 0 23 0), (.ptr 0 26 0), .any] [[(23, ⟨80, [(dI n4), (dI n5), (dI n6), (dI n7), (dI n8), (dY l9), (dI na), (.v (.sl 22 Bn) .no), (.v (.bytes Ag) (.own (.slot 0) 5)), (dI nd), (dI Ad), (dY lf), (dB bg), (dI nh)]⟩), (26, ⟨82, [(dI ni), (dI nj), (dI nk), (dI nl), (dI Af), (dY ln), (dI Av), (.v (.sl 22 Bp) .no), (.v (.bytes lq) (.own (.slot 0) 5)), (dI nr), (dY AN)]⟩)]] K = a3h N l0 n4 lf ni nj AN t l1 l2 n3 n5 n6 n7 n8 l9 na Bn Ag nd Ad bg nh nk nl Af ln Av Bp lq nr (fun a0 a2 a3 a4 a5 a6 a7 a8 a9 Az AJ AK AR AS An Be Bf Bg Bh Bi Bj => K (.exit 0) [(.ptr 0 23 0), (dY a0), (.ptr 0 23 0), (.ptr 0 26 0)] [[(23, ⟨80, [(dI n4), (dI a2), (dI a3), (dI a4), (dI a5), (dY a6), (dI a7), (.v (.sl 22 a8) .no), (.v (.bytes a9) (.own (.slot 0) 5)), (dI Az), (dI AJ), (dY lf), (dB AK), (dI AR)]⟩), (26, ⟨82, [(dI ni), (dI nj), (dI AS), (dI An), (dI Be), (dY Bf), (dI Bg), (.v (.sl 22 Bh) .no), (.v (.bytes Bi) (.own (.slot 0) 5)), (dI Bj), (dY AN)]⟩)]])
 | 0, l1, l2, n3, n5, n6, n7, n8, l9, na, Bn, Ag, nd, Ad, bg, nh, nk, nl, Af, ln, Av, Bp, lq, nr => rfl
 | t + 1, l1, l2, n3, n5, n6, n7, n8, l9, na, Bn, Ag, nd, Ad, bg, nh, nk, nl, Af, ln, Av, Bp, lq, nr => (c4l N l0 n4 lf ni nj AN l1 l2 n3 n5 n6 n7 n8 l9 na Bn Ag nd Ad bg nh nk nl Af ln Av Bp lq nr _ K).trans (congrArg (fun L => a6I N l0 n4 lf ni nj AN L (fun a0 a2 a3 a4 a5 a6 a7 a8 a9 Az AJ AK AR AS An Be Bf Bg Bh Bi Bj => K (.exit 0) [(.ptr 0 23 0), (dY a0), (.ptr 0 23 0), (.ptr 0 26 0)] [[(23, ⟨80, [(dI n4), (dI a2), (dI a3), (dI a4), (dI a5), (dY a6), (dI a7), (.v (.sl 22 a8) .no), (.v (.bytes a9) (.own (.slot 0) 5)), (dI Az), (dI AJ), (dY lf), (dB AK), (dI AR)]⟩), (26, ⟨82, [(dI ni), (dI nj), (dI AS), (dI An), (dI Be), (dY Bf), (dI Bg), (.v (.sl 22 Bh) .no), (.v (.bytes Bi) (.own (.slot 0) 5)), (dI Bj), (dY AN)]⟩)]]) l1 l2 n3 n5 n6 n7 n8 l9 na Bn Ag nd Ad bg nh nk nl Af ln Av Bp lq nr) (funext fun l1 => funext fun l2 => funext fun n3 => funext fun n5 => funext fun n6 => funext fun n7 => funext fun n8 => funext fun l9 => funext fun na => funext fun Bn => funext fun Ag => funext fun nd => funext fun Ad => funext fun bg => funext fun nh => funext fun nk => funext fun nl => funext fun Af => funext fun ln => funext fun Av => funext fun Bp => funext fun lq => funext fun nr => b2i N l0 n4 lf ni nj AN K t l1 l2 n3 n5 n6 n7 n8 l9 na Bn Ag nd Ad bg nh nk nl Af ln Av Bp lq nr))
theorem c9E (N : Nat) (a y z O : _) : g8 (a6g N) Tryz.f7 [dY a, dY y, dI z, dI O] [] d0l = a5G N a y z O := by
 kernel_rfl
abbrev d3Q (s : d4X) : Prop := ∀ {a y z O u r1 r2}, s a y z O = some (u, r1, r2) -> PRT 7 [dY a, dY y, dI z, dI O] [dY u, dY r1, dB r2]
theorem c8G (s : d4X) (hs : d3Q s) : EO ⟨7, b2K s⟩ := by
 refine ⟨d6 Tryz.func7 (by kernel_rfl) (c := d5 Tryz.f7) (by kernel_rfl), fun R ds K r h => ?_, fun R ds K => ?_⟩
 . simp only [b2K] at h
   split at h
   . obtain ⟨u, r1, r2, h1, h2⟩ := a2i h
     exact ⟨_, h2, hs h1⟩
   . cases h
 . simp only [b2K]
   split
   . rw [c8B]; rfl
   . rfl
theorem d4U (N : Nat) : CxOK Tryz.prog (a6g N) :=
 L2 (es := []) (me := [⟨20, b7A (b2s N)⟩, ⟨21, b7f (a8h N)⟩, ⟨22, b0v (a1r N)⟩, ⟨23, a3w (W2 N)⟩, ⟨24, a3l (V7 N)⟩, ⟨25, a7X (a2l N)⟩, ⟨26, a3p (N3 N)⟩, ⟨27, a1T (M9 N)⟩]) (ms := []) a6l trivial ⟨d1q _ (d5f N), d1D _ (d5g N), c9f _ (d1M N), b9F _ (c3i N), b9s _ (c4k N), c6T _ (c8z N), c0t _ (c3U N), b8B _ (b8M N), trivial⟩ trivial rfl (fun _ _ _ _ => rfl) (fun _ _ _ _ _ _ => rfl) rfl
theorem c8w (N : Nat) : V4 (a6g N) 69 (G1 Tryz.f7 0) := by
 refine M0 (rid := 6) (by kernel_rfl) rfl rfl fun R ds m K r h => ?_
 have h : b7S N ds m K = some r := h
 unfold b7S at h
 split at h
 . exact ⟨N, Eq.trans (b2i ..) h⟩
 . cases h
theorem d4k (N : Nat) : v8 (a6g N) Tryz.f7.ntmps (d5 Tryz.f7) :=
 C1 (k := 1) (by kernel_rfl) ⟨trivial, c8w N⟩
theorem d3S (N : Nat) : d3Q (a5G N) := fun {a y z O u r1 r2} h => q6 (cx := a6g N) (by kernel_rfl) (d4U N) Tryz.func7 (by kernel_rfl) (by kernel_rfl) (d4k N) (by rfl) (by rfl) (by rfl) (rf := d0l) ((c9E ..).trans h) (fun rs' m h => by
 unfold d0l at h
 split at h
 . cases h; exact ⟨rfl, rfl⟩
 . cases h)
noncomputable def a0J {R : Type} (s : Option (Bool)) (ds : List D) (K : List D -> Option R) : Option R :=
 match ds with
 | [] => d3 (s) fun u => K [dB u]
 | _ => none
noncomputable def m4 (N : Nat)  : Option (Bool) := Q3 (G6 N 0 164 4 0 [Gz (GX 1), Gz (GX 2), Gz (GX 3), Gz (GX 4), Gz (GX 5)] 256 false) fun l0 n1 => Q3 (J2 N [Gz (GX 9), Gz (GX 8)] 36864) fun l2 n3 => a3n (a5G N l0 l2 2 1) fun l4 l5 b6 => a5D (T2 N 0 164 4 0 [Gz (GX 1), Gz (GX 2), Gz (GX 3), Gz (GX 4), Gz (GX 5)] 256 false [Gz (GX 9), Gz (GX 8)] 36864) fun n7 n8 n9 na lb nc bd BG nf bg => br b6 (br bg (d3 (G4 N l4 l0) fun nh => br (decide (nh = 0)) (d3 (G4 N l5 l2) fun ni => br (decide (ni = 0)) (d3 (w8 N n7 n8 n9 na lb nc bd 0 164 4 0 [Gz (GX 1), Gz (GX 2), Gz (GX 3), Gz (GX 4), Gz (GX 5)] 256 false) fun bj => br bj (d3 (D2 N BG nf [Gz (GX 9), Gz (GX 8)] 36864) fun bk => some bk) (some false)) (some false)) (some false)) (some false)) (some false)
noncomputable def b3s (N : Nat) : Cx := cxO [⟨4, U9 (G6 N)⟩, ⟨5, X9 (J2 N)⟩, ⟨7, b2K (a5G N)⟩, ⟨13, a6n (T2 N)⟩, ⟨19, W3 (G4 N)⟩, ⟨10, a1h (w8 N)⟩, ⟨11, a3F (D2 N)⟩] []
theorem b7V (N : Nat)  : g8 (b3s N) Tryz.f6 [] [] C4 = m4 N  := by
 kernel_rfl
abbrev c6a (s : Option (Bool)) : Prop := ∀ {u}, s  = some u -> PRT 6 [] [dB u]
theorem c2C (s : Option (Bool)) (hs : c6a s) : EO ⟨6, a0J s⟩ := by
 refine ⟨d6 Tryz.func6 (by kernel_rfl) (c := d5 Tryz.f6) (by kernel_rfl), fun R ds K r h => ?_, fun R ds K => ?_⟩
 . simp only [a0J] at h
   split at h
   . obtain ⟨u, h1, h2⟩ := j4 h
     exact ⟨_, h2, hs h1⟩
   . cases h
 . simp only [a0J]
   split
   . rw [I8]; rfl
   . rfl
theorem c5R (N : Nat) : c6a (m4 N) := fun {u} h => q6 (cx := b3s N) (by kernel_rfl) (g7 ⟨b1m _ (b6m N), b1c _ (b7Y N), c8G _ (d3S N), c5i _ (c8N N), a4n _ (a6p N), b4J _ (c0A N), c0D _ (c4B N), trivial⟩ trivial) Tryz.func6 (by kernel_rfl) (by kernel_rfl) (lz (by kernel_rfl)) (by rfl) (by rfl) (by rfl) (rf := C4) ((b7V N ).trans h) (fun rs' m h => by
 unfold C4 at h
 split at h
 . cases h; exact ⟨rfl, rfl⟩
 . cases h)
noncomputable def a2r {R : Type} (N : Nat) (n0 : Int) (l1 l2 : LB) (By : List V) (n5 n6 n7 n8 : Int) (l9 : LB) (na : Int) (Ai : Bool) (Ag : LB) (nd : Int) (Lq : Int -> Option R) (K0 : Bool -> Option R) (K1 : Option R) (n4 : Int) : Option R := br (decide (n4 < (By.length : Int))) (br (decide (0 <= n4) && decide (n4 < (By.length : Int))) (at? By n4.toNat fun a => V.unInt GA a fun n1 => a3n (a5G N l1 l2 n0 n1) fun l2 l3 b4 => H9 (S3 N l2) fun n5_1 n6_1 n7_1 n8_1 l9_1 n10_1 b11_1 nc => a3n (a1x N l3) fun ld Ad nf => br (!b4) (K0 false) (br (!decide (nc = 0)) (K0 false) (br (!decide (nf = 0)) (K0 false) (d3 (w8 N n5 n6 n7 n8 l9 na Ai n5_1 n6_1 n7_1 n8_1 l9_1 n10_1 b11_1) fun bg => br (!bg) (K0 false) (d3 (D2 N ld Ad Ag nd) fun bh => br (!bh) (K0 false) (Lq (GA.wrap (n4 + 1)))))))) none) K1
noncomputable def a0b {R : Type} (N : Nat) (n0 : Int) (l1 l2 : LB) (By : List V) (n5 n6 n7 n8 : Int) (l9 : LB) (na : Int) (Ai : Bool) (Ag : LB) (nd : Int) : Nat -> Int -> (Bool -> Option R) -> (Option R) -> Option R | 0, _, _, _ => none | t + 1, n4, K0, K1 => a2r N n0 l1 l2 By n5 n6 n7 n8 l9 na Ai Ag nd (fun n4 => a0b N n0 l1 l2 By n5 n6 n7 n8 l9 na Ai Ag nd t n4 K0 K1) K0 K1 n4
noncomputable def b2H {R : Type} (N : Nat) (ds : List D) (m : Mem) (K : Ex -> List D -> Mem -> Option R) : Option R :=
 match ds, m with
 | [(.v (.int .i64 n0) .no), (.ptr 0 3 0), (.ptr 0 4 0), (.v (.bytes l1) .no), (.v (.bytes l2) .no), (.v (.sl 3 By) (.own (.slot 11) 3)), (.v (.int .i64 n4) .no), .any, .any, .any, .any], [[(3, ⟨24, [(.v (.int .i64 n5) .no), (.v (.int .i64 n6) .no), (.v (.int .i64 n7) .no), (.v (.int .i64 n8) .no), (.v (.bytes l9) .no), (.v (.int .i64 na) .no), (.v (.bool Ai) .no)]⟩), (4, ⟨26, [(.v (.bytes Ag) .no), (.v (.int .i64 nd) .no)]⟩)]] => a0b N n0 l1 l2 By n5 n6 n7 n8 l9 na Ai Ag nd N n4 (fun a0 => K .ret [(.ptr 0 3 0), (.ptr 0 4 0), (.v (.bool a0) .no), .any, .any, .any, .any] [[(3, ⟨24, [(.v (.int .i64 n5) .no), (.v (.int .i64 n6) .no), (.v (.int .i64 n7) .no), (.v (.int .i64 n8) .no), (.v (.bytes l9) .no), (.v (.int .i64 na) .no), (.v (.bool Ai) .no)]⟩), (4, ⟨26, [(.v (.bytes Ag) .no), (.v (.int .i64 nd) .no)]⟩)]]) (K (.exit 0) [(.ptr 0 3 0), (.ptr 0 4 0), .any, .any, .any, .any, .any] [[(3, ⟨24, [(.v (.int .i64 n5) .no), (.v (.int .i64 n6) .no), (.v (.int .i64 n7) .no), (.v (.int .i64 n8) .no), (.v (.bytes l9) .no), (.v (.int .i64 na) .no), (.v (.bool Ai) .no)]⟩), (4, ⟨26, [(.v (.bytes Ag) .no), (.v (.int .i64 nd) .no)]⟩)]])
 | _, _ => none
noncomputable def b6x (N : Nat) (a y z O : Int) (x4 : LB) (x5 : Int) (x6 : Bool) (x7 : LB) (x8 x9 : Int) : Option (Bool) := Q3 (G6 N a y z O x4 x5 x6) fun l0 n1 => Q3 (J2 N x7 x8) fun l2 n3 => br (!decide (n1 = 0)) (d3 (m4 N) fun b4 => some b4) (br (!decide (n3 = 0)) (d3 (m4 N) fun b5 => some b5) (br (decide (3000 < (l0.length : Int))) (d3 (m4 N) fun b6 => some b6) (br (decide (3000 < (l2.length : Int))) (d3 (m4 N) fun b7 => some b7) (br (decide (x9 < 1)) (d3 (m4 N) fun b8 => some b8) (br (decide (254 < x9)) (d3 (m4 N) fun b9 => some b9) (a0b N x9 l0 l2 [V.int GA 0, V.int GA 1] a y z O x4 x5 x6 x7 x8 N 0 (fun BJ => some BJ) (T3 (M3 N a) fun nb bc bd BH bf => br x6 (d3 (m4 N) fun bg => some bg) (br (decide (y = 192)) (d3 (m4 N) fun bh => some bh) (br (decide (GA.wrap (x8.tdiv 256) = 97)) (d3 (m4 N) fun AF => some AF) (br bf (br bc (d3 (m4 N) fun bj => some bj) (a5D (T2 N a y z O x4 x5 x6 x7 x8) fun nk nl Af nn Al np bq lr ns bt => br (decide (0 < (x4.length : Int))) (br (decide (x5 < (x7.length : Int))) (br (decide (0 <= x5) && decide (x5 <= (x7.length : Int))) (br bt (d3 (w8 N a y z O x4 256 x6 nk nl Af nn Al np bq) fun bu => br bu (d3 (D2 N lr ns (Ig x5.toNat x7) x8) fun CN => br CN (d3 (m4 N) fun bw => some bw) (some false)) (some false)) (some false)) none) (br bt (d3 (w8 N a y z O x4 256 x6 nk nl Af nn Al np bq) fun DN => br DN (d3 (D2 N lr ns x7 x8) fun Bm => br Bm (d3 (m4 N) fun bz => some bz) (some false)) (some false)) (some false))) (br (decide (x5 = 0)) (br (decide (x5 < (x7.length : Int))) (br (decide (0 <= x5) && decide (x5 <= (x7.length : Int))) (br bt (d3 (w8 N a y z O x4 256 x6 nk nl Af nn Al np bq) fun FY => br FY (d3 (D2 N lr ns (Ig x5.toNat x7) x8) fun FZ => br FZ (d3 (m4 N) fun Ga => some Ga) (some false)) (some false)) (some false)) none) (br bt (d3 (w8 N a y z O x4 256 x6 nk nl Af nn Al np bq) fun DI => br DI (d3 (D2 N lr ns x7 x8) fun CO => br CO (d3 (m4 N) fun DM => some DM) (some false)) (some false)) (some false))) (br (decide (x5 < (x7.length : Int))) (br (decide (0 <= x5) && decide (x5 <= (x7.length : Int))) (br bt (d3 (w8 N a y z O x4 x5 x6 nk nl Af nn Al np bq) fun AM => br AM (d3 (D2 N lr ns (Ig x5.toNat x7) x8) fun AG => br AG (d3 (m4 N) fun DJ => some DJ) (some false)) (some false)) (some false)) none) (br bt (d3 (w8 N a y z O x4 x5 x6 nk nl Af nn Al np bq) fun Gb => br Gb (d3 (D2 N lr ns x7 x8) fun Gc => br Gc (d3 (m4 N) fun AH => some AH) (some false)) (some false)) (some false)))))) (a5D (T2 N a y z O x4 x5 x6 x7 x8) fun BI Ak BE BB CA Bz BK BD Am BF => br (decide (0 < (x4.length : Int))) (br (decide (x5 < (x7.length : Int))) (br (decide (0 <= x5) && decide (x5 <= (x7.length : Int))) (br BF (d3 (w8 N a y z O x4 256 x6 BI Ak BE BB CA Bz BK) fun Gd => br Gd (d3 (D2 N BD Am (Ig x5.toNat x7) x8) fun Ge => br Ge (d3 (m4 N) fun Gf => some Gf) (some false)) (some false)) (some false)) none) (br BF (d3 (w8 N a y z O x4 256 x6 BI Ak BE BB CA Bz BK) fun DK => br DK (d3 (D2 N BD Am x7 x8) fun Gg => br Gg (d3 (m4 N) fun Gh => some Gh) (some false)) (some false)) (some false))) (br (decide (x5 = 0)) (br (decide (x5 < (x7.length : Int))) (br (decide (0 <= x5) && decide (x5 <= (x7.length : Int))) (br BF (d3 (w8 N a y z O x4 256 x6 BI Ak BE BB CA Bz BK) fun CZ => br CZ (d3 (D2 N BD Am (Ig x5.toNat x7) x8) fun AX => br AX (d3 (m4 N) fun AT => some AT) (some false)) (some false)) (some false)) none) (br BF (d3 (w8 N a y z O x4 256 x6 BI Ak BE BB CA Bz BK) fun Gi => br Gi (d3 (D2 N BD Am x7 x8) fun Gj => br Gj (d3 (m4 N) fun Gk => some Gk) (some false)) (some false)) (some false))) (br (decide (x5 < (x7.length : Int))) (br (decide (0 <= x5) && decide (x5 <= (x7.length : Int))) (br BF (d3 (w8 N a y z O x4 x5 x6 BI Ak BE BB CA Bz BK) fun DL => br DL (d3 (D2 N BD Am (Ig x5.toNat x7) x8) fun Gl => br Gl (d3 (m4 N) fun Gm => some Gm) (some false)) (some false)) (some false)) none) (br BF (d3 (w8 N a y z O x4 x5 x6 BI Ak BE BB CA Bz BK) fun Gp => br Gp (d3 (D2 N BD Am x7 x8) fun Dn => br Dn (d3 (m4 N) fun Da => some Da) (some false)) (some false)) (some false)))))))))))))))
noncomputable def a2T (N : Nat) : Cx := { T := T, isPure := a5S [⟨4, U9 (G6 N)⟩, ⟨5, X9 (J2 N)⟩, ⟨6, a0J (m4 N)⟩, ⟨7, b2K (a5G N)⟩, ⟨8, a0G (S3 N)⟩, ⟨9, a5e (a1x N)⟩, ⟨10, a1h (w8 N)⟩, ⟨11, a3F (D2 N)⟩, ⟨12, a0I (M3 N)⟩, ⟨13, a6n (T2 N)⟩], pureK := fun g ds K => a2y [⟨4, U9 (G6 N)⟩, ⟨5, X9 (J2 N)⟩, ⟨6, a0J (m4 N)⟩, ⟨7, b2K (a5G N)⟩, ⟨8, a0G (S3 N)⟩, ⟨9, a5e (a1x N)⟩, ⟨10, a1h (w8 N)⟩, ⟨11, a3F (D2 N)⟩, ⟨12, a0I (M3 N)⟩, ⟨13, a6n (T2 N)⟩] g ds K, memK := fun g dst ds m K => Y9 [] g dst ds m K, meth := a3N [], keep := fun r => match r with | 7 => [2, 3, 4, 7, 9, 11, 12, 20, 22, 23, 25] | _ => [], keepX := fun r => match r with | 7 => [3, 4, 6, 20, 22, 23, 25] | _ => [], loopT := fun r ds m K => match r with | 7 => b2H N ds m K | _ => none, jumps := 9 }
theorem b8K {R : Type} (N : Nat) (n0 : Int) (l1 l2 : LB) (By : List V) (n5 n6 n7 n8 : Int) (l9 : LB) (na : Int) (Ai : Bool) (Ag : LB) (nd n4 : Int) (L : List D -> Mem -> Option R) (K : Ex -> List D -> Mem -> Option R) :
 a0k (fun st K => codeK (a2T N) (G1 Tryz.f3 0) st K) 183 [2, 3, 4, 7, 9, 11, 12, 20, 22, 23, 25] [3, 4, 6, 20, 22, 23, 25] L [(dI n0), (.ptr 0 3 0), (.ptr 0 4 0), (dY l1), (dY l2), (.v (.sl 3 By) (.own (.slot 11) 3)), (dI n4), .any, .any, .any, .any] [[(3, ⟨24, [(dI n5), (dI n6), (dI n7), (dI n8), (dY l9), (dI na), (dB Ai)]⟩), (4, ⟨26, [(dY Ag), (dI nd)]⟩)]] K = a2r N n0 l1 l2 By n5 n6 n7 n8 l9 na Ai Ag nd (fun n4 => L [(dI n0), (.ptr 0 3 0), (.ptr 0 4 0), (dY l1), (dY l2), (.v (.sl 3 By) (.own (.slot 11) 3)), (dI n4), .any, .any, .any, .any] [[(3, ⟨24, [(dI n5), (dI n6), (dI n7), (dI n8), (dY l9), (dI na), (dB Ai)]⟩), (4, ⟨26, [(dY Ag), (dI nd)]⟩)]]) (fun a0 => K .ret [(.ptr 0 3 0), (.ptr 0 4 0), (dB a0), .any, .any, .any, .any] [[(3, ⟨24, [(dI n5), (dI n6), (dI n7), (dI n8), (dY l9), (dI na), (dB Ai)]⟩), (4, ⟨26, [(dY Ag), (dI nd)]⟩)]]) (K (.exit 0) [(.ptr 0 3 0), (.ptr 0 4 0), .any, .any, .any, .any, .any] [[(3, ⟨24, [(dI n5), (dI n6), (dI n7), (dI n8), (dY l9), (dI na), (dB Ai)]⟩), (4, ⟨26, [(dY Ag), (dI nd)]⟩)]]) n4 := by
 kernel_rfl
theorem a9z {R : Type} (N : Nat) (n0 : Int) (l1 l2 : LB) (By : List V) (n5 n6 n7 n8 : Int) (l9 : LB) (na : Int) (Ai : Bool) (Ag : LB) (nd : Int) (K : Ex -> List D -> Mem -> Option R) : ∀ (t : Nat) (n4 : Int),
 a0T (fun st K => codeK (a2T N) (G1 Tryz.f3 0) st K) 183 [2, 3, 4, 7, 9, 11, 12, 20, 22, 23, 25] [3, 4, 6, 20, 22, 23, 25] t [(dI n0), (.ptr 0 3 0), (.ptr 0 4 0), (dY l1), (dY l2), (.v (.sl 3 By) (.own (.slot 11) 3)), (dI n4), .any, .any, .any, .any] [[(3, ⟨24, [(dI n5), (dI n6), (dI n7), (dI n8), (dY l9), (dI na), (dB Ai)]⟩), (4, ⟨26, [(dY Ag), (dI nd)]⟩)]] K = a0b N n0 l1 l2 By n5 n6 n7 n8 l9 na Ai Ag nd t n4 (fun a0 => K .ret [(.ptr 0 3 0), (.ptr 0 4 0), (dB a0), .any, .any, .any, .any] [[(3, ⟨24, [(dI n5), (dI n6), (dI n7), (dI n8), (dY l9), (dI na), (dB Ai)]⟩), (4, ⟨26, [(dY Ag), (dI nd)]⟩)]]) (K (.exit 0) [(.ptr 0 3 0), (.ptr 0 4 0), .any, .any, .any, .any, .any] [[(3, ⟨24, [(dI n5), (dI n6), (dI n7), (dI n8), (dY l9), (dI na), (dB Ai)]⟩), (4, ⟨26, [(dY Ag), (dI nd)]⟩)]])
 | 0, n4 => rfl
 | t + 1, n4 => (b8K N n0 l1 l2 By n5 n6 n7 n8 l9 na Ai Ag nd n4 _ K).trans (congrArg (fun L => a2r N n0 l1 l2 By n5 n6 n7 n8 l9 na Ai Ag nd L (fun a0 => K .ret [(.ptr 0 3 0), (.ptr 0 4 0), (dB a0), .any, .any, .any, .any] [[(3, ⟨24, [(dI n5), (dI n6), (dI n7), (dI n8), (dY l9), (dI na), (dB Ai)]⟩), (4, ⟨26, [(dY Ag), (dI nd)]⟩)]]) (K (.exit 0) [(.ptr 0 3 0), (.ptr 0 4 0), .any, .any, .any, .any, .any] [[(3, ⟨24, [(dI n5), (dI n6), (dI n7), (dI n8), (dY l9), (dI na), (dB Ai)]⟩), (4, ⟨26, [(dY Ag), (dI nd)]⟩)]]) n4) (funext fun n4 => a9z N n0 l1 l2 By n5 n6 n7 n8 l9 na Ai Ag nd K t n4))
theorem c6i (N : Nat) (a y z O x4 x5 x6 x7 x8 x9 : _) : g8 (a2T N) Tryz.f3 [g3a a y z O x4 x5 x6, .agg [dY x7, dI x8], dI x9] [] C4 = b6x N a y z O x4 x5 x6 x7 x8 x9 := by
 kernel_rfl
theorem d1p (N : Nat) : CxOK Tryz.prog (a2T N) :=
 L2 (es := [⟨4, U9 (G6 N)⟩, ⟨5, X9 (J2 N)⟩, ⟨6, a0J (m4 N)⟩, ⟨7, b2K (a5G N)⟩, ⟨8, a0G (S3 N)⟩, ⟨9, a5e (a1x N)⟩, ⟨10, a1h (w8 N)⟩, ⟨11, a3F (D2 N)⟩, ⟨12, a0I (M3 N)⟩, ⟨13, a6n (T2 N)⟩]) (me := []) (ms := []) a6l ⟨b1m _ (b6m N), b1c _ (b7Y N), c2C _ (c5R N), c8G _ (d3S N), c3S _ (c6M N), c9G _ (d1a N), b4J _ (c0A N), c0D _ (c4B N), c3E _ (c7E N), c5i _ (c8N N), trivial⟩ trivial trivial rfl (fun _ _ _ _ => rfl) (fun _ _ _ _ _ _ => rfl) rfl
theorem c6Q (N : Nat) : V4 (a2T N) 183 (G1 Tryz.f3 0) := by
 refine M0 (rid := 7) (by kernel_rfl) rfl rfl fun R ds m K r h => ?_
 have h : b2H N ds m K = some r := h
 unfold b2H at h
 split at h
 . exact ⟨N, Eq.trans (a9z ..) h⟩
 . cases h
theorem d2y (N : Nat) : v8 (a2T N) Tryz.f3.ntmps (d5 Tryz.f3) :=
 C1 (k := 1) (by kernel_rfl) ⟨trivial, c6Q N⟩
theorem d4A (N : Nat) (a y z O : Int) (x4 : LB) (x5 : Int) (x6 : Bool) (x7 : LB) (x8 x9 : Int) (u : Bool) (h : b6x N a y z O x4 x5 x6 x7 x8 x9 = some u) : PRT 3 [g3a a y z O x4 x5 x6, .agg [dY x7, dI x8], dI x9] [dB u] :=
 q6 (cx := a2T N) (by kernel_rfl) (d1p N) Tryz.func3 (by kernel_rfl) (by kernel_rfl) (d2y N) rfl rfl rfl (rf := C4) ((c6i ..).trans h) (fun rs' m h => by
  unfold C4 at h
  split at h
  . cases h; exact ⟨rfl, rfl⟩
  . cases h)
end En

namespace En
open Go
set_option maxRecDepth 20000
structure GC where
 a : Int
 b : Int
 c : Int
 d : Int
 dat : List UInt8
 le : Int
 lg : Bool
abbrev ZR := Int × Int × Int × Int × List UInt8 × Int × Bool × List UInt8 × Int × Bool
def b6l (g : GC) (rd : List UInt8) (rs : Int) : Option ZR := some (g.a, g.b, g.c, g.d, g.dat, g.le, g.lg, rd, rs, true)
noncomputable def a1J (N : Nat) (X : GC) (D : List UInt8) (SW : Int) (t : Nat) (wire : List UInt8) (i : Int) (g : GC) (z : ZT) (c : ZC) : Option ZR :=
 N8 N X.a X.b X.c X.d X.dat X.le X.lg D SW 0 0 0 0 [] 0 false [] 0 true z.c1 z.c2 z.c3 z.c4 z.cd z.cl z.cg c.ks t wire i g.a g.b g.c g.d g.dat g.le g.lg
  z.busy z.ph z.h0 z.h1 z.h2 z.h3 z.h4 z.ack z.rest z.left z.sw1 z.buf z.done z.rd z.rs z.fl
  c.ph c.got c.h0 c.h1 c.h2 c.h3 c.h4 c.c1 c.c2 c.c3 c.c4 c.cd c.cl c.cg c.inc c.dat c.sw
  fun n28 n29 n30 n31 l32 n33 b34 b35 n36 n37 n38 n39 n40 n41 b42 b43 n44 n45 l46 b47 l48 n49 b50 n51 l52 n53 n54 n55 n56 n57 n58 n59 n60 n61 l62 n63 b64 b65 l66 n67 =>
   a3n (I3 N true z.c1 z.c2 z.c3 z.c4 z.cd z.cl z.cg b35 n36 n37 n38 n39 n40 n41 b42 b43 n44 n45 l46 b47 l48 n49 b50) fun l68 n69 b70 => some (n28, n29, n30, n31, l32, n33, b34, l68, n69, b70)
def Same (z z' : ZT) : Prop := z'.c1 = z.c1 /\ z'.c2 = z.c2 /\ z'.c3 = z.c3 /\ z'.c4 = z.c4 /\ z'.cd = z.cd /\ z'.cl = z.cl /\ z'.cg = z.cg
section
variable {N : Nat} {X : GC} {D : List UInt8} {SW : Int} {t : Nat} {wire out w' : List UInt8} {i : Int} {g : GC} {z z' : ZT} {c c' : ZC}
theorem b6E (hi : i < 200000) (hd : z.done = true) (hl : z.rd.length <= 1000000) : a1J N X D SW (t + 1) [] i g z c = b6l g z.rd z.rs := by
 unfold a1J b6l
 rw [N8, a0H, c7, if_pos hi, c7, if_neg (by decide), b4y hd hl, X8]
theorem b7D (hw : wire ≠ []) (h0 : 0 <= i) (hi : i < 200000) (hcr : b8J N wire c out c') (hph : c'.ph ≠ 0) (hz : ZOK z) (hb : z.buf.length <= 800000) (ho : out.length <= 3000) (hN : 200000 < N) (hzr : F4 z out = (w', z')) (hs : Same z z') :
 a1J N X D SW (t + 1) wire i g z c = a1J N X D SW t w' (i + 1) g z' c' := by
 obtain ⟨s1, s2, s3, s4, s5, s6, s7⟩ := hs
 obtain ⟨hk, hR⟩ := hcr
 have hC := b4w (N := N) hph
 have hT := a7V N hz ho (by omega) hb
 rw [hzr] at hT
 rw [hk] at hC
 have hwl : 0 < (wire.length : Int) := by have := HA.2 hw; omega
 unfold a1J
 rw [N8, a0H, c7, if_pos hi, c7, if_pos hwl, hR, b2R, hC, N7, P9, hT, c0m, w64 (by omega) (by omega), s1, s2, s3, s4, s5, s6, s7, hk]
theorem b1l (hw : wire ≠ []) (h0 : 0 <= i) (hi : i < 200000) (hcr : b8J N wire c out c') (hph : c'.ph = 0) (hcd : c'.cd.length <= 1000000) (hr : rOK D SW) (hz : ZOK z) (hb : z.buf.length <= 800000) (ho : (out ++ W6 c' D SW).length <= 3000) (hN : 200000 < N) (hzr : F4 z (out ++ W6 c' D SW) = (w', z')) (hs : Same z z') :
 a1J N X D SW (t + 1) wire i g z c = a1J N X D SW t w' (i + 1) ⟨c'.c1, c'.c2, c'.c3, c'.c4, c'.cd, c'.cl, c'.cg⟩ z' { c' with ph := 1, dat := if Q9 c' D then D else c'.dat, sw := if Q9 c' D then SW else c'.sw } := by
 obtain ⟨s1, s2, s3, s4, s5, s6, s7⟩ := hs
 obtain ⟨hk, hR⟩ := hcr
 have hC := b6M (N := N) hph hcd
 have hP := c2O (N := N) hph hr hN
 have hT := a7V N hz ho (by omega) hb
 rw [hzr] at hT
 rw [hk] at hC hP
 have hwl : 0 < (wire.length : Int) := by have := HA.2 hw; omega
 have hj := d5n (R := Unit) (N := N) out (W6 c' D SW) (by rw [GW] at ho; omega) (by rw [GW] at ho; omega) hN
 unfold a1J
 rw [N8, a0H, c7, if_pos hi, c7, if_pos hwl, hR, b2R, hC, N7, F5, hP, X4, hj, d4, hT, c0m, w64 (by omega) (by omega), s1, s2, s3, s4, s5, s6, s7, hk]
end
def nB (d : List UInt8) : Int := if 256 <= d.length then 0 else (d.length : Int)
theorem b1d {d : List UInt8} (h : d ≠ []) : by_ (nB d) /\ cnt (nB d) = ((min 256 d.length : Nat) : Int) := by
 have := HA.2 h
 unfold nB cnt by_
 split
 . exact ⟨⟨by omega, by omega⟩, by rw [if_pos rfl]; omega⟩
 . exact ⟨⟨by omega, by omega⟩, by rw [if_neg (by omega)]; omega⟩
theorem c1B {N : Nat} {X : GC} {D : List UInt8} {SW : Int} (hN : 200000 < N) (hr : rOK D SW) (h97 : SW / 256 ≠ 97) (hDl : D.length <= 3000) : ∀ (m : Nat) (d : List UInt8) (z : ZT) (c : ZC) (t : Nat) (i : Int) (g : GC),
 d.length <= m -> d ≠ [] -> c.dat = d -> c.sw = SW -> c.ph = 1 -> c.got = [] -> z.busy = true -> z.ph = 1 -> z.h1 = 192 -> z.h4 = nB d -> z.ack = true -> z.rest = true -> ZOK z -> a2u z.c1 = false -> z.buf ++ d = D -> 0 <= i -> i + m <= 100000 -> m + 2 < t ->
 a1J N X D SW t [by8 (a8M z.c1), by8 192, by8 0, by8 0, by8 (nB d)] i g z c = b6l g (D.take (min D.length z.cl.toNat)) SW := by
 have hSW := a1Q hr.2
 have d7u : ¬ SW / 256 = 192 := by have := hr.2; unfold H5 at this; omega
 intro m
 induction m with
 | zero => intro d z c t i g hm hd; exact absurd (List.length_eq_zero_iff.1 (by omega)) hd
 | succ m ih =>
   intro d z c t i g hm hd d5l hsw hph b8E hb hp h1 h4 ha hre hz b0o hD h0 hi ht
   obtain ⟨t, rfl⟩ : ∃ s, t = s + 2 := ⟨t - 2, by omega⟩
   obtain ⟨hby, hcn⟩ := b1d hd
   have hdl : z.buf.length + d.length = D.length := by rw [← hD]; simp
   have hdp := HA.2 hd
   have hch := b0Z hz.c1.1 hz.c1.2
   have hct := d4S (N := N) (by omega) hph b8E (a := a8M z.c1) (e := nB d) hch hby (by rw [hsw]; omega) (by rw [hcn, d5l]; omega) (by rw [d5l]; omega)
   rw [d5l, hsw, hcn] at hct
   have hk : (((min 256 d.length : Nat) : Int)).toNat = min 256 d.length := by omega
   rw [hk, show (192 : UInt8) = by8 192 by decide] at hct
   have hkl : (d.take (min 256 d.length)).length = min 256 d.length := by rw [HN]; omega
   have d7p : d.take (min 256 d.length) ≠ [] := by
    intro h; rw [h] at hkl; simp at hkl; omega
   have c4w : z.buf ++ d.take (min 256 d.length) ++ d.drop (min 256 d.length) = D := by rw [Ic, Ip]; exact hD
   have hA := d3Z hb hp (b := 192) ⟨by decide, by decide⟩ h1 ha (by decide) (.inl hre)
   have hDt := fun r => c2E r (d.take (min 256 d.length)) { z with ack := false, ph := 3, left := cnt z.h4 } hb rfl d7p (by show cnt z.h4 = _; rw [h4, hcn, hkl])
   by_cases b3Y : d.drop (min 256 d.length) = []
   . rw [if_pos b3Y, if_pos b3Y] at hct
     have hst := b8d (z := { z with ack := false, ph := 1, left := 0, buf := z.buf ++ d.take (min 256 d.length) }) hb rfl hr.2 h97 (fun h => by have := h.2; simp at this)
     have d3q : z.buf ++ d.take (min 256 d.length) = D := by rw [b3Y, List.append_nil] at c4w; exact c4w
     have G5 := (hA _).trans ((hDt _).trans hst)
     refine (b7D (by simp) h0 (by omega) hct (show c.ph ≠ 0 by rw [hph]; decide) hz (by omega) (by simp [stat]; omega) hN G5 ⟨rfl, rfl, rfl, rfl, rfl, rfl, rfl⟩).trans ((b6E (by omega) rfl (by simp only; rw [HN, GW]; omega)).trans ?_)
     simp only [b0o, GZ, if_false, d3q]
   . rw [if_neg b3Y, if_neg b3Y] at hct
     have hd2 : (d.drop (min 256 d.length)).length <= m := by rw [Ih]; omega
     obtain ⟨d5m, d7q⟩ := b1d b3Y
     have hmo := c8P (z := { z with ack := false, ph := 1, left := 0, buf := z.buf ++ d.take (min 256 d.length) }) hb rfl (n := nB (d.drop (min 256 d.length))) d5m (by show z.h1 ≠ 97; rw [h1]; decide) hz.c1
     have G5 := (hA _).trans ((hDt _).trans hmo)
     have hok := (b6Z (by8 192 :: d.take (min 256 d.length) ++ Y2 97 (d.drop (min 256 d.length))) z hz).1
     rw [show F4 z (by8 192 :: d.take (min 256 d.length) ++ Y2 97 (d.drop (min 256 d.length))) = _ from G5] at hok
     refine (b7D (by simp) h0 (by omega) hct (show c.ph ≠ 0 by rw [hph]; decide) hz (by omega) (by simp [Y2]; omega) hN G5 ⟨rfl, rfl, rfl, rfl, rfl, rfl, rfl⟩).trans ?_
     exact ih (d.drop (min 256 d.length)) _ _ _ _ g hd2 b3Y rfl rfl hph rfl hb rfl rfl rfl rfl rfl hok b0o c4w (by omega) (by omega) (by omega)
theorem zero_eq {N : Nat} {x0 x1 x2 x3 : Int} {d : List UInt8} {le : Int} (h : cOK x0 x1 x2 x3 d le false) (b4D : x1 ≠ 192) (b0o : a2u x0 = false) {D : List UInt8} {SW : Int} (hr : rOK D SW) (hDl : D.length <= 3000) (h97 : SW / 256 ≠ 97) (hN : 200000 < N) :
 T2 N x0 x1 x2 x3 d le false D SW = some (x0, x1, x2, x3, d, (if d = [] then cnt (le % 256) else 256), false, D.take (min D.length le.toNat), SW, true) := by
 obtain ⟨b0, b1, b2, b3, n255, hins, hd, hl0, hl1, hn⟩ := id h
 have hd : d.length <= 255 := by simpa using hd
 have hl1 : le <= 256 := by simpa using hl1
 have hS := c7D (N := N) h
 have ha : 0 <= x0 /\ x0 <= 254 := ⟨b0.1, by have := b0.2; omega⟩
 have he : by_ ((if d = [] then le else d.length) % 256) := ⟨by omega, by omega⟩
 have hSW := a1Q hr.2
 have h16 : x1 ≠ 97 /\ x1 ≠ 96 := by have := hins.1; exact ⟨by omega, by omega⟩
 have d6V : ¬ SW / 256 = x1 := by have h1 := hins.1; have h2 := hins.2; have h3 := hr.2; unfold H5 at h3; omega
 generalize hee : (if d = [] then le else (d.length : Int)) % 256 = e at *
 have hz1 : ZOK ⟨x0, x1, x2, x3, d, le, false, true, 1, x0, x1, x2, x3, e, true, false, 0, 0, [], false, [], 0, false⟩ :=
  ⟨ha, hl0, .inl rfl, by simp, fun h => absurd (show (1 : Int) = 3 from h) (by decide), by simp, he, hd⟩
 obtain ⟨M, rfl⟩ : ∃ M, N = M + 4 := ⟨N - 4, by omega⟩
 -- a response that the card keeps
 have keep : ∀ (z : ZT) (c : ZC) (t : Nat) (i : Int) (g : GC), D ≠ [] -> z.busy = true -> z.ph = 1 -> z.h1 ≠ 97 -> ZOK z -> z.c1 = x0 -> z.cl = le -> z.buf = [] -> c.dat = D -> c.sw = SW -> c.ph = 1 -> c.got = [] -> 0 <= i -> i <= 1000 -> 4000 < t ->
  ∃ z', F4 z (Y2 97 D) = ([by8 (a8M z.c1), by8 192, by8 0, by8 0, by8 (nB D)], z') /\ Same z z' /\
   a1J (M + 4) ⟨x0, x1, x2, x3, d, le, false⟩ D SW t [by8 (a8M z.c1), by8 192, by8 0, by8 0, by8 (nB D)] i g z' c = b6l g (D.take (min D.length le.toNat)) SW := by
  intro z c t i g hD hb hp hh1 hz e1 e2 e3 q1 q2 q3 q4 hi0 hi1 ht
  obtain ⟨d5m, d7q⟩ := b1d hD
  have hmo := c8P hb hp (n := nB D) d5m hh1 hz.c1
  have hok := (b6Z (Y2 97 D) z hz).1
  have G5 : F4 z (Y2 97 D) = _ := hmo
  rw [G5] at hok
  refine ⟨_, G5, ⟨rfl, rfl, rfl, rfl, rfl, rfl, rfl⟩, ?_⟩
  rw [← e2]
  exact c1B hN hr h97 hDl 3000 D _ c t i g hDl hD q1 q2 q3 q4 hb rfl rfl rfl rfl rfl hok (by rw [← b0o, ← e1]) (by show z.buf ++ D = D; rw [e3]; rfl) hi0 (by omega) (by omega)
 by_cases hd0 : d = []
 . subst hd0
   have d0Y := d4j (N := M + 4) (by omega) (z := ⟨[], 1, [], 0, 0, 0, 0, 0, 0, 0, 0, 0, [], 0, false, false, [], 0⟩) rfl rfl ha b1 b2 b3 he hins b4D b0o rfl
   have go : T2 (M + 4) x0 x1 x2 x3 [] le false D SW = a1J (M + 4) ⟨x0, x1, x2, x3, [], le, false⟩ D SW (M + 4) [by8 x0, by8 x1, by8 x2, by8 x3, by8 e] 0 ⟨0, 0, 0, 0, [], 0, false⟩ ⟨x0, x1, x2, x3, [], le, false, true, 1, x0, x1, x2, x3, e, true, false, 0, 0, [], false, [], 0, false⟩ ⟨[], 1, [], 0, 0, 0, 0, 0, 0, 0, 0, 0, [], 0, false, false, [], 0⟩ := by
    unfold T2 a1J
    rw [c7, if_neg (by decide), show a2Q (M + 4) = some () from rfl, d4, show a1N (M + 4) [] = some [] from rfl, d4, hS, c1m, j8, c7, if_pos rfl]
   have hee' : le % 256 = e := by rw [if_pos rfl] at hee; exact hee
   rw [go, if_pos rfl, hee']
   by_cases hD : D = []
   . subst hD
     have hro : ∀ c : ZC, W6 c [] SW = stat SW := fun c => if_pos rfl
     have hst := b8d (z := ⟨x0, x1, x2, x3, [], le, false, true, 1, x0, x1, x2, x3, e, true, false, 0, 0, [], false, [], 0, false⟩) rfl rfl hr.2 h97 (fun h => d6V h.1)
     refine (b1l (by simp) (by omega) (by omega) d0Y rfl (by simp) hr hz1 (by simp) (by rw [hro]; simp [stat]) hN ((congrArg (F4 _) (hro ⟨[], 0, [], x0, x1, x2, x3, e, x0, x1, x2, x3, [], cnt e, false, false, [], 0⟩)).trans hst) ⟨rfl, rfl, rfl, rfl, rfl, rfl, rfl⟩).trans ((b6E (by omega) rfl (by simp)).trans ?_)
     simp [b6l]
   . by_cases hc : (D.length : Int) = cnt e
     . have hro : ∀ c : ZC, c.inc = false -> c.cl = cnt e -> W6 c D SW = by8 c.c2 :: (D ++ stat SW) := fun c h1 h2 => by unfold W6; rw [if_neg hD, if_pos ⟨h1, by rw [h2]; exact hc⟩]
       have hce : cnt e <= 256 := by unfold cnt; have := he.2; split <;> omega
       have hA := d3Z (z := ⟨x0, x1, x2, x3, [], le, false, true, 1, x0, x1, x2, x3, e, true, false, 0, 0, [], false, [], 0, false⟩) rfl rfl (b := x1) b1 rfl rfl h16.2 (.inr rfl) (D ++ stat SW)
       have hDt := c2E (stat SW) D ⟨x0, x1, x2, x3, [], le, false, true, 3, x0, x1, x2, x3, e, false, false, cnt e, 0, [], false, [], 0, false⟩ rfl rfl hD hc.symm
       have hst := b8d (z := ⟨x0, x1, x2, x3, [], le, false, true, 1, x0, x1, x2, x3, e, false, false, 0, 0, D, false, [], 0, false⟩) rfl rfl hr.2 h97 (fun h => by have := h.2; simp at this)
       refine (b1l (by simp) (by omega) (by omega) d0Y rfl (by simp) hr hz1 (by simp) (by rw [hro _ rfl rfl]; simp [stat]; omega) hN ((congrArg (F4 _) (hro ⟨[], 0, [], x0, x1, x2, x3, e, x0, x1, x2, x3, [], cnt e, false, false, [], 0⟩ rfl rfl)).trans (hA.trans (hDt.trans hst))) ⟨rfl, rfl, rfl, rfl, rfl, rfl, rfl⟩).trans ((b6E (by omega) rfl (by simp only; rw [HN]; omega)).trans ?_)
       simp only [b0o, GZ, if_false]
       rfl
     . have hro : ∀ c : ZC, c.cl = cnt e -> W6 c D SW = Y2 97 D := fun c h2 => by unfold W6; rw [if_neg hD, if_neg (fun h => hc (by rw [← h2]; exact h.2))]
       have hk : ∀ c : ZC, c.cl = cnt e -> Q9 c D := fun c h2 => ⟨hD, fun h => hc (by rw [← h2]; exact h.2)⟩
       obtain ⟨z', r1, r2, r3⟩ := keep ⟨x0, x1, x2, x3, [], le, false, true, 1, x0, x1, x2, x3, e, true, false, 0, 0, [], false, [], 0, false⟩ ⟨[], 1, [], x0, x1, x2, x3, e, x0, x1, x2, x3, [], cnt e, false, false, D, SW⟩ (M + 3) 1 ⟨x0, x1, x2, x3, [], cnt e, false⟩ hD rfl rfl h16.1 hz1 rfl rfl rfl rfl rfl rfl rfl (by omega) (by omega) (by omega)
       refine (b1l (by simp) (by omega) (by omega) d0Y rfl (by simp) hr hz1 (by simp) (by rw [hro _ rfl]; simp [Y2]) hN ((congrArg (F4 _) (hro ⟨[], 0, [], x0, x1, x2, x3, e, x0, x1, x2, x3, [], cnt e, false, false, [], 0⟩ rfl)).trans r1) r2).trans ?_
       rw [if_pos (hk _ rfl), if_pos (hk _ rfl)]
       exact r3
 . have hdp := HA.2 hd0
   rw [if_neg hd0] at hee
   have hee : e = (d.length : Int) := by omega
   have d0Y := d5O (N := M + 4) (by omega) (z := ⟨[x1], 1, [], 0, 0, 0, 0, 0, 0, 0, 0, 0, [], 0, false, false, [], 0⟩) rfl rfl ha b1 b2 b3 he hins b4D b0o (by simp [a5v]) (by omega)
   have d6W := c7N (N := M + 4) (z := ⟨[x1], 2, [], x0, x1, x2, x3, e, 0, 0, 0, 0, [], 0, false, true, [], 0⟩) rfl rfl hd0 hee (by omega) hd
   have go : T2 (M + 4) x0 x1 x2 x3 d le false D SW = a1J (M + 4) ⟨x0, x1, x2, x3, d, le, false⟩ D SW (M + 4) [by8 x0, by8 x1, by8 x2, by8 x3, by8 e] 0 ⟨0, 0, 0, 0, [], 0, false⟩ ⟨x0, x1, x2, x3, d, le, false, true, 1, x0, x1, x2, x3, e, true, false, 0, 0, [], false, [], 0, false⟩ ⟨[x1], 1, [], 0, 0, 0, 0, 0, 0, 0, 0, 0, [], 0, false, false, [], 0⟩ := by
    unfold T2 a1J
    rw [c7, if_pos (by omega), show a2Q (M + 4) = some () from rfl, d4, show a1N (M + 4) [V.int GA x1] = some [x1] from rfl, d4, hS, c1m, j8, c7, if_pos rfl]
   rw [go, if_neg hd0]
   have hI := d5J (z := ⟨x0, x1, x2, x3, d, le, false, true, 1, x0, x1, x2, x3, e, true, false, 0, 0, [], false, [], 0, false⟩) rfl rfl (b := x1) b1 rfl rfl h16.2 rfl hd0
   refine (b7D (by simp) (by omega) (by omega) d0Y (show (2 : Int) ≠ 0 by decide) hz1 (by simp) (by simp) hN hI ⟨rfl, rfl, rfl, rfl, rfl, rfl, rfl⟩).trans ?_
   have hz2 : ZOK ⟨x0, x1, x2, x3, d, le, false, true, 1, x0, x1, x2, x3, e, false, false, 0, 0, [], false, [], 0, false⟩ :=
    ⟨ha, hl0, .inl rfl, by simp, fun h => absurd (show (1 : Int) = 3 from h) (by decide), by simp, he, hd⟩
   by_cases hD : D = []
   . subst hD
     have hro : ∀ c : ZC, W6 c [] SW = stat SW := fun c => if_pos rfl
     have hst := b8d (z := ⟨x0, x1, x2, x3, d, le, false, true, 1, x0, x1, x2, x3, e, false, false, 0, 0, [], false, [], 0, false⟩) rfl rfl hr.2 h97 (fun h => d6V h.1)
     refine (b1l hd0 (by omega) (by omega) d6W rfl (by simp only; omega) hr hz2 (by simp) (by rw [hro]; simp [stat]) hN ((congrArg (F4 _) (hro ⟨[x1], 0, [], x0, x1, x2, x3, e, x0, x1, x2, x3, d, 256, false, true, [], 0⟩)).trans hst) ⟨rfl, rfl, rfl, rfl, rfl, rfl, rfl⟩).trans ((b6E (by omega) rfl (by simp)).trans ?_)
     simp [b6l]
   . have hro : ∀ c : ZC, c.inc = true -> W6 c D SW = Y2 97 D := fun c h2 => by unfold W6; rw [if_neg hD, if_neg (fun h => by have := h.1; rw [h2] at this; cases this)]
     have hk : ∀ c : ZC, c.inc = true -> Q9 c D := fun c h2 => ⟨hD, fun h => by have := h.1; rw [h2] at this; cases this⟩
     obtain ⟨z', r1, r2, r3⟩ := keep ⟨x0, x1, x2, x3, d, le, false, true, 1, x0, x1, x2, x3, e, false, false, 0, 0, [], false, [], 0, false⟩ ⟨[x1], 1, [], x0, x1, x2, x3, e, x0, x1, x2, x3, d, 256, false, true, D, SW⟩ (M + 2) 2 ⟨x0, x1, x2, x3, d, 256, false⟩ hD rfl rfl h16.1 hz2 rfl rfl rfl rfl rfl rfl rfl (by omega) (by omega) (by omega)
     refine (b1l hd0 (by omega) (by omega) d6W rfl (by simp only; omega) hr hz2 (by simp) (by rw [hro _ rfl]; simp [Y2]) hN ((congrArg (F4 _) (hro ⟨[x1], 0, [], x0, x1, x2, x3, e, x0, x1, x2, x3, d, 256, false, true, [], 0⟩ rfl)).trans r1) r2).trans ?_
     rw [if_pos (hk _ rfl), if_pos (hk _ rfl)]
     exact r3
end En
section
theorem d0u : ∀ c : Nat, c < 256 -> okC c = true -> a3O (U0 c) (a2R c) (Y7 c) (T8 c) (a3R c) = c := by decide +kernel
theorem b0z (a : Nat) (h : a < 256) : (Gz a).toNat = a := by rw [Iy]; exact Ii h
theorem c8c {nad kind seq : Int} {more : Bool} {code : Int} {answer : Bool} {inf : List UInt8} (h : d8 nad kind seq more code answer inf = 0) :
 okC (a3O kind seq more code answer).toNat = true /\ U0 (a3O kind seq more code answer).toNat = kind /\ a2R (a3O kind seq more code answer).toNat = seq /\ Y7 (a3O kind seq more code answer).toNat = more /\
 T8 (a3O kind seq more code answer).toNat = code /\ a3R (a3O kind seq more code answer).toNat = answer := by
 obtain ⟨-, -, ⟨rfl, hs, rfl, rfl⟩ | ⟨rfl, hs, hc, rfl, rfl⟩ | ⟨rfl, rfl, hc, rfl⟩⟩ := a1a h
 . rcases hs with rfl | rfl <;> cases more <;> decide +kernel
 . rcases hs with rfl | rfl <;> rcases hc with rfl | rfl | rfl | rfl <;> first | decide +kernel | exact absurd h (by unfold d8; simp)
 . rcases hc with rfl | rfl | rfl | rfl <;> cases answer <;> decide +kernel
theorem d2P {k : Int} (hk : k = 0 ∨ k = 1) (b0 b1 b2 : UInt8) (inf : List UInt8) : O5 k (b0 :: b1 :: b2 :: inf ++ R5 k (b0 :: b1 :: b2 :: inf)) = b0e (b0 :: b1 :: b2 :: inf) /\ T9 k (b0 :: b1 :: b2 :: inf ++ R5 k (b0 :: b1 :: b2 :: inf)) = b0 :: b1 :: b2 :: inf := by
 have hl := a3X k (b0 :: b1 :: b2 :: inf)
 have hm : (b0 :: b1 :: b2 :: inf ++ R5 k (b0 :: b1 :: b2 :: inf)).length - C8 k = (b0 :: b1 :: b2 :: inf).length := by rw [GW, hl]; omega
 have hb : T9 k (b0 :: b1 :: b2 :: inf ++ R5 k (b0 :: b1 :: b2 :: inf)) = b0 :: b1 :: b2 :: inf := by
  unfold T9; rw [hm, List.take_left]
 refine ⟨?_, hb⟩
 unfold O5
 rw [if_neg (not_not_intro hk), hb, if_neg (by rw [GW, hl]; simp), hm, List.drop_left, if_pos rfl]
section
variable {nad kind seq : Int} {more : Bool} {code : Int} {answer : Bool} {inf : List UInt8} {k : Int}
theorem b0y : R4 k nad kind seq more code answer inf = Gz nad.toNat :: Gz (a3O kind seq more code answer).toNat :: Gz inf.length :: inf ++ R5 k (Gz nad.toNat :: Gz (a3O kind seq more code answer).toNat :: Gz inf.length :: inf) := rfl
theorem d1I (hk : k = 0 ∨ k = 1) (h : d8 nad kind seq more code answer inf = 0) :
 O5 k (R4 k nad kind seq more code answer inf) = 0 /\ a2a k (R4 k nad kind seq more code answer inf) = nad /\ P6 k (R4 k nad kind seq more code answer inf) = kind /\ a3Z k (R4 k nad kind seq more code answer inf) = seq /\
 a1y k (R4 k nad kind seq more code answer inf) = more /\ Y6 k (R4 k nad kind seq more code answer inf) = code /\ a6N k (R4 k nad kind seq more code answer inf) = answer /\ a3B k (R4 k nad kind seq more code answer inf) = inf := by
 obtain ⟨hn, hi, _⟩ := a1a h
 obtain ⟨c1, c2, c3, c4, c5, c6⟩ := c8c h
 have hct := d4V h
 obtain ⟨e1, e2⟩ := d2P hk (Gz nad.toNat) (Gz (a3O kind seq more code answer).toNat) (Gz inf.length) inf
 have t0 := b0z nad.toNat (by omega)
 have t1 := b0z (a3O kind seq more code answer).toNat (by omega)
 have t2 := b0z inf.length (by omega)
 rw [b1D, t0, t1, t2, c1, c2, c3, c4, c5, c6, if_pos ⟨rfl, rfl⟩, show ((nad.toNat : Nat) : Int) = nad by omega, h, ← b0y] at e1
 rw [← b0y] at e2
 have f0 : b0N k (R4 k nad kind seq more code answer inf) = nad.toNat := by unfold b0N; rw [e2]; exact t0
 have f1 : b1N k (R4 k nad kind seq more code answer inf) = (a3O kind seq more code answer).toNat := by unfold b1N; rw [e2]; exact t1
 unfold a2a P6 a3Z a1y Y6 a6N a3B
 simp only [if_pos e1, f0, f1, e2, c2, c3, c4, c5, c6]
 exact ⟨e1, by omega, trivial, trivial, trivial, trivial, trivial, rfl⟩
theorem d2q {xs : List UInt8} (h : O5 k xs = 0) : J9 k (a2a k xs) (P6 k xs) (a3Z k xs) (a1y k xs) (Y6 k xs) (a6N k xs) (a3B k xs) = 0 /\ X0 k (a2a k xs) (P6 k xs) (a3Z k xs) (a1y k xs) (Y6 k xs) (a6N k xs) (a3B k xs) = xs := by
 have h' := h
 unfold O5 at h'
 by_cases hk : k = 0 ∨ k = 1
 case neg => rw [if_pos hk] at h'; exact absurd h' (by decide)
 rw [if_neg (not_not_intro hk)] at h'
 by_cases hs : xs.length < 3 + C8 k
 . rw [if_pos hs] at h'; exact absurd h' (by decide)
 rw [if_neg hs] at h'
 by_cases a3Q : R5 k (T9 k xs) = xs.drop (xs.length - C8 k)
 case neg => rw [if_neg a3Q] at h'; exact absurd h' (by decide)
 rw [if_pos a3Q] at h'
 obtain ⟨b0, b1, b2, inf, K4⟩ := three (l := T9 k xs) (by unfold T9; rw [HN]; omega)
 have hxs : xs = T9 k xs ++ R5 k (T9 k xs) := by rw [a3Q]; unfold T9; rw [Ip]
 have f0 : b0N k xs = b0.toNat := by unfold b0N; rw [K4]; rfl
 have f1 : b1N k xs = b1.toNat := by unfold b1N; rw [K4]; rfl
 rw [K4, b1D] at h'
 by_cases hok : okC b1.toNat = true /\ b2.toNat = inf.length
 case neg => rw [if_neg hok] at h'; exact absurd h' (by decide)
 rw [if_pos hok] at h'
 have hb1 := He b1
 have hct := d0u b1.toNat (by omega) hok.1
 have e0 : a2a k xs = b0.toNat := by unfold a2a; rw [if_pos h, f0]
 have e1 : P6 k xs = U0 b1.toNat := by unfold P6; rw [if_pos h, f1]
 have e2 : a3Z k xs = a2R b1.toNat := by unfold a3Z; rw [if_pos h, f1]
 have e3 : a1y k xs = Y7 b1.toNat := by unfold a1y; rw [if_pos h, f1]
 have e4 : Y6 k xs = T8 b1.toNat := by unfold Y6; rw [if_pos h, f1]
 have e5 : a6N k xs = a3R b1.toNat := by unfold a6N; rw [if_pos h, f1]
 have e6 : a3B k xs = inf := by unfold a3B; rw [if_pos h, K4]; rfl
 rw [e0, e1, e2, e3, e4, e5, e6]
 have hE : J9 k b0.toNat (U0 b1.toNat) (a2R b1.toNat) (Y7 b1.toNat) (T8 b1.toNat) (a3R b1.toNat) inf = 0 := by unfold J9; rw [if_pos hk]; exact h'
 refine ⟨hE, ?_⟩
 unfold X0
 rw [if_pos hE, b0y, hct, ← hok.2]
 rw [show ((b0.toNat : Nat) : Int).toNat = b0.toNat by omega, show ((b1.toNat : Nat) : Int).toNat = b1.toNat by omega]
 simp only [UInt8.ofNat_toNat]
 rw [K4] at hxs
 exact hxs.symm
end
end
section
end
namespace En
open Go
structure Bl where
 nad : Int
 kind : Int
 seq : Int
 more : Bool
 code : Int
 ans : Bool
 inf : List UInt8
 deriving DecidableEq
def Bl.chk (b : Bl) : Int := d8 b.nad b.kind b.seq b.more b.code b.ans b.inf
def Bl.enc (b : Bl) (k : Int) : List UInt8 := X0 k b.nad b.kind b.seq b.more b.code b.ans b.inf
def b8S (k : Int) (xs : List UInt8) : Bl := ⟨a2a k xs, P6 k xs, a3Z k xs, a1y k xs, Y6 k xs, a6N k xs, a3B k xs⟩
def blZ : Bl := ⟨0, 0, 0, false, 0, false, []⟩
theorem c5T {k : Int} (hk : k = 0 ∨ k = 1) {b : Bl} (h : b.chk = 0) : J9 k b.nad b.kind b.seq b.more b.code b.ans b.inf = 0 := by
 unfold J9; rw [if_pos hk]; exact h
theorem c9P {k : Int} (hk : k = 0 ∨ k = 1) {b : Bl} (h : b.chk = 0) : b.enc k = R4 k b.nad b.kind b.seq b.more b.code b.ans b.inf := by
 unfold Bl.enc X0; rw [if_pos (c5T hk h)]
theorem d4Y {k : Int} (hk : k = 0 ∨ k = 1) {b : Bl} (h : b.chk = 0) : O5 k (b.enc k) = 0 /\ b8S k (b.enc k) = b := by
 rw [c9P hk h]
 obtain ⟨e0, e1, e2, e3, e4, e5, e6, e7⟩ := d1I hk h
 refine ⟨e0, ?_⟩
 unfold b8S
 rw [e1, e2, e3, e4, e5, e6, e7]
theorem d4s {k : Int} {xs : List UInt8} (h : O5 k xs = 0) : (k = 0 ∨ k = 1) /\ (b8S k xs).chk = 0 := by
 obtain ⟨h1, _⟩ := d2q h
 unfold J9 at h1
 by_cases hk : k = 0 ∨ k = 1
 . rw [if_pos hk] at h1; exact ⟨hk, h1⟩
 . rw [if_neg hk] at h1; exact absurd h1 (by decide)
theorem d2T {k : Int} (hk : k = 0 ∨ k = 1) {b : Bl} (h : b.chk = 0) : (b.enc k).length = 3 + b.inf.length + C8 k /\ b.inf.length <= 254 := by
 refine ⟨?_, (a1a h).2.1⟩
 rw [c9P hk h, b0y, GW, a3X]; simp; omega
theorem c9n (k : Int) : C8 k <= 2 := by
 unfold C8
 split
 . omega
 . split <;> omega
theorem b8u {k : Int} (hk : k = 0 ∨ k = 1) {b : Bl} (h : b.chk = 0) : 0 < (b.enc k).length /\ (b.enc k).length <= 300 := by
 have := c9n k
 have := d2T hk h
 omega
structure Co where
 sum : Int
 own : Int
 other : Int
 expect : Int
 next : Int
 has : Bool
 sent : Bl
 pieces : List (List UInt8)
 inn : List UInt8
def bR (s : Co) (code : Int) : Bl := ⟨0, 1, s.expect, false, code, false, []⟩
def bS (code : Int) (a : Bool) (inf : List UInt8) : Bl := ⟨0, 2, 0, false, code, a, inf⟩
def bI (s : Co) (p : List UInt8) (r : List (List UInt8)) : Bl := ⟨0, 0, s.next, !r.isEmpty, 0, false, p⟩
def w9 (s : Co) : Co × Bl :=
 match s.pieces with
 | p :: r => ({ s with pieces := r, sent := bI s p r, has := true, next := 1 - s.next }, bI s p r)
 | [] => (s, blZ)
def a0Y (n : Nat) : Nat -> List UInt8 -> List (List UInt8)
 | 0, b => [b]
 | t + 1, b => if b.length <= n then [b] else b.take n :: a0Y n t (b.drop n)
def cut (n : Nat) (b : List UInt8) : List (List UInt8) := a0Y n b.length b
def I9 (s : Co) (b : List UInt8) : Co × Bl := w9 { s with pieces := cut s.other.toNat b }
def rx (s : Co) (xs : List UInt8) : Bl × Int :=
 (b8S s.sum xs, if O5 s.sum xs = 6 then 1 else if O5 s.sum xs ≠ 0 ∨ a2a s.sum xs ≠ 0 ∨ (P6 s.sum xs = 0 /\ s.own < ((a3B s.sum xs).length : Int)) then 2 else 0)
structure Cd where
 s : Co
 state : Int
 time : Int
def b8 (n : Int) : UInt8 := Gz n.toNat
def cIn (c : Cd) (x : Bl) : List UInt8 := (if c.state = 1 then c.s.inn else []) ++ x.inf
def T7 (c : Cd) (x : Bl) : Cd × Option Bl :=
 if x.seq ≠ c.s.expect ∨ (c.state = 4 /\ c.s.pieces ≠ []) then (c, some (bR c.s 2))
 else if 65552 < (cIn c x).length then
  (⟨{ c.s with expect := 1 - c.s.expect, inn := [] }, 0, c.time⟩, some (bR { c.s with expect := 1 - c.s.expect } 2))
 else if x.more = true then
  (⟨{ c.s with expect := 1 - c.s.expect, inn := cIn c x }, 1, c.time⟩, some (bR { c.s with expect := 1 - c.s.expect } 0))
 else (⟨{ c.s with expect := 1 - c.s.expect, inn := cIn c x }, 2, c.time⟩, none)
def H3 (c : Cd) (x : Bl) : Cd × Option Bl :=
 if c.state = 4 /\ x.seq = c.s.sent.seq then (c, some c.s.sent)
 else if c.state = 4 /\ c.s.pieces ≠ [] then (⟨(w9 c.s).1, c.state, c.time⟩, some (w9 c.s).2)
 else (c, some (bR c.s 0))
def a3P (x : Bl) : Int := (x.inf.getD 0 0).toNat
def K5 (c : Cd) (x : Bl) : Cd × Option Bl :=
 if x.ans = true ∨ x.code = 3 then (c, some (bR c.s 2))
 else if x.code = 1 then (⟨{ c.s with other := a3P x }, c.state, c.time⟩, some (bS x.code true x.inf))
 else if x.code = 0 then (⟨{ c.s with expect := 0, next := 0, has := false, pieces := [], inn := [] }, 0, c.time⟩, some (bS x.code true x.inf))
 else (⟨{ c.s with pieces := [], inn := [] }, 0, c.time⟩, some (bS x.code true x.inf))
def o6 (c : Cd) (x : Bl) (r : Int) : Cd × Option Bl :=
 if c.state = 2 then (c, none)
 else if c.state = 3 then
  (if r = 0 /\ x.kind = 2 /\ x.code = 3 /\ x.ans = true /\ a3P x = c.time then (⟨c.s, 2, c.time⟩, none) else (c, some (bS 3 false [b8 c.time])))
 else if r ≠ 0 then (c, some (bR c.s r))
 else if x.kind = 0 then T7 c x
 else if x.kind = 1 then H3 c x
 else K5 c x
def p9 (c : Cd) (b : List UInt8) : Cd × Option Bl :=
 if c.state ≠ 2 then (c, none) else (⟨(I9 c.s b).1, 4, c.time⟩, some (I9 c.s b).2)
def S8 (c : Cd) (n : Int) : Cd × Option Bl :=
 if c.state ≠ 2 ∨ n < 1 ∨ 255 < n then (c, none) else (⟨c.s, 3, n⟩, some (bS 3 false [b8 n]))
def a3I (c : Cd) : List UInt8 × Bool := if c.state = 2 ∨ c.state = 3 then (c.s.inn, true) else ([], false)
structure Tm where
 s : Co
 state : Int
 fails : Int
 offered : Int
 done : Bool
 cause : Int
def d0d (t : Tm) (e : Int) : Tm × Option Bl := ({ t with state := 3, cause := e }, none)
def A4 (t : Tm) (e : Int) (b : Bl) : Tm × Option Bl :=
 if 10 < t.fails + 1 then ({ t with fails := t.fails + 1, state := 3, cause := e }, none) else ({ t with fails := t.fails + 1 }, some b)
def U3 (t : Tm) (x : Bl) : Tm × Option Bl :=
 if x.seq ≠ t.s.expect ∨ t.s.pieces ≠ [] then A4 t 28 (bR t.s 2)
 else if 65538 < (t.s.inn ++ x.inf).length then ({ t with fails := 0, s := { t.s with expect := 1 - t.s.expect, inn := t.s.inn ++ x.inf }, state := 3, cause := 28 }, none)
 else if x.more = true then ({ t with fails := 0, s := { t.s with expect := 1 - t.s.expect, inn := t.s.inn ++ x.inf } }, some (bR { t.s with expect := 1 - t.s.expect } 0))
 else ({ t with fails := 0, s := { t.s with expect := 1 - t.s.expect, inn := t.s.inn ++ x.inf }, state := 0, done := true }, none)
def H7 (t : Tm) (x : Bl) : Tm × Option Bl :=
 if x.seq = t.s.sent.seq then A4 t 28 t.s.sent
 else if t.s.pieces ≠ [] then ({ t with fails := 0, s := (w9 t.s).1 }, some (w9 t.s).2)
 else A4 t 28 (bR t.s 0)
def X7 (t : Tm) (x : Bl) : Tm × Option Bl :=
 if x.ans = true ∨ x.code = 0 then A4 t 28 (bR t.s 2)
 else if x.code = 2 then d0d t 28
 else if x.code = 1 then ({ t with fails := 0, s := { t.s with other := a3P x } }, some (bS x.code true x.inf))
 else ({ t with fails := 0 }, some (bS x.code true x.inf))
def D5 (t : Tm) (x : Bl) (r : Int) : Tm × Option Bl :=
 if t.state = 0 ∨ t.state = 3 then (t, none)
 else if t.state = 1 then
  (if r = 0 /\ x.kind = 2 /\ x.code = 1 /\ x.ans = true /\ a3P x = t.offered then ({ t with s := { t.s with own := t.offered }, state := 0 }, none) else A4 t 28 (bS 1 false [b8 t.offered]))
 else if r ≠ 0 then A4 t 28 (bR t.s r)
 else if x.kind = 0 then U3 t x
 else if x.kind = 1 then H7 t x
 else X7 t x
def F8 (t : Tm) (b : List UInt8) : Tm × Option Bl :=
 if t.state ≠ 0 then (t, none)
 else ({ t with state := 2, fails := 0, done := false, s := (I9 { t.s with inn := [] } b).1 }, some (I9 { t.s with inn := [] } b).2)
def c2s (t : Tm) : List UInt8 × Bool := if t.done = true then (t.s.inn, true) else ([], false)
structure CoOK (s : Co) : Prop where
 sum : s.sum = 0 ∨ s.sum = 1
 own : 1 <= s.own /\ s.own <= 254
 other : 1 <= s.other /\ s.other <= 254
 expect : s.expect = 0 ∨ s.expect = 1
 next : s.next = 0 ∨ s.next = 1
 sent : s.sent.chk = 0
 sseq : s.sent.seq = 0 ∨ s.sent.seq = 1
 piece : ∀ p ∈ s.pieces, p.length <= 254
 inn : s.inn.length <= 65900
structure CdOK (c : Cd) : Prop where
 s : CoOK c.s
 state : c.state = 0 ∨ c.state = 1 ∨ c.state = 2 ∨ c.state = 3 ∨ c.state = 4
 inn : c.s.inn.length <= 65552
 has : c.state = 4 -> c.s.has = true
 time : 0 <= c.time /\ c.time <= 255
 asks : c.state = 3 -> 1 <= c.time
structure TmOK (t : Tm) : Prop where
 s : CoOK t.s
 state : t.state = 0 ∨ t.state = 1 ∨ t.state = 2 ∨ t.state = 3
 inn : t.state ≠ 3 -> t.s.inn.length <= 65538
 has : t.state = 2 -> t.s.has = true
 offered : 0 <= t.offered /\ t.offered <= 254
 offers : t.state = 1 -> 1 <= t.offered
 fails : 0 <= t.fails /\ t.fails <= 11
 fails3 : t.state ≠ 3 -> t.fails <= 10
 cause : t.state ≠ 3 -> t.cause = 0
theorem a3H {s : Co} (h : CoOK s) {code : Int} (hc : code = 0 ∨ code = 1 ∨ code = 2) : (bR s code).chk = 0 := by
 unfold Bl.chk bR
 rcases h.expect with e | e <;> rcases hc with c | c | c <;> subst c <;> simp only [e] <;> decide
theorem b7J {code : Int} (hc : code = 1 ∨ code = 3) {n : Int} (h1 : 1 <= n) (h2 : n <= 255) (h3 : code = 1 -> n <= 254) (a : Bool) : (bS code a [b8 n]).chk = 0 := by
 have key : ∀ m : Nat, m < 256 -> 1 <= m -> ∀ a : Bool, (bS 3 a [Gz m]).chk = 0 /\ (m <= 254 -> (bS 1 a [Gz m]).chk = 0) := by decide +kernel
 have hk := key n.toNat (by omega) (by omega) a
 rcases hc with rfl | rfl
 . exact hk.2 (by have := h3 rfl; omega)
 . exact hk.1
theorem a7f {n : Int} (h1 : 0 <= n) (h2 : n <= 255) : ((b8 n).toNat : Int) = n := by
 unfold b8; rw [b0z _ (by omega)]; omega
theorem c8k {s : Co} (h : CoOK s) {p : List UInt8} (hp : p.length <= 254) (r : List (List UInt8)) : (bI s p r).chk = 0 := by
 unfold Bl.chk bI d8 T5
 rcases h.next with e | e <;> simp [e] <;> omega
theorem c5d {n : Nat} (hn : n <= 254) : ∀ (t : Nat) (b : List UInt8), 1 <= n -> b.length <= t + n -> ∀ p ∈ a0Y n t b, p.length <= 254
 | 0, b, h1, h, p, hp => by simp [a0Y] at hp; subst hp; omega
 | t + 1, b, h1, h, p, hp => by
   unfold a0Y at hp
   split at hp
   . simp at hp; subst hp; omega
   . simp at hp
     rcases hp with rfl | hp
     . simp; omega
     . exact c5d hn t _ h1 (by simp; omega) p hp
theorem b6C {n : Nat} : ∀ (t : Nat) (b : List UInt8), a0Y n t b ≠ []
 | 0, b => by simp [a0Y]
 | t + 1, b => by unfold a0Y; split <;> simp
theorem c3o {n : Int} (h : 1 <= n /\ n <= 254) (b : List UInt8) : (∀ p ∈ cut n.toNat b, p.length <= 254) /\ cut n.toNat b ≠ [] :=
 ⟨c5d (by omega) _ _ (by omega) (by omega), b6C _ _⟩
theorem a7H {s : Co} (h : CoOK s) (hp : s.pieces ≠ []) : CoOK (w9 s).1 /\ (w9 s).2.chk = 0 /\ (w9 s).1.sent = (w9 s).2 /\ (w9 s).1.has = true /\ (w9 s).1.inn = s.inn := by
 obtain ⟨sum, own, other, expect, next, has, sent, pieces, inn⟩ := s
 cases pieces with
 | nil => exact absurd rfl hp
 | cons p r =>
   have hb := c8k h (h.piece p (by simp)) r
   refine ⟨⟨h.sum, h.own, h.other, h.expect, ?_, hb, ?_, fun q hq => h.piece q (Hv _ hq), h.inn⟩, hb, rfl, rfl, rfl⟩
   . have := h.next
     show 1 - next = 0 ∨ 1 - next = 1
     simp only at this
     omega
   . exact h.next
theorem b8r {s : Co} (h : CoOK s) (b : List UInt8) : CoOK (I9 s b).1 /\ (I9 s b).2.chk = 0 /\ (I9 s b).1.sent = (I9 s b).2 /\ (I9 s b).1.has = true /\ (I9 s b).1.inn = s.inn := by
 obtain ⟨h1, h2⟩ := c3o h.other b
 exact a7H (s := { s with pieces := cut s.other.toNat b }) ⟨h.sum, h.own, h.other, h.expect, h.next, h.sent, h.sseq, h1, h.inn⟩ h2
end En
namespace En
open Go
theorem c5f {x : Bl} (h : x.chk = 0) : T5 x.kind x.code x.inf = 0 := by
 unfold Bl.chk d8 at h
 by_cases h1 : x.kind < 0 ∨ 2 < x.kind
 . rw [if_pos h1] at h; exact absurd h (by decide)
 rw [if_neg h1] at h
 by_cases h2 : x.nad < 0 ∨ 254 < x.nad
 . rw [if_pos h2] at h; exact absurd h (by decide)
 rw [if_neg h2] at h
 by_cases h3 : x.kind ≠ 2 /\ (x.seq < 0 ∨ 1 < x.seq)
 . rw [if_pos h3] at h; exact absurd h (by decide)
 rw [if_neg h3] at h
 by_cases h4 : x.kind ≠ 0 /\ (x.code < 0 ∨ (if x.kind = 1 then 3 else 4) <= x.code)
 . rw [if_pos h4] at h; exact absurd h (by decide)
 rw [if_neg h4] at h
 by_cases h5 : (x.kind = 2 /\ x.seq ≠ 0) ∨ (x.kind = 0 /\ x.code ≠ 0) ∨ (x.kind ≠ 0 /\ x.more = true) ∨ (x.kind ≠ 2 /\ x.ans = true)
 . rw [if_pos h5] at h; exact absurd h (by decide)
 rw [if_neg h5] at h
 exact h
theorem R8 {x : Bl} (h : x.chk = 0) (h0 : x.kind ≠ 0) (h1 : x.kind ≠ 1) : x.kind = 2 /\ x.seq = 0 /\ x.more = false /\ (x.code = 0 ∨ x.code = 1 ∨ x.code = 2 ∨ x.code = 3) /\
 ((x.code = 0 ∨ x.code = 2) -> x.inf = []) /\ ((x.code = 1 ∨ x.code = 3) -> x.inf.length = 1 /\ 1 <= a3P x /\ a3P x <= 255 /\ (x.code = 1 -> a3P x <= 254)) := by
 obtain ⟨-, -, ⟨e, _⟩ | ⟨e, _⟩ | ⟨e1, e2, e3, e4⟩⟩ := a1a h
 . exact absurd e h0
 . exact absurd e h1
 . have hi := c5f h
   refine ⟨e1, e2, e4, e3, fun hc => ?_, fun hc => ?_⟩
   . unfold T5 at hi
     rw [if_neg h0, if_pos (.inr hc)] at hi
     split at hi
     . exact List.eq_nil_of_length_eq_zero (by assumption)
     . cases hi
   . unfold T5 at hi
     rw [if_neg h0, if_neg (by omega)] at hi
     split at hi
     . rename_i hh
       obtain ⟨g1, g2, g3⟩ := hh
       have := He (x.inf.getD 0 0)
       unfold a3P
       refine ⟨g1, by omega, by omega, fun hc => by have := g3 hc; omega⟩
     . cases hi
theorem b8m {x : Bl} (h : x.chk = 0) : (x.kind = 0 ∨ x.kind = 1 ∨ x.kind = 2) /\ (x.kind ≠ 2 -> x.seq = 0 ∨ x.seq = 1) /\ x.inf.length <= 254 := by
 obtain ⟨-, e0, ⟨e, e'⟩ | ⟨e, e'⟩ | ⟨e, e'⟩⟩ := a1a h
 . exact ⟨.inl e, fun _ => e'.1, e0⟩
 . exact ⟨.inr (.inl e), fun _ => e'.1, e0⟩
 . exact ⟨.inr (.inr e), fun hh => absurd e hh, e0⟩
theorem c6o {x : Bl} (h : x.chk = 0) (h0 : x.kind ≠ 0) (h1 : x.kind ≠ 1) : (bS x.code true x.inf).chk = 0 := by
 obtain ⟨e1, e2, e3, e4, e5, e6⟩ := R8 h h0 h1
 have hi := c5f h
 rw [e1] at hi
 show d8 0 2 0 false x.code true x.inf = 0
 unfold d8
 rw [if_neg (by decide), if_neg (by decide), if_neg (by simp), if_neg (by simp; omega), if_neg (by simp), hi]
theorem c1Y (s : Co) (xs : List UInt8) : ((rx s xs).2 = 0 ∨ (rx s xs).2 = 1 ∨ (rx s xs).2 = 2) /\ ((rx s xs).2 = 0 -> (rx s xs).1.chk = 0 /\ (rx s xs).1.nad = 0 /\ ((rx s xs).1.kind = 0 -> ((rx s xs).1.inf.length : Int) <= s.own)) := by
 unfold rx
 by_cases h1 : O5 s.sum xs = 6
 . rw [if_pos h1]; exact ⟨.inr (.inl rfl), fun h => absurd (show (1 : Int) = 0 from h) (by decide)⟩
 rw [if_neg h1]
 by_cases h2 : O5 s.sum xs ≠ 0 ∨ a2a s.sum xs ≠ 0 ∨ (P6 s.sum xs = 0 /\ s.own < ((a3B s.sum xs).length : Int))
 . rw [if_pos h2]; exact ⟨.inr (.inr rfl), fun h => absurd (show (2 : Int) = 0 from h) (by decide)⟩
 rw [if_neg h2]
 refine ⟨.inl rfl, fun _ => ?_⟩
 have h3 : O5 s.sum xs = 0 := Jm fun h => h2 (.inl h)
 refine ⟨(d4s h3).2, Jm fun h => h2 (.inr (.inl h)), fun hk => ?_⟩
 have : ¬ s.own < ((a3B s.sum xs).length : Int) := fun h => h2 (.inr (.inr ⟨hk, h⟩))
 show ((a3B s.sum xs).length : Int) <= s.own
 omega
def a6S (o : Option Bl) : Prop := ∀ b, o = some b -> b.chk = 0
theorem V3 : a6S none := fun b h => by cases h
theorem B8 {b : Bl} (h : b.chk = 0) : a6S (some b) := fun c hc => by injection hc with hc; subst hc; exact h
theorem CoOK.exp {s : Co} (h : CoOK s) {inn : List UInt8} (hi : inn.length <= 65900) : CoOK { s with expect := 1 - s.expect, inn := inn } :=
 ⟨h.sum, h.own, h.other, by have := h.expect; show 1 - s.expect = 0 ∨ 1 - s.expect = 1; omega, h.next, h.sent, h.sseq, h.piece, hi⟩
theorem b8F {c : Cd} (h : CdOK c) {x : Bl} (hx : x.chk = 0) (hs : c.state ≠ 2 /\ c.state ≠ 3) : CdOK (T7 c x).1 /\ a6S (T7 c x).2 := by
 have hk := b8m hx
 unfold T7
 split
 . exact ⟨h, B8 (a3H h.s (by simp))⟩
 have hl : (cIn c x).length <= 65900 := by
  have := h.inn
  unfold cIn
  rw [GW]; split <;> simp <;> omega
 split
 . exact ⟨⟨h.s.exp (by simp), .inl rfl, by simp, (by intro h; simp at h), h.time, (by intro h; simp at h)⟩, B8 (a3H (s := { c.s with expect := 1 - c.s.expect }) (h.s.exp (inn := c.s.inn) (by have := h.inn; omega)) (by simp))⟩
 split
 . exact ⟨⟨h.s.exp hl, .inr (.inl rfl), by simp only; omega, (by intro h; simp at h), h.time, (by intro h; simp at h)⟩, B8 (a3H (s := { c.s with expect := 1 - c.s.expect }) (h.s.exp (inn := c.s.inn) (by have := h.inn; omega)) (by simp))⟩
 . exact ⟨⟨h.s.exp hl, .inr (.inr (.inl rfl)), by simp only; omega, (by intro h; simp at h), h.time, (by intro h; simp at h)⟩, V3⟩
theorem c7Y {c : Cd} (h : CdOK c) (x : Bl) : CdOK (H3 c x).1 /\ a6S (H3 c x).2 := by
 unfold H3
 split
 . exact ⟨h, B8 h.s.sent⟩
 split
 . rename_i h1
   obtain ⟨a1, a2, a3, a4, a5⟩ := a7H h.s h1.2
   exact ⟨⟨a1, h.state, by rw [a5]; exact h.inn, fun _ => a4, h.time, h.asks⟩, B8 a2⟩
 . exact ⟨h, B8 (a3H h.s (by simp))⟩
theorem c6z {c : Cd} (h : CdOK c) {x : Bl} (hx : x.chk = 0) (h0 : x.kind ≠ 0) (h1 : x.kind ≠ 1) : CdOK (K5 c x).1 /\ a6S (K5 c x).2 := by
 obtain ⟨e1, e2, e3, e4, e5, e6⟩ := R8 hx h0 h1
 have ha := c6o hx h0 h1
 unfold K5
 split
 . exact ⟨h, B8 (a3H h.s (by simp))⟩
 split
 . rename_i hc
   obtain ⟨_, f1, f2, f3⟩ := e6 (.inl hc)
   exact ⟨⟨⟨h.s.sum, h.s.own, ⟨f1, f3 hc⟩, h.s.expect, h.s.next, h.s.sent, h.s.sseq, h.s.piece, h.s.inn⟩, h.state, h.inn, h.has, h.time, h.asks⟩, B8 ha⟩
 split
 . exact ⟨⟨⟨h.s.sum, h.s.own, h.s.other, .inl rfl, .inl rfl, h.s.sent, h.s.sseq, fun p hp => by simp at hp, by simp⟩, .inl rfl, by simp, (by intro h; simp at h), h.time, (by intro h; simp at h)⟩, B8 ha⟩
 . exact ⟨⟨⟨h.s.sum, h.s.own, h.s.other, h.s.expect, h.s.next, h.s.sent, h.s.sseq, fun p hp => by simp at hp, by simp⟩, .inl rfl, by simp, (by intro h; simp at h), h.time, (by intro h; simp at h)⟩, B8 ha⟩
theorem b1Q {c : Cd} (h : CdOK c) {x : Bl} {r : Int} (hr : r = 0 ∨ r = 1 ∨ r = 2) (hx : r = 0 -> x.chk = 0) : CdOK (o6 c x r).1 /\ a6S (o6 c x r).2 := by
 unfold o6
 split
 . exact ⟨h, V3⟩
 split
 . rename_i h3
   split
   . exact ⟨⟨h.s, .inr (.inr (.inl rfl)), h.inn, (by intro h; simp at h), h.time, (by intro h; simp at h)⟩, V3⟩
   . exact ⟨h, B8 (b7J (.inr rfl) (h.asks h3) h.time.2 ((by intro h; simp at h)) _)⟩
 split
 . exact ⟨h, B8 (a3H h.s hr)⟩
 rename_i h2 h3 h4
 have hx0 := hx (Jm h4)
 split
 . exact b8F h hx0 ⟨h2, h3⟩
 split
 . exact c7Y h x
 . rename_i a b
   exact c6z h hx0 a b
theorem c7L {c : Cd} (h : CdOK c) (b : List UInt8) : CdOK (p9 c b).1 /\ a6S (p9 c b).2 := by
 unfold p9
 split
 . exact ⟨h, V3⟩
 . obtain ⟨a1, a2, a3, a4, a5⟩ := b8r h.s b
   exact ⟨⟨a1, .inr (.inr (.inr (.inr rfl))), by rw [a5]; exact h.inn, fun _ => a4, h.time, (by intro h; simp at h)⟩, B8 a2⟩
theorem c3D {c : Cd} (h : CdOK c) (n : Int) : CdOK (S8 c n).1 /\ a6S (S8 c n).2 := by
 unfold S8
 split
 . exact ⟨h, V3⟩
 . rename_i hn
   have h1 : 1 <= n /\ n <= 255 := by omega
   exact ⟨⟨h.s, .inr (.inr (.inr (.inl rfl))), h.inn, (by intro h; simp at h), ⟨by simp only; omega, h1.2⟩, fun _ => h1.1⟩, B8 (b7J (.inr rfl) h1.1 h1.2 ((by intro h; simp at h)) _)⟩
theorem c8I {t : Tm} (h : TmOK t) (b : List UInt8) : TmOK (F8 t b).1 /\ a6S (F8 t b).2 := by
 unfold F8
 split
 . exact ⟨h, V3⟩
 . rename_i hn
   have h0 : t.state = 0 := Jm hn
   obtain ⟨a1, a2, a3, a4, a5⟩ := b8r (s := { t.s with inn := [] }) ⟨h.s.sum, h.s.own, h.s.other, h.s.expect, h.s.next, h.s.sent, h.s.sseq, h.s.piece, by simp⟩ b
   exact ⟨⟨a1, .inr (.inr (.inl rfl)), fun _ => by simp only; rw [a5]; simp, fun _ => a4, h.offered, (by intro h; simp at h), by simp, fun _ => by simp, fun _ => h.cause (by omega)⟩, B8 a2⟩
end En
namespace En
open Go
def pcs (l : List (List UInt8)) : List V := l.map V.bytes
def Q0 (s : Co) : List UInt8 := if s.has = true then s.sent.enc s.sum else []
def d0a (c : Cd) : List UInt8 := if c.time = 0 then [] else [b8 c.time]
def a1o (k : Int) (o : Option Bl) : List UInt8 := match o with | none => [] | some b => b.enc k
theorem a5o (l : List (List UInt8)) : (0 < ((pcs l).length : Int)) ↔ l ≠ [] := by
 unfold pcs; rw [II]
 cases l with
 | nil => simp
 | cons a l => simp
theorem a1k {N : Nat} {l : List UInt8} (h : l.length <= 1000000) : j5 N l = some l := by
 unfold j5; rw [c7, if_pos h]
theorem w1 {n : Int} (h : n = 0 ∨ n = 1) : GA.wrap (1 - n) = 1 - n := w64 (by omega) (by omega)
section
variable (N : Nat)
theorem a6e {R : Type} (n : Nat) (hn : 1 <= n) (hn2 : n <= 254) (K0 : List V -> Option R) : ∀ (t : Nat) (b : List UInt8) (acc : List V) (u : Nat), b.length < t -> b.length <= u + n -> acc.length + b.length <= 1000000 ->
 R6 N (n : Int) t acc b K0 = K0 (acc ++ pcs (if b = [] then [] else a0Y n u b))
 | 0, b, acc, u, h, _, _ => by omega
 | t + 1, b, acc, u, ht, hu, ha => by
   have e : R6 N (n : Int) (t + 1) acc b K0 = br (decide (0 < (b.length : Int))) (br (decide (0 <= min (n : Int) b.length) && decide (min (n : Int) b.length <= b.length)) (d3 (j5 N (Ig (min (n : Int) b.length).toNat b)) fun l0 => br (decide ((acc.length + [V.bytes l0].length) * 24 <= 140737488355328)) (br (decide (0 <= min (n : Int) b.length) && decide (min (n : Int) b.length <= b.length)) (R6 N (n : Int) t (acc ++ [V.bytes l0]) (GU (min (n : Int) b.length).toNat b) K0) none) none) none) (K0 acc) := rfl
   rw [e, c7]
   by_cases hb : b = []
   . subst hb
     rw [if_neg (by simp), if_pos rfl]; simp [pcs]
   have hl : 0 < b.length := HA.2 hb
   have hm : (min (n : Int) b.length).toNat = min n b.length := by omega
   rw [if_pos (by omega), if_neg hb, t5, c7, if_pos (by omega), c7, if_pos (by omega), hm, a1k (by rw [HN]; omega), d4, c7, if_pos (by simp; omega), t5, c7, if_pos (by omega), c7, if_pos (by omega)]
   by_cases hc : b.length <= n
   . rw [show min n b.length = b.length by omega, IU, List.drop_length]
     rw [a6e n hn hn2 K0 t [] _ 0 (by simp; omega) (by simp) (by simp; omega), if_pos rfl]
     cases u with
     | zero => simp [a0Y, pcs]
     | succ u => unfold a0Y; rw [if_pos hc]; simp [pcs]
   . obtain ⟨u, rfl⟩ : ∃ v, u = v + 1 := ⟨u - 1, by omega⟩
     rw [show min n b.length = n by omega, a6e n hn hn2 K0 t (b.drop n) _ u (by rw [Ih]; omega) (by rw [Ih]; omega) (by rw [Ih]; simp; omega)]
     rw [if_neg (by intro h; have := congrArg Ke h; rw [Ih] at this; simp at this; omega)]
     conv => rhs; unfold a0Y; rw [if_neg hc]
     simp [pcs]
theorem b4K {n : Int} (hn : 1 <= n /\ n <= 254) (b : List UInt8) (h1 : b.length < N) (h2 : b.length <= 1000000) : a0d N b n = some (pcs (if b = [] then [] else cut n.toNat b), 0) := by
 unfold a0d
 rw [c7, if_neg (by omega)]
 have := a6e N n.toNat (by omega) (by omega) (fun l0 => some (l0, (0 : Int))) N b [] b.length h1 (by omega) (by simp; omega)
 rw [show ((n.toNat : Nat) : Int) = n by omega] at this
 rw [this]; rfl
def onC {α : Type} (c : Cd) (f : Int -> Int -> Int -> Int -> Int -> List UInt8 -> Int -> List V -> List UInt8 -> Int -> List UInt8 -> α) : α :=
 f c.s.sum c.s.own c.s.other c.s.expect c.s.next (Q0 c.s) c.s.sent.seq (pcs c.s.pieces) c.s.inn c.state (d0a c)
section
variable (x0 x1 x2 : Int) (x3 : Bool) (x4 : Int) (x5 : Bool) (x6 : List UInt8) (y0 y1 y2 y3 y4 : Int) (y5 : List UInt8) (y6 : Int) (y7 : List V) (y8 : List UInt8) (y9 : Int) (y10 : List UInt8)
theorem d1L : a4h N x0 x1 x2 x3 x4 x5 x6 y0 y1 y2 y3 y4 y5 y6 y7 y8 y9 y10 = some (X0 y0 x0 x1 x2 x3 x4 x5 x6) := rfl
theorem a5n : t7 N x0 y0 y1 y2 y3 y4 y5 y6 y7 y8 y9 y10 = some (X0 y0 0 1 y3 false x0 false []) := rfl
theorem a9K : I7 N x0 x3 x6 y0 y1 y2 y3 y4 y5 y6 y7 y8 y9 y10 = some (X0 y0 0 2 0 false x0 x3 x6) := rfl
theorem b3a : a1M N y0 y1 y2 y3 y4 y5 y6 y7 y8 y9 y10 = some (decide (0 < y1)) := rfl
theorem c7W (p : List UInt8) (r : List (List UInt8)) (h : (X0 y0 0 0 y4 (!r.isEmpty) 0 false p).length <= 1000000) :
 N1 N y0 y1 y2 y3 y4 y5 y6 (pcs (p :: r)) y8 y9 y10 = some (X0 y0 0 0 y4 (!r.isEmpty) 0 false p, GA.wrap (1 - y4), X0 y0 0 0 y4 (!r.isEmpty) 0 false p, y4, pcs r) := by
 have e : decide (0 < ((GU 1 (pcs (p :: r))).length : Int)) = !r.isEmpty := by cases r <;> simp [pcs] <;> omega
 unfold N1 a6P
 rw [e, c7, if_pos ((a5o _).2 (by simp)), show pcs (p :: r) = V.bytes p :: pcs r from rfl, a1W, V9, c7, if_pos (by simp; omega), d1L, d4, a1k h, d4]
 rfl
end
theorem a4Z {k : Int} (hk : k = 0 ∨ k = 1) {b : Bl} (h : b.chk = 0) : (X0 k b.nad b.kind b.seq b.more b.code b.ans b.inf).length <= 1000000 := by
 have := (b8u hk h).2
 unfold Bl.enc at this; omega
theorem W7 (s : Co) : (w9 s).1.other = s.other /\ (w9 s).1.expect = s.expect /\ (w9 s).1.inn = s.inn /\ (w9 s).1.sum = s.sum /\ (w9 s).1.own = s.own := by
 unfold w9; split <;> exact ⟨rfl, rfl, rfl, rfl, rfl⟩
theorem a9H {s : Co} (h : CoOK s) (hp : s.pieces ≠ []) (y5 : List UInt8) (y6 y9 : Int) (y10 : List UInt8) :
 N1 N s.sum s.own s.other s.expect s.next y5 y6 (pcs s.pieces) s.inn y9 y10 = some ((w9 s).2.enc s.sum, (w9 s).1.next, Q0 (w9 s).1, (w9 s).1.sent.seq, pcs (w9 s).1.pieces) := by
 obtain ⟨sum, own, other, expect, next, has, sent, pieces, inn⟩ := s
 cases pieces with
 | nil => exact absurd rfl hp
 | cons p r =>
   have hb := c8k h (h.piece p (by simp)) r
   show N1 N sum own other expect next y5 y6 (pcs (p :: r)) inn y9 y10 = _
   have hw : GA.wrap (1 - next) = 1 - next := w1 h.next
   rw [c7W N sum own other expect next y5 y6 inn y9 y10 p r (a4Z h.sum hb), hw]
   rfl
theorem c3f {s : Co} (h : CoOK s) (b : List UInt8) (h1 : b.length < N) (h2 : b.length <= 1000000) (y5 : List UInt8) (y6 y9 : Int) (y7 : List V) (y10 : List UInt8) :
 a7w N b s.sum s.own s.other s.expect s.next y5 y6 y7 s.inn y9 y10 = some ((I9 s b).2.enc s.sum, (I9 s b).1.next, Q0 (I9 s b).1, (I9 s b).1.sent.seq, pcs (I9 s b).1.pieces) := by
 obtain ⟨a1, a2⟩ := c3o h.other b
 have hs : CoOK { s with pieces := cut s.other.toNat b } := ⟨h.sum, h.own, h.other, h.expect, h.next, h.sent, h.sseq, a1, h.inn⟩
 have hpc := a9H N hs a2 y5 y6 y9 y10
 unfold a7w b0O
 rw [b4K N h.other b h1 h2, D9, c7]
 by_cases hb : b = []
 . subst hb
   rw [if_pos rfl]
   have e : cut s.other.toNat [] = [[]] := rfl
   simp only [e] at hpc
   rw [show [V.bytes []] = pcs [[]] from rfl, hpc]
   simp only [I9, e]; rfl
 . rw [if_neg (by simpa using hb), if_neg hb, hpc]
   rfl
theorem c8x {c : Cd} (h : CdOK c) {x : Bl} (hx : x.inf.length <= 254) :
 onC c (a7I N x.nad x.kind x.seq x.more x.code x.ans x.inf) = some (a1o c.s.sum (T7 c x).2, (T7 c x).1.s.expect, (T7 c x).1.s.inn, (T7 c x).1.state) := by
 have hw := w1 h.s.expect
 have hi := h.inn
 obtain ⟨⟨sum, own, other, expect, next, has, sent, pieces, inn⟩, state, time⟩ := c
 simp only at hw hi
 have hl1 : (0 + x.inf.length) * 1 <= 140737488355328 := by omega
 have hl2 : (inn.length + x.inf.length) * 1 <= 140737488355328 := by omega
 have hp : (0 < ((pcs pieces).length : Int)) ↔ pieces ≠ [] := a5o _
 unfold onC a7I b0r T7 cIn
 simp only [a5n, d4, c7, j8, hw, hp, hl1, hl2, if_true]
 by_cases e1 : x.seq = expect
 . by_cases e2 : state = 4
   . have e4 : ¬ state = 1 := by omega
     by_cases e3 : pieces = []
     . by_cases e5 : 65552 < x.inf.length
       . omega
       . have e5' : ¬ (65552 < (x.inf.length : Int)) := by omega
         cases hm : x.more <;> simp [e1, e2, e3, e5, e5', a1o, Bl.enc, bR, br]
     . simp [e1, e2, e3, a1o, Bl.enc, bR]
   . by_cases e4 : state = 1
     . by_cases e5 : 65552 < inn.length + x.inf.length
       . have e5' : (65552 < (inn.length : Int) + (x.inf.length : Int)) := by omega
         simp [e1, e4, e5, e5', a1o, Bl.enc, bR]
       . have e5' : ¬ (65552 < (inn.length : Int) + (x.inf.length : Int)) := by omega
         cases hm : x.more <;> simp [e1, e4, e5, e5', a1o, Bl.enc, bR, br]
     . have e5 : ¬ 65552 < x.inf.length := by omega
       have e5' : ¬ (65552 < (x.inf.length : Int)) := by omega
       cases hm : x.more <;> simp [e1, e2, e4, e5, e5', a1o, Bl.enc, bR, br]
 . simp [e1, a1o, Bl.enc, bR]
theorem c7A {c : Cd} (h : CdOK c) (x : Bl) :
 onC c (a4o N x.nad x.kind x.seq x.more x.code x.ans x.inf) = some (a1o c.s.sum (H3 c x).2, (H3 c x).1.s.next, Q0 (H3 c x).1.s, (H3 c x).1.s.sent.seq, pcs (H3 c x).1.s.pieces) := by
 have hp : (0 < ((pcs c.s.pieces).length : Int)) ↔ c.s.pieces ≠ [] := a5o _
 unfold onC a4o a7a H3
 simp only [a5n, d4, c7, j8, hp]
 by_cases e2 : c.state = 4
 . have hh := h.has e2
   have hse : Q0 c.s = c.s.sent.enc c.s.sum := by unfold Q0; rw [if_pos hh]
   have hcl : j5 N (Q0 c.s) = some (c.s.sent.enc c.s.sum) := by rw [hse]; exact a1k (a4Z h.s.sum h.s.sent)
   by_cases e1 : x.seq = c.s.sent.seq
   . rw [if_pos e2, if_pos e1, if_pos ⟨e2, e1⟩, hcl, d4]; rfl
   . have n1 : ¬ (c.state = 4 /\ x.seq = c.s.sent.seq) := fun hh => e1 hh.2
     rw [if_pos e2, if_neg e1, if_pos e2]
     simp only [if_neg n1]
     by_cases e3 : c.s.pieces = []
     . have n2 : ¬ (c.state = 4 /\ c.s.pieces ≠ []) := fun hh => hh.2 e3
       simp only [if_neg n2]
       rw [if_neg (by simpa using e3)]; rfl
     . rw [if_pos e3, a9H N h.s e3, Q8]
       simp only [if_pos (show c.state = 4 /\ c.s.pieces ≠ [] from ⟨e2, e3⟩)]; rfl
 . have n1 : ¬ (c.state = 4 /\ x.seq = c.s.sent.seq) := fun hh => e2 hh.1
   have n2 : ¬ (c.state = 4 /\ c.s.pieces ≠ []) := fun hh => e2 hh.1
   rw [if_neg e2, if_neg e2]
   simp only [if_neg n1, if_neg n2]; rfl
theorem c1c {x : Bl} (h : x.chk = 0) (h0 : x.kind ≠ 0) (h1 : x.kind ≠ 1) (hc : x.code = 1) : J1 N x.nad x.kind x.seq x.more x.code x.ans x.inf = some (a3P x) /\ 0 < a3P x := by
 obtain ⟨e1, e2, e3, e4, e5, e6⟩ := R8 h h0 h1
 obtain ⟨f0, f1, f2, f3⟩ := e6 (.inl hc)
 have f3 := f3 hc
 obtain ⟨nad, kind, seq, more, code, ans, inf⟩ := x
 match inf, f0 with
 | [u], _ =>
   have e : a3P ⟨nad, kind, seq, more, code, ans, [u]⟩ = u.toNat := rfl
   rw [e] at f1 f2 f3 ⊢
   refine ⟨?_, by omega⟩
   unfold J1
   simp only [c7, j8, a1W, b3o]
   rw [if_pos (by simp), if_pos (by simp), if_neg (by omega), if_pos (by simp)]
theorem c6H {c : Cd} (h : CdOK c) {x : Bl} (hx : x.chk = 0) (h0 : x.kind ≠ 0) (h1 : x.kind ≠ 1) :
 onC c (a4w N x.nad x.kind x.seq x.more x.code x.ans x.inf) = some (a1o c.s.sum (K5 c x).2, (K5 c x).1.s.other, (K5 c x).1.s.expect, (K5 c x).1.s.next, Q0 (K5 c x).1.s, pcs (K5 c x).1.s.pieces, (K5 c x).1.s.inn, (K5 c x).1.state) := by
 obtain ⟨e1, e2, e3, e4, e5, e6⟩ := R8 hx h0 h1
 unfold onC a4w a6O K5
 simp only [a5n, a9K, d4, c7, j8]
 by_cases ha : x.ans = true
 . have n1 : x.ans = true ∨ x.code = 3 := .inl ha
   rw [ha, F5]
   simp only [true_or, if_true]; rfl
 have ha' : x.ans = false := by simpa using ha
 rw [ha', P9]
 simp only [GZ, false_or]
 rcases e4 with c0 | c1 | c2 | c3
 . simp only [c0, show ¬ ((0 : Int) = 3) by decide, show ¬ ((0 : Int) = 1) by decide, if_true, if_false]; rfl
 . obtain ⟨g1, g2⟩ := c1c N hx h0 h1 c1
   rw [ha', c1] at g1
   simp only [c1, show ¬ ((1 : Int) = 3) by decide, show ¬ ((1 : Int) = 0) by decide, if_true, if_false, g1, d4, g2]; rfl
 . simp only [c2, show ¬ ((2 : Int) = 3) by decide, show ¬ ((2 : Int) = 1) by decide, show ¬ ((2 : Int) = 0) by decide, if_true, if_false]; rfl
 . simp only [c3, show ¬ ((3 : Int) = 2) by decide, show ¬ ((3 : Int) = 1) by decide, show ¬ ((3 : Int) = 0) by decide, if_true, if_false]; rfl
theorem c3I {k : Int} {xs : List UInt8} (h : xs.length <= 900000) : S0 N xs k = some (a2a k xs, P6 k xs, a3Z k xs, a1y k xs, Y6 k xs, a6N k xs, a3B k xs, O5 k xs) := by
 unfold S0; rw [c7, if_pos h]
theorem b3j {s : Co} (xs : List UInt8) (h : xs.length <= 900000) (y2 y3 y4 : Int) (y5 : List UInt8) (y6 : Int) (y7 : List V) (y8 : List UInt8) (y9 : Int) (y10 : List UInt8) :
 a0K N xs s.sum s.own y2 y3 y4 y5 y6 y7 y8 y9 y10 = some ((rx s xs).1.nad, (rx s xs).1.kind, (rx s xs).1.seq, (rx s xs).1.more, (rx s xs).1.code, (rx s xs).1.ans, (rx s xs).1.inf, (rx s xs).2) := by
 unfold a0K a4X rx b8S
 rw [c3I N h, N7]
 simp only [c7, j8]
 by_cases h6 : O5 s.sum xs = 6
 . simp only [h6, if_true]
 . simp only [h6, if_false]
   by_cases hz : O5 s.sum xs = 0
   . simp only [hz, ne_eq, not_true_eq_false, false_or, if_true]
     by_cases hn : a2a s.sum xs = 0
     . by_cases hk : P6 s.sum xs = 0
       . by_cases hl : s.own < ((a3B s.sum xs).length : Int) <;> simp [hn, hk, hl]
       . simp [hn, hk]
     . simp [hn]
   . simp [hz]
theorem c1h {x : Bl} (hx : x.chk = 0) (hn : x.nad = 0) {t code : Int} (hc : code = 1 ∨ code = 3) (h1 : 1 <= t) (h2 : t <= 255) :
 I5 x.nad x.kind x.seq x.more x.code x.ans x.inf 0 2 0 false code true [b8 t] = decide (x.kind = 2 /\ x.code = code /\ x.ans = true /\ a3P x = t) := by
 unfold I5
 refine decide_eq_decide.2 ⟨?_, ?_⟩
 . rintro ⟨_, a1, a2, a3, a4, a5, a6⟩
   refine ⟨a1, a4, a5, ?_⟩
   unfold a3P; rw [a6]; exact a7f (by omega) h2
 . rintro ⟨a1, a2, a3, a4⟩
   obtain ⟨e1, e2, e3, e4, e5, e6⟩ := R8 hx (by omega) (by omega)
   obtain ⟨f0, f1, f2, f3⟩ := e6 (by omega)
   refine ⟨hn, a1, e2, e3, a2, a3, ?_⟩
   obtain ⟨nad, kind, seq, more, code', ans, inf⟩ := x
   match inf, f0 with
   | [u], _ =>
     have e : (u.toNat : Int) = t := a4
     show [u] = [b8 t]
     congr 1
     have := a7f (n := t) (by omega) h2
     exact UInt8.toNat_inj.1 (by omega)
theorem c2g {c : Cd} (h : CdOK c) (b : List UInt8) (hb : b.length <= 900000) :
 onC c (W2 N b) = some (a1o c.s.sum (o6 c (rx c.s b).1 (rx c.s b).2).2, (o6 c (rx c.s b).1 (rx c.s b).2).1.s.other, (o6 c (rx c.s b).1 (rx c.s b).2).1.s.expect, (o6 c (rx c.s b).1 (rx c.s b).2).1.s.next, Q0 (o6 c (rx c.s b).1 (rx c.s b).2).1.s, (o6 c (rx c.s b).1 (rx c.s b).2).1.s.sent.seq,
  pcs (o6 c (rx c.s b).1 (rx c.s b).2).1.s.pieces, (o6 c (rx c.s b).1 (rx c.s b).2).1.s.inn, (o6 c (rx c.s b).1 (rx c.s b).2).1.state) := by
 obtain ⟨hr, hx⟩ := c1Y c.s b
 have ho := h.s.own
 unfold onC W2 a2S
 rw [b3a, d4, j8, c7, if_pos (by omega), b3j N b hb, N7]
 generalize (rx c.s b).1 = x at hx ⊢
 generalize (rx c.s b).2 = r at hr hx ⊢
 simp only [c7, j8, a5n, a9K, d4]
 unfold o6
 by_cases s2 : c.state = 2
 . simp only [if_pos s2]; rfl
 simp only [if_neg s2]
 by_cases s3 : c.state = 3
 . simp only [if_pos s3]
   have ht := h.asks s3
   have ha : d0a c = [b8 c.time] := by unfold d0a; rw [if_neg (by omega)]
   by_cases r0 : r = 0
   . obtain ⟨x1, x2, x3⟩ := hx r0
     rw [if_pos r0, ha]
     show d3 (some (I5 x.nad x.kind x.seq x.more x.code x.ans x.inf 0 2 0 false 3 true [b8 c.time])) _ = _
     rw [c1h x1 x2 (.inr rfl) ht h.time.2, d4, c7]
     by_cases hq : x.kind = 2 /\ x.code = 3 /\ x.ans = true /\ a3P x = c.time
     . simp only [if_pos hq, r0, true_and]; rfl
     . simp only [if_neg hq, r0, true_and, s3]; rfl
   . have n : ¬ (r = 0 /\ x.kind = 2 /\ x.code = 3 /\ x.ans = true /\ a3P x = c.time) := fun hh => r0 hh.1
     simp only [if_neg r0, if_neg n, ha, s3]; rfl
 simp only [if_neg s3]
 by_cases r0 : r = 0
 . obtain ⟨x1, x2, x3⟩ := hx r0
   simp only [r0, ne_eq, not_true_eq_false, if_true, if_false]
   by_cases k0 : x.kind = 0
   . have hi := c8x N h (b8m x1).2.2
     unfold onC at hi
     simp only [if_pos k0]
     rw [hi, X4]
     unfold T7
     repeat' split
     all_goals rfl
   . simp only [if_neg k0]
     by_cases k1 : x.kind = 1
     . have hi := c7A N h x
       unfold onC at hi
       simp only [if_pos k1]
       rw [hi, Q8]
       unfold H3
       by_cases q1 : c.state = 4 /\ x.seq = c.s.sent.seq
       . simp only [if_pos q1]
       . simp only [if_neg q1]
         by_cases q2 : c.state = 4 /\ c.s.pieces ≠ []
         . simp only [if_pos q2, W7 c.s]
         . simp only [if_neg q2]
     . have hi := c6H N h x1 k0 k1
       unfold onC at hi
       simp only [if_neg k1]
       rw [hi, N7]
       unfold K5
       repeat' split
       all_goals rfl
 . simp only [ne_eq, r0, not_false_eq_true, if_true, if_false]; rfl
end
end En
namespace En
open Go
def c6c (t : Tm) : List UInt8 := if t.offered = 0 then [] else [b8 t.offered]
def onT {α : Type} (t : Tm) (f : Int -> Int -> Int -> Int -> Int -> List UInt8 -> Int -> List V -> List UInt8 -> Int -> Int -> List UInt8 -> Bool -> Int -> α) : α :=
 f t.s.sum t.s.own t.s.other t.s.expect t.s.next (Q0 t.s) t.s.sent.seq (pcs t.s.pieces) t.s.inn t.state t.fails (c6c t) t.done t.cause
section
variable (N : Nat)
theorem c0s {c : Cd} (h : CdOK c) : onC c (V7 N) = some (a3I c) := by
 have ho := h.s.own
 unfold onC V7 a3s a3I
 rw [b3a, d4, j8, c7, if_pos (by omega), a1k (by have := h.inn; omega)]
 simp only [j8, c7, d4]
 by_cases s2 : c.state = 2
 . simp [s2]
 . by_cases s3 : c.state = 3 <;> simp [s2, s3]
theorem c7Q {c : Cd} (h : CdOK c) (b : List UInt8) (h1 : b.length < N) (h2 : b.length <= 1000000) :
 onC c (a2l N b) = some (a1o c.s.sum (p9 c b).2, (p9 c b).1.s.next, Q0 (p9 c b).1.s, (p9 c b).1.s.sent.seq, pcs (p9 c b).1.s.pieces, (p9 c b).1.state) := by
 have ho := h.s.own
 unfold onC a2l a7Y p9
 rw [b3a, d4, j8, c7, if_pos (by omega), j8, c7]
 by_cases s2 : c.state = 2
 . rw [if_pos s2, c3f N h.s b h1 h2, Q8]
   simp only [s2, ne_eq, not_true_eq_false, if_false]; rfl
 . rw [if_neg s2]
   simp only [s2, ne_eq, not_false_eq_true, if_true]; rfl
section
variable (x0 x1 x2 : Int) (x3 : Bool) (x4 : Int) (x5 : Bool) (x6 : List UInt8) (y0 y1 y2 y3 y4 : Int) (y5 : List UInt8) (y6 : Int) (y7 : List V) (y8 : List UInt8) (y9 y10 : Int) (y11 : List UInt8) (y12 : Bool) (y13 : Int)
theorem d2z : a3U N x0 x1 x2 x3 x4 x5 x6 y0 y1 y2 y3 y4 y5 y6 y7 y8 y9 y10 y11 y12 y13 = some (X0 y0 x0 x1 x2 x3 x4 x5 x6) := rfl
theorem a5f : w7 N x0 y0 y1 y2 y3 y4 y5 y6 y7 y8 y9 y10 y11 y12 y13 = some (X0 y0 0 1 y3 false x0 false []) := rfl
theorem b0c : F2 N x0 x3 x6 y0 y1 y2 y3 y4 y5 y6 y7 y8 y9 y10 y11 y12 y13 = some (X0 y0 0 2 0 false x0 x3 x6) := rfl
theorem b1T : a1s N y0 y1 y2 y3 y4 y5 y6 y7 y8 y9 y10 y11 y12 y13 = some (decide (0 < y1)) := rfl
theorem b3i : a1G N x0 y0 y1 y2 y3 y4 y5 y6 y7 y8 y9 y10 y11 y12 y13 = some ([], 3, x0) := rfl
theorem c0u (hf : 0 <= y10 /\ y10 <= 11) : k9 N x0 x6 y0 y1 y2 y3 y4 y5 y6 y7 y8 y9 y10 y11 y12 y13 = if 10 < y10 + 1 then some ([], 3, y10 + 1, x0) else some (x6, y9, y10 + 1, y13) := by
 unfold k9 a2X
 rw [w64 (by omega) (by omega), c7, b3i]; rfl
theorem c6t (p : List UInt8) (r : List (List UInt8)) (h : (X0 y0 0 0 y4 (!r.isEmpty) 0 false p).length <= 1000000) :
 Q1 N y0 y1 y2 y3 y4 y5 y6 (pcs (p :: r)) y8 y9 y10 y11 y12 y13 = some (X0 y0 0 0 y4 (!r.isEmpty) 0 false p, GA.wrap (1 - y4), X0 y0 0 0 y4 (!r.isEmpty) 0 false p, y4, pcs r) := by
 have e : decide (0 < ((GU 1 (pcs (p :: r))).length : Int)) = !r.isEmpty := by cases r <;> simp [pcs] <;> omega
 unfold Q1 a7n
 rw [e, c7, if_pos ((a5o _).2 (by simp)), show pcs (p :: r) = V.bytes p :: pcs r from rfl, a1W, V9, c7, if_pos (by simp; omega), d2z, d4, a1k h, d4]
 rfl
end
theorem a7C {s : Co} (h : CoOK s) (hp : s.pieces ≠ []) (y5 : List UInt8) (y6 y9 y10 : Int) (y11 : List UInt8) (y12 : Bool) (y13 : Int) :
 Q1 N s.sum s.own s.other s.expect s.next y5 y6 (pcs s.pieces) s.inn y9 y10 y11 y12 y13 = some ((w9 s).2.enc s.sum, (w9 s).1.next, Q0 (w9 s).1, (w9 s).1.sent.seq, pcs (w9 s).1.pieces) := by
 obtain ⟨sum, own, other, expect, next, has, sent, pieces, inn⟩ := s
 cases pieces with
 | nil => exact absurd rfl hp
 | cons p r =>
   have hb := c8k h (h.piece p (by simp)) r
   show Q1 N sum own other expect next y5 y6 (pcs (p :: r)) inn y9 y10 y11 y12 y13 = _
   have hw : GA.wrap (1 - next) = 1 - next := w1 h.next
   rw [c6t N sum own other expect next y5 y6 inn y9 y10 y11 y12 y13 p r (a4Z h.sum hb), hw]
   rfl
theorem b9a {s : Co} (h : CoOK s) (b : List UInt8) (h1 : b.length < N) (h2 : b.length <= 1000000) (y5 : List UInt8) (y6 y9 : Int) (y7 : List V) (y10 : Int) (y11 : List UInt8) (y12 : Bool) (y13 : Int) :
 a4C N b s.sum s.own s.other s.expect s.next y5 y6 y7 s.inn y9 y10 y11 y12 y13 = some ((I9 s b).2.enc s.sum, (I9 s b).1.next, Q0 (I9 s b).1, (I9 s b).1.sent.seq, pcs (I9 s b).1.pieces) := by
 obtain ⟨a1, a2⟩ := c3o h.other b
 have hs : CoOK { s with pieces := cut s.other.toNat b } := ⟨h.sum, h.own, h.other, h.expect, h.next, h.sent, h.sseq, a1, h.inn⟩
 have hpc := a7C N hs a2 y5 y6 y9 y10 y11 y12 y13
 unfold a4C a7b
 rw [b4K N h.other b h1 h2, D9, c7]
 by_cases hb : b = []
 . subst hb
   rw [if_pos rfl]
   have e : cut s.other.toNat [] = [[]] := rfl
   simp only [e] at hpc
   rw [show [V.bytes []] = pcs [[]] from rfl, hpc]
   simp only [I9, e]; rfl
 . rw [if_neg (by simpa using hb), if_neg hb, hpc]
   rfl
theorem L9 (t : Tm) (e : Int) (b : Bl) : (A4 t e b).1.s = t.s /\ (A4 t e b).1.done = t.done /\ (A4 t e b).1.offered = t.offered /\ (A4 t e b).1.fails = t.fails + 1 := by
 unfold A4; split <;> exact ⟨rfl, rfl, rfl, rfl⟩
theorem Q2 {t : Tm} (h : TmOK t) (e : Int) (b : Bl) : onT t (k9 N e (b.enc t.s.sum)) = some (a1o t.s.sum (A4 t e b).2, (A4 t e b).1.state, (A4 t e b).1.fails, (A4 t e b).1.cause) := by
 unfold onT
 rw [c0u N _ _ _ _ _ _ _ _ _ _ _ _ _ _ _ _ h.fails]
 unfold A4
 split <;> rfl
theorem c8K {t : Tm} (h : TmOK t) (h3 : t.state ≠ 3) {x : Bl} (hx : x.inf.length <= 254) :
 onT t (a7x N x.nad x.kind x.seq x.more x.code x.ans x.inf) = some (a1o t.s.sum (U3 t x).2, (U3 t x).1.s.expect, (U3 t x).1.s.inn, (U3 t x).1.state, (U3 t x).1.fails, (U3 t x).1.done, (U3 t x).1.cause) := by
 have hw := w1 h.s.expect
 have hi := h.inn h3
 have hf := Q2 N h 28 (bR t.s 2)
 obtain ⟨q1, q2, q3, q4⟩ := L9 t 28 (bR t.s 2)
 have hl2 : (t.s.inn.length + x.inf.length) * 1 <= 140737488355328 := by omega
 have hp : (0 < ((pcs t.s.pieces).length : Int)) ↔ t.s.pieces ≠ [] := a5o _
 have hr : X0 t.s.sum 0 1 t.s.expect false 2 false [] = (bR t.s 2).enc t.s.sum := rfl
 unfold onT at hf ⊢
 unfold a7x b0F U3
 simp only [a5f, b3i, d4, X8, c7, j8, hw, hp, hl2, if_true, hr, hf, X4]
 by_cases e1 : x.seq = t.s.expect
 . by_cases e3 : t.s.pieces = []
   . have n1 : ¬ (x.seq ≠ t.s.expect ∨ t.s.pieces ≠ []) := by rintro (hh | hh) <;> contradiction
     simp only [if_neg n1]
     rw [if_pos e1, if_neg (not_not_intro e3)]
     by_cases e5 : 65538 < (t.s.inn ++ x.inf).length
     . have e5' : (65538 < (((t.s.inn ++ x.inf).length : Nat) : Int)) := by omega
       simp only [if_pos e5, if_pos e5']; rfl
     . have e5' : ¬ (65538 < (((t.s.inn ++ x.inf).length : Nat) : Int)) := by omega
       simp only [if_neg e5, if_neg e5']
       cases hm : x.more <;> simp only [F5, P9, if_true, GZ, if_false] <;> rfl
   . have n1 : (x.seq ≠ t.s.expect ∨ t.s.pieces ≠ []) := .inr e3
     simp only [if_pos n1, q1, q2]
     rw [if_pos e1, if_pos e3]
 . have n1 : (x.seq ≠ t.s.expect ∨ t.s.pieces ≠ []) := .inl e1
   simp only [if_pos n1, if_neg e1, q1, q2]
theorem c7g {t : Tm} (h : TmOK t) (h2 : t.state = 2) (x : Bl) :
 onT t (a4D N x.nad x.kind x.seq x.more x.code x.ans x.inf) = some (a1o t.s.sum (H7 t x).2, (H7 t x).1.s.next, Q0 (H7 t x).1.s, (H7 t x).1.s.sent.seq, pcs (H7 t x).1.s.pieces, (H7 t x).1.state, (H7 t x).1.fails, (H7 t x).1.cause) := by
 have hp : (0 < ((pcs t.s.pieces).length : Int)) ↔ t.s.pieces ≠ [] := a5o _
 have hse : Q0 t.s = t.s.sent.enc t.s.sum := by unfold Q0; rw [if_pos (h.has h2)]
 have hcl : j5 N (Q0 t.s) = some (t.s.sent.enc t.s.sum) := by rw [hse]; exact a1k (a4Z h.s.sum h.s.sent)
 have hr : X0 t.s.sum 0 1 t.s.expect false 0 false [] = (bR t.s 0).enc t.s.sum := rfl
 have hf := Q2 N h 28 (bR t.s 0)
 have hf2 := Q2 N h 28 t.s.sent
 obtain ⟨q1, q2, q3, q4⟩ := L9 t 28 (bR t.s 0)
 obtain ⟨p1, p2, p3, p4⟩ := L9 t 28 t.s.sent
 unfold onT at hf hf2 ⊢
 unfold a4D a6K H7
 simp only [a5f, d4, c7, j8, hp, hcl, hr, hf, hf2, X4]
 by_cases e1 : x.seq = t.s.sent.seq
 . simp only [if_pos e1, p1]
 . simp only [if_neg e1]
   by_cases e3 : t.s.pieces = []
   . simp only [e3, ne_eq, not_true_eq_false, if_false, q1]
   . rw [a7C N h.s e3]
     simp only [e3, ne_eq, not_false_eq_true, if_true, Q8]; rfl
theorem c7v {t : Tm} (h : TmOK t) {x : Bl} (hx : x.chk = 0) (h0 : x.kind ≠ 0) (h1 : x.kind ≠ 1) :
 onT t (a4j N x.nad x.kind x.seq x.more x.code x.ans x.inf) = some (a1o t.s.sum (X7 t x).2, (X7 t x).1.s.other, (X7 t x).1.state, (X7 t x).1.fails, (X7 t x).1.cause) := by
 obtain ⟨e1, e2, e3, e4, e5, e6⟩ := R8 hx h0 h1
 have hr : X0 t.s.sum 0 1 t.s.expect false 2 false [] = (bR t.s 2).enc t.s.sum := rfl
 have hf := Q2 N h 28 (bR t.s 2)
 obtain ⟨q1, q2, q3, q4⟩ := L9 t 28 (bR t.s 2)
 unfold onT at hf ⊢
 unfold a4j a7o X7
 simp only [a5f, b0c, b3i, d4, X8, c7, j8, hr, hf, X4]
 by_cases ha : x.ans = true
 . have n1 : x.ans = true ∨ x.code = 0 := .inl ha
   simp only [ha, F5, true_or, if_true, q1]
 have ha' : x.ans = false := by simpa using ha
 simp only [ha', P9, GZ, false_or]
 rcases e4 with c0 | c1 | c2 | c3
 . simp only [c0, show ¬ ((0 : Int) = 3) by decide, show ¬ ((0 : Int) = 1) by decide, show ¬ ((0 : Int) = 2) by decide, if_true, if_false, q1]
 . obtain ⟨g1, g2⟩ := c1c N hx h0 h1 c1
   rw [ha', c1] at g1
   simp only [c1, show ¬ ((1 : Int) = 3) by decide, show ¬ ((1 : Int) = 0) by decide, show ¬ ((1 : Int) = 2) by decide, if_true, if_false, g1, d4, g2]; rfl
 . simp only [c2, show ¬ ((2 : Int) = 0) by decide, if_true, if_false]; rfl
 . simp only [c3, show ¬ ((3 : Int) = 2) by decide, show ¬ ((3 : Int) = 1) by decide, show ¬ ((3 : Int) = 0) by decide, if_true, if_false]; rfl
theorem c2o {s : Co} (xs : List UInt8) (h : xs.length <= 900000) (y2 y3 y4 : Int) (y5 : List UInt8) (y6 : Int) (y7 : List V) (y8 : List UInt8) (y9 y10 : Int) (y11 : List UInt8) (y12 : Bool) (y13 : Int) :
 a2s N xs s.sum s.own y2 y3 y4 y5 y6 y7 y8 y9 y10 y11 y12 y13 = some ((rx s xs).1.nad, (rx s xs).1.kind, (rx s xs).1.seq, (rx s xs).1.more, (rx s xs).1.code, (rx s xs).1.ans, (rx s xs).1.inf, (rx s xs).2) :=
 (show a2s N xs s.sum s.own y2 y3 y4 y5 y6 y7 y8 y9 y10 y11 y12 y13 = a0K N xs s.sum s.own y2 y3 y4 y5 y6 y7 y8 y9 y11 from rfl).trans (b3j N xs h y2 y3 y4 y5 y6 y7 y8 y9 y11)
theorem b9V {t : Tm} (h : TmOK t) (b : List UInt8) (hb : b.length <= 900000) :
 onT t (N3 N b) = some (a1o t.s.sum (D5 t (rx t.s b).1 (rx t.s b).2).2, (D5 t (rx t.s b).1 (rx t.s b).2).1.s.own, (D5 t (rx t.s b).1 (rx t.s b).2).1.s.other, (D5 t (rx t.s b).1 (rx t.s b).2).1.s.expect, (D5 t (rx t.s b).1 (rx t.s b).2).1.s.next,
  Q0 (D5 t (rx t.s b).1 (rx t.s b).2).1.s, (D5 t (rx t.s b).1 (rx t.s b).2).1.s.sent.seq, pcs (D5 t (rx t.s b).1 (rx t.s b).2).1.s.pieces, (D5 t (rx t.s b).1 (rx t.s b).2).1.s.inn, (D5 t (rx t.s b).1 (rx t.s b).2).1.state, (D5 t (rx t.s b).1 (rx t.s b).2).1.fails,
  (D5 t (rx t.s b).1 (rx t.s b).2).1.done, (D5 t (rx t.s b).1 (rx t.s b).2).1.cause) := by
 obtain ⟨hr, hx⟩ := c1Y t.s b
 have ho := h.s.own
 have hff := fun e b => Q2 N h e b
 unfold onT at hff ⊢
 unfold N3 a2W
 rw [b1T, d4, j8, c7, if_pos (by omega), c2o N b hb, N7]
 generalize (rx t.s b).1 = x at hx ⊢
 generalize (rx t.s b).2 = r at hr hx ⊢
 have hrr : X0 t.s.sum 0 1 t.s.expect false r false [] = (bR t.s r).enc t.s.sum := rfl
 simp only [c7, j8, a5f, b0c, d4, hrr, hff, X4]
 unfold D5
 by_cases s0 : t.state = 0
 . simp only [if_pos s0, if_pos (show t.state = 0 ∨ t.state = 3 from .inl s0)]; rfl
 by_cases s3 : t.state = 3
 . simp only [if_neg s0, if_pos s3, if_pos (show t.state = 0 ∨ t.state = 3 from .inr s3)]; rfl
 simp only [if_neg s0, if_neg s3, if_neg (show ¬ (t.state = 0 ∨ t.state = 3) by rintro (hh | hh) <;> contradiction)]
 by_cases s1 : t.state = 1
 . have ht := h.offers s1
   have hof := h.offered
   have ha : c6c t = [b8 t.offered] := by unfold c6c; rw [if_neg (by omega)]
   have hsp : X0 t.s.sum 0 2 0 false 1 false (c6c t) = (bS 1 false [b8 t.offered]).enc t.s.sum := by rw [ha]; rfl
   obtain ⟨p1, p2, p3, p4⟩ := L9 t 28 (bS 1 false [b8 t.offered])
   simp only [if_pos s1, hsp, hff, X4]
   by_cases r0 : r = 0
   . obtain ⟨x1, x2, x3⟩ := hx r0
     rw [if_pos r0, ha]
     show d3 (some (I5 x.nad x.kind x.seq x.more x.code x.ans x.inf 0 2 0 false 1 true [b8 t.offered])) _ = _
     rw [c1h x1 x2 (.inl rfl) ht (by omega), d4, c7]
     by_cases hq : x.kind = 2 /\ x.code = 1 /\ x.ans = true /\ a3P x = t.offered
     . simp only [if_pos hq, r0, true_and, a1W, b3o, a7f (show 0 <= t.offered by omega) (show t.offered <= 255 by omega)]
       rw [if_pos (by simp)]; rfl
     . simp only [if_neg hq, r0, true_and, p1, p2]
   . have n : ¬ (r = 0 /\ x.kind = 2 /\ x.code = 1 /\ x.ans = true /\ a3P x = t.offered) := fun hh => r0 hh.1
     simp only [if_neg r0, if_neg n, p1, p2]
 simp only [if_neg s1]
 have h2 : t.state = 2 := by have := h.state; omega
 by_cases r0 : r = 0
 . obtain ⟨x1, x2, x3⟩ := hx r0
   simp only [r0, ne_eq, not_true_eq_false, if_true, if_false]
   by_cases k0 : x.kind = 0
   . have hi := c8K N h s3 (b8m x1).2.2
     unfold onT at hi
     simp only [if_pos k0]
     rw [hi, c5v]
     unfold U3
     obtain ⟨p1, p2, p3, p4⟩ := L9 t 28 (bR t.s 2)
     by_cases q1 : x.seq ≠ t.s.expect ∨ t.s.pieces ≠ []
     . simp only [if_pos q1, p1]
     . simp only [if_neg q1]
       repeat' split
       all_goals rfl
   . simp only [if_neg k0]
     by_cases k1 : x.kind = 1
     . have hi := c7g N h h2 x
       unfold onT at hi
       simp only [if_pos k1]
       rw [hi, N7]
       unfold H7
       obtain ⟨p1, p2, p3, p4⟩ := L9 t 28 (bR t.s 0)
       obtain ⟨o1, o2, o3, o4⟩ := L9 t 28 t.s.sent
       by_cases q1 : x.seq = t.s.sent.seq
       . simp only [if_pos q1, o1, o2]
       . simp only [if_neg q1]
         by_cases q2 : t.s.pieces ≠ []
         . simp only [if_pos q2, W7 t.s]
         . simp only [if_neg q2, p1, p2]
     . have hi := c7v N h x1 k0 k1
       unfold onT at hi
       simp only [if_neg k1]
       rw [hi, Q8]
       unfold X7
       obtain ⟨p1, p2, p3, p4⟩ := L9 t 28 (bR t.s 2)
       by_cases q1 : x.ans = true ∨ x.code = 0
       . simp only [if_pos q1, p1, p2]
       . simp only [if_neg q1]
         repeat' split
         all_goals rfl
 . obtain ⟨p1, p2, p3, p4⟩ := L9 t 28 (bR t.s r)
   simp only [ne_eq, r0, not_false_eq_true, if_true, if_false, p1, p2]
theorem d0q {t : Tm} (h : TmOK t) : onT t (M9 N) = some (c2s t) := by
 have ho := h.s.own
 unfold onT M9 a1u c2s
 rw [b1T, d4, j8, c7, if_pos (by omega), a1k (by have := h.s.inn; omega), d4]
 cases t.done <;> rfl
theorem c9L {t : Tm} (h : TmOK t) (b : List UInt8) (h1 : b.length < N) (h2 : b.length <= 1000000) :
 onT t (a1r N b) = some (a1o t.s.sum (F8 t b).2, (F8 t b).1.s.next, Q0 (F8 t b).1.s, (F8 t b).1.s.sent.seq, pcs (F8 t b).1.s.pieces, (F8 t b).1.s.inn, (F8 t b).1.state, (F8 t b).1.fails, (F8 t b).1.done) := by
 have ho := h.s.own
 have hs : CoOK { t.s with inn := [] } := ⟨h.s.sum, h.s.own, h.s.other, h.s.expect, h.s.next, h.s.sent, h.s.sseq, h.s.piece, by simp⟩
 have hsc := fun y5 y6 y9 y7 y10 y11 y12 y13 => b9a N hs b h1 h2 y5 y6 y9 y7 y10 y11 y12 y13
 have hin := (b8r hs b).2.2.2.2
 unfold onT a1r b0B F8
 rw [b1T, d4, j8, c7, if_pos (by omega), j8, c7]
 by_cases s0 : t.state = 0
 . rw [if_pos s0, hsc, Q8]
   simp only [s0, ne_eq, not_true_eq_false, if_false, hin]; rfl
 . rw [if_neg s0]
   simp only [s0, ne_eq, not_false_eq_true, if_true]; rfl
end
end En
namespace En
open Go
structure CS where
 c : Cd
 asked : Bool
 times : Int
 right : Bool
def a9A (cmd resp : List UInt8) (time : Int) (s : CS) (x : Bl) (r : Int) : CS × Option Bl :=
 match (o6 s.c x r).2 with
 | some b => (⟨(o6 s.c x r).1, s.asked, s.times, s.right⟩, some b)
 | none =>
   if (a3I (o6 s.c x r).1).2 = true then
    if 1 <= time /\ time <= 255 /\ s.asked = false then (⟨(S8 (o6 s.c x r).1 time).1, true, s.times, s.right⟩, (S8 (o6 s.c x r).1 time).2)
    else (⟨(p9 (o6 s.c x r).1 resp).1, s.asked, s.times + 1, s.right && decide ((a3I (o6 s.c x r).1).1 = cmd)⟩, (p9 (o6 s.c x r).1 resp).2)
   else (⟨(o6 s.c x r).1, s.asked, s.times, s.right⟩, none)
structure Gn (T : Tm) (c : Cd) : Prop where
 tok : TmOK T
 cok : CdOK c
 sum : T.s.sum = c.s.sum
 to : T.s.other = c.s.own
 co : c.s.other = T.s.own
def fl (l : List (List UInt8)) : List UInt8 := l.flatten
structure PA (cmd : List UInt8) (T : Tm) (K : CS) : Prop where
 g : Gn T K.c
 busy : T.state = 2
 k : T.s.sent.kind = 0
 nad : T.s.sent.nad = 0
 fit : (T.s.sent.inf.length : Int) <= K.c.s.own
 tp : ∀ p ∈ T.s.pieces, (p.length : Int) <= K.c.s.own
 seq : T.s.sent.seq = K.c.s.expect
 nx : T.s.next = 1 - K.c.s.expect
 cn : K.c.s.next = T.s.expect
 inn : T.s.inn = []
 all : (if K.c.state = 1 then K.c.s.inn else []) ++ (T.s.sent.inf ++ fl T.s.pieces) = cmd
 more : T.s.sent.more = !T.s.pieces.isEmpty
 st : K.c.state = 0 ∨ K.c.state = 1 ∨ K.c.state = 4
 cp : K.c.s.pieces = []
 c4 : K.c.state = 4 -> K.c.s.sent.seq ≠ T.s.expect
 asked : K.asked = false
 times : K.times = 0
 right : K.right = true
structure PB (cmd : List UInt8) (T : Tm) (K : CS) : Prop where
 g : Gn T K.c
 busy : T.state = 2
 tp : ∀ p ∈ T.s.pieces, (p.length : Int) <= K.c.s.own
 ne : T.s.pieces ≠ []
 seq : T.s.sent.seq = 1 - K.c.s.expect
 nx : T.s.next = K.c.s.expect
 cn : K.c.s.next = T.s.expect
 inn : T.s.inn = []
 all : K.c.s.inn ++ fl T.s.pieces = cmd
 st : K.c.state = 1
 cp : K.c.s.pieces = []
 asked : K.asked = false
 times : K.times = 0
 right : K.right = true
structure PW (cmd : List UInt8) (time : Int) (T : Tm) (K : CS) : Prop where
 g : Gn T K.c
 busy : T.state = 2
 tp : T.s.pieces = []
 st : K.c.state = 3
 tm : K.c.time = time
 ti : 1 <= time /\ time <= 255
 inn : T.s.inn = []
 all : K.c.s.inn = cmd
 ex : K.c.s.expect = T.s.next
 seq : T.s.sent.seq = 1 - T.s.next
 cn : K.c.s.next = T.s.expect
 asked : K.asked = true
 times : K.times = 0
 right : K.right = true
structure PC (resp : List UInt8) (T : Tm) (K : CS) : Prop where
 g : Gn T K.c
 busy : T.state = 2
 tp : T.s.pieces = []
 st : K.c.state = 4
 k : K.c.s.sent.kind = 0
 nad : K.c.s.sent.nad = 0
 fit : (K.c.s.sent.inf.length : Int) <= T.s.own
 cp : ∀ p ∈ K.c.s.pieces, (p.length : Int) <= T.s.own
 cs : K.c.s.sent.seq = T.s.expect
 cn : K.c.s.next = 1 - T.s.expect
 ex : K.c.s.expect = T.s.next
 seq : T.s.sent.seq = 1 - T.s.next
 all : T.s.inn ++ (K.c.s.sent.inf ++ fl K.c.s.pieces) = resp
 more : K.c.s.sent.more = !K.c.s.pieces.isEmpty
 times : K.times = 1
 right : K.right = true
structure PD (resp : List UInt8) (T : Tm) (K : CS) : Prop where
 g : Gn T K.c
 busy : T.state = 2
 tp : T.s.pieces = []
 st : K.c.state = 4
 cp : ∀ p ∈ K.c.s.pieces, (p.length : Int) <= T.s.own
 ne : K.c.s.pieces ≠ []
 cs : K.c.s.sent.seq = 1 - T.s.expect
 cn : K.c.s.next = T.s.expect
 ex : K.c.s.expect = T.s.next
 seq : T.s.sent.seq = 1 - T.s.next
 all : T.s.inn ++ fl K.c.s.pieces = resp
 times : K.times = 1
 right : K.right = true
structure Rest (T : Tm) (c : Cd) : Prop where
 g : Gn T c
 t0 : T.state = 0
 st : c.state = 0 ∨ c.state = 4
 cp : c.s.pieces = []
 ex : c.s.expect = T.s.next
 cn : c.s.next = T.s.expect
 c4 : c.state = 4 -> c.s.sent.seq ≠ T.s.expect
structure Fin (resp : List UInt8) (T : Tm) (K : CS) : Prop where
 rest : Rest T K.c
 done : T.done = true
 inn : T.s.inn = resp
 times : K.times = 1
 right : K.right = true
def IsR (T : Tm) (b : Bl) : Prop := ∃ code, (code = 0 ∨ code = 1 ∨ code = 2) /\ b = bR T.s code
def Ph (cmd resp : List UInt8) (time : Int) (L : Nat) (T : Tm) (K : CS) (b : Bl) (d m : Nat) : Prop :=
 (PA cmd T K /\ ((b = T.s.sent /\ T.fails + 2 * d <= 10 /\ 3 * d + 2 * T.s.pieces.length + 2 * L + 8 <= m) ∨ (IsR T b /\ T.fails + 2 * d + 1 <= 10 /\ 3 * d + 2 * T.s.pieces.length + 2 * L + 9 <= m))) ∨
 (PB cmd T K /\ IsR T b /\ T.fails + 2 * d <= 10 /\ 3 * d + 2 * T.s.pieces.length + 2 * L + 7 <= m) ∨
 (PW cmd time T K /\ T.fails + 2 * d <= 10 /\ ((b = bS 3 true [b8 time] /\ 3 * d + 2 * L + 4 <= m) ∨ (IsR T b /\ 3 * d + 2 * L + 5 <= m))) ∨
 (PC resp T K /\ IsR T b /\ T.fails + 2 * d <= 10 /\ 3 * d + 2 * K.c.s.pieces.length + 2 <= m) ∨
 (PD resp T K /\ IsR T b /\ T.fails + 2 * d <= 10 /\ 3 * d + 2 * K.c.s.pieces.length + 1 <= m)
def Pre (cmd resp : List UInt8) (time : Int) (L : Nat) (T : Tm) (K : CS) (o : Bl) (d m : Nat) : Prop :=
 (PA cmd T K /\ (∃ code, (code = 0 ∨ code = 1) /\ o = bR K.c.s code) /\ T.fails + 2 * d + 1 <= 10 /\ 3 * d + 2 * T.s.pieces.length + 2 * L + 8 <= m) ∨
 (PB cmd T K /\ (∃ code, (code = 0 ∨ code = 1) /\ o = bR K.c.s code) /\ T.fails + 2 * d <= 10 /\ 3 * d + 2 * T.s.pieces.length + 2 * L + 6 <= m) ∨
 (PW cmd time T K /\ o = bS 3 false [b8 time] /\ T.fails + 2 * d <= 10 /\ 3 * d + 2 * L + 4 <= m) ∨
 (PC resp T K /\ o = K.c.s.sent /\ T.fails + 2 * d <= 10 /\ 3 * d + 2 * K.c.s.pieces.length + 1 <= m) ∨
 (PC resp T K /\ o = bR K.c.s 1 /\ T.fails + 2 * d + 1 <= 10 /\ 3 * d + 2 * K.c.s.pieces.length + 2 <= m) ∨
 (PD resp T K /\ o = bR K.c.s 1 /\ T.fails + 2 * d + 1 <= 10 /\ 3 * d + 2 * K.c.s.pieces.length + 1 <= m)
def Nx (cmd resp : List UInt8) (time : Int) (L : Nat) (r : Tm × Option Bl) (K : CS) (d m : Nat) : Prop :=
 (∃ b, r.2 = some b /\ Ph cmd resp time L r.1 K b d m) ∨ (r.2 = none /\ Fin resp r.1 K)
def Fit (s : Co) (b : Bl) : Prop := b.chk = 0 /\ b.nad = 0 /\ (b.kind = 0 -> (b.inf.length : Int) <= s.own)
def up (T : Tm) (f : Int) : Tm := { T with fails := f }
section
variable {cmd resp : List UInt8} {time : Int} {L : Nat} {T : Tm} {K : CS}
theorem TmOK.up {T : Tm} (h : TmOK T) {f : Int} (h0 : 0 <= f) (h1 : f <= 10) : TmOK (up T f) :=
 ⟨h.s, h.state, h.inn, h.has, h.offered, h.offers, ⟨h0, by show f <= 11; omega⟩, fun _ => h1, h.cause⟩
theorem Gn.up {T : Tm} {c : Cd} (h : Gn T c) {f : Int} (h0 : 0 <= f) (h1 : f <= 10) : Gn (up T f) c := ⟨h.tok.up h0 h1, h.cok, h.sum, h.to, h.co⟩
theorem PA.up (h : PA cmd T K) {f : Int} (h0 : 0 <= f) (h1 : f <= 10) : PA cmd (up T f) K := ⟨h.g.up h0 h1, h.busy, h.k, h.nad, h.fit, h.tp, h.seq, h.nx, h.cn, h.inn, h.all, h.more, h.st, h.cp, h.c4, h.asked, h.times, h.right⟩
theorem PB.up (h : PB cmd T K) {f : Int} (h0 : 0 <= f) (h1 : f <= 10) : PB cmd (up T f) K := ⟨h.g.up h0 h1, h.busy, h.tp, h.ne, h.seq, h.nx, h.cn, h.inn, h.all, h.st, h.cp, h.asked, h.times, h.right⟩
theorem PW.up (h : PW cmd time T K) {f : Int} (h0 : 0 <= f) (h1 : f <= 10) : PW cmd time (up T f) K := ⟨h.g.up h0 h1, h.busy, h.tp, h.st, h.tm, h.ti, h.inn, h.all, h.ex, h.seq, h.cn, h.asked, h.times, h.right⟩
theorem PC.up (h : PC resp T K) {f : Int} (h0 : 0 <= f) (h1 : f <= 10) : PC resp (up T f) K := ⟨h.g.up h0 h1, h.busy, h.tp, h.st, h.k, h.nad, h.fit, h.cp, h.cs, h.cn, h.ex, h.seq, h.all, h.more, h.times, h.right⟩
theorem PD.up (h : PD resp T K) {f : Int} (h0 : 0 <= f) (h1 : f <= 10) : PD resp (up T f) K := ⟨h.g.up h0 h1, h.busy, h.tp, h.st, h.cp, h.ne, h.cs, h.cn, h.ex, h.seq, h.all, h.times, h.right⟩
theorem IsR.up {T : Tm} {code : Int} (h : code = 0 ∨ code = 1 ∨ code = 2) (f : Int) : IsR (up T f) (bR T.s code) := ⟨code, h, rfl⟩
theorem b8g {T : Tm} (e : Int) (b : Bl) (h : T.fails + 1 <= 10) : A4 T e b = (up T (T.fails + 1), some b) := by
 unfold A4; rw [if_neg (by omega)]; rfl
theorem a3q {T : Tm} (h : T.state = 2) (x : Bl) (hk : x.kind = 1) : D5 T x 0 = H7 T x := by
 unfold D5; rw [if_neg (by omega), if_neg (by omega), if_neg (by decide), if_neg (by omega), if_pos hk]
theorem a7s (p : List UInt8) (r : List (List UInt8)) : fl (p :: r) = p ++ fl r := by unfold fl; simp
theorem a9L {s : Co} (h : CoOK s) (hp : s.pieces ≠ []) : ∃ p r, s.pieces = p :: r /\ w9 s = ({ s with pieces := r, sent := bI s p r, has := true, next := 1 - s.next }, bI s p r) := by
 unfold w9
 cases hs : s.pieces with
 | nil => exact absurd hs hp
 | cons p r => exact ⟨p, r, rfl, rfl⟩
theorem c3m (p : PB cmd T K) {d m : Nat} (hd : 2 * (d : Int) <= 10) (hm : 3 * d + 2 * T.s.pieces.length + 2 * L + 6 <= m) : Ph cmd resp time L { T with fails := 0, s := (w9 T.s).1 } K (w9 T.s).2 d m := by
 obtain ⟨q, r, e1, e2⟩ := a9L p.g.tok.s p.ne
 obtain ⟨a1, a2, a3, a4, a5⟩ := a7H p.g.tok.s p.ne
 have hTok : TmOK { T with fails := 0, s := (w9 T.s).1 } := ⟨a1, p.g.tok.state, fun hh => by simp only [a5]; exact p.g.tok.inn hh, fun _ => a4, p.g.tok.offered, p.g.tok.offers, by simp, fun _ => by simp, p.g.tok.cause⟩
 have hex := p.g.cok.s.expect
 rw [e2] at hTok ⊢
 have hq := p.tp q (by rw [e1]; simp)
 refine .inl ⟨⟨⟨hTok, p.g.cok, p.g.sum, p.g.to, p.g.co⟩, p.busy, rfl, rfl, hq, fun x hx => p.tp x (by rw [e1]; exact Hv _ hx), p.nx, ?_, p.cn, p.inn, ?_, rfl, .inr (.inl p.st), p.cp, fun h => ?_, p.asked, p.times, p.right⟩, .inl ⟨rfl, by simpa using hd, ?_⟩⟩
 . show 1 - T.s.next = _
   rw [p.nx]
 . rw [if_pos p.st]
   have := p.all
   rw [e1, a7s] at this
   exact this
 . rw [p.st] at h; exact absurd h (by decide)
 . rw [e1] at hm
   simp only [Hu] at hm
   show 3 * d + 2 * r.length + 2 * L + 8 <= m
   omega
theorem c3p (p : PC resp T K) {d m : Nat} (hr : resp.length <= 3000) (hd : 2 * (d : Int) <= 10) (hm : 3 * d + 2 * K.c.s.pieces.length + 1 <= m) : Nx cmd resp time L (D5 T K.c.s.sent 0) K d m := by
 have a0z := p.all
 have hlen : (T.s.inn ++ K.c.s.sent.inf).length <= 3000 := by
  have := congrArg Ke a0z
  simp only [GW] at this ⊢
  omega
 have hT : D5 T K.c.s.sent 0 = U3 T K.c.s.sent := by
  have := p.busy
  unfold D5; rw [if_neg (by omega), if_neg (by omega), if_neg (by decide), if_pos p.k]
 have hI : U3 T K.c.s.sent = if K.c.s.sent.more = true then ({ T with fails := 0, s := { T.s with expect := 1 - T.s.expect, inn := T.s.inn ++ K.c.s.sent.inf } }, some (bR { T.s with expect := 1 - T.s.expect } 0)) else ({ T with fails := 0, s := { T.s with expect := 1 - T.s.expect, inn := T.s.inn ++ K.c.s.sent.inf }, state := 0, done := true }, none) := by
  unfold U3
  rw [if_neg (by rintro (h | h); exact h p.cs; exact h p.tp), if_neg (by omega)]
 have hco : CoOK { T.s with expect := 1 - T.s.expect, inn := T.s.inn ++ K.c.s.sent.inf } := p.g.tok.s.exp (by omega)
 have hb2 := p.busy
 rw [hT, hI]
 cases hpc : K.c.s.pieces with
 | nil =>
   have hm : K.c.s.sent.more = false := by rw [p.more, hpc]; rfl
   rw [if_neg (by rw [hm]; decide)]
   refine .inr ⟨rfl, ⟨⟨⟨⟨hco, .inl rfl, fun _ => by simp only; omega, fun h => absurd (show (0 : Int) = 2 from h) (by decide), p.g.tok.offered, fun h => absurd (show (0 : Int) = 1 from h) (by decide), by simp, fun _ => by simp, fun _ => p.g.tok.cause (by omega)⟩, p.g.cok, p.g.sum, p.g.to, p.g.co⟩, rfl, .inr p.st, hpc, p.ex, p.cn, fun _ => ?_⟩, rfl, ?_, p.times, p.right⟩⟩
   . show K.c.s.sent.seq ≠ 1 - T.s.expect
     rw [p.cs]; omega
   . rw [hpc] at a0z
     simpa [fl] using a0z
 | cons q r =>
   have hm' : K.c.s.sent.more = true := by rw [p.more, hpc]; rfl
   rw [if_pos hm']
   refine .inl ⟨_, rfl, .inr (.inr (.inr (.inr ⟨⟨⟨⟨hco, p.g.tok.state, fun _ => by simp only; omega, p.g.tok.has, p.g.tok.offered, p.g.tok.offers, by simp, fun _ => by simp, p.g.tok.cause⟩, p.g.cok, p.g.sum, p.g.to, p.g.co⟩, p.busy, p.tp, p.st, p.cp, by rw [hpc]; simp, ?_, p.cn, p.ex, p.seq, ?_, p.times, p.right⟩, ⟨0, .inl rfl, rfl⟩, by simpa using hd, hm⟩)))⟩
   . show K.c.s.sent.seq = 1 - (1 - T.s.expect)
     rw [p.cs]; omega
   . show (T.s.inn ++ K.c.s.sent.inf) ++ fl K.c.s.pieces = resp
     rw [Ic]; exact a0z
theorem d7f {o : Bl} {d m : Nat} (hr : resp.length <= 3000) (h : Pre cmd resp time L T K o d m) : Nx cmd resp time L (D5 T o 0) K d m /\ Fit T.s o := by
 rcases h with ⟨p, ⟨code, hc, rfl⟩, h1, h2⟩ | ⟨p, ⟨code, hc, rfl⟩, h1, h2⟩ | ⟨p, rfl, h1, h2⟩ | ⟨p, rfl, h1, h2⟩ | ⟨p, rfl, h1, h2⟩ | ⟨p, rfl, h1, h2⟩
 . have h0 := p.g.tok.fails.1
   refine ⟨?_, a3H p.g.cok.s (by omega), rfl, fun h => absurd (show (1 : Int) = 0 from h) (by decide)⟩
   rw [a3q p.busy _ rfl]
   unfold H7
   rw [if_pos (show (bR K.c.s code).seq = T.s.sent.seq from p.seq.symm), b8g _ _ (by omega)]
   exact .inl ⟨_, rfl, .inl ⟨p.up (by omega) (by omega), .inl ⟨rfl, by show T.fails + 1 + 2 * (d : Int) <= 10; omega, h2⟩⟩⟩
 . have h0 := p.g.tok.fails.1
   have hex := p.g.cok.s.expect
   refine ⟨?_, a3H p.g.cok.s (by omega), rfl, fun h => absurd (show (1 : Int) = 0 from h) (by decide)⟩
   rw [a3q p.busy _ rfl]
   unfold H7
   rw [if_neg (show ¬ (bR K.c.s code).seq = T.s.sent.seq by rw [p.seq]; show ¬ K.c.s.expect = _; omega), if_pos p.ne]
   exact .inl ⟨_, rfl, c3m p (by omega) h2⟩
 . have h0 := p.g.tok.fails.1
   have hb := p.busy
   refine ⟨?_, b7J (.inr rfl) p.ti.1 p.ti.2 (fun h => absurd (show (3 : Int) = 1 from h) (by decide)) _, rfl, fun h => absurd (show (2 : Int) = 0 from h) (by decide)⟩
   have e : D5 T (bS 3 false [b8 time]) 0 = (up T 0, some (bS 3 true [b8 time])) := by
    unfold D5
    have n0 : ¬ (2 : Int) = 0 := by decide
    have n1 : ¬ (2 : Int) = 1 := by decide
    rw [if_neg (by omega), if_neg (by omega), if_neg (by decide), if_neg (show ¬ (bS 3 false [b8 time]).kind = 0 from n0), if_neg (show ¬ (bS 3 false [b8 time]).kind = 1 from n1)]
    unfold X7
    have n2 : ¬ (false = true ∨ (3 : Int) = 0) := by decide
    have n3 : ¬ (3 : Int) = 2 := by decide
    have n4 : ¬ (3 : Int) = 1 := by decide
    rw [if_neg (show ¬ ((bS 3 false [b8 time]).ans = true ∨ (bS 3 false [b8 time]).code = 0) from n2), if_neg (show ¬ (bS 3 false [b8 time]).code = 2 from n3), if_neg (show ¬ (bS 3 false [b8 time]).code = 1 from n4)]
    rfl
   rw [e]
   exact .inl ⟨_, rfl, .inr (.inr (.inl ⟨p.up (by omega) (by omega), by show (0 : Int) + 2 * d <= 10; omega, .inl ⟨rfl, h2⟩⟩))⟩
 . have h0 := p.g.tok.fails.1
   exact ⟨c3p p hr (by omega) h2, p.g.cok.s.sent, p.nad, fun _ => p.fit⟩
 . have h0 := p.g.tok.fails.1
   have hnx := p.g.tok.s.next
   refine ⟨?_, a3H p.g.cok.s (by omega), rfl, fun h => absurd (show (1 : Int) = 0 from h) (by decide)⟩
   rw [a3q p.busy _ rfl]
   unfold H7
   rw [if_neg (show ¬ (bR K.c.s 1).seq = T.s.sent.seq by rw [p.seq]; show ¬ K.c.s.expect = _; rw [p.ex]; omega), if_neg (not_not_intro p.tp), b8g _ _ (by omega)]
   exact .inl ⟨_, rfl, .inr (.inr (.inr (.inl ⟨p.up (by omega) (by omega), IsR.up (.inl rfl) _, by show T.fails + 1 + 2 * (d : Int) <= 10; omega, h2⟩)))⟩
 . have h0 := p.g.tok.fails.1
   have hnx := p.g.tok.s.next
   refine ⟨?_, a3H p.g.cok.s (by omega), rfl, fun h => absurd (show (1 : Int) = 0 from h) (by decide)⟩
   rw [a3q p.busy _ rfl]
   unfold H7
   rw [if_neg (show ¬ (bR K.c.s 1).seq = T.s.sent.seq by rw [p.seq]; show ¬ K.c.s.expect = _; rw [p.ex]; omega), if_neg (not_not_intro p.tp), b8g _ _ (by omega)]
   exact .inl ⟨_, rfl, .inr (.inr (.inr (.inr ⟨p.up (by omega) (by omega), IsR.up (.inl rfl) _, by show T.fails + 1 + 2 * (d : Int) <= 10; omega, h2⟩)))⟩
end
end En
namespace En
open Go
theorem b8t (n : Nat) : ∀ (t : Nat) (b : List UInt8), fl (a0Y n t b) = b
 | 0, b => by simp [a0Y, fl]
 | t + 1, b => by
   unfold a0Y
   split
   . simp [fl]
   . rw [a7s, b8t n t, Ip]
theorem b6R (n : Nat) (hn : 1 <= n) : ∀ (t : Nat) (b : List UInt8), b.length <= t + n -> ∀ p ∈ a0Y n t b, p.length <= n
 | 0, b, h, p, hp => by simp [a0Y] at hp; subst hp; omega
 | t + 1, b, h, p, hp => by
   unfold a0Y at hp
   split at hp
   . simp at hp; subst hp; omega
   . simp at hp
     rcases hp with rfl | hp
     . simp; omega
     . exact b6R n hn t _ (by simp; omega) p hp
theorem b3m (n : Nat) (hn : 1 <= n) : ∀ (t : Nat) (b : List UInt8), (a0Y n t b).length <= b.length + 1
 | 0, b => by simp [a0Y]
 | t + 1, b => by
   unfold a0Y
   split
   . simp
   . have := b3m n hn t (b.drop n)
     rw [Ih] at this
     simp only [Hu]; omega
section
variable {cmd resp : List UInt8} {time : Int} {L : Nat} {T : Tm} {K : CS}
theorem a0C {x : Bl} {r : Int} {c' : Cd} {b : Bl} (h : o6 K.c x r = (c', some b)) : a9A cmd resp time K x r = (⟨c', K.asked, K.times, K.right⟩, some b) := by
 unfold a9A; rw [h]
theorem b5c {x : Bl} {r : Int} {c' : Cd} (h : o6 K.c x r = (c', none)) (h2 : c'.state = 2) : a9A cmd resp time K x r =
 if 1 <= time /\ time <= 255 /\ K.asked = false then (⟨(S8 c' time).1, true, K.times, K.right⟩, (S8 c' time).2) else (⟨(p9 c' resp).1, K.asked, K.times + 1, K.right && decide (c'.s.inn = cmd)⟩, (p9 c' resp).2) := by
 have hc : a3I c' = (c'.s.inn, true) := by unfold a3I; rw [if_pos (.inl h2)]
 unfold a9A; rw [h]
 simp only [hc, if_true]
theorem b9n {c' : Cd} (g : Gn T c') (busy : T.state = 2) (tp : T.s.pieces = []) (st : c'.state = 2) (inn : T.s.inn = []) (ex : c'.s.expect = T.s.next) (seq : T.s.sent.seq = 1 - T.s.next) (cn : c'.s.next = T.s.expect) (hL : resp.length + 1 <= L) (asked : Bool) :
 ∃ o, (p9 c' resp).2 = some o /\ PC resp T ⟨(p9 c' resp).1, asked, 1, true⟩ /\ o = (p9 c' resp).1.s.sent /\ (p9 c' resp).1.s.pieces.length + 1 <= L := by
 have ok := (c7L g.cok resp).1
 have ho := g.cok.s.other
 have hex := g.tok.s.expect
 have h1 := b6R c'.s.other.toNat (by omega) resp.length resp (by omega)
 have h2 := b3m c'.s.other.toNat (by omega) resp.length resp
 have h3 := b8t c'.s.other.toNat resp.length resp
 have h4 := b6C (n := c'.s.other.toNat) resp.length resp
 have e : p9 c' resp = (⟨(I9 c'.s resp).1, 4, c'.time⟩, some (I9 c'.s resp).2) := by unfold p9; rw [if_neg (not_not_intro st)]
 rw [e] at ok ⊢
 unfold I9 cut at ok ⊢
 generalize hl : a0Y c'.s.other.toNat resp.length resp = l at *
 cases l with
 | nil => exact absurd rfl h4
 | cons p r =>
   have hco := g.co
   have hp := h1 p (by simp)
   refine ⟨_, rfl, ⟨⟨g.tok, ok, g.sum, g.to, g.co⟩, busy, tp, rfl, rfl, rfl, ?_, fun q hq => ?_, cn, ?_, ex, seq, ?_, rfl, rfl, rfl⟩, rfl, ?_⟩
   . show (p.length : Int) <= T.s.own
     omega
   . have := h1 q (Hv _ hq)
     show (q.length : Int) <= T.s.own
     omega
   . show 1 - c'.s.next = _
     rw [cn]
   . show T.s.inn ++ (p ++ fl r) = resp
     rw [inn, IJ, ← a7s]; exact h3
   . show r.length + 1 <= L
     simp only [Hu] at h2
     omega
theorem a3t {c : Cd} (h2 : c.state ≠ 2) (h3 : c.state ≠ 3) (x : Bl) (hk : x.kind = 1) : o6 c x 0 = H3 c x := by
 unfold o6; rw [if_neg h2, if_neg h3, if_neg (by decide), if_neg (by omega), if_pos hk]
theorem c8m {c : Cd} (h3 : c.state = 3) (x : Bl) (r : Int) (h : ¬ (r = 0 /\ x.kind = 2 /\ x.code = 3 /\ x.ans = true /\ a3P x = c.time)) : o6 c x r = (c, some (bS 3 false [b8 c.time])) := by
 unfold o6; rw [if_neg (by omega), if_pos h3, if_neg h]
theorem c7f (p : PA cmd T K) {d m : Nat} (hc : cmd.length <= 3000) (hL : resp.length + 1 <= L) (hf : T.fails + 2 * d <= 10) (hm : 3 * d + 2 * T.s.pieces.length + 2 * L + 8 <= m + 1) :
 ∃ K' o, a9A cmd resp time K T.s.sent 0 = (K', some o) /\ Pre cmd resp time L T K' o d m := by
 have hex := p.g.cok.s.expect
 have hlen : (cIn K.c T.s.sent).length <= 3000 := by
  have := congrArg Ke p.all
  unfold cIn
  simp only [GW] at this ⊢
  omega
 have hin : cIn K.c T.s.sent ++ fl T.s.pieces = cmd := by
  unfold cIn; rw [Ic]; exact p.all
 have hst : K.c.state ≠ 2 /\ K.c.state ≠ 3 := by have := p.st; omega
 have hR : o6 K.c T.s.sent 0 = T7 K.c T.s.sent := by
  unfold o6; rw [if_neg hst.1, if_neg hst.2, if_neg (by decide), if_pos p.k]
 have ok := (b8F p.g.cok p.g.tok.s.sent hst).1
 have hI : T7 K.c T.s.sent = if T.s.sent.more = true then (⟨{ K.c.s with expect := 1 - K.c.s.expect, inn := cIn K.c T.s.sent }, 1, K.c.time⟩, some (bR { K.c.s with expect := 1 - K.c.s.expect } 0)) else (⟨{ K.c.s with expect := 1 - K.c.s.expect, inn := cIn K.c T.s.sent }, 2, K.c.time⟩, none) := by
  unfold T7
  rw [if_neg (by rintro (h | h); exact h p.seq; exact h.2 p.cp), if_neg (by omega)]
 rw [hI] at ok hR
 cases hpc : T.s.pieces with
 | cons q r =>
   have hmo : T.s.sent.more = true := by rw [p.more, hpc]; rfl
   rw [if_pos hmo] at hR ok
   refine ⟨_, _, a0C hR, .inr (.inl ⟨⟨⟨p.g.tok, ok, p.g.sum, p.g.to, p.g.co⟩, p.busy, p.tp, by rw [hpc]; simp, ?_, p.nx, p.cn, p.inn, hin, rfl, p.cp, p.asked, p.times, p.right⟩, ⟨0, .inl rfl, rfl⟩, hf, by omega⟩)⟩
   show T.s.sent.seq = 1 - (1 - K.c.s.expect)
   rw [p.seq]; omega
 | nil =>
   have hmo : T.s.sent.more = false := by rw [p.more, hpc]; rfl
   rw [if_neg (by rw [hmo]; decide)] at hR ok
   have hin' : cIn K.c T.s.sent = cmd := by rw [hpc] at hin; simpa [fl] using hin
   have d6X : T.s.sent.seq = 1 - T.s.next := by rw [p.seq, p.nx]; omega
   rw [b5c hR rfl]
   have g : Gn T ⟨{ K.c.s with expect := 1 - K.c.s.expect, inn := cIn K.c T.s.sent }, 2, K.c.time⟩ := ⟨p.g.tok, ok, p.g.sum, p.g.to, p.g.co⟩
   by_cases ht : 1 <= time /\ time <= 255 /\ K.asked = false
   . rw [if_pos ht]
     have ok2 := (c3D ok time).1
     have e : S8 ⟨{ K.c.s with expect := 1 - K.c.s.expect, inn := cIn K.c T.s.sent }, 2, K.c.time⟩ time = (⟨{ K.c.s with expect := 1 - K.c.s.expect, inn := cIn K.c T.s.sent }, 3, time⟩, some (bS 3 false [b8 time])) := by
      unfold S8
      rw [if_neg (by rintro (h | h | h); exact h rfl; omega; omega)]
     rw [e] at ok2 ⊢
     exact ⟨_, _, rfl, .inr (.inr (.inl ⟨⟨⟨p.g.tok, ok2, p.g.sum, p.g.to, p.g.co⟩, p.busy, hpc, rfl, rfl, ⟨ht.1, ht.2.1⟩, p.inn, hin', p.nx.symm, d6X, p.cn, rfl, p.times, p.right⟩, rfl, hf, by omega⟩))⟩
   . rw [if_neg ht]
     obtain ⟨o, h1, h2, h3, h4⟩ := b9n g p.busy hpc rfl p.inn p.nx.symm d6X p.cn hL K.asked
     refine ⟨⟨(p9 ⟨{ K.c.s with expect := 1 - K.c.s.expect, inn := cIn K.c T.s.sent }, 2, K.c.time⟩ resp).1, K.asked, 1, true⟩, o, ?_, .inr (.inr (.inr (.inl ⟨h2, h3, hf, ?_⟩)))⟩
     . rw [h1, p.times, p.right, hin']
       simp
     . show 3 * d + 2 * (p9 ⟨{ K.c.s with expect := 1 - K.c.s.expect, inn := cIn K.c T.s.sent }, 2, K.c.time⟩ resp).1.s.pieces.length + 1 <= m
       omega
theorem d2e {b : Bl} {d m : Nat} (hc : cmd.length <= 3000) (hL : resp.length + 1 <= L) (h : Ph cmd resp time L T K b d (m + 1)) :
 (∃ K' o, a9A cmd resp time K b 0 = (K', some o) /\ Pre cmd resp time L T K' o d m) /\ Fit K.c.s b := by
 have rfit : ∀ {s : Co} {t : Co} {code : Int}, CoOK t -> (code = 0 ∨ code = 1 ∨ code = 2) -> Fit s (bR t code) := fun ht hcd => ⟨a3H ht hcd, rfl, fun h => absurd (show (1 : Int) = 0 from h) (by decide)⟩
 rcases h with ⟨p, hb⟩ | ⟨p, ⟨code, hcd, rfl⟩, h1, h2⟩ | ⟨p, h1, hb⟩ | ⟨p, ⟨code, hcd, rfl⟩, h1, h2⟩ | ⟨p, ⟨code, hcd, rfl⟩, h1, h2⟩
 . have hst : K.c.state ≠ 2 /\ K.c.state ≠ 3 := by have := p.st; omega
   rcases hb with ⟨rfl, h1, h2⟩ | ⟨⟨code, hcd, rfl⟩, h1, h2⟩
   . exact ⟨c7f p hc hL h1 h2, p.g.tok.s.sent, p.nad, fun _ => p.fit⟩
   . refine ⟨⟨_, _, a0C (c' := K.c) (b := bR K.c.s 0) ?_, .inl ⟨⟨p.g, p.busy, p.k, p.nad, p.fit, p.tp, p.seq, p.nx, p.cn, p.inn, p.all, p.more, p.st, p.cp, p.c4, p.asked, p.times, p.right⟩, ⟨0, .inl rfl, rfl⟩, h1, by omega⟩⟩, rfit p.g.tok.s hcd⟩
     rw [a3t hst.1 hst.2 _ rfl]
     unfold H3
     rw [if_neg (by rintro ⟨a, b⟩; exact p.c4 a b.symm), if_neg (by rintro ⟨a, b⟩; exact b p.cp)]
 . have hst : K.c.state ≠ 2 /\ K.c.state ≠ 3 := by have := p.st; omega
   refine ⟨⟨_, _, a0C (c' := K.c) (b := bR K.c.s 0) ?_, .inr (.inl ⟨⟨p.g, p.busy, p.tp, p.ne, p.seq, p.nx, p.cn, p.inn, p.all, p.st, p.cp, p.asked, p.times, p.right⟩, ⟨0, .inl rfl, rfl⟩, h1, by omega⟩)⟩, rfit p.g.tok.s hcd⟩
   rw [a3t hst.1 hst.2 _ rfl]
   have h4 := p.st
   unfold H3
   rw [if_neg (by rintro ⟨a, b⟩; omega), if_neg (by rintro ⟨a, b⟩; omega)]
 . rcases hb with ⟨rfl, h2⟩ | ⟨⟨code, hcd, rfl⟩, h2⟩
   . have d6Y : (bS 3 true [b8 time]).chk = 0 := b7J (.inr rfl) p.ti.1 p.ti.2 (fun h => absurd (show (3 : Int) = 1 from h) (by decide)) _
     refine ⟨?_, d6Y, rfl, fun h => absurd (show (2 : Int) = 0 from h) (by decide)⟩
     have e : o6 K.c (bS 3 true [b8 time]) 0 = (⟨K.c.s, 2, K.c.time⟩, none) := by
      have hti := p.ti
      unfold o6
      rw [if_neg (by have := p.st; omega), if_pos p.st, if_pos]
      exact ⟨rfl, rfl, rfl, rfl, by rw [p.tm]; exact a7f (by omega) hti.2⟩
     have ok := (b1Q (x := bS 3 true [b8 time]) (r := 0) p.g.cok (.inl rfl) (fun _ => d6Y)).1
     rw [e] at ok
     have g : Gn T ⟨K.c.s, 2, K.c.time⟩ := ⟨p.g.tok, ok, p.g.sum, p.g.to, p.g.co⟩
     rw [b5c e rfl, if_neg (by rw [p.asked]; simp)]
     obtain ⟨o, a1, a2, a3, a4⟩ := b9n g p.busy p.tp rfl p.inn p.ex p.seq p.cn hL K.asked
     refine ⟨⟨(p9 ⟨K.c.s, 2, K.c.time⟩ resp).1, K.asked, 1, true⟩, o, ?_, .inr (.inr (.inr (.inl ⟨a2, a3, h1, ?_⟩)))⟩
     . rw [a1, p.times, p.right, p.all]
       simp
     . show 3 * d + 2 * (p9 ⟨K.c.s, 2, K.c.time⟩ resp).1.s.pieces.length + 1 <= m
       omega
   . refine ⟨⟨_, _, a0C (c' := K.c) (c8m p.st _ _ (fun h => absurd (show (1 : Int) = 2 from h.2.1) (by decide))), .inr (.inr (.inl ⟨⟨p.g, p.busy, p.tp, p.st, p.tm, p.ti, p.inn, p.all, p.ex, p.seq, p.cn, p.asked, p.times, p.right⟩, by rw [p.tm], h1, by omega⟩))⟩, rfit p.g.tok.s hcd⟩
 . have hst : K.c.state ≠ 2 /\ K.c.state ≠ 3 := by have := p.st; omega
   refine ⟨⟨_, _, a0C (c' := K.c) (b := K.c.s.sent) ?_, .inr (.inr (.inr (.inl ⟨⟨p.g, p.busy, p.tp, p.st, p.k, p.nad, p.fit, p.cp, p.cs, p.cn, p.ex, p.seq, p.all, p.more, p.times, p.right⟩, rfl, h1, by show 3 * d + 2 * K.c.s.pieces.length + 1 <= m; omega⟩)))⟩, rfit p.g.tok.s hcd⟩
   rw [a3t hst.1 hst.2 _ rfl]
   unfold H3
   rw [if_pos ⟨p.st, p.cs.symm⟩]
 . have hst : K.c.state ≠ 2 /\ K.c.state ≠ 3 := by have := p.st; omega
   have hex := p.g.tok.s.expect
   obtain ⟨q, r, e1, e2⟩ := a9L p.g.cok.s p.ne
   obtain ⟨b1, b2, b3, b4, b5⟩ := a7H p.g.cok.s p.ne
   have hA : o6 K.c (bR T.s code) 0 = (⟨(w9 K.c.s).1, K.c.state, K.c.time⟩, some (w9 K.c.s).2) := by
    rw [a3t hst.1 hst.2 _ rfl]
    unfold H3
    rw [if_neg (by rintro ⟨a, b⟩; have hb' : T.s.expect = K.c.s.sent.seq := b; rw [p.cs] at hb'; omega), if_pos ⟨p.st, p.ne⟩]
   have ok := (b1Q (x := bR T.s code) (r := 0) p.g.cok (.inl rfl) (fun _ => a3H p.g.tok.s hcd)).1
   rw [hA] at ok
   rw [e2] at hA ok
   refine ⟨⟨_, _, a0C hA, .inr (.inr (.inr (.inl ⟨⟨⟨p.g.tok, ok, p.g.sum, p.g.to, p.g.co⟩, p.busy, p.tp, p.st, rfl, rfl, p.cp q (by rw [e1]; simp), fun x hx => p.cp x (by rw [e1]; exact Hv _ hx), p.cn, ?_, p.ex, p.seq, ?_, rfl, p.times, p.right⟩, rfl, h1, ?_⟩)))⟩, rfit p.g.tok.s hcd⟩
   . show 1 - K.c.s.next = _
     rw [p.cn]
   . have := p.all
     rw [e1, a7s] at this
     exact this
   . rw [e1] at h2
     simp only [Hu] at h2
     show 3 * d + 2 * r.length + 1 <= m
     omega
theorem c9Y (hr : Rest T K.c) (hc : cmd.length <= 3000) (ha : K.asked = false) (ht : K.times = 0) (hg : K.right = true) {d : Nat} (hd : d <= 4) (hL : L <= 3001) :
 ∃ b, (F8 T cmd).2 = some b /\ Ph cmd resp time L (F8 T cmd).1 K b d 20000 := by
 have ok := (c8I hr.g.tok cmd).1
 have ho := hr.g.tok.s.other
 have hex := hr.g.cok.s.expect
 have h1 := b6R T.s.other.toNat (by omega) cmd.length cmd (by omega)
 have h2 := b3m T.s.other.toNat (by omega) cmd.length cmd
 have h3 := b8t T.s.other.toNat cmd.length cmd
 have h4 := b6C (n := T.s.other.toNat) cmd.length cmd
 unfold F8 at ok ⊢
 rw [if_neg (not_not_intro hr.t0)] at ok ⊢
 unfold I9 cut at ok ⊢
 generalize a0Y T.s.other.toNat cmd.length cmd = l at *
 cases l with
 | nil => exact absurd rfl h4
 | cons p r =>
   have hto := hr.g.to
   have hp := h1 p (by simp)
   have hst := hr.st
   refine ⟨_, rfl, .inl ⟨⟨⟨ok, hr.g.cok, hr.g.sum, hr.g.to, hr.g.co⟩, rfl, rfl, rfl, ?_, fun q hq => ?_, hr.ex.symm, ?_, hr.cn, rfl, ?_, rfl, by omega, hr.cp, hr.c4, ha, ht, hg⟩, .inl ⟨rfl, ?_, ?_⟩⟩⟩
   . show (p.length : Int) <= K.c.s.own
     omega
   . have := h1 q (Hv _ hq)
     show (q.length : Int) <= K.c.s.own
     omega
   . show 1 - T.s.next = _
     rw [hr.ex]
   . rw [if_neg (by omega), IJ]
     show p ++ fl r = cmd
     rw [← a7s]; exact h3
   . show (0 : Int) + 2 * d <= 10
     omega
   . show 3 * d + 2 * r.length + 2 * L + 8 <= 20000
     simp only [Hu] at h2
     omega
end
end En
namespace En
open Go
def a3J (ifs sum : Int) : Bool := decide (1 <= ifs /\ ifs <= 254 /\ (sum = 0 ∨ sum = 1))
def c0 (ifs sum : Int) : Cd := ⟨⟨sum, ifs, 32, 0, 0, false, blZ, [], []⟩, 0, 0⟩
def t0 (ifs sum : Int) : Tm := ⟨⟨sum, 32, ifs, 0, 0, false, blZ, [], []⟩, 0, 0, 0, false, 0⟩
theorem d6l {ifs sum : Int} (h : a3J ifs sum = true) : CdOK (c0 ifs sum) := by
 unfold a3J at h
 obtain ⟨h1, h2, h3⟩ := of_decide_eq_true h
 exact ⟨⟨h3, ⟨h1, h2⟩, by simp [c0], .inl rfl, .inl rfl, (show blZ.chk = 0 by decide), .inl rfl, by simp [c0], by simp [c0]⟩, .inl rfl, by simp [c0], by simp [c0], by simp [c0], by simp [c0]⟩
theorem d3T {ifs sum : Int} (h : a3J ifs sum = true) : TmOK (t0 ifs sum) := by
 unfold a3J at h
 obtain ⟨h1, h2, h3⟩ := of_decide_eq_true h
 exact ⟨⟨h3, by simp [t0], ⟨h1, h2⟩, .inl rfl, .inl rfl, (show blZ.chk = 0 by decide), .inl rfl, by simp [t0], by simp [t0]⟩, .inl rfl, by simp [t0], by simp [t0], by simp [t0], by simp [t0], by simp [t0], by simp [t0], by simp [t0]⟩
theorem d5R {ifs sum : Int} (h : a3J ifs sum = true) : Rest (t0 ifs sum) (c0 ifs sum) :=
 ⟨⟨d3T h, d6l h, rfl, rfl, rfl⟩, rfl, .inl rfl, rfl, rfl, rfl, fun h => absurd (show (0 : Int) = 4 from h) (by decide)⟩
theorem c3a (c : Cd) (x : Bl) (r : Int) : (o6 c x r).1.s.sum = c.s.sum /\ (o6 c x r).1.s.own = c.s.own /\ (o6 c x r).1.time = c.time := by
 unfold o6 T7 H3 K5
 repeat' split
 all_goals simp [W7]
theorem c0H (c : Cd) (b : List UInt8) : (p9 c b).1.s.sum = c.s.sum /\ (p9 c b).1.s.own = c.s.own /\ (p9 c b).1.s.other = c.s.other /\ (p9 c b).1.s.expect = c.s.expect /\ (p9 c b).1.s.inn = c.s.inn /\ (p9 c b).1.time = c.time := by
 unfold p9 I9
 split <;> simp [W7]
theorem c3L (t : Tm) (x : Bl) (r : Int) : (D5 t x r).1.s.sum = t.s.sum /\ (D5 t x r).1.offered = t.offered := by
 unfold D5 U3 H7 X7 d0d A4
 repeat' split
 all_goals simp [W7]
theorem c3V (t : Tm) (b : List UInt8) : (F8 t b).1.s.sum = t.s.sum /\ (F8 t b).1.s.own = t.s.own /\ (F8 t b).1.s.other = t.s.other /\ (F8 t b).1.s.expect = t.s.expect /\ (F8 t b).1.offered = t.offered /\ (F8 t b).1.cause = t.cause := by
 unfold F8 I9
 split <;> simp [W7]
theorem d0t {s : Co} {b : Bl} (hk : s.sum = 0 ∨ s.sum = 1) (h : Fit s b) : rx s (b.enc s.sum) = (b, 0) := by
 obtain ⟨h1, h2, h3⟩ := h
 obtain ⟨e1, e2⟩ := d4Y hk h1
 have e3 : a2a s.sum (b.enc s.sum) = b.nad := congrArg Bl.nad e2
 have e4 : P6 s.sum (b.enc s.sum) = b.kind := congrArg Bl.kind e2
 have e5 : a3B s.sum (b.enc s.sum) = b.inf := congrArg Bl.inf e2
 unfold rx
 rw [e1, e2, e3, e4, e5, if_neg (by decide), if_neg]
 rintro (h | h | ⟨h, h'⟩)
 . exact h rfl
 . exact h h2
 . have := h3 h; omega
section
variable {cmd resp : List UInt8} {L : Nat} {T : Tm} {K : CS}
theorem Ph.gn {time : Int} {b : Bl} {d m : Nat} (h : Ph cmd resp time L T K b d m) : Gn T K.c /\ T.state = 2 /\ 1 <= m := by
 rcases h with ⟨p, hb⟩ | ⟨p, _, h1, h2⟩ | ⟨p, h1, hb⟩ | ⟨p, _, h1, h2⟩ | ⟨p, _, h1, h2⟩
 . exact ⟨p.g, p.busy, by rcases hb with ⟨_, _, _⟩ | ⟨_, _, _⟩ <;> omega⟩
 . exact ⟨p.g, p.busy, by omega⟩
 . exact ⟨p.g, p.busy, by rcases hb with ⟨_, _⟩ | ⟨_, _⟩ <;> omega⟩
 . exact ⟨p.g, p.busy, by omega⟩
 . exact ⟨p.g, p.busy, by omega⟩
theorem Pre.gn {time : Int} {o : Bl} {d m : Nat} (h : Pre cmd resp time L T K o d m) : Gn T K.c := by
 rcases h with ⟨p, _⟩ | ⟨p, _⟩ | ⟨p, _⟩ | ⟨p, _⟩ | ⟨p, _⟩ | ⟨p, _⟩ <;> exact p.g
theorem Pre.st {o : Bl} {d m : Nat} (h : Pre cmd resp 0 L T K o d m) : K.c.state ≠ 2 /\ K.c.state ≠ 3 /\ K.right = true := by
 rcases h with ⟨p, _⟩ | ⟨p, _⟩ | ⟨p, _⟩ | ⟨p, _⟩ | ⟨p, _⟩ | ⟨p, _⟩
 . have := p.st; exact ⟨by omega, by omega, p.right⟩
 . have := p.st; exact ⟨by omega, by omega, p.right⟩
 . have := p.ti; omega
 . have := p.st; exact ⟨by omega, by omega, p.right⟩
 . have := p.st; exact ⟨by omega, by omega, p.right⟩
 . have := p.st; exact ⟨by omega, by omega, p.right⟩
theorem c8v {x : Bl} {K' : CS} {o : Bl} {d m : Nat} (h : a9A cmd resp 0 K x 0 = (K', some o)) (hp : Pre cmd resp 0 L T K' o d m) :
 ((o6 K.c x 0).2 = some o /\ (o6 K.c x 0).1 = K'.c /\ (a3I K'.c).2 = false /\ K'.times = K.times) ∨
 ((o6 K.c x 0).2 = none /\ a3I (o6 K.c x 0).1 = (cmd, true) /\ K'.c = (p9 (o6 K.c x 0).1 resp).1 /\ (p9 (o6 K.c x 0).1 resp).2 = some o) := by
 obtain ⟨s2, s3, hr⟩ := hp.st
 unfold a9A at h
 cases hq : (o6 K.c x 0).2 with
 | some b =>
   rw [hq] at h
   simp only [Prod.mk.injEq, Option.some.injEq] at h
   obtain ⟨h1, h2⟩ := h
   subst h1 h2
   refine .inl ⟨rfl, rfl, ?_, rfl⟩
   unfold a3I
   rw [if_neg (by rintro (h | h); exact s2 h; exact s3 h)]
 | none =>
   rw [hq] at h
   simp only at h
   cases hc : (a3I (o6 K.c x 0).1).2 with
   | false =>
     rw [hc, if_neg (by decide)] at h
     simp at h
   | true =>
     rw [hc, if_pos rfl, if_neg (by omega)] at h
     simp only [Prod.mk.injEq] at h
     obtain ⟨h1, h2⟩ := h
     subst h1
     refine .inr ⟨rfl, ?_, rfl, h2⟩
     simp only [GP, decide_eq_true_eq] at hr
     exact Prod.ext hr.2 hc
end
section
variable (N : Nat)
theorem c1O (ifs sum : Int) : O6 N ifs sum = some (a3J ifs sum) := by
 have hs : a5u N sum = some (if sum = 0 then 1 else if sum = 1 then 2 else 0) := by
  unfold a5u; simp only [c7]; repeat' split
  all_goals rfl
 unfold O6 a3J
 rw [hs, d4]
 simp only [c7]
 by_cases h1 : 1 <= ifs
 . by_cases h2 : ifs <= 254
   . by_cases h3 : sum = 0
     . simp [h1, h2, h3]
     . by_cases h4 : sum = 1 <;> simp [h1, h2, h3, h4]
   . simp [h1, h2]
 . simp [h1]
end
end En
namespace En
open Go
section
variable (N : Nat)
noncomputable def d6k (sum : Int) : List UInt8 -> Int -> Int -> Int -> Int -> List UInt8 -> Int -> List V -> List UInt8 -> Int -> Int -> Bool -> Int -> Int -> Int -> Int -> List UInt8 -> Int -> List V -> List UInt8 -> Int -> Option (List UInt8 × List UInt8 × Bool) :=
 fun l11 n12 n13 n14 n15 l16 n17 l18 l19 n20 n21 b22 n23 n24 n25 n26 l27 n28 l29 l30 n31 =>
  Q3 (M9 N sum n12 n13 n14 n15 l16 n17 l18 l19 n20 n21 [] b22 n23) fun l32 b33 => some (l11, l32, b33)
noncomputable def c8b (resp : List UInt8) (sum own : Int) (t : Nat) (got wire : List UInt8) (i : Int) (T : Tm) (c : Cd) : Option (List UInt8 × List UInt8 × Bool) :=
 a3h N resp sum [] sum own [] t got wire i T.s.own T.s.other T.s.expect T.s.next (Q0 T.s) T.s.sent.seq (pcs T.s.pieces) T.s.inn T.state T.fails T.done T.cause c.s.other c.s.expect c.s.next (Q0 c.s) c.s.sent.seq (pcs c.s.pieces) c.s.inn c.state (d6k N sum)
theorem d3L {t : Tm} (h : t.offered = 0) : c6c t = [] := by unfold c6c; rw [if_pos h]
theorem c8H {c : Cd} (h : c.time = 0) : d0a c = [] := by unfold d0a; rw [if_pos h]
theorem c9v {cmd resp : List UInt8} (hc : cmd.length <= 3000) (hr : resp.length <= 3000) (hN : 200000 < N) {sum own : Int} :
 ∀ (m : Nat) (T : Tm) (K : CS) (b : Bl) (i fuel : Nat) (got : List UInt8), Ph cmd resp 0 3001 T K b 0 m -> (K.times = 1 -> got = cmd) -> T.s.sum = sum -> K.c.s.own = own -> T.offered = 0 -> K.c.time = 0 -> i + m <= 100000 -> m < fuel ->
  c8b N resp sum own fuel got (b.enc sum) (i : Int) T K.c = some (cmd, resp, true) := by
 intro m
 induction m with
 | zero => intro T K b i fuel got h; exact absurd h.gn.2.2 (by omega)
 | succ m ih =>
   intro T K b i fuel got h b8E e1 e2 e3 e4 him hfu
   obtain ⟨f, rfl⟩ : ∃ f, fuel = f + 1 := ⟨fuel - 1, by omega⟩
   obtain ⟨g, h2, _⟩ := h.gn
   have e5 : K.c.s.sum = sum := g.sum.symm.trans e1
   have a3Q : sum = 0 ∨ sum = 1 := by rw [← e1]; exact g.tok.s.sum
   obtain ⟨⟨K', o, hcf, hp⟩, hfit⟩ := d2e hc (L := 3001) (by omega) h
   obtain ⟨hnx, hfit2⟩ := d7f hr hp
   have hgp := hp.gn
   have hw : GA.wrap ((i : Int) + 1) = ((i + 1 : Nat) : Int) := by rw [w64 (by omega) (by omega)]; omega
   have hbl := b8u a3Q hfit.1
   have hol := b8u a3Q hfit2.1
   obtain ⟨q0, q1, q2⟩ := c3a K.c b 0
   obtain ⟨t1, t2⟩ := c3L T o 0
   -- how it goes on
   have after : ∀ (got' : List UInt8), (K'.times = 1 -> got' = cmd) -> K'.c.s.own = own -> K'.c.time = 0 ->
    c8b N resp sum own f got' (a1o sum (D5 T o 0).2) (GA.wrap ((i : Int) + 1)) (D5 T o 0).1 K'.c = some (cmd, resp, true) := by
    intro got' hg' ho' ht'
    rw [hw]
    rcases hnx with ⟨b', hb', hp'⟩ | ⟨hn, hf⟩
    . rw [hb']
      exact ih (D5 T o 0).1 K' b' (i + 1) f got' hp' hg' (t1.trans e1) ho' (t2.trans e3) ht' (by omega) (by omega)
    . obtain ⟨f', rfl⟩ : ∃ f', f = f' + 1 := ⟨f - 1, by have := h.gn.2.2; omega⟩
      rw [hn]
      unfold c8b
      rw [a3h, a6I]
      have hT := d0q N hf.rest.g.tok
      unfold onT c2s at hT
      rw [if_pos hf.done, t1.trans e1, d3L (t2.trans e3)] at hT
      rw [c7, if_pos (by omega), show a1o sum none = [] from rfl, c7, if_neg (by decide)]
      unfold d6k
      rw [hT, D9, hf.inn, hg' hf.times]
   -- the terminal
   have hT := b9V N g.tok (o.enc T.s.sum) (by rw [e1]; omega)
   rw [d0t g.tok.s.sum hfit2] at hT
   unfold onT at hT
   rw [e1, d3L e3] at hT
   -- the card
   have hC := c2g N g.cok (b.enc K.c.s.sum) (by rw [e5]; omega)
   have ok1 := (b1Q g.cok (x := b) (r := 0) (.inl rfl) (fun _ => hfit.1)).1
   rw [d0t g.cok.s.sum hfit] at hC
   unfold onC at hC
   rw [e5, e2, c8H e4] at hC
   have hCm := c0s N ok1
   unfold onC at hCm
   rw [q0, q1, e5, e2, c8H (q2.trans e4)] at hCm
   unfold c8b
   rw [a3h, a6I, c7, if_pos (by omega), c7, if_pos (by omega), hC, c4G, hCm]
   rcases c8v hcf hp with ⟨c1, c2, c3, c4⟩ | ⟨c1, c2, c3, c4⟩
   . have hx : a3I (o6 K.c b 0).1 = ((a3I (o6 K.c b 0).1).1, false) := Prod.ext rfl (by rw [c2]; exact c3)
     rw [hx, D9, P9]
     simp only [c1]
     rw [show a1o sum (some o) = o.enc sum from rfl, hT, b1n, c2]
     exact after got (fun hh => b8E (c4 ▸ hh)) (by rw [← c2, q1, e2]) (by rw [← c2, q2, e4])
   . have hR := c7Q N ok1 resp (by omega) (by omega)
     unfold onC at hR
     rw [q0, q1, e5, e2, c8H (q2.trans e4)] at hR
     obtain ⟨r0, r1, r2, r3, r4, r5⟩ := c0H (o6 K.c b 0).1 resp
     rw [c2, D9, F5]
     simp only [c1]
     rw [show a1o sum none = [] from rfl, c7, if_pos (show (((([] : List UInt8).length : Nat)) : Int) = 0 from rfl), hR, d3c, c4, show a1o sum (some o) = o.enc sum from rfl, hT, b1n]
     rw [← c3] at r1 r2 r3 r4 r5 ⊢
     have := after cmd (fun _ => rfl) (by rw [r1, q1, e2]) (by rw [r5, q2, e4])
     unfold c8b at this
     rw [r2, r3, r4] at this
     exact this
theorem c2J {cmd resp : List UInt8} (hc : cmd.length <= 3000) (hr : resp.length <= 3000) (hN : 200000 < N) {n sum : Int} (h : a3J n sum = true) : a5G N cmd resp n sum = some (cmd, resp, true) := by
 have hR := d5R h
 obtain ⟨b, hb, hp⟩ := c9Y (T := t0 n sum) (K := ⟨c0 n sum, false, 0, true⟩) (cmd := cmd) (resp := resp) (time := 0) (L := 3001) hR hc rfl rfl rfl (d := 0) (by omega) (by omega)
 obtain ⟨s1, s2, s3, s4, s5, s6⟩ := c3V (t0 n sum) cmd
 have hS := c9L N (d3T h) cmd (by omega) (by omega)
 unfold onT at hS
 have hS : a1r N cmd sum 32 n 0 0 [] 0 [] [] 0 0 [] false 0 = _ := hS
 have key := c9v N hc hr hN (sum := sum) (own := n) 20000 (F8 (t0 n sum) cmd).1 ⟨c0 n sum, false, 0, true⟩ b 0 N [] hp (fun h => absurd (show (0 : Int) = 1 from h) (by decide)) s1 rfl s5 rfl (by omega) (by omega)
 unfold c8b at key
 unfold a5G
 rw [show b2s N n sum = some (a3J n sum) from c1O N n sum, show a8h N n sum = some (a3J n sum) from c1O N n sum, h, d4, F5, d4, F5, hS, c4G, hb]
 rw [s2, s3, s4, s6] at key
 exact key
end
end En
namespace En
open Go
set_option maxRecDepth 20000
section
variable {N : Nat}
theorem c8X {x0 x1 x2 x3 : Int} {d : List UInt8} {le : Int} {lg : Bool} : (b4h x0 x1 x2 x3 d le lg).length <= d.length + 9 := by
 unfold b4h cmB num
 cases lg <;> by_cases hd : d = [] <;> by_cases hl : le = 0 <;> simp [hd, hl] <;> omega
theorem c6y {c : Int} (h0 : 0 <= c) (h1 : c < 4) : a2u c = false := by
 unfold a2u c4u
 rw [c4W h0 h1]; rfl
theorem d4u : cOK 0 164 4 0 [1, 2, 3, 4, 5] 256 false := by
 refine ⟨⟨by decide, by decide⟩, ⟨by decide, by decide⟩, ⟨by decide, by decide⟩, ⟨by decide, by decide⟩, by decide, ⟨by decide, by decide⟩, by decide, by decide, by decide, by decide⟩
theorem b3d (hN : 200000 < N) : m4 N = some true := by
 have hc := d4u
 have hr : rOK [9, 8] 36864 := ⟨by simp, by decide⟩
 have e1 : [Gz (GX 1), Gz (GX 2), Gz (GX 3), Gz (GX 4), Gz (GX 5)] = [1, 2, 3, 4, 5] := rfl
 have e2 : [Gz (GX 9), Gz (GX 8)] = [9, 8] := rfl
 have hl := c8X (x0 := 0) (x1 := 164) (x2 := 4) (x3 := 0) (d := [1, 2, 3, 4, 5]) (le := 256) (lg := false)
 simp only [Hu, List.length_nil] at hl
 have h1 := b3c (N := N) hc
 have h2 := a6B (N := N) hr hN
 have h3 := c2J N (cmd := b4h 0 164 4 0 [1, 2, 3, 4, 5] 256 false) (resp := [9, 8] ++ stat 36864) (n := 2) (sum := 1) (by omega) (by simp [stat]) hN (by decide)
 have h4 := zero_eq (N := N) hc (by decide) (c6y (by decide) (by decide)) hr (by simp) (by decide) hN
 have h5 : Ig (min [(9 : UInt8), 8].length (256 : Int).toNat) [(9 : UInt8), 8] = [9, 8] := by decide
 rw [if_neg (by simp), h5] at h4
 unfold m4
 rw [e1, e2, h1, D9, h2, D9, h3, X8, h4, a4i, F5, F5, a4J _ (by omega) hN, d4, c7, if_pos rfl, a4J _ (by simp [stat]) hN, d4, c7, if_pos rfl, c4C _ _ _ _ _ _ _ (by simp) hN, d4, F5, a3c _ _ (by simp) hN, d4]
theorem leaf (x0 x1 x2 x3 : Int) (d : List UInt8) (x6 : Bool) {E E' : Int} {T T' : List UInt8} (SW : Int) (hE : E = E') (hT : T = T') (hd : d.length <= 100000) (hl : T.length <= 100000) (hN : 200000 < N) :
 br true (d3 (w8 N x0 x1 x2 x3 d E' x6 x0 x1 x2 x3 d E x6) fun b30 => br b30 (d3 (D2 N T SW T' SW) fun b31 => br b31 (d3 (m4 N) fun b32 => some b32) (some false)) (some false)) (some false) = some true := by
 subst hE hT
 rw [F5, c4C _ _ _ _ _ _ _ hd hN, d4, F5, a3c _ _ hl hN, d4, F5, b3d hN, d4]
theorem d1P {x0 x1 x2 x3 : Int} {d : List UInt8} {le : Int} {lg : Bool} (h : cOK x0 x1 x2 x3 d le lg) {D : List UInt8} {SW : Int} (hr : rOK D SW) (hN : 200000 < N) (hl : (b4h x0 x1 x2 x3 d le lg).length <= 3000) (hDl : (D ++ stat SW).length <= 3000) {n : Int} (h1 : 1 <= n) (h2 : n <= 254) {R : Type} (K0 : Bool -> Option R) (K1 : Option R) :
 a0b N n (b4h x0 x1 x2 x3 d le lg) (D ++ stat SW) [V.int GA 0, V.int GA 1] x0 x1 x2 x3 d le lg D SW N 0 K0 K1 = K1 := by
 have hd : d.length <= 65535 := by have := h.2.2.2.2.2.2.1; split at this <;> omega
 have hD : D.length <= 65536 := hr.1
 have l2 : ((([V.int GA 0, V.int GA 1] : List V).length : Nat) : Int) = 2 := rfl
 have hn0 : a3J n 0 = true := decide_eq_true ⟨h1, h2, .inl rfl⟩
 have hn1 : a3J n 1 = true := decide_eq_true ⟨h1, h2, .inr rfl⟩
 obtain ⟨M, rfl⟩ : ∃ M, N = M + 4 := ⟨N - 4, by omega⟩
 have e0 : ∀ (K : V -> Option R), at? [V.int GA 0, V.int GA 1] (GX 0) K = K (V.int GA 0) := fun K => rfl
 have e1 : ∀ (K : V -> Option R), at? [V.int GA 0, V.int GA 1] (GA.wrap (0 + 1)).toNat K = K (V.int GA 1) := fun K => rfl
 rw [a0b, a2r, c7, if_pos (by rw [l2]; decide), t5, c7, if_pos (by decide), c7, if_pos (by rw [l2]; decide), e0, b9k, c2J _ hl hDl hN hn0, X8, b3g h (by omega), N7, c1F hr.2 hD, X8, j8, F5, j8, c7, if_pos rfl, j8, c7, if_pos rfl, c4C _ _ _ _ _ _ _ (by omega) hN, d4, j8, F5, a3c _ _ (by omega) hN, d4, j8, F5]
 rw [a0b, a2r, c7, if_pos (by rw [l2]; decide), t5, c7, if_pos (by decide), c7, if_pos (by rw [l2]; decide), e1, b9k, c2J _ hl hDl hN hn1, X8, b3g h (by omega), N7, c1F hr.2 hD, X8, j8, F5, j8, c7, if_pos rfl, j8, c7, if_pos rfl, c4C _ _ _ _ _ _ _ (by omega) hN, d4, j8, F5, a3c _ _ (by omega) hN, d4, j8, F5]
 rw [a0b, a2r, c7, if_neg (by rw [l2]; decide)]
theorem d4i (x0 x1 x2 x3 : Int) (d : List UInt8) (le : Int) (lg : Bool) (D : List UInt8) (SW n : Int) (hN : 200000 < N) : b6x N x0 x1 x2 x3 d le lg D SW n = some true := by
 have b3Z := b3d hN
 unfold b6x
 by_cases h : cOK x0 x1 x2 x3 d le lg
 case neg =>
  obtain ⟨e, he, hne⟩ := b8T (N := N) h
  rw [he, D9]
  by_cases hr : rOK D SW
  . rw [a6B hr hN, D9, j8, c7, if_neg hne, b3Z, d4]
  . obtain ⟨f, hf, hnf⟩ := b5E (N := N) hr
    rw [hf, D9, j8, c7, if_neg hne, b3Z, d4]
 rw [b3c h, D9]
 by_cases hr : rOK D SW
 case neg =>
  obtain ⟨f, hf, hnf⟩ := b5E (N := N) hr
  rw [hf, D9, j8, c7, if_pos rfl, j8, c7, if_neg hnf, b3Z, d4]
 rw [a6B hr hN, D9, j8, c7, if_pos rfl, j8, c7, if_pos rfl, c7]
 by_cases hl : 3000 < ((b4h x0 x1 x2 x3 d le lg).length : Int)
 . rw [if_pos hl, b3Z, d4]
 rw [if_neg hl, c7]
 by_cases hDl : 3000 < ((D ++ stat SW).length : Int)
 . rw [if_pos hDl, b3Z, d4]
 rw [if_neg hDl, c7]
 by_cases h1 : n < 1
 . rw [if_pos h1, b3Z, d4]
 rw [if_neg h1, c7]
 by_cases h2 : 254 < n
 . rw [if_pos h2, b3Z, d4]
 rw [if_neg h2, d1P h hr hN (by omega) (by omega) (by omega) (by omega)]
 have hb0 := h.1
 have d7v := h.2.2.2.2.1
 have hx0 : 0 <= x0 /\ x0 <= 254 := ⟨hb0.1, by have := hb0.2; omega⟩
 have hSW := a1Q hr.2
 have hDl' : D.length <= 3000 := by rw [GW] at hDl; omega
 have hw : GA.wrap (SW.tdiv 256) = SW / 256 := by rw [Int.tdiv_eq_ediv_of_nonneg (by omega), w64 (by omega) (by omega)]
 rw [c5H N hx0.1 hx0.2]
 have b0o : a2u x0 = (c4u x0 && (clT x0).2.1) := rfl
 unfold c4u at b0o
 generalize clT x0 = q at b0o
 obtain ⟨ch, s, k, p, ok⟩ := q
 rw [Q8]
 cases lg
 case true => rw [F5, b3Z, d4]
 rw [P9, c7]
 by_cases b4D : x1 = 192
 . rw [if_pos b4D, b3Z, d4]
 rw [if_neg b4D, hw, c7]
 by_cases h97 : SW / 256 = 97
 . rw [if_pos h97, b3Z, d4]
 rw [if_neg h97]
 have hd : d.length <= 255 := by have := h.2.2.2.2.2.2.1; simpa using this
 have c8f : 0 <= le := h.2.2.2.2.2.2.2.1
 have d7w : le <= 256 := by have := h.2.2.2.2.2.2.2.2.1; simpa using this
 have t1 : le < (D.length : Int) -> D.take (min D.length le.toNat) = D.take le.toNat := fun hh => by rw [show min D.length le.toNat = le.toNat by omega]
 have t2 : ¬ le < (D.length : Int) -> D.take (min D.length le.toNat) = D := fun hh => by rw [show min D.length le.toNat = D.length by omega, IU]
 have tl : (D.take (min D.length le.toNat)).length <= 100000 := by rw [HN]; omega
 have hp : (0 < (d.length : Int)) ↔ d ≠ [] := by rw [← HA]; omega
 cases ok <;> cases s <;> first | (rw [F5, F5, b3Z, d4]; done) | skip
 all_goals
  first | rw [F5, P9] | rw [P9]
  rw [zero_eq h b4D b0o hr hDl' h97 hN, a4i, c7]
  by_cases hd0 : d = []
  . rw [if_neg (fun hh => hp.1 hh hd0), c7, if_pos hd0]
    by_cases hl0 : le = 0
    . rw [if_pos hl0, c7]
      by_cases hlt : le < (D.length : Int)
      . rw [if_pos hlt, t5, c7, if_pos c8f, c7, if_pos (by omega)]
        exact leaf _ _ _ _ _ _ _ (by rw [hl0]; rfl) (t1 hlt) (by omega) tl hN
      . rw [if_neg hlt]
        exact leaf _ _ _ _ _ _ _ (by rw [hl0]; rfl) (t2 hlt) (by omega) tl hN
    . have hcn : cnt (le % 256) = le := by unfold cnt; split <;> omega
      rw [if_neg hl0, c7]
      by_cases hlt : le < (D.length : Int)
      . rw [if_pos hlt, t5, c7, if_pos c8f, c7, if_pos (by omega)]
        exact leaf _ _ _ _ _ _ _ hcn (t1 hlt) (by omega) tl hN
      . rw [if_neg hlt]
        exact leaf _ _ _ _ _ _ _ hcn (t2 hlt) (by omega) tl hN
  . rw [if_pos (hp.2 hd0), c7, if_neg hd0]
    by_cases hlt : le < (D.length : Int)
    . rw [if_pos hlt, t5, c7, if_pos c8f, c7, if_pos (by omega)]
      exact leaf _ _ _ _ _ _ _ rfl (t1 hlt) (by omega) tl hN
    . rw [if_neg hlt]
      exact leaf _ _ _ _ _ _ _ rfl (t2 hlt) (by omega) tl hN
end
end En
namespace En
open Go Go.RowKit
def a3k (T : GF -> Option Ty) : G := { Γ := fun _ => .imm, J := fun _ _ => 0, sz := T4 T }
theorem b2J (T : GF -> Option Ty) (b o : Nat) : j9 (a3k T) b o := trivial
def b1j (row : Bool) (cs : List V) : V := match row with | true => .agg cs | false => cs.headD .nilI
def b7r (F : GF -> List V -> Prop) : List LU -> List V -> Prop
 | [], xs => xs = []
 | f :: fs, xs => ∃ a r, xs = a ++ r /\ F f.type a /\ b7r F fs r
def Fits (T : GF -> Option Ty) : Nat -> GF -> List V -> Prop
 | 0, _, _ => False
 | n + 1, t, xs => match T t with
   | none => False
   | some ty => match ty.desc with
     | .bool => ∃ b, xs = [.bool b]
     | .int k => ∃ i, xs = [.int k i] /\ k.min <= i /\ i <= k.max
     | .string => ∃ s, xs = [.str s] /\ s.length <= maxLen
     | .slice e => match ty.cks with
       | [.bytes _] => ∃ s, xs = [.bytes s] /\ s.length <= maxLen
       | [.slc e'] => e' = e /\ ∃ ys, xs = [.sl e ys] /\ ys.length <= maxLen /\ ∀ y ∈ ys, ∃ te cs, T e = some te /\ y = b1j te.row cs /\ Fits T n e cs
       | _ => False
     | .struct fs => b7r (Fits T n) fs.toList xs
     | _ => False
def readable (T : GF -> Option Ty) (t : GF) : Bool :=
 match T t with
 | none => false
 | some ty => match ty.desc with
   | .bool => true
   | .int _ => true
   | .string => true
   | .slice e => (match T e with
     | none => false
     | some te => (match ty.cks with
       | [.bytes _] => (match te.desc with | .int .u8 => GR te.size 1 | _ => false)
       | [.slc e'] => GR e' e && Nat.ble 1 te.size && (match te.row with | true => true | false => GR te.size 1)
       | _ => false))
   | .struct fs => a0v T ty.size 0 fs.toList && fs.toList.all (fun f => match T f.type with | some _ => true | none => false)
   | _ => false
def a7J (T : GF -> Option Ty) (l : List GF) : Bool :=
 l.all fun t => readable T t && (match T t with
  | none => false
  | some ty => match ty.desc with
    | .slice e => l.any (GR e)
    | .struct fs => fs.toList.all fun f => l.any (GR f.type)
    | _ => true)
section
variable {H : Type} {enc : GF × GK -> H} {P : Program} {T : GF -> Option Ty} {w : World} {base : Nat} {spare : Nat -> Bool} {held : Bool}
structure RepC (T : GF -> Option Ty) (w : World) (xs : List V) (cs : List GK) : Prop where
 len : xs.length = cs.length
 one : ∀ x ∈ xs, x.one = true
 rep : ∀ (k : Nat) y, xs[k]? = some y -> RepV (a3k T) w y (cs.getD k undef)
theorem RepC.single {x : V} {v : GK} (h1 : x.one = true) (h : RepV (a3k T) w x v) : RepC T w [x] [v] :=
 ⟨rfl, fun y hy => by simp at hy; subst hy; exact h1, fun k y hk => by
  rcases k with _ | k
  . simp at hk; subst hk; simpa using h
  . simp at hk⟩
theorem RepC.append {xs ys : List V} {cs ds : List GK} (h : RepC T w xs cs) (k : RepC T w ys ds) : RepC T w (xs ++ ys) (cs ++ ds) := by
 refine ⟨by simp [h.len, k.len], fun x hx => ?_, fun i y hy => ?_⟩
 . rcases List.mem_append.1 hx with hx | hx
   . exact h.one x hx
   . exact k.one x hx
 . rcases Ir i xs.length with hl | hl
   . rw [GS hl] at hy
     have := h.rep i y hy
     rw [GJ, GS (by rw [← h.len]; exact hl), ← GJ]
     exact this
   . rw [GV hl] at hy
     have := k.rep _ y hy
     rw [GJ, GV (by rw [← h.len]; exact hl), ← h.len, ← GJ]
     exact this
theorem a5U (hT : p7 P T) {t : GF} {ty : Ty} (h : T t = some ty) : P.cellsOf t = ty.size := by
 obtain ⟨i, h1, _, h2, _⟩ := (hT t ty h).info
 simp [Program.cellsOf, h1, h2]
theorem a7Q {t : GF} {ty : Ty} (h : T t = some ty) : T4 T t = ty.size := by unfold T4; rw [h]
theorem b3y (b off i : Nat) : (⟨b, off, none⟩ : Addr).add i = ⟨b, off + i, none⟩ := by
 unfold Addr.add
 by_cases h0 : i = 0
 . subst h0; rfl
 . rw [if_neg h0]
theorem c1A {a : Addr} {n k : Nat} {cs : List GK} (h : w.cells? base (a.add (0 * n)) k = some cs) (hk : 0 < k) : a.spot = none := by
 obtain ⟨_, hl, h5⟩ := KW h
 have h6 := h5 0 hk
 rw [GH (by omega)] at h6
 have := World.cell?_spot h6
 simpa [Addr.add] using this
theorem b1u {row : Bool} {cs : List V} (ho : ∀ x ∈ cs, x.one = true) (h : row = false -> cs.length = 1) : (b1j row cs).cells = cs := by
 cases row with
 | true => rfl
 | false =>
   have := h rfl
   match cs, this with
   | [x], _ =>
     have := ho x (by simp)
     show V.cells x = [x]
     cases x <;> first | rfl | cases this
theorem d1w {row : Bool} {cs : List V} {n : Nat} (hl : cs.length = n) (ho : ∀ x ∈ cs, x.one = true) (h : row = false -> cs.length = 1) : b4s n (b1j row cs) = true := by
 unfold b4s
 rw [b1u ho h]
 simp only [GP, beq_iff_eq, Ib]
 exact ⟨hl, ho⟩
theorem a5h {α : Type} {n : Nat} : ∀ (l : List (List α)) (i j : Nat) (c : List α), (∀ c ∈ l, c.length = n) -> l[i]? = some c -> j < n -> l.flatten[i * n + j]? = c[j]?
 | [], i, j, c, _, h, _ => by simp at h
 | d :: l, 0, j, c, hl, h, hj => by
   simp at h; subst h
   have := hl d (by simp)
   rw [KX, Nat.zero_mul, Nat.zero_add, GS (by omega)]
 | d :: l, i + 1, j, c, hl, h, hj => by
   have hd := hl d (by simp)
   rw [KX, Oa, GV (by omega)]
   rw [show i * n + n + j - d.length = i * n + j by omega]
   exact a5h l i j c (fun c hc => hl c (by simp [hc])) (by simpa using h) hj
theorem b6i {α : Type} {n : Nat} : ∀ (l : List (List α)), (∀ c ∈ l, c.length = n) -> l.flatten.length = l.length * n
 | [], _ => by simp
 | d :: l, h => by
   rw [KX, GW, h d (by simp), b6i l fun c hc => h c (by simp [hc]), Hu, Oa]; omega
theorem a4d {α : Type} {p : Nat -> α -> Prop} : ∀ (n : Nat), (∀ i, i < n -> ∃ a, p i a) -> ∃ l : List α, l.length = n /\ ∀ (i : Nat) a, l[i]? = some a -> p i a
 | 0, _ => ⟨[], rfl, fun i a h => by simp at h⟩
 | n + 1, h => by
   obtain ⟨l, h1, h2⟩ := a4d n fun i hi => h i (by omega)
   obtain ⟨a, ha⟩ := h n (by omega)
   refine ⟨l ++ [a], by simp [h1], fun i b hb => ?_⟩
   rcases Ir i l.length with hl | hl
   . rw [GS hl] at hb; exact h2 i b hb
   . rw [GV hl] at hb
     have : i = n := by
      have := (GD.1 hb).1
      simp at this; omega
     subst this
     rw [h1] at hb
     simp at hb
     subst hb; exact ha
theorem b1a (hT : p7 P T) {l : List GF} (hl : a7J T l = true) : ∀ (fuel : Nat) (t : GF) (cs : List GK) (x : DataW H × List Oy), t ∈ l -> Pc enc P w base spare held fuel t cs = some x ->
 ∃ xs, RepC T w xs cs /\ Fits T fuel t xs /\ ∀ ty, T t = some ty -> cs.length = ty.size
 | 0, t, cs, x, _, h => by simp [Pc] at h
 | n + 1, t, cs, x, hm, h => by
   have hcl := Ib.1 hl t hm
   simp only [GP] at hcl
   obtain ⟨hre, b6v⟩ := hcl
   unfold Fits
   unfold readable at hre
   cases hTt : T t with
   | none => rw [hTt] at hre; simp at hre
   | some ty =>
   rw [hTt] at hre b6v
   simp only at hre b6v ⊢
   have hd := (hT t ty hTt).desc
   have h1c : ty.row = false -> ty.size = 1 := (hT t ty hTt).one
   cases o7 : ty.desc <;> rw [o7] at hre b6v hd <;> simp only [GZ] at hre b6v ⊢
   . obtain ⟨b, rfl, _⟩ := DataW.trod_bool hd h
     exact ⟨[.bool b], .single rfl (.bool b), ⟨b, rfl⟩, fun ty' e => by cases e; rw [h1c (by simp [Ty.row, o7])]; rfl⟩
   . rename_i k
     obtain ⟨i, rfl, _, hwf⟩ := Nn hd h
     have hb : k.min <= i /\ i <= k.max := by simpa [Lit.wf] using hwf
     exact ⟨[.int k i], .single rfl (.int k i hb), ⟨i, rfl, hb⟩, fun ty' e => by cases e; rw [h1c (by simp [Ty.row, o7])]; rfl⟩
   . obtain ⟨s, rfl, _, hs⟩ := DataW.trod_string hd h
     have e : s = ⟨s.data.toList.toArray⟩ := by cases s; simp
     have hsl : s.data.toList.length = s.size := by cases s; rfl
     refine ⟨[.str s.data.toList], .single rfl ?_, ⟨_, rfl, by rw [hsl]; exact hs⟩, fun ty' e => by cases e; rw [h1c (by simp [Ty.row, o7])]; rfl⟩
     have := RepV.str (g := a3k T) (w := w) s.data.toList (by rw [hsl]; unfold maxLen at hs; omega)
     rwa [← e] at this
   . rename_i e
     cases hTe : T e with
     | none => rw [hTe] at hre; simp at hre
     | some te =>
     rw [hTe] at hre
     simp only at hre
     have hsz := a5U hT hTe
     have d3n : e ∈ l := by
      obtain ⟨z, hz, hb⟩ := MA.1 b6v
      have := GE hb
      subst this; exact hz
     have a5J : ∀ ty', some ty = some ty' -> ∀ v : GK, [v].length = ty'.size := fun ty' e v => by cases e; rw [h1c (by simp [Ty.row, o7])]; rfl
     split at hre
     . rename_i e0 c4v
       split at hre
       . rename_i hte
         have d3r := GE hre
         rw [d3r] at hsz
         have hde := (hT e te hTe).desc
         rw [hte] at hde
         rcases MB hd h with ⟨rfl, _⟩ | ⟨a, len, cap, elems, rest, m, e1, rfl, _, hb, hlc, hcm, hel, a0y, _, _⟩
         . exact ⟨[.bytes []], .single rfl (.bytes [] none 0 0 rfl (GB _) (by simp) (fun k x hx => by simp at hx)), ⟨[], rfl, by simp⟩, fun ty' e => a5J ty' e _⟩
         . have key : ∀ i, i < len -> ∃ b : UInt8, ∃ bb off, a = ⟨bb, off, none⟩ /\ w.cell? ⟨bb, off + i, none⟩ = some (.int .u8 (b.toNat : Int)) := by
            intro i hi
            have h2 := a0y i hi
            rw [GH (by rw [hel]; exact hi), Jf] at h2
            obtain ⟨cs, h3, h4⟩ := h2
            obtain ⟨z, rfl, _, hwf⟩ := Nn hde h4
            rw [hsz, Nat.mul_one] at h3
            obtain ⟨_, _, h5⟩ := KW h3
            have h6 := h5 0 (by omega)
            simp at h6
            have hzr : 0 <= z /\ z <= 255 := by simpa [Lit.wf, IntKind.min, IntKind.max, IntKind.signed, IntKind.bits] using hwf
            have d0Z : a.spot = none := by
             have h2 := a0y 0 (by omega)
             rw [GH (by omega), Jf] at h2
             obtain ⟨cs, h3, _⟩ := h2
             exact c1A h3 (by omega)
            obtain ⟨bb, off, sp⟩ := a
            simp only at d0Z
            subst d0Z
            refine ⟨Gz z.toNat, bb, off, rfl, ?_⟩
            rw [b3y] at h6
            have hz2 : (off + i + 0) = off + i := rfl
            rw [show ((Gz z.toNat).toNat : Int) = z by rw [Iy, Ii (by omega)]; omega]
            simpa [Addr.add] using h6
           obtain ⟨bs, b1, b2⟩ := a4d len key
           refine ⟨[.bytes bs], .single rfl (.bytes bs (some a) len cap b1 hlc hcm fun k x hx => ?_), ⟨bs, rfl, by omega⟩, fun ty' e => a5J ty' e _⟩
           obtain ⟨bb, off, c1, c2⟩ := b2 k x hx
           exact ⟨bb, off, by rw [c1], b2J T _ _, c2⟩
       . cases hre
     . rename_i e0 c4v
       simp only [GP] at hre
       obtain ⟨⟨he0, d3r⟩, J7⟩ := hre
       have he0 := GE he0
       have d3r := Nat.le_of_ble_eq_true d3r
       have b0g : te.row = false -> te.size = 1 := (hT e te hTe).one
       have d7r : (a3k T).sz e = te.size := a7Q hTe
       rcases MB hd h with ⟨rfl, _⟩ | ⟨a, len, cap, elems, rest, m, e1, rfl, _, hb, hlc, hcm, hel, a0y, _, _⟩
       . exact ⟨[.sl e []], .single rfl (.sl e [] none 0 0 (fun _ => undef) rfl (GB _) (by simp) (by simp) (fun k y hy => by simp at hy) (fun k y hy => by simp at hy)), ⟨he0, [], rfl, by simp, by simp⟩, fun ty' e => a5J ty' e _⟩
       . obtain rfl : n = m := by omega
         have key : ∀ i, i < len -> ∃ p : List V × List GK, RepC T w p.1 p.2 /\ Fits T n e p.1 /\ p.2.length = te.size /\ ∃ bb off, a = ⟨bb, off, none⟩ /\ ∀ j, j < te.size -> w.cell? ⟨bb, off + (i * te.size + j), none⟩ = some (p.2.getD j undef) := by
          intro i hi
          have h2 := a0y i hi
          rw [GH (by rw [hel]; exact hi), Jf] at h2
          obtain ⟨cs, h3, h4⟩ := h2
          obtain ⟨xs, c1, c2, c3⟩ := b1a hT hl n e cs _ d3n h4
          have c3 := c3 te hTe
          rw [hsz] at h3
          obtain ⟨_, _, h5⟩ := KW h3
          have d0Z : a.spot = none := by
           have h2 := a0y 0 (by omega)
           rw [GH (by omega), Jf] at h2
           obtain ⟨cs, h3, _⟩ := h2
           exact c1A h3 (by omega)
          obtain ⟨bb, off, sp⟩ := a
          simp only at d0Z
          subst d0Z
          refine ⟨(xs, cs), c1, c2, c3, bb, off, rfl, fun j hj => ?_⟩
          have h7 := h5 j hj
          rw [b3y, b3y, Nat.add_assoc] at h7
          rw [h7, GJ]
          show cs[j]? = some (cs[j]?.getD undef)
          rw [GH (by omega)]; rfl
         obtain ⟨ps, b1, b2⟩ := a4d len key
         have hxl : ∀ p ∈ ps, p.1.length = te.size /\ ∀ x ∈ p.1, x.one = true := by
          intro p hp
          obtain ⟨i, hi⟩ := Jp hp
          obtain ⟨c1, _, c3, _⟩ := b2 i p hi
          exact ⟨by rw [c1.len, c3], c1.one⟩
         have b3N : ∀ p ∈ ps, (b1j te.row p.1).cells = p.1 := fun p hp => b1u (hxl p hp).2 fun hr => by rw [(hxl p hp).1, b0g hr]
         have d6Z : (ps.map fun p => b1j te.row p.1).flatMap V.cells = (ps.map (·.1)).flatten := by
          rw [List.flatMap_def, List.map_map]
          congr 1
          exact List.map_congr_left fun p hp => b3N p hp
         have a0z : ∀ c ∈ ps.map (·.1), c.length = te.size := fun c hc => by
          obtain ⟨p, hp, rfl⟩ := Kn.1 hc
          exact (hxl p hp).1
         have d4g : ∀ (k : Nat) (y : V), ((ps.map fun p => b1j te.row p.1).flatMap V.cells)[k]? = some y -> ∃ i j p, k = i * te.size + j /\ j < te.size /\ ps[i]? = some p /\ p.1[j]? = some y := by
          intro k y hk
          rw [d6Z] at hk
          have hk1 := (GD.1 hk).1
          rw [b6i _ a0z, II, b1] at hk1
          have c2i : 0 < te.size := by omega
          have hi : k / te.size < len := (Nat.div_lt_iff_lt_mul c2i).2 hk1
          have hj : k % te.size < te.size := Nat.mod_lt _ c2i
          have hkk : k = k / te.size * te.size + k % te.size := by rw [Nat.mul_comm]; exact (Nat.div_add_mod k te.size).symm
          have hp : ps[k / te.size]? = some (ps[k / te.size]'(by omega)) := GH (by omega)
          refine ⟨k / te.size, k % te.size, _, hkk, hj, hp, ?_⟩
          rw [hkk] at hk
          rw [a5h _ _ _ _ a0z (by rw [Hz, hp]; rfl) hj] at hk
          exact hk
         refine ⟨[.sl e (ps.map fun p => b1j te.row p.1)], .single rfl (.sl e _ (some a) len cap (fun k => ((ps.map (·.2)).flatten).getD k undef) (by simp [b1]) hlc hcm (fun x hx => ?_) (fun k y hk => ?_) (fun k y hk => ?_)), ⟨he0, _, rfl, by simp [b1]; omega, fun y hy => ?_⟩, fun ty' e => a5J ty' e _⟩
         . obtain ⟨p, hp, rfl⟩ := Kn.1 hx
           rw [d7r]
           exact d1w (hxl p hp).1 (hxl p hp).2 fun hr => by rw [(hxl p hp).1, b0g hr]
         . obtain ⟨i, j, p, rfl, hj, hp, hy⟩ := d4g k y hk
           obtain ⟨_, _, c3, bb, off, c4, c5⟩ := b2 i p hp
           refine ⟨bb, off, by rw [c4], b2J T _ _, ?_⟩
           rw [c5 j hj]
           have : (ps.map (·.2)).flatten[i * te.size + j]? = p.2[j]? := a5h _ _ _ _ (fun c hc => by
            obtain ⟨q, hq, rfl⟩ := Kn.1 hc
            obtain ⟨i', hi'⟩ := Jp hq
            exact (b2 i' q hi').2.2.1) (by rw [Hz, hp]; rfl) hj
           rw [GJ, GJ, this]
         . obtain ⟨i, j, p, rfl, hj, hp, hy⟩ := d4g k y hk
           obtain ⟨c1, _, c3, _⟩ := b2 i p hp
           have : (ps.map (·.2)).flatten[i * te.size + j]? = p.2[j]? := a5h _ _ _ _ (fun c hc => by
            obtain ⟨q, hq, rfl⟩ := Kn.1 hc
            obtain ⟨i', hi'⟩ := Jp hq
            exact (b2 i' q hi').2.2.1) (by rw [Hz, hp]; rfl) hj
           have := c1.rep j y hy
           rw [GJ] at this ⊢
           rwa [‹(ps.map (·.2)).flatten[i * te.size + j]? = p.2[j]?›]
         . obtain ⟨p, hp, rfl⟩ := Kn.1 hy
           obtain ⟨i, hi⟩ := Jp hp
           exact ⟨te, p.1, rfl, rfl, (b2 i p hi).2.1⟩
     . cases hre
   . rename_i fs
     simp only [GP] at hre
     obtain ⟨hco, hfa⟩ := hre
     obtain ⟨ys, m, e1, _, hlen, _, hg⟩ := DataW.trod_struct hd h
     obtain rfl : n = m := by omega
     rw [a5U hT hTt] at hlen
     have main : ∀ (l' : List LU) (i off : Nat), fs.toList.drop i = l' -> a0v T ty.size off l' = true -> off <= ty.size -> ∃ xs, RepC T w xs (cs.drop off) /\ b7r (Fits T n) l' xs := by
      intro l'
      induction l' with
      | nil =>
        intro i off hdr hc ho
        have := GE hc
        refine ⟨[], ⟨by simp; omega, by simp, by simp⟩, rfl⟩
      | cons f l' ih =>
        intro i off hdr hc ho
        simp only [a0v, GP] at hc
        obtain ⟨hc1, hc2⟩ := hc
        have hc1 := GE hc1
        have hfi : fs.toList[i]? = some f := by
         have : (fs.toList.drop i)[0]? = some f := by rw [hdr]; rfl
         simpa using this
        have hfm : f ∈ fs.toList := List.mem_of_getElem? hfi
        have h1 := Ib.1 hfa f hfm
        have hfl : f.type ∈ l := by
         have := Ib.1 b6v f hfm
         obtain ⟨z, hz, hb⟩ := MA.1 this
         have := GE hb
         rw [this]; exact hz
        cases hTf : T f.type with
        | none => rw [hTf] at h1; simp at h1
        | some tf =>
        have h2 := hg i f (by simpa using hfi)
        rw [a5U hT hTf, hc1] at h2
        have hle : off + tf.size <= ty.size := by
         have : ∀ (l' : List LU) (off : Nat), a0v T ty.size off l' = true -> off <= ty.size := by
          intro l'
          induction l' with
          | nil => intro off hc; have := GE hc; omega
          | cons f l' ih => intro off hc; simp only [a0v, GP] at hc; have := ih _ hc.2; omega
         have := this l' _ hc2
         rw [a7Q hTf] at this
         exact this
        have hys : i < ys.length := by
         cases hyi : ys[i]? with
         | none =>
           have d7s : i < fs.size := by
            have := (GD.1 hfi).1
            simpa using this
           have : ys.length = fs.size := by assumption
           rw [this]; exact d7s
         | some y => exact (GD.1 hyi).1
        rw [GH hys] at h2
        obtain ⟨xs, c1, c2, _⟩ := b1a hT hl n f.type _ _ hfl h2
        obtain ⟨rs, d1, d2⟩ := ih (i + 1) (off + T4 T f.type) (by rw [List.drop_add_one_eq_tail_drop, hdr]; rfl) hc2 (by rw [a7Q hTf]; exact hle)
        refine ⟨xs ++ rs, ?_, xs, rs, rfl, c2, d2⟩
        have := c1.append d1
        rw [a7Q hTf, ← List.drop_drop, Ip] at this
        exact this
     obtain ⟨xs, c1, c2⟩ := main fs.toList 0 0 rfl hco (Nat.zero_le _)
     exact ⟨xs, by simpa using c1, c2, fun ty' e => by cases e; exact hlen⟩
theorem c5g (hT : p7 P T) {l : List GF} (hl : a7J T l = true) {t : GF} (ht : t ∈ l) {v : GK} {d : DataW H} {ps : List Oy} (J7 : ∀ ty, T t = some ty -> (ty.row = true -> ∃ cs, v = .agg cs) /\ (ty.row = false -> v.cells = #[v]))
 (hd : No enc P w base spare held t v d ps) : ∃ n x, Fits T n t (V.cells x) /\ RepV (a3k T) w x v /\ ∀ ty, T t = some ty -> x = b1j ty.row (V.cells x) := by
 obtain ⟨fuel, hf⟩ := hd
 obtain ⟨xs, h1, h2, h3⟩ := b1a hT hl fuel t _ _ ht hf
 cases hTt : T t with
 | none => cases fuel <;> simp [Fits, hTt] at h2
 | some ty =>
 have h3 := h3 ty hTt
 obtain ⟨r1, r2⟩ := J7 ty hTt
 cases hr : ty.row with
 | true =>
   obtain ⟨cs, rfl⟩ := r1 hr
   refine ⟨fuel, .agg xs, h2, .agg xs cs (by rw [h1.len]; rfl) fun k y hk => ?_, fun ty' e => by cases e; rw [hr]; rfl⟩
   have := h1.rep k y hk
   simpa [Value.cells, GJ, Array.getD_eq_getD_getElem?] using this
 | false =>
   have hv := r2 hr
   rw [hv] at h1 h3
   have hl1 := h1.len
   simp at hl1
   match xs, hl1 with
   | [x], _ =>
     have ho := h1.one x (by simp)
     have hc : V.cells x = [x] := by cases x <;> first | rfl | cases ho
     exact ⟨fuel, x, by rw [hc]; exact h2, by simpa using h1.rep 0 x rfl, fun ty' e => by cases e; rw [hr, hc]; rfl⟩
end
end En
namespace En
open Go Go.RowKit Go.WideShapes
theorem own : ownKnob Tryz.prog.godebug = none := by kernel_rfl
theorem laidOut : laidOutB Tryz.prog = true := by kernel_rfl
section
variable {P : Program} {T : GF -> Option Ty} {f : FuncId} {w : World}
def a6F : Env := { d := 0, dom := fun _ _ => False }
def d3M (w : World) : Prop := ∀ b ∈ d3F, ∃ x, w.heap[b]? = some x /\ d3R b x
theorem d4Z (h : d3M w) : SzOK T (a3k T) w := ⟨rfl, fun b hb => ⟨rfl, h b hb⟩⟩
theorem d2k {ds : List D} (hp : F6 P T f ds [.v (.bool true) .no]) {us : List GK} (hr : RepDs a6F (a3k T) w [] ds us) (hgl : d3M w := by intro _ h; cases h) :
 Calls P f us.toArray w fun e w' => e = .returned (.bool true) /\ Below w.heap.size w w' := by
 refine (hp a6F (a3k T) w us (d4Z hgl) hr).mono ?_
 rintro e w' ⟨us', g', rfl, h1, h2⟩
 obtain ⟨l, hr'⟩ := h1 a6F
 match us', l with
 | [u], _ =>
 have := hr' 0 _ rfl
 simp only [List.getD_cons_zero] at this
 cases this with
 | v x a v h ha =>
 cases h
 exact ⟨rfl, ⟨h2.grows.os, h2.grows.tape, h2.grows.output, h2.grows.size, h2.grows.old⟩⟩
theorem d0e : RepDs a6F (a3k T) w [] [] [] := ⟨rfl, fun k y h => by simp at h⟩
theorem a8E {d : D} {u : GK} {ds : List D} {us : List GK} (h : RepD a6F (a3k T) w [] d u) (hs : RepDs a6F (a3k T) w [] ds us) : RepDs a6F (a3k T) w [] (d :: ds) (u :: us) :=
 ⟨by simp [hs.1], fun k y hk => by
  rcases k with _ | k
  . simp at hk; subst hk; exact h
  . simpa using hs.2 k y (by simpa using hk)⟩
theorem d6C {x : V} {u : GK} (h : RepV (a3k T) w x u) : RepD a6F (a3k T) w [] (.v x .no) u := .v _ _ _ h trivial
theorem c4R {cs : List V} {u : GK} (h : RepV (a3k T) w (.agg cs) u) : RepD a6F (a3k T) w [] (.agg (cs.map vD)) u := by
 cases h with
 | agg cs us hn hr =>
   refine .agg _ us (by simpa using hn) fun k y hk => ?_
   rw [Hz, Option.map_eq_some_iff] at hk
   obtain ⟨z, hz, rfl⟩ := hk
   exact .v _ _ _ (hr k z hz) trivial
variable {H : Type} {enc : GF × GK -> H} {base : Nat} {spare : Nat -> Bool} {held : Bool} {r : Reach} {b0 : Nat} {t : GF} {v : GK} {d : DataW H} {ps : List Oy} {l : List GF}
theorem c3b (hT : p7 P T) {desc : TypeDesc} (ht : P.underlying t = some desc) {ty : Ty} (h : T t = some ty) : ty.desc = desc := by
 have := (hT t ty h).desc
 rw [ht] at this
 injection this with this
 exact this.symm
theorem c4d {x : V} (h : x = b1j false (V.cells x)) : V.cells x = [x] := by
 cases x with
 | agg cs =>
   exfalso
   simp only [V.cells, b1j] at h
   cases cs with
   | nil => simp at h
   | cons c r =>
     have h' : V.agg (c :: r) = c := h
     have : _root_.SizeOf.sizeOf (V.agg (c :: r)) = _root_.SizeOf.sizeOf c := by rw [h']
     simp at this
     omega
 | _ => rfl
theorem c5O (hT : p7 P T) {desc : TypeDesc} (ht : P.underlying t = some desc) (hnr : ∀ ty : Ty, ty.desc = desc -> ty.row = false) {n : Nat} {x : V} (h1 : Fits T n t (V.cells x)) (h3 : ∀ ty, T t = some ty -> x = b1j ty.row (V.cells x)) : Fits T n t [x] := by
 cases hTt : T t with
 | none => cases n <;> simp [Fits, hTt] at h1
 | some ty =>
   have := h3 ty hTt
   rw [hnr ty (c3b hT ht hTt)] at this
   rw [← c4d this]; exact h1
theorem d2b (hT : p7 P T) (hl : a7J T l = true) (hm : t ∈ l) {k : IntKind} (ht : P.underlying t = some (.int k)) (hv : Value.okWide P w r b0 t v) (hd : No enc P w base spare held t v d ps) :
 ∃ n x, Fits T n t [x] /\ RepV (a3k T) w x v := by
 obtain ⟨i, rfl⟩ := okWide_int ht hv
 obtain ⟨n, x, h1, h2, h3⟩ := c5g hT hl hm (fun ty hty => ⟨fun hr => (by rw [Ty.row, c3b hT ht hty] at hr; cases hr), fun _ => rfl⟩) hd
 exact ⟨n, x, c5O hT ht (fun ty e => by rw [Ty.row, e]) h1 h3, h2⟩
theorem b1q (hT : p7 P T) (hl : a7J T l = true) (hm : t ∈ l) {fs : Array LU} (ht : P.underlying t = some (.struct fs)) (hv : Value.okWide P w r b0 t v) (hd : No enc P w base spare held t v d ps) :
 ∃ n cs, Fits T n t cs /\ RepV (a3k T) w (.agg cs) v := by
 obtain ⟨cs, rfl, _⟩ := okWide_struct ht hv
 obtain ⟨n, x, h1, h2, h3⟩ := c5g hT hl hm (fun ty hty => ⟨fun _ => ⟨cs, rfl⟩, fun hr => (by rw [Ty.row, c3b hT ht hty] at hr; cases hr)⟩) hd
 cases h2 with
 | agg ys us a b => exact ⟨n, ys, h1, .agg ys _ a b⟩
theorem fits_int {k : IntKind} {ty : Ty} (h : T t = some ty) (hd : ty.desc = .int k) {n : Nat} {xs : List V} (hf : Fits T n t xs) : ∃ i, xs = [.int k i] /\ k.min <= i /\ i <= k.max := by
 cases n with
 | zero => cases hf
 | succ n => unfold Fits at hf; rw [h] at hf; simp only [hd] at hf; exact hf
theorem fits_bool {ty : Ty} (h : T t = some ty) (hd : ty.desc = .bool) {n : Nat} {xs : List V} (hf : Fits T n t xs) : ∃ b, xs = [.bool b] := by
 cases n with
 | zero => cases hf
 | succ n => unfold Fits at hf; rw [h] at hf; simp only [hd] at hf; exact hf
theorem b1w {e e' : GF} {ty : Ty} (h : T t = some ty) (hd : ty.desc = .slice e) (hc : ty.cks = [.bytes e']) {n : Nat} {xs : List V} (hf : Fits T n t xs) : ∃ s, xs = [.bytes s] /\ s.length <= maxLen := by
 cases n with
 | zero => cases hf
 | succ n => unfold Fits at hf; rw [h] at hf; simp only [hd, hc] at hf; exact hf
theorem a9s {fs : Array LU} {ty : Ty} (h : T t = some ty) (hd : ty.desc = .struct fs) {n : Nat} {xs : List V} (hf : Fits T n t xs) : ∃ m, n = m + 1 /\ b7r (Fits T m) fs.toList xs := by
 cases n with
 | zero => cases hf
 | succ n => unfold Fits at hf; rw [h] at hf; simp only [hd] at hf; exact ⟨n, rfl, hf⟩
end
end En
namespace En
open Go Go.RowKit
theorem b3G : T 3 = some ty3 := by kernel_rfl
theorem d4G : T 4 = some ty4 := by kernel_rfl
theorem c4V : T 22 = some d4R := by kernel_rfl
theorem d6D : T 24 = some d5c := by kernel_rfl
theorem d4N : T 26 = some d4w := by kernel_rfl
theorem d2N {n : Nat} {cs : List V} (h : Fits T n 24 cs) : ∃ (a b c d : Int) (e : List UInt8) (f : Int) (g : Bool), cs = [.int .i64 a, .int .i64 b, .int .i64 c, .int .i64 d, .bytes e, .int .i64 f, .bool g] := by
 obtain ⟨m, rfl, a1, r1, rfl, h1, a2, r2, rfl, h2, a3, r3, rfl, h3, a4, r4, rfl, h4, a5, r5, rfl, h5, a6, r6, rfl, h6, a7, r7, rfl, h7, rfl⟩ := a9s d6D rfl h
 obtain ⟨v1, rfl, _⟩ := fits_int b3G rfl h1
 obtain ⟨v2, rfl, _⟩ := fits_int b3G rfl h2
 obtain ⟨v3, rfl, _⟩ := fits_int b3G rfl h3
 obtain ⟨v4, rfl, _⟩ := fits_int b3G rfl h4
 obtain ⟨v5, rfl, _⟩ := b1w c4V rfl rfl h5
 obtain ⟨v6, rfl, _⟩ := fits_int b3G rfl h6
 obtain ⟨v7, rfl⟩ := fits_bool d4G rfl h7
 exact ⟨v1, v2, v3, v4, v5, v6, v7, rfl⟩
theorem c8E {n : Nat} {cs : List V} (h : Fits T n 26 cs) : ∃ (a : List UInt8) (b : Int), cs = [.bytes a, .int .i64 b] := by
 obtain ⟨m, rfl, a1, r1, rfl, h1, a2, r2, rfl, h2, rfl⟩ := a9s d4N rfl h
 obtain ⟨v1, rfl, _⟩ := b1w c4V rfl rfl h1
 obtain ⟨v2, rfl, _⟩ := fits_int b3G rfl h2
 exact ⟨v1, v2, rfl⟩
theorem d1s {n : Nat} {x : V} (h : Fits T n 3 [x]) : ∃ i : Int, x = .int .i64 i := by
 obtain ⟨i, e, _⟩ := fits_int b3G rfl h
 injection e with e _
 exact ⟨i, e⟩
def d4Q : List GF := [24, 26, 3, 4, 22, 5]
theorem a8g : a7J T d4Q = true := by kernel_rfl
end En
end Go.Proofs.YtfafflepalgcnaaGreat
