/- Texts. -/
import Derived.Test.YtfafflepalgcnaaGreatZ2
import Derived.Deep.LoopGhost
import Derived.Deep.DeepMust
import Derived.Lib.AppendZeros
import Derived.Lib.SliceRun
import Derived.Laws.Rows
import Derived.Laws.BitsAllLaws
import Derived.Deep.QuietTactic
import Derived.BigQuiet
import Derived.Deep.RegionHeld3
set_option linter.unusedSimpArgs false
set_option linter.unusedVariables false
set_option linter.unusedSectionVars false
open And renaming intro → GN
open Array renaming ext → NH, getElem?_eq_getElem → GQ, getElem?_setIfInBounds_ne → IR, all_eq_true → Mq, length_toList → HZ, getElem?_eq_some_iff → Hr, all_eq_true_iff_forall_mem → Ko, getD_eq_getD_getElem? → GL, getElem?_eq_none → Jg, getElem_mem → Mr, getElem?_replicate → Ju
open Bool renaming and_eq_true → GP
open Go renaming TypeId → GF, World → GG, Value → GK, Calls → Hq, info_parts → Kt, heap_alloc_new → Ht, Program → Hb, cell_of_row → HY, frozen_of_row → JQ, heap_setCell_same → Jr, bodyPost_ret → Hj, FuncId → Hg, u16_xor_nat → MI, wpList_store_mid → IN, mem_ready → Ks, wp_store_mid → JL
open Go.Act renaming put → Jo
open Go.Calls renaming quiet_of_same → Ia
open Go.Instr renaming typeAssert → Iu
open Go.IntKind renaming u8 → GI, u16 → LO
open Go.Lib renaming hid → GO, run_eql_slice_nil → LA
open Go.Value renaming ownBlock → Ni, int → JW, bool → Ho, oneCell' → Iv
open Go.World renaming ownsRow_lit → Mo, block_lt_of_cell? → Hx, setCell → NF, rangeAt_setCells_same → Hp
open List renaming getD_cons_zero → IA, take_append_drop → Ip, flatten_append → JN, length_append → GW, take_succ_eq_append_getElem → Jq, getElem?_eq_getElem → GH, take_length → IU, length_map → II, getElem?_eq_some_iff → GD, all_eq_true → Ib, mem_of_getElem? → IC, range → Mb, mem_range → Nj, setIfInBounds_toArray → Hi, set_cons_succ → Ie, set_cons_zero → If
open Nat renaming le_refl → GB, zero_le → Hl, mod_eq_of_lt → Ii, le_of_ble_eq_true → Ha, xor_lt_two_pow → KO, xor_mod_two_pow → LQ, mod_two_eq_zero_or_one → It, shiftRight_xor_distrib → KP, shiftRight_eq_div_pow → KR, xor_assoc → Kw, xor_comm → NY, mul_comm → Mp, eq_of_testBit_eq → LN, testBit_xor → MT, testBit_lt_two_pow → Ln, lt_of_lt_of_le → Jj, pow_le_pow_right → Ky, add_sub_cancel_left → Lh, lt_or_ge → Ir, zero_add → HE
open Ne renaming symm → Jh
open Option renaming getD_some → JK
open UInt8 renaming ofNat → Gz, toNat_ofNat' → Iy, toNat_lt → He
namespace Go.Proofs.YtfafflepalgcnaaGreat
namespace En
open Go Go.RowKit
theorem a9u : (Tryz.prog.info? 5).map (fun i => (i.zero, i.size, i.bytes)) = some (some (.int .u8 0), 1, 1) := by kernel_rfl
section
variable {T : GF -> Option Ty} {E : Env} {g : G} {w w' : GG} {A : Option Addr} {n c B : Nat} {xs : List UInt8}
theorem a1w {w : GG} {B : Nat} {e : GF} (vs : List GK) (hB : B <= w.heap.size) (hm : vs.length <= 1000) : Own (w.alloc (.cells vs.toArray e)) B e (some ⟨w.heap.size, 0, none⟩) vs.length vs.length vs := by
 have h := Mo (base := B) (e := e) (size := 1) w vs.toArray vs.length hB (by unfold maxLen; omega) (by simp)
 simpa using h
theorem a3G {u : GK} (h : RepV g w (.bytes xs) u) : ∃ A n c, u = .slice A n c /\ IsB w A n c xs := by
 cases h with
 | bytes xs A n c hn hc hm h =>
   refine ⟨A, n, c, rfl, ⟨by simp [hn], hc, hm, fun k v hv => ?_⟩⟩
   rw [List.getElem?_map, Option.map_eq_some_iff] at hv
   obtain ⟨x, hx, rfl⟩ := hv
   obtain ⟨b, off, e, _, h2⟩ := h k x hx
   exact ⟨b, off, e, h2⟩
theorem a9X (hb : Below w.heap.size w w') {A : Option Addr} {n c : Nat} (ho : Own w' w.heap.size 5 A n c (xs.map u8)) :
 ∃ us' g', Ending.returned (.slice A n c) = .returned (b0n us') /\ (∀ E' : Env, RepDs E' g' w' [] [.v (.bytes xs) .no] us') /\ PureTr g w g' w' := by
 refine ⟨[.slice A n c], { g with Γ := fun b => if b < w.heap.size then g.Γ b else .imm }, rfl, fun E' => ⟨rfl, fun k y hk => ?_⟩, ⟨⟨hb.os, hb.tape, hb.output, hb.size, hb.block⟩, fun b hlt => if_pos hlt, fun b hge => by
  show Perm.still (if b < w.heap.size then g.Γ b else .imm) = true
  rw [if_neg (by omega)]; rfl, rfl, rfl⟩⟩
 rcases k with _ | k
 . simp at hk
   subst hk
   have hr := ho.rd
   refine .v _ _ _ (.bytes xs A n c (by simpa using hr.len) hr.cap hr.max fun k x hx => ?_) trivial
   obtain ⟨b, off, e, h2⟩ := hr.at_ k (u8 x) (by simp [hx])
   refine ⟨b, off, e, ?_, h2⟩
   have hge : w.heap.size <= b := ho.block b (by subst e; rfl)
   unfold j9
   show (match (if b < w.heap.size then g.Γ b else .imm) with | .imm => True | .low n => off + k < n | .own _ n => off + k < n | .box _ _ => False)
   rw [if_neg (by omega)]; trivial
 . simp at hk
end
set_option maxHeartbeats 400000 in
theorem a4M (A : Option Addr) (n c : Nat) (xs : List UInt8) (w : GG) (h : IsB w A n c xs) (hn : xs.length <= 1000000) :
 Hq Tryz.prog 29 #[.slice A n c] w fun e w' => ∃ A' n' c', e = .returned (.slice A' n' c') /\ Own w' w.heap.size 5 A' n' c' (xs.map u8) /\ Below w.heap.size w w' := by
 obtain ⟨i0, hi0, hz0, hz1, hz2⟩ := Kt a9u
 have hl := IsB.len h
 have H := GO h
 have HI := GO (GN hi0 (GN hz0 (GN hz1 hz2)))
 have HL := GO hl
 clear h hi0 hz0 hz1 hz2 hl
 have qT : ∀ (w : GG) (a : Option Addr) (n c n' c' : Nat), (binOp .eql 22 (.slice a n c) (.slice none n' c')).run Tryz.prog w = .ok (.bool a.isNone) w := fun w a n c n' c' => LA w _ _ a n c n' c' Tryz.underlying22
 cases A with
 | none =>
   have h0 : xs = [] := by
    have hr := H.out
    rcases xs with _ | ⟨x, xs⟩
    . rfl
    . obtain ⟨b, off, hA, _⟩ := Rd.at_ hr 0 (u8 x) rfl
      cases hA
   subst h0
   go_enter Tryz.func29, Tryz.ntmps29
   go_wp2_with fail
   go_ret
   exact ⟨none, 0, 0, rfl, Own.nil _ _, Below.refl _ _⟩
 | some a =>
   go_enter Tryz.func29, Tryz.ntmps29
   have hown := a1w (w := w) (B := w.heap.size) (e := 5) [] (GB _) (by simp)
   have HO := GO hown
   clear hown
   have hn' : n <= 1000000 := by have := HL.out; omega
   go_wp2_with (at_builtin; refine O8 _ rfl (.tmp 5) (.tmp 6) 22 rfl w.heap.size 5 i0 _ 1 Tryz.underlying22 HI.out.1 HI.out.2.1 HI.out.2.2.1 HI.out.2.2.2 rfl (some ⟨w.heap.size, 0, none⟩) 0 0 [] rfl HO.out (some a) n c _ rfl (H.out.alloc _) (b7j _) ?_ (by omega) (by simp) ?_)
   case _ => omega
   intro A3 c3 w3 b3S hg3 _
   have hb3 : Below w.heap.size w w3 := ((Below.refl _ _).alloc (GB _) _).grown hg3 (by simp) (by simp [Ni])
   go_wp2
   go_ret
   exact ⟨A3, 0 + n, c3, by simp, by simpa using b3S, hb3⟩
noncomputable def j5 (N : Nat) (l : List UInt8) : Option (List UInt8) := br (decide (l.length <= 1000000)) (some l) none
theorem M7 (N : Nat) (x0 r0 : List UInt8) (h : j5 N x0 = some r0) : F6 Tryz.prog T 29 [dY x0] [dY r0] := by
 have hn : x0.length <= 1000000 /\ r0 = x0 := by
  unfold j5 br at h
  by_cases hx : x0.length <= 1000000
  . simp [hx] at h; exact ⟨hx, h.symm⟩
  . simp [hx] at h
 obtain ⟨hn, rfl⟩ := hn
 intro E g w us hsz hus
 obtain ⟨hl, hr⟩ := hus
 match us, hl with
 | [u], _ =>
 have hu := hr 0 _ rfl
 simp only [IA] at hu
 cases hu with
 | v x a v hv ha =>
 obtain ⟨A, n, c, rfl, hB⟩ := a3G hv
 refine (a4M A n c r0 w hB hn).mono ?_
 rintro e w' ⟨A', n', c', rfl, ho, hb⟩
 exact a9X hb ho
set_option maxHeartbeats 1000000 in
set_option maxRecDepth 100000 in
theorem c8M (k : Nat) (w : GG) (hk : k <= 1000000) :
 Hq Tryz.prog 80 #[.slice none 0 0, .int .i64 k] w fun e w' => ∃ A n c, e = .returned (.slice A 0 c) /\ n = 0 /\ Own w' w.heap.size 5 A n c [] /\ Below w.heap.size w w' := by
 obtain ⟨i0, hi0, hz0, hz1, hz2⟩ := Kt a9u
 have mixed : Tryz.prog.follows .mixedOrders = true := by kernel_rfl
 by_cases h0 : k = 0
 . subst h0
   clear hi0 hz0 hz1 hz2
   go_enter Tryz.func80, Tryz.ntmps80
   go_wp2
   go_ret
   exact ⟨none, 0, 0, rfl, rfl, Own.nil _ _, Below.refl _ _⟩
 . have hrz : ∀ ty, (Builtin.append_ #[22, 3] ty #[.slice none 0 0, .int .i64 (k : Int)]).run Tryz.prog w = _ := fun ty =>
    Lib.run_append_nil_zeros w 22 3 ty 5 i0 _ .i64 .i64 Tryz.underlying22 Tryz.underlying3 hi0 hz0 k (by omega) (by omega) (by omega) (by rw [hz2]; omega)
   have hG1 : k <= grownCap w k 0 5 := grownCap_ge w _ _ _
   have hG2 := grownCap_le_maxLen w k 0 5 (by unfold maxLen; omega)
   generalize grownCap w k 0 5 = G at hrz hG1 hG2
   have hG63 : G <= 9223372036854775807 := by unfold maxLen at hG2; omega
   have h1 : ¬ ((k : Int) < 0) := by omega
   have h4 : (k : Int) > 0 := by omega
   have h5 : k <= 9223372036854775807 := by omega
   have HI := GO (GN hi0 (GN hz0 (GN hz1 hz2)))
   have HK := GO (GN hk (GN h0 hG2))
   clear hi0 hz0 hz1 hz2 hk h0 hG2
   go_enter Tryz.func80, Tryz.ntmps80
   go_wp2_with (at_builtin; refine Lib.wpList_append_run _ rfl _ _ _ _ rfl _ _ rfl rfl _ _ (hrz _) ?_)
   all_goals (go_ret)
   all_goals (
    refine ⟨some ⟨w.heap.size, 0, none⟩, 0, G, rfl, rfl, ⟨rfl, .inr ⟨w.heap.size, G, _, rfl, GB _, Ht w _, by omega, HK.out.2.2, ?_, by simp⟩⟩, ((Below.refl _ _).alloc (GB _) _).drew⟩
    simp [Array.size_append, size_zeroCells]
    omega)
theorem R0 (ls : List (List UInt8)) (k : Nat) : (ls.take k).flatten.length <= ls.flatten.length := by
 conv => rhs; rw [← Ip k ls]
 rw [JN, GW]
 omega
theorem M4 (ls : List (List UInt8)) (k : Nat) (h : k < ls.length) : (ls.take (k + 1)).flatten = (ls.take k).flatten ++ ls[k] := by
 rw [Jq h, JN]; simp
set_option maxHeartbeats 1000000 in
set_option maxRecDepth 100000 in
theorem c2w (A : Option Addr) (n c : Nat) (ls : List (List UInt8)) (w : GG) (h : IsBB w A n c ls) (hn : ls.flatten.length <= 1000000) :
 Hq Tryz.prog 63 #[.slice A n c] w fun e w' => ∃ A' n' c', e = .returned (.slice A' n' c') /\ Own w' w.heap.size 5 A' n' c' (ls.flatten.map u8) /\ Below w.heap.size w w' := by
 obtain ⟨i0, hi0, hz0, hz1, hz2⟩ := Kt a9u
 have c2l : n <= 9223372036854775807 := by have h1 := h.cap; have h2 := h.max; unfold maxLen at h2; omega
 have H := GO h
 have HI := GO (GN hi0 (GN hz0 (GN hz1 hz2)))
 clear h hi0 hz0 hz1 hz2
 go_enter Tryz.func63, Tryz.ntmps63
 go_wp2
 go_loopg [3, 11] n (fun g v i wr => ∃ k : Nat, k <= n /\ g = n - k /\ i = .int .i64 (k : Int) /\ v = .int .i64 (((ls.take k).flatten.length : Nat) : Int) /\ wr = w)
 case atStart => exact ⟨0, by omega, rfl, rfl, by simp, rfl⟩
 case round =>
  obtain ⟨k, hk, hg, rfl, rfl, hww⟩ := hrel
  obtain rfl : w = wr := hww.symm
  by_cases hlt : k < n
  . have hl : k < ls.length := by have := H.out.len; omega
    obtain ⟨A2, n2, c2, ⟨b, off, rfl, hc⟩, hr⟩ := H.out.at_ k _ (GH hl)
    have hle := R0 ls (k + 1)
    have a4F := M4 ls k hl
    have hn2 : n2 = ls[k].length := (IsB.len hr).symm
    have a3Q : (ls.take k).flatten.length + n2 <= 1000000 := by rw [a4F, GW] at hle; omega
    have Hs := GO (GN a4F hn2)
    generalize hm : (ls.take k).flatten.length = m at a3Q
    have Hm := GO hm
    have h7 : ¬ ((m : Int) + (n2 : Int) < 0) := by omega
    clear a4F hle hn2 hm
    go_wp2
    go_roundg (n - (k + 1))
    case measure => omega
    case rel =>
     refine ⟨k + 1, by omega, rfl, by go_num, ?_, rfl⟩
     rw [Hs.out.1, GW, Hm.out, ← Hs.out.2]
     go_num
  . have hkn : (ls.take k).flatten = ls.flatten := by
     have : k = ls.length := by have := H.out.len; omega
     rw [this, IU]
    rw [hkn]
    generalize hm : ls.flatten.length = m at hn
    have Hm := GO hm
    clear hkn hm
    go_wp2_with fail
    refine (c8M m _ hn).mono ?_
    rintro e w1 ⟨A1, n1, c1, rfl, rfl, ho1, hb1⟩
    go_wp2_with fail
    have H1 := GO (GN ho1 hb1)
    clear ho1 hb1
    go_loopg [6, 27] n (fun g v i wr => ∃ k A' n' c', k <= n /\ g = n - k /\ i = .int .i64 (k : Int) /\ v = .slice A' n' c' /\ Own wr w.heap.size 5 A' n' c' ((ls.take k).flatten.map u8) /\ Below w.heap.size w wr)
    case atStart => exact ⟨0, A1, 0, c1, by omega, rfl, rfl, rfl, by simpa using H1.out.1, H1.out.2⟩
    case round =>
     obtain ⟨k, A', n', c', hk, hg, rfl, rfl, hown, hb⟩ := hrel
     by_cases hlt : k < n
     . have hl : k < ls.length := by have := H.out.len; omega
       obtain ⟨A2, n2, c2, ⟨b, off, rfl, hc⟩, hr⟩ := H.out.at_ k _ (GH hl)
       have hc2 : wr.cell? ⟨b, off + k, none⟩ = some (.slice A2 n2 c2) := by
        rw [hb.cell (p := ⟨b, off + k, none⟩) (Hx w _ hc)]; exact hc
       have hr2 : Rd wr A2 n2 c2 (ls[k].map Go.Proofs.YtfafflepalgcnaaGreat.u8) := hr.below hb
       have hle := R0 ls (k + 1)
       have a4F := M4 ls k hl
       have hn' : n' = (ls.take k).flatten.length := by have := hown.1; rw [II] at this; omega
       have hn2 : n2 = ls[k].length := by have := hr2.len; rw [II] at this; omega
       have a3Q : n' + n2 <= 1000000 := by rw [a4F, GW, Hm.out] at hle; omega
       have Hs := GO a4F
       have Hn := GO (GN hn' hn2)
       clear a4F hle hn' hn2
       go_wp2_with (at_builtin; refine O8 _ rfl (.tmp 31) (.tmp 32) 22 rfl w.heap.size 5 i0 _ 1 Tryz.underlying22 HI.out.1 HI.out.2.1 HI.out.2.2.1 HI.out.2.2.2 rfl A' n' c' _ rfl hown A2 n2 c2 _ rfl hr2 (b7j _) ?_ (by omega) hb.size ?_)
       case _ => omega
       intro A3 c3 w3 b3S hg3 _
       have hb3 := hb.grown hg3 hb.size (hown.block)
       go_wp2
       go_roundg (n - (k + 1))
       case measure => omega
       case rel =>
        refine ⟨k + 1, A3, n' + n2, c3, by omega, rfl, by go_num, rfl, ?_, hb3⟩
        rw [Hs.out]; simpa using b3S
     . go_wp2
       go_ret
       refine ⟨A', n', c', rfl, ?_, hb⟩
       have : k = ls.length := by have := H.out.len; omega
       rw [this, IU] at hown
       exact hown
def a9p : List V -> Option (List UInt8)
 | [] => some []
 | .bytes l :: r => (match a9p r with | some m => some (l ++ m) | none => none)
 | _ :: _ => none
theorem b1L : ∀ (vs : List V) (l : List UInt8), a9p vs = some l -> ∃ ls : List (List UInt8), vs = ls.map V.bytes /\ l = ls.flatten
 | [], l, h => ⟨[], rfl, by simpa [a9p] using h.symm⟩
 | .bytes x :: r, l, h => by
   unfold a9p at h
   cases hm : a9p r with
   | none => rw [hm] at h; cases h
   | some m =>
     rw [hm] at h
     injection h with h
     obtain ⟨ls, h1, h2⟩ := b1L r m hm
     exact ⟨x :: ls, by rw [h1]; rfl, by rw [← h, h2]; rfl⟩
 | .bool _ :: _, l, h => by cases h
 | .int _ _ :: _, l, h => by cases h
 | .str _ :: _, l, h => by cases h
 | .sl _ _ :: _, l, h => by cases h
 | .agg _ :: _, l, h => by cases h
 | .iface _ _ :: _, l, h => by cases h
 | .nilI :: _, l, h => by cases h
theorem b4j (ls : List (List UInt8)) : (ls.map V.bytes).flatMap V.cells = ls.map V.bytes := by
 induction ls with
 | nil => rfl
 | cons l ls ih => simp only [List.map_cons, List.flatMap_cons, ih]; rfl
theorem c1r {g : G} {w : GG} {e : GF} {ls : List (List UInt8)} {u : GK} (h : RepV g w (.sl e (ls.map V.bytes)) u) : ∃ A n c, u = .slice A n c /\ IsBB w A n c ls := by
 cases h with
 | sl e xs A n c us hn hc hm hs h hr =>
   rw [b4j] at h hr
   refine ⟨A, n, c, rfl, ⟨by simpa using hn, hc, hm, fun k l hl => ?_⟩⟩
   have hk : (ls.map V.bytes)[k]? = some (.bytes l) := by simp [hl]
   obtain ⟨b, off, e1, _, e2⟩ := h k _ hk
   obtain ⟨A', n', c', e3, h4⟩ := a3G (hr k _ hk)
   exact ⟨A', n', c', ⟨b, off, e1, by rw [e2, e3]⟩, h4⟩
noncomputable def Y8 (N : Nat) (vs : List V) : Option (List UInt8) := (a9p vs).bind fun l => br (decide (l.length <= 1000000)) (some l) none
theorem c8g (N : Nat) (x0 : List V) (r0 : List UInt8) (h : Y8 N x0 = some r0) : F6 Tryz.prog T 63 [.v (.sl 22 x0) .no] [dY r0] := by
 unfold Y8 at h
 obtain ⟨l, h1, h2⟩ := Option.bind_eq_some_iff.1 h
 have hn : l.length <= 1000000 /\ r0 = l := by
  unfold br at h2
  by_cases hx : l.length <= 1000000
  . simp [hx] at h2; exact ⟨hx, h2.symm⟩
  . simp [hx] at h2
 obtain ⟨hn, rfl⟩ := hn
 obtain ⟨ls, rfl, rfl⟩ := b1L x0 _ h1
 intro E g w us hsz hus
 obtain ⟨hl, hr⟩ := hus
 match us, hl with
 | [u], _ =>
 have hu := hr 0 _ rfl
 simp only [IA] at hu
 cases hu with
 | v x a v hv ha =>
 obtain ⟨A, n, c, rfl, hB⟩ := c1r hv
 refine (c2w A n c ls w hB hn).mono ?_
 rintro e w' ⟨A', n', c', rfl, ho, hb⟩
 exact a9X hb ho
end En
namespace En
open Go
section
variable {P : Hb} {T : GF -> Option Ty}
end
end En
namespace En
open Go Go.RowKit
theorem d5F (w : GG) : (Instr.makeSlice 22 (.int .i64 2) (.int .i64 2)).run Tryz.prog w = .ok (.slice (some ⟨w.heap.size, 0, none⟩) 2 2) (w.alloc (.cells #[.int .u8 0, .int .u8 0] 5)) := by
 obtain ⟨i0, hi0, hz0, hz1, hz2⟩ := Kt a9u
 have := run_makeSlice (P := Tryz.prog) (w := w) 22 5 i0 (.int .u8 0) Tryz.underlying22 hi0 hz0 .i64 .i64 2 2 (by decide) (by decide) (by rw [hz1]; decide) (by rw [hz2]; decide) (by decide)
 rw [hz1] at this
 rw [this]
 have e : madeCells (JW GI 0).cells (Int.toNat 2 * 1) = #[.int .u8 0, .int .u8 0] := by
  apply NH
  . rw [size_madeCells]; rfl
  . intro i h1 h2
    simp at h2
    rcases (by omega : i = 0 ∨ i = 1) with rfl | rfl <;> simp [madeCells, Value.cells]
 rw [e]; rfl
attribute [local go_sem] d5F
def c8D (n : Int) : Nat -> Array GK
 | 0 => #[.int .u8 0, .int .u8 0]
 | 1 => #[.int .u8 0, .int .u8 (n % 256)]
 | _ => #[.int .u8 (n / 256), .int .u8 (n % 256)]
set_option maxHeartbeats 400000 in
theorem d3h (n : Int) (w : GG) (h1 : -9223372036854775808 <= n) (h2 : n <= 9223372036854775807) (h3 : ¬ n < 0) (h4 : ¬ 65535 < n) :
 Hq Tryz.prog 41 #[.int .i64 n, .int .i64 2] w fun e w' => e = .returned (.tuple #[.slice (some ⟨w.heap.size, 0, none⟩) 2 2, .int .i64 0]) /\ w'.heap[w.heap.size]? = some (.cells (c8D n 2) 5 (0, 0)) /\ Below w.heap.size w w' := by
 go_enter Tryz.func41, Tryz.ntmps41
 have hq : (n / 65536 != 0) = false := by
  have : n / 65536 = 0 := by omega
  rw [this]; rfl
 go_wp2
 go_loopg [7, 31] 2 (fun g x i wr => ∃ k : Nat, k <= 2 /\ g = 2 - k /\ i = .int .i64 (k : Int) /\ wr.heap[w.heap.size]? = some (.cells (c8D n k) 5 (0, 0)) /\ Below w.heap.size w wr)
 case atStart => exact ⟨0, by omega, rfl, rfl, Ht w _, (Below.refl _ _).alloc (GB _) _⟩
 case round =>
  obtain ⟨k, hk, hg, rfl, hh, hb⟩ := hrel
  have hc : ∀ j, wr.cell? ⟨w.heap.size, j, none⟩ = (c8D n k)[j]? := fun j => HY wr _ j _ _ _ hh
  have hf : ∀ j, wr.frozen? ⟨w.heap.size, j, none⟩ = false := fun j => JQ wr _ j _ _ hh
  rcases (by omega : k = 0 ∨ k = 1 ∨ k = 2) with rfl | rfl | rfl
  . have hc1 : wr.cell? ⟨w.heap.size, 1, none⟩ = some (.int .u8 0) := hc 1
    have hf1 := hf 1
    have H := GO (GN hh hb)
    clear hc hf hh hb
    go_wp2
    go_roundg (2 - (0 + 1))
    case measure => omega
    case rel =>
     refine ⟨1, by omega, rfl, by go_num, ?_, H.out.2.setCell (GB _) _⟩
     exact Jr wr _ _ _ _ _ H.out.1
  . have hc1 : wr.cell? ⟨w.heap.size, 0, none⟩ = some (.int .u8 0) := hc 0
    have hf1 := hf 0
    have H := GO (GN hh hb)
    clear hc hf hh hb
    go_wp2
    go_roundg (2 - (1 + 1))
    case measure => omega
    case rel =>
     refine ⟨2, by omega, rfl, by go_num, ?_, H.out.2.setCell (GB _) _⟩
     have e : n / 256 % 256 = n / 256 := by omega
     have := Jr wr w.heap.size 0 _ _ (.int .u8 (n / 256 % 256)) H.out.1
     rw [e] at this
     first | exact this | (rw [e]; exact this)
  . have H := GO (GN hh hb)
    clear hc hf hh hb
    go_wp2
    refine Hj (v := .tuple #[.slice (some ⟨w.heap.size, 0, none⟩) 2 2, .int .i64 0]) (by simp [results, Tryz.results41, go_sem]) rfl ⟨rfl, H.out.1, H.out.2⟩
theorem d1c (n : Int) (w : GG) (h1 : -9223372036854775808 <= n) (h2 : n <= 9223372036854775807) (h3 : n < 0 ∨ 65535 < n) :
 Hq Tryz.prog 41 #[.int .i64 n, .int .i64 2] w fun e w' => e = .returned (.tuple #[.slice none 0 0, .int .i64 2]) /\ w' = w := by
 go_enter Tryz.func41, Tryz.ntmps41
 rcases h3 with h3 | h3
 . go_wp2
   refine Hj (v := .tuple #[.slice none 0 0, .int .i64 2]) (by simp [results, Tryz.results41, go_sem]) rfl ⟨rfl, rfl⟩
 . have h4 : ¬ n < 0 := by omega
   have hq : (n / 65536 != 0) = true := by
    have : n / 65536 ≠ 0 := by omega
    simpa using this
   go_wp2
   refine Hj (v := .tuple #[.slice none 0 0, .int .i64 2]) (by simp [results, Tryz.results41, go_sem]) rfl ⟨rfl, rfl⟩
noncomputable def c5l (N : Nat) (x0 x1 : Int) : Option (List UInt8 × Int) := if x1 = 2 then (if x0 < 0 ∨ 65535 < x0 then some ([], 2) else some ([Gz (x0 / 256).toNat, Gz (x0 % 256).toNat], 0)) else none
theorem d5P (N : Nat) (x0 x1 : Int) (r0 : List UInt8) (r1 : Int) (h : c5l N x0 x1 = some (r0, r1)) : F6 Tryz.prog T 41 [dI x0, dI x1] [dY r0, dI r1] := by
 unfold c5l at h
 split at h
 . rename_i h2
   subst h2
   intro E g w us hsz hus
   obtain ⟨hl, hr⟩ := hus
   match us, hl with
   | [u, v], _ =>
   have hu := hr 0 _ rfl
   have hv := hr 1 _ rfl
   simp only [IA, List.getD_cons_succ] at hu hv
   cases hu with
   | v x a u hu ha =>
   cases hv with
   | v x a v hv ha' =>
   cases hu with
   | int k n hk =>
   cases hv with
   | int k n hk' =>
   have hk0 : (-9223372036854775808 : Int) <= x0 /\ x0 <= 9223372036854775807 := hk
   by_cases hx : x0 < 0 ∨ 65535 < x0
   . rw [if_pos hx] at h
     injection h with h; injection h with e1 e2; subst e1; subst e2
     refine (d1c x0 w hk0.1 hk0.2 hx).mono ?_
     rintro e w' ⟨rfl, rfl⟩
     refine ⟨[.slice none 0 0, .int .i64 2], { g with Γ := fun b => if b < w'.heap.size then g.Γ b else .imm }, rfl, fun E' => ⟨rfl, fun k y hk => ?_⟩, ⟨⟨rfl, rfl, rfl, GB _, fun b _ => rfl⟩, fun b hlt => if_pos hlt, fun b hge => by
      show Perm.still (if b < w'.heap.size then g.Γ b else .imm) = true
      rw [if_neg (by omega)]; rfl, rfl, rfl⟩⟩
     rcases k with _ | _ | k
     . simp at hk; subst hk
       exact .v _ _ _ (.bytes [] none 0 0 rfl (GB _) (Hl _) (fun k x hx => by simp at hx)) trivial
     . simp at hk; subst hk
       exact .v _ _ _ (.int .i64 2 (by decide)) trivial
     . simp at hk
   . rw [if_neg hx] at h
     injection h with h; injection h with e1 e2; subst e1; subst e2
     refine (d3h x0 w hk0.1 hk0.2 (fun h => hx (.inl h)) (fun h => hx (.inr h))).mono ?_
     rintro e w' ⟨rfl, hh, hb⟩
     have hge : ∀ o, j9 { g with Γ := fun b => if b < w.heap.size then g.Γ b else .imm } w.heap.size o := by
      intro o
      unfold j9
      show (match (if w.heap.size < w.heap.size then g.Γ w.heap.size else .imm) with | .imm => True | .low n => o < n | .own _ n => o < n | .box _ _ => False)
      rw [if_neg (by omega)]; trivial
     have hn : ∀ z : Int, 0 <= z -> z < 256 -> (JW GI z) = .int .u8 ((Gz z.toNat).toNat : Int) := by
      intro z h0 h1
      rw [Iy, Ii (by omega), Int.toNat_of_nonneg h0]
     refine ⟨[.slice (some ⟨w.heap.size, 0, none⟩) 2 2, .int .i64 0], { g with Γ := fun b => if b < w.heap.size then g.Γ b else .imm }, rfl, fun E' => ⟨rfl, fun k y hk => ?_⟩, ⟨⟨hb.os, hb.tape, hb.output, hb.size, hb.block⟩, fun b hlt => if_pos hlt, fun b hge => by
      show Perm.still (if b < w.heap.size then g.Γ b else .imm) = true
      rw [if_neg (by omega)]; rfl, rfl, rfl⟩⟩
     rcases k with _ | _ | k
     . simp at hk; subst hk
       refine .v _ _ _ (.bytes _ _ 2 2 rfl (GB _) (by unfold maxLen; omega) (fun k x hx => ⟨_, _, rfl, hge _, ?_⟩)) trivial
       have hc := HY w' w.heap.size (0 + k) _ _ _ hh
       rw [hc]
       rcases k with _ | _ | k
       . simp at hx; subst hx
         rw [← hn _ (by omega) (by omega)]; rfl
       . simp at hx; subst hx
         rw [← hn _ (by omega) (by omega)]; rfl
       . simp at hx
     . simp at hk; subst hk
       exact .v _ _ _ (.int .i64 0 (by decide)) trivial
     . simp at hk
 . cases h
end En

namespace En
open Go
def WC (c c₁ : D) : Prop := c = c₁ ∨ ∃ x a, c = .v x .no /\ c₁ = .v x a
def WCs : List D -> List D -> Prop
 | [], [] => True
 | c :: r, c₁ :: r₁ => WC c c₁ /\ WCs r r₁
 | _, _ => False
def WB (B B₁ : Bx) : Prop := B.ty = B₁.ty /\ WCs B.cells B₁.cells
def WBs : List Bx -> List Bx -> Prop
 | [], [] => True
 | B :: r, B₁ :: r₁ => WB B B₁ /\ WBs r r₁
 | _, _ => False
theorem WCs.get : ∀ {l l₁ : List D}, WCs l l₁ -> l₁.length = l.length /\ ∀ (i : Nat) c c₁, l[i]? = some c -> l₁[i]? = some c₁ -> WC c c₁
 | [], [], _ => ⟨rfl, fun i c c₁ h => by simp at h⟩
 | c :: l, c₁ :: l₁, ⟨h1, h2⟩ => by
   obtain ⟨a, b⟩ := WCs.get h2
   refine ⟨by simp [a], fun i z z₁ hz hz₁ => ?_⟩
   rcases i with _ | i
   . simp at hz hz₁; subst hz hz₁; exact h1
   . exact b i z z₁ (by simpa using hz) (by simpa using hz₁)
theorem WBs.get : ∀ {l l₁ : List Bx}, WBs l l₁ -> l₁.length = l.length /\ ∀ (i : Nat) c c₁, l[i]? = some c -> l₁[i]? = some c₁ -> WB c c₁
 | [], [], _ => ⟨rfl, fun i c c₁ h => by simp at h⟩
 | c :: l, c₁ :: l₁, ⟨h1, h2⟩ => by
   obtain ⟨a, b⟩ := WBs.get h2
   refine ⟨by simp [a], fun i z z₁ hz hz₁ => ?_⟩
   rcases i with _ | i
   . simp at hz hz₁; subst hz hz₁; exact h1
   . exact b i z z₁ (by simpa using hz) (by simpa using hz₁)
theorem WBs.at_ {l l₁ : List Bx} (h : WBs l l₁) {i : Nat} {c : Bx} (hc : l[i]? = some c) : ∃ c₁, l₁[i]? = some c₁ /\ WB c c₁ := by
 have hi : i < l₁.length := by rw [h.get.1]; exact (GD.1 hc).1
 exact ⟨_, GH hi, h.get.2 i _ _ hc (GH hi)⟩
theorem WBs.at' {l l₁ : List Bx} (h : WBs l l₁) {i : Nat} {c : Bx} (hc : l₁[i]? = some c) : ∃ c₁, l[i]? = some c₁ /\ WB c₁ c := by
 have hi : i < l.length := by rw [← h.get.1]; exact (GD.1 hc).1
 exact ⟨_, GH hi, h.get.2 i _ _ (GH hi) hc⟩
theorem WB.renX {Q : Nat -> Nat -> Nat -> Prop} {B B₁ : Bx} (h : WB B B₁) (hc : B₁.cells.all D.calm = true) : BRenX Q B B₁ := by
 obtain ⟨a, b⟩ := h.2.get
 refine ⟨h.1.symm, a, fun i c c₁ h1 h2 => ?_⟩
 rcases b i c c₁ h1 h2 with e | ⟨x, a, e1, e2⟩
 . subst e; exact .inl (b2v (Ib.1 hc c (IC h2)))
 . exact .inr ⟨x, a, e1, e2⟩
theorem c0k : ∀ (Bs : List Bx), b3l Bs = true -> ∀ (j : Nat) B, Bs[j]? = some B -> B.cells.all D.calm = true
 | [], _, j, B, h => by simp at h
 | B :: Bs, h, j, B', hj => by
   simp only [b3l, GP] at h
   rcases j with _ | j
   . simp at hj; subst hj; exact h.1
   . exact c0k Bs h.2 j B' (by simpa using hj)
section
variable {R : Type} {P : Hb} {T : GF -> Option Ty} {cx : Cx} {E : Env} {g : G} {w : GG}
theorem o9 (hm : P.follows .mixedOrders = true) (hcx : CxOK P cx) {f : Hg} {fn : Func} (hf : P.funcs[f]? = some fn) (hb : fn.body = some (d5 fn)) (hro : (drawnOf (d5 fn)).all (a6o cx) = true) (hl : v8 cx fn.ntmps (d5 fn))
 {ds₁ : List D} (a0o : Nat.ble ds₁.length fn.ntmps = true) {Bs Bs' : List Bx} (hc : b3l Bs = true) (hlen : Bs'.length = Bs.length) {α : Type} {rf : List D -> Mem -> Option α} {r : α} (h : g8 cx fn ds₁ [C0 0 Bs] rf = some r)
 {rs : List D} (hrs : ∀ rs' m', rf rs' m' = some r -> fars rs' = true /\ bares rs' = rs /\ ∃ own Bs₂, m' = [own, C0 0 Bs₂] /\ b3l Bs₂ = true /\ WBs Bs' Bs₂) : ViewRet P cx.T f ds₁ Bs rs Bs' := by
 intro ps ds m dst Q4 a0y hlB har
 obtain ⟨a1, a2⟩ := har.get
 refine b2C hcx hf hb (a0u hm hcx hro) hl (Ha a0o) Q4 (Bs₁ := Bs) (fun j p hj => ?_) hlB a1 a2 h (by rw [hlen, hlB]) (fun rs' m' hr => ?_) dst
 . obtain ⟨B, h1, h2⟩ := a0y j p hj
   exact ⟨B, B, h1, h2, b4X Bs hc j B h2⟩
 . obtain ⟨b1, b2, own, Bs₂, b3, b4, b5⟩ := hrs rs' m' hr
   exact ⟨b1, b2, own, Bs₂, b3, fun j p B' hj hB => by
    obtain ⟨B₂, c1, c2⟩ := b5.at_ hB
    exact ⟨B₂, c1, c2.renX (c0k Bs₂ b4 j B₂ c1)⟩⟩
theorem Here.congr {m m' : Mem} (h : Here T E g w m) (hl : m'.length = m.length) (hb : ∀ k s, m'.box? k s = m.box? k s) : Here T E g w m' :=
 ⟨fun k s b hh => h.mem k s b (by rw [← hb]; exact hh), by
  rw [h.dom]; funext k s; unfold t9; rw [hb], h.sk, by rw [hl]; exact h.len⟩
theorem b5O {m m' : Mem} (hh : Here T E g w m) (hl : m'.length = m.length) (hb : ∀ k s B', m'.box? k s = some B' -> ∃ B, m.box? k s = some B /\ WB B' B) (hd : ∀ k s, t9 m k s -> t9 m' k s) : Here T E g w m' := by
 refine ⟨fun k s B' hB' => ?_, ?_, hh.sk, by rw [hl]; exact hh.len⟩
 . obtain ⟨B, h1, h2, h3⟩ := hb k s B' hB'
   obtain ⟨h4, h5⟩ := h3.get
   have hr := hh.mem k s B h1
   obtain ⟨us, b1, b2, b3⟩ := hr.heap
   refine ⟨hr.le, hr.perm, us, by rw [h2]; exact b1, by rw [b2, h4], fun i c' hc => ?_⟩
   have hi : i < B.cells.length := by rw [h4]; exact (GD.1 hc).1
   obtain ⟨a1, a2, a3, a4⟩ := b3 i _ (GH hi)
   rcases h5 i c' _ hc (GH hi) with e | ⟨x, a, e1, e2⟩
   . rw [e]; exact ⟨a1, a2, a3, a4⟩
   . rw [e2] at a1 a4
     subst e1
     refine ⟨a1, rfl, fun e => (by cases e), ?_⟩
     cases a with
     | no => exact .v _ _ _ (O0 a4) trivial
     | nil e => exact .v _ _ _ (O0 a4) trivial
     | own p e => exact .v _ _ _ (O0 a4) trivial
 . rw [hh.dom]
   funext k s
   refine propext ⟨hd k s, fun ⟨B', hB'⟩ => ?_⟩
   obtain ⟨B, h1, _⟩ := hb k s B' hB'
   exact ⟨B, h1⟩
theorem ViewRet.weakIn {f : Hg} {ds : List D} {Bs Bs0 Bs' : List Bx} {rs : List D} (h : ViewRet P T f ds Bs rs Bs') (hw : WBs Bs Bs0) (hlen : Bs'.length = Bs.length) : ViewRet P T f ds Bs0 rs Bs' := by
 intro ps ds0 m dst Q4 a0y hlB har E g w us hh hus
 have hl : Bs.length = ps.length := by rw [← hlB, hw.get.1]
 have hpb : ∀ (j : Nat) (p : Nat × Nat), ps[j]? = some p -> ∃ B B0, Bs[j]? = some B /\ Bs0[j]? = some B0 /\ m.box? p.1 p.2 = some B0 /\ WB B B0 := fun j p hj => by
  obtain ⟨B0, h1, h2⟩ := a0y j p hj
  obtain ⟨B, h3, h4⟩ := hw.at' h2
  exact ⟨B, B0, h3, h2, h1, h4⟩
 have hset : ∀ (j : Nat) (p : Nat × Nat), ps[j]? = some p -> ∀ (Cs : List Bx) (C : Bx) (m : Mem), Cs[j]? = some C -> p.1 < m.length -> (D4 ps Cs m).box? p.1 p.2 = some C := fun j p hj Cs C m hC hlt => a3b ps Cs m j p.1 p.2 C Q4 hj hC hlt
 have hlt : ∀ (j : Nat) (p : Nat × Nat), ps[j]? = some p -> p.1 < m.length := fun j p hj => by
  obtain ⟨B0, h1, _⟩ := a0y j p hj
  exact a4a _ _ _ _ h1
 have hh1 : Here T E g w (D4 ps Bs m) := by
  refine b5O hh (P8 _ _ _) (fun k s B' hB' => ?_) (fun k s hx => ?_)
  . by_cases hx : ∃ j : Nat, ps[j]? = some (k, s)
    . obtain ⟨j, hj⟩ := hx
      obtain ⟨B, B0, h1, h2, h3, h4⟩ := hpb j _ hj
      rw [hset j _ hj Bs B m h1 (hlt j _ hj)] at hB'
      injection hB' with hB'
      subst hB'
      exact ⟨B0, h3, h4⟩
    . rw [F7 ps Bs m (fun j hj => hx ⟨j, hj⟩)] at hB'
      refine ⟨B', hB', rfl, ?_⟩
      have : ∀ l : List D, WCs l l := fun l => by
       induction l with
       | nil => trivial
       | cons c l ih => exact ⟨.inl rfl, ih⟩
      exact this _
  . by_cases hy : ∃ j : Nat, ps[j]? = some (k, s)
    . obtain ⟨j, hj⟩ := hy
      obtain ⟨B, B0, h1, h2, h3, h4⟩ := hpb j _ hj
      exact ⟨B, hset j _ hj Bs B m h1 (hlt j _ hj)⟩
    . unfold t9
      rw [F7 ps Bs m (fun j hj => hy ⟨j, hj⟩)]
      exact hx
 have d7k : RepDs (inner E (D4 ps Bs m)) g w [] ds0 us := by
  have e : inner E (D4 ps Bs m) = inner E m := by
   unfold inner
   congr 1
   funext k s
   unfold t9
   rcases k with _ | k
   . rfl
   . show (∃ b, (D4 ps Bs m).box? k s = some b) = (∃ b, m.box? k s = some b)
     have h1 := hh1.dom
     have h2 := hh.dom
     have h3 : t9 (D4 ps Bs m) k s = t9 m k s := by rw [← h1, ← h2]
     exact h3
  rw [e]; exact hus
 refine (h ps ds0 (D4 ps Bs m) dst Q4 (fun j p hj => ?_) hl har E g w us hh1 d7k).mono ?_
 . obtain ⟨B, B0, h1, h2, h3, h4⟩ := hpb j _ hj
   exact ⟨B, hset j _ hj Bs B m h1 (hlt j _ hj), h1⟩
 . rintro e w' ⟨us', g', E', a1, a2, a3, a4, a5⟩
   refine ⟨us', g', E', a1, a2, a3.congr (by simp [P8]) fun k s => ?_, a4, a5⟩
   by_cases hx : ∃ j : Nat, ps[j]? = some (k, s)
   . obtain ⟨j, hj⟩ := hx
     have hj' : j < Bs'.length := by rw [hlen, hl]; exact (GD.1 hj).1
     rw [hset j _ hj Bs' _ m (GH hj') (hlt j _ hj), hset j _ hj Bs' _ (D4 ps Bs m) (GH hj') (by rw [P8]; exact hlt j _ hj)]
   . rw [F7 ps Bs' m (fun j hj => hx ⟨j, hj⟩), F7 ps Bs' _ (fun j hj => hx ⟨j, hj⟩), F7 ps Bs m (fun j hj => hx ⟨j, hj⟩)]
def Perm.adopt (s d dst : Nat) : Perm -> Perm
 | .imm => .imm
 | .low n => .low n
 | .own p n => (match p with | .cell d' s' i => if d' = 0 /\ s' = s then .own (.cell d dst i) n else .low n | .slot _ _ => .low n)
 | .box d' s' => if d' = 0 /\ s' = s then .box d dst else .low 0
def G.adopt (g g' : G) (n s d dst : Nat) : G :=
 { Γ := fun b => if b < n then g.Γ b else (g'.Γ b).adopt s d dst, J := fun d' s' => if d' = d /\ s' = dst then g'.J 0 s else g.J d' s', sz := g.sz }
theorem b5P (hm : P.follows .mixedOrders = true) (hcx : CxOK P cx) {f : Hg} {fn : Func} (hf : P.funcs[f]? = some fn) (hb : fn.body = some (d5 fn)) (hro : (drawnOf (d5 fn)).all (a6o cx) = true) (hl : v8 cx fn.ntmps (d5 fn))
 {ds : List D} (a0o : Nat.ble ds.length fn.ntmps = true) (b3P : fars ds = true) (b3Q : bares ds = ds) {rf : List D -> Mem -> Option R} {r : R} (h : g8 cx fn ds [] rf = some r)
 {B : Bx} (d6S : B.cells.all D.calm = true) (hrs : ∀ rs' m', rf rs' m' = some r -> ∃ s fr, rs' = [.ptr 0 s 0] /\ m' = [fr] /\ D7 s fr = some B)
 {m : Mem} {dst : Nat} (hn : m.box? 0 dst = none) : MemRet P cx.T f dst ds m [.ptr 0 dst 0] (m.setBox 0 dst B) := by
 intro E g w us hh hus
 have hh0 : Here cx.T ⟨0, t9 [[]]⟩ g.hide w ([] :: []) := by
  refine ⟨fun k s b hb => ?_, rfl, hh.sk.later (a0V g w), rfl⟩
  exfalso
  rcases k with _ | k
  . simp [Mem.box?, D7] at hb
  . simp [Mem.box?] at hb
 have hr : RepDs ⟨0, t9 [[]]⟩ g.hide w [] ds us := by
  have := hus.far_ (E' := ⟨0, t9 [[]]⟩) (dead' := []) (a0V g w) b3P
  rwa [b3Q] at this
 have hml : 0 < m.length := by rw [hh.len]; omega
 refine a6i hcx hf hb (a0u hm hcx hro) hl (Ha a0o) hh0 hr h fun rs' us' m' E' g' w' h1 h2 h3 h4 h5 => ?_
 obtain ⟨s, fr, rfl, rfl, hB⟩ := hrs rs' m' h1
 have h4 : E'.d = 0 := h4
 have hold : ∀ b, b < w.heap.size -> g'.Γ b = g.hide.Γ b /\ w'.heap[b]? = w.heap[b]? := fun b hb => h5.hid b hb (a6y _)
 have hbx := h2.mem 0 s B hB
 obtain ⟨cs, c1, c2, c3⟩ := hbx.heap
 have hpx := hbx.perm
 rw [h4] at c1 hpx
 have c1 : w'.heap[g'.J 0 s]? = some (.cells cs B.ty (0, 0)) := c1
 have hpx : g'.Γ (g'.J 0 s) = .box 0 s := hpx
 have hxn : ¬ g'.J 0 s < w.heap.size := fun hlt => by
  have h6 := (hold _ hlt).1
  rw [hpx] at h6
  simp only [G.hide] at h6
  rcases a6y (g.Γ (g'.J 0 s)) with e | ⟨n, e⟩ <;> rw [e] at h6 <;> cases h6
 have hset : Later g' w' (g.adopt g' w.heap.size s E.d dst) w' := by
  refine ⟨?_, fun b o v a1 a2 => ⟨?_, a2⟩, fun b x a1 a2 => ⟨?_, a2⟩⟩
  . show g.sz = g'.sz
    rw [h5.later.sz]; rfl
  . unfold j9 G.adopt
    simp only
    by_cases hb : b < w.heap.size
    . rw [if_pos hb]
      have : j9 g.hide b o := by unfold j9 at a1 ⊢; rw [(hold b hb).1] at a1; exact a1
      exact (a1S g b o).1 this
    . rw [if_neg hb]
      unfold j9 at a1
      cases hp : g'.Γ b with
      | imm => trivial
      | low n => rw [hp] at a1; exact a1
      | own p n =>
        rw [hp] at a1
        cases p with
        | slot a c => exact a1
        | cell a c i =>
          by_cases hc : a = 0 /\ c = s
          . simp only [Perm.adopt, if_pos hc]; exact a1
          . simp only [Perm.adopt, if_neg hc]; exact a1
      | box a c => rw [hp] at a1; exact a1.elim
  . unfold G.adopt
    simp only
    by_cases hb : b < w.heap.size
    . rw [if_pos hb]
      rw [(hold b hb).1] at a1
      simp only [G.hide] at a1
      cases hp : g.Γ b <;> rw [hp] at a1 <;> first | rfl | cases a1
    . rw [if_neg hb, a1]; rfl
 have hlat : Later g w (g.adopt g' w.heap.size s E.d dst) w' := ((a0V g w).trans h5.later).trans hset
 have hJ : ∀ k s', k <= E.d -> E.dom k s' -> (g.adopt g' w.heap.size s E.d dst).J (E.d - k) s' = g.J (E.d - k) s' := fun k s' hk hd => by
  show (if E.d - k = E.d /\ s' = dst then g'.J 0 s else g.J (E.d - k) s') = _
  rw [if_neg]
  rintro ⟨e1, rfl⟩
  have : k = 0 := by omega
  subst this
  rw [hh.dom] at hd
  obtain ⟨b, hb⟩ := hd
  rw [hn] at hb
  cases hb
 have hΓ : ∀ b, b < w.heap.size -> (g.adopt g' w.heap.size s E.d dst).Γ b = g.Γ b := fun b hb => if_pos hb
 have hown : ∀ p e v, p8 g w p e v -> p8 (g.adopt g' w.heap.size s E.d dst) w' p e v := fun p e v ho => by
  rcases ho with h0 | ⟨b, n, cap, cur, a1, a2, a3, a4⟩
  . exact .inl h0
  . have hb := J0 a3
    exact .inr ⟨b, n, cap, cur, a1, by rw [hΓ b hb]; exact a2, by rw [(hold b hb).2]; exact a3, a4⟩
 have d6T : ∀ i e v, p8 g' w' (.cell 0 s i) e v -> p8 (g.adopt g' w.heap.size s E.d dst) w' (.cell E.d dst i) e v := fun i e v ho => by
  rcases ho with h0 | ⟨b, n, cap, cur, a1, a2, a3, a4⟩
  . exact .inl h0
  . have hb : ¬ b < w.heap.size := fun hlt => by
     have h6 := (hold _ hlt).1
     rw [a2] at h6
     simp only [G.hide] at h6
     rcases a6y (g.Γ b) with e | ⟨n, e⟩ <;> rw [e] at h6 <;> cases h6
    have hsz : (g.adopt g' w.heap.size s E.d dst).sz = g'.sz := hset.sz
    refine .inr ⟨b, n, cap, cur, a1, ?_, a3, by rw [hsz]; exact a4⟩
    show (if b < w.heap.size then g.Γ b else (g'.Γ b).adopt s E.d dst) = _
    rw [if_neg hb, a2]
    simp only [Perm.adopt]
    rw [if_pos (by simp), hsz]
 have hJx : (g.adopt g' w.heap.size s E.d dst).J (E.d - 0) dst = g'.J 0 s := if_pos ⟨by omega, rfl⟩
 refine ⟨us', g.adopt g' w.heap.size s E.d dst, ⟨E.d, t9 (m.setBox 0 dst B)⟩, rfl, ⟨hlat, rfl, fun k s' hd => ?_, hJ, fun s' e v ho => hown _ _ _ ho⟩, ⟨fun k s' b hbx' => ?_, rfl, hh.sk.later hlat, by rw [D0]; exact hh.len⟩, ?_, ?_⟩
 . show ∃ b, (m.setBox 0 dst B).box? k s' = some b
   rw [C5]
   split
   . exact ⟨B, rfl⟩
   . rw [hh.dom] at hd; exact hd
 . rw [C5] at hbx'
   split at hbx'
   . rename_i hx
     obtain ⟨rfl, rfl, _⟩ := hx
     injection hbx' with hbx'
     subst hbx'
     refine ⟨Hl _, ?_, cs, by rw [hJx]; exact c1, c2, fun i c hc => ?_⟩
     . rw [hJx]
       show (if g'.J 0 s < w.heap.size then g.Γ _ else (g'.Γ (g'.J 0 s)).adopt s E.d s') = _
       rw [if_neg hxn, hpx]
       simp only [Perm.adopt]
       rw [if_pos (by simp)]
       rfl
     . obtain ⟨b1, b2, b3, b4⟩ := c3 i c hc
       refine ⟨b1, b2, fun e => ?_, ?_⟩
       . rw [hJx]
         have := b3 e
         rw [h4] at this
         exact this
       . have hcc := Ib.1 d6S c (IC hc)
         generalize cs.getD i undef = u at b4 ⊢
         cases c with
         | v x a =>
           cases a with
           | no => exact .v _ _ _ ((O0 b4).later hset) trivial
           | nil e => cases b4 with | v x a v h ha => exact .v _ _ _ (h.later hset) ha
           | own p e =>
             cases b4 with
             | v x a v h ha =>
               rcases ha with ha | ⟨_, ha⟩
               . cases ha
               . refine .v _ _ _ (h.later hset) (.inr ⟨Hl _, ?_⟩)
                 refine d6T i e _ ?_
                 have : p8 g' w' (.cell (E'.d - 0) s i) e u := ha
                 rw [h4] at this
                 exact this
         | bld => exact .any _
         | nilp => cases b4; exact .nilp
         | nilF => cases b4; exact .nilF
         | eptr xs o => cases b4 with | eptr _ _ b off us h hr => exact .eptr xs o b off us (fun k y hy => hset.st _ _ _ (h k y hy).1 (h k y hy).2) (fun k y hy => (hr k y hy).later hset)
         | _ => cases hcc
   . rename_i hx
     have hr := hh.mem k s' b hbx'
     obtain ⟨us2, a1, a2, a3⟩ := hr.heap
     have hlt := J0 a1
     have hd : E.dom k s' := by rw [hh.dom]; exact ⟨b, hbx'⟩
     have hJ' := hJ k s' hr.le hd
     refine ⟨hr.le, ?_, us2, ?_, a2, fun i c hc => ?_⟩
     . show (g.adopt g' w.heap.size s E.d dst).Γ ((g.adopt g' w.heap.size s E.d dst).J (E.d - k) s') = _
       rw [hJ', hΓ _ hlt]; exact hr.perm
     . show w'.heap[(g.adopt g' w.heap.size s E.d dst).J (E.d - k) s']? = _
       rw [hJ', (hold _ hlt).2]; exact a1
     . obtain ⟨b1, b2, b3, b4⟩ := a3 i c hc
       refine ⟨b1, b2, fun e => by
        show b5X ((g.adopt g' w.heap.size s E.d dst).J (E.d - k) s') _
        rw [hJ']; exact b3 e, ?_⟩
       refine a2E (E' := ⟨E.d, t9 (m.setBox 0 dst B)⟩) b2 b4 (by simp) (fun _ _ => true) hlat rfl (fun k s' hd _ => ?_) (fun k s' hk hd _ => hJ k s' hk hd) (fun e v ho => hown _ _ _ ho) (fun _ => true) (fun _ _ _ _ => rfl) (fun _ _ _ _ _ => rfl) (fun _ _ _ _ _ _ => rfl) (fun _ _ _ _ _ => rfl) (fun _ _ _ _ _ => rfl) rfl (fun _ _ => rfl)
       show ∃ b, (m.setBox 0 dst B).box? k s' = some b
       rw [C5]
       split
       . exact ⟨B, rfl⟩
       . rw [hh.dom] at hd; exact hd
 . refine ⟨h3.1, fun k y hk => ?_⟩
   rcases k with _ | k
   . simp at hk
     subst hk
     have h6 := h3.2 0 _ rfl
     have h7 : ∀ u, RepD E' g' w' [] (.ptr 0 s 0) u -> u = .pointer (some ⟨g'.J 0 s, 0, none⟩) := fun u hu => by
      cases hu with | ptr k s o hk hd => rw [h4]
     rw [h7 _ h6, ← hJx]
     exact .ptr (E := ⟨E.d, t9 (m.setBox 0 dst B)⟩) 0 dst 0 (Hl _) (by
      show ∃ b, (m.setBox 0 dst B).box? 0 dst = some b
      rw [C5, if_pos ⟨rfl, rfl, hml⟩]; exact ⟨B, rfl⟩)
   . simp at hk
 . exact ⟨h5.os, h5.tape, h5.output, h5.size, hlat, fun b hb _ => ⟨hΓ b hb, (hold b hb).2⟩, fun d' s' hd => if_neg (by rintro ⟨e, _⟩; omega)⟩
theorem b0b {f : Hg} {ds rs : List D} (h : F6 P T f ds rs) (b3P : fars ds = true) (b3Q : bares ds = ds) (m : Mem) (dst : Nat) : MemRet P T f dst ds m rs m := by
 intro E g w us hh hus
 have hr : RepDs E g w [] ds us := by
  have := hus.far_ (E' := E) (dead' := []) (Later.refl g w) b3P
  rwa [b3Q] at this
 refine (h E g w us hh.sk hr).mono ?_
 rintro e w' ⟨us', g', rfl, h1, h2⟩
 exact ⟨us', g', E, rfl, ⟨h2.later, rfl, fun _ _ h => h, fun _ _ _ _ => by rw [h2.J], fun _ _ _ ho => h2.own ho⟩, h2.here hh, h1 E, h2.tr E.d⟩
end
end En
section
open Go.RowKit
theorem a9u : (Tryz.prog.info? 5).map (fun i => (i.zero, i.size, i.bytes)) = some (some (.int .u8 0), 1, 1) := by kernel_rfl
theorem R0 (ls : List (List UInt8)) (k : Nat) : (ls.take k).flatten.length <= ls.flatten.length := by
 conv => rhs; rw [← Ip k ls]
 rw [JN, GW]
 omega
theorem M4 (ls : List (List UInt8)) (k : Nat) (h : k < ls.length) : (ls.take (k + 1)).flatten = (ls.take k).flatten ++ ls[k] := by
 rw [Jq h, JN]; simp
set_option maxHeartbeats 400000 in
theorem a3T (A : Option Addr) (n c : Nat) (ls : List (List UInt8)) (w : GG) (h : IsBB w A n c ls) (hn : ls.flatten.length <= 1000000) :
 Hq Tryz.prog 18 #[.slice A n c] w fun e w' => ∃ A' n' c', e = .returned (.slice A' n' c') /\ Own w' w.heap.size 5 A' n' c' (ls.flatten.map u8) /\ Below w.heap.size w w' := by
 obtain ⟨i0, hi0, hz0, hz1, hz2⟩ := Kt a9u
 have c2l : n <= 9223372036854775807 := by have h1 := h.cap; have h2 := h.max; unfold maxLen at h2; omega
 have H := GO h
 have HI := GO (GN hi0 (GN hz0 (GN hz1 hz2)))
 clear h hi0 hz0 hz1 hz2
 go_enter Tryz.func18, Tryz.ntmps18
 go_wp2
 go_loopg [3, 8] n (fun g v i wr => ∃ k A' n' c', k <= n /\ g = n - k /\ i = .int .i64 (k : Int) /\ v = .slice A' n' c' /\ Own wr w.heap.size 5 A' n' c' ((ls.take k).flatten.map u8) /\ Below w.heap.size w wr)
 case atStart => exact ⟨0, none, 0, 0, by omega, rfl, rfl, rfl, Own.nil _ _, Below.refl _ _⟩
 case round =>
  obtain ⟨k, A', n', c', hk, hg, rfl, rfl, hown, hb⟩ := hrel
  by_cases hlt : k < n
  . have hl : k < ls.length := by have := H.out.len; omega
    obtain ⟨A2, n2, c2, ⟨b, off, rfl, hc⟩, hr⟩ := H.out.at_ k _ (GH hl)
    have hc2 : wr.cell? ⟨b, off + k, none⟩ = some (.slice A2 n2 c2) := by
     rw [hb.cell (p := ⟨b, off + k, none⟩) (Hx w _ hc)]; exact hc
    have hr2 : Rd wr A2 n2 c2 (ls[k].map u8) := hr.below hb
    have hle := R0 ls (k + 1)
    have a4F := M4 ls k hl
    have hn' : n' = (ls.take k).flatten.length := by have := hown.1; rw [II] at this; omega
    have hn2 : n2 = ls[k].length := by have := hr2.len; rw [II] at this; omega
    have a3Q : n' + n2 <= 1000000 := by rw [a4F, GW] at hle; omega
    have Hs := GO a4F
    have Hn := GO (GN hn' hn2)
    clear a4F hle hn' hn2
    go_wp2_with (at_builtin; refine O8 _ rfl (.tmp 12) (.tmp 13) 22 rfl w.heap.size 5 i0 _ 1 Tryz.underlying22 HI.out.1 HI.out.2.1 HI.out.2.2.1 HI.out.2.2.2 rfl A' n' c' _ rfl hown A2 n2 c2 _ rfl hr2 (b7j _) ?_ (by omega) hb.size ?_)
    case _ => omega
    intro A3 c3 w3 b3S hg3 _
    have hb3 := hb.grown hg3 hb.size (hown.block)
    go_wp2
    go_roundg (n - (k + 1))
    case measure => omega
    case rel =>
     refine ⟨k + 1, A3, n' + n2, c3, by omega, rfl, by go_num, rfl, ?_, hb3⟩
     rw [Hs.out]; simpa using b3S
  . go_wp2
    go_ret
    refine ⟨A', n', c', rfl, ?_, hb⟩
    have : k = ls.length := by have := H.out.len; omega
    rw [this, IU] at hown
    exact hown
end
section
def b7t (xs : List UInt8) : UInt8 := xs.foldl (· ^^^ ·) 0
theorem c7F (xs : List UInt8) (b : UInt8) : b7t (xs ++ [b]) = b7t xs ^^^ b := by simp [b7t]
theorem c0p (a b : UInt8) : bits .xor .u8 (a.toNat : Int) (b.toNat : Int) = ((a ^^^ b).toNat : Int) := by
 rw [u8_xor_nat _ _ (He a) (He b)]; simp
def U1 (r : Nat) : Nat := if r % 2 = 1 then (r / 2) ^^^ 33800 else r / 2
def G9 : Nat -> Nat -> Nat
 | 0, r => r
 | k + 1, r => U1 (G9 k r)
def a7z (r : Nat) : Nat := G9 8 r
def b4f (xs : List UInt8) : Nat := xs.foldl (fun r b => a7z (r ^^^ b.toNat)) 65535
theorem c6f (xs : List UInt8) (b : UInt8) : b4f (xs ++ [b]) = a7z (b4f xs ^^^ b.toNat) := by simp [b4f]
theorem c3t (r : Nat) (h : r < 65536) : U1 r < 65536 := by
 unfold U1
 split
 . exact KO (n := 16) (by omega) (by omega)
 . omega
theorem a9k (k r : Nat) (h : r < 65536) : G9 k r < 65536 := by
 induction k with
 | zero => exact h
 | succ k ih => exact c3t _ ih
theorem c5C (r : Nat) (h : r < 65536) : a7z r < 65536 := a9k 8 r h
theorem c0V (r : Nat) (b : UInt8) (h : r < 65536) : r ^^^ b.toNat < 65536 :=
 KO (n := 16) (by omega) (by have := He b; omega)
theorem c4H (xs : List UInt8) : b4f xs < 65536 := by
 unfold b4f
 have : ∀ (xs : List UInt8) r, r < 65536 -> xs.foldl (fun r b => a7z (r ^^^ b.toNat)) r < 65536 := by
  intro xs
  induction xs with
  | nil => intro r h; exact h
  | cons b xs ih => intro r h; exact ih _ (c5C _ (c0V r b h))
 exact this xs _ (by omega)
theorem c0d (a b : Nat) : U1 (a ^^^ b) = U1 a ^^^ U1 b := by
 have hm : (a ^^^ b) % 2 = (a % 2 + b % 2) % 2 := by
  have := LQ (a := a) (b := b) (n := 1)
  simp only [Nat.pow_one] at this
  rw [this]
  rcases It a with h | h <;> rcases It b with g | g <;> rw [h, g] <;> decide
 have hd : (a ^^^ b) / 2 = a / 2 ^^^ b / 2 := by
  have := KP (a := a) (b := b) (i := 1)
  simpa [KR] using this
 unfold U1
 rw [hm, hd]
 rcases It a with h | h <;> rcases It b with g | g <;> rw [h, g] <;> simp
 . rw [Kw]
 . rw [Kw, NY (b / 2), Kw]
 . rw [Kw, NY (b / 2), ← Kw 33800 33800, Nat.xor_self, Nat.zero_xor]
theorem b7g (k a b : Nat) : G9 k (a ^^^ b) = G9 k a ^^^ G9 k b := by
 induction k with
 | zero => rfl
 | succ k ih => simp only [G9]; rw [ih, c0d]
theorem b7s (k y j : Nat) (h : k <= j) : G9 k (y * 2 ^ j) = y * 2 ^ (j - k) := by
 induction k with
 | zero => rfl
 | succ k ih =>
   simp only [G9]
   rw [ih (by omega)]
   have : y * 2 ^ (j - k) = 2 * (y * 2 ^ (j - (k + 1))) := by
    rw [show j - k = (j - (k + 1)) + 1 by omega, Nat.pow_succ]; rw [← Nat.mul_assoc, Mp]
   rw [this]
   unfold U1
   rw [if_neg (by omega)]
   omega
theorem c3g (r : Nat) : a7z r = r / 256 ^^^ a7z (r % 256) := by
 have h : r = (r / 256) * 2 ^ 8 ^^^ r % 256 := by
  have h1 := Nat.div_add_mod r 256
  have h2 : (r / 256) * 2 ^ 8 ^^^ r % 256 = (r / 256) * 2 ^ 8 + r % 256 := by
   have hlt : r % 256 < 2 ^ 8 := by omega
   rw [Mp, Nat.two_pow_add_eq_or_of_lt hlt]
   apply LN
   intro i
   simp only [MT, Nat.testBit_or, Nat.testBit_two_pow_mul]
   by_cases hi : 8 <= i
   . have : (r % 256).testBit i = false := Ln (Jj hlt (Ky (by omega) hi))
     simp [this]
   . simp [hi]
  omega
 conv => lhs; rw [h]
 rw [a7z, b7g, b7s 8 _ 8 (by omega)]
 simp [a7z]
theorem c7r (r : Nat) (b : UInt8) : a7z (r ^^^ b.toNat) = r / 256 ^^^ a7z (r % 256 ^^^ b.toNat) := by
 have hb := He b
 rw [c3g]
 have h1 : (r ^^^ b.toNat) / 256 = r / 256 := by
  have := KP (a := r) (b := b.toNat) (i := 8)
  simp only [KR] at this
  rw [show (256 : Nat) = 2 ^ 8 by decide, this, Nat.div_eq_of_lt (by omega : b.toNat < 2 ^ 8)]; simp
 have h2 : (r ^^^ b.toNat) % 256 = r % 256 ^^^ b.toNat := by
  have := LQ (a := r) (b := b.toNat) (n := 8)
  rw [show (256 : Nat) = 2 ^ 8 by decide, this, Ii (by omega : b.toNat < 2 ^ 8)]
 rw [h1, h2]
theorem d0p (n x : Nat) (h : x < 2 ^ n) : (2 ^ n - 1) ^^^ x = 2 ^ n - 1 - x := by
 apply LN
 intro i
 rw [show 2 ^ n - 1 - x = 2 ^ n - (x + 1) by omega, Nat.testBit_two_pow_sub_succ h, MT, Nat.testBit_two_pow_sub_one]
 by_cases hi : i < n
 . simp [hi]
 . have : x.testBit i = false := Ln (Jj h (Ky (by omega) (by omega)))
   simp [hi, this]
theorem d2M (x : Nat) (h : x < 65536) : bits .xor .u16 LO.max (x : Int) = ((65535 - x : Nat) : Int) := by
 have hm : LO.max = ((65535 : Nat) : Int) := rfl
 rw [hm, MI _ _ (by omega) h, d0p 16 x h]
def a0W (xs : List UInt8) : Nat := 65535 - b4f xs
theorem b4O (xs : List UInt8) : a0W xs < 65536 := by unfold a0W; omega
theorem c3M (xs : List UInt8) : bits .xor .u16 LO.max (b4f xs : Int) = (a0W xs : Int) := d2M _ (c4H xs)
def b5p (xs : List UInt8) : UInt8 := Gz (a0W xs % 256)
def b5T (xs : List UInt8) : UInt8 := Gz (a0W xs / 256)
theorem b9w (xs : List UInt8) : (b5p xs).toNat = a0W xs % 256 := by simp [b5p]
theorem c1n (xs : List UInt8) : (b5T xs).toNat = a0W xs / 256 := by have := b4O xs; simp [b5T]; omega
def R5 (k : Int) (xs : List UInt8) : List UInt8 := if k = 0 then [b7t xs] else if k = 1 then [b5p xs, b5T xs] else []
def b6Y (k : Int) : Int := if k = 0 ∨ k = 1 then 0 else 1
def C8 (k : Int) : Nat := if k = 0 then 1 else if k = 1 then 2 else 0
theorem a3X (k : Int) (xs : List UInt8) : (R5 k xs).length = C8 k := by
 unfold R5 C8
 split
 . rfl
 . split <;> rfl
end
section
open Go.RowKit
def a7L (k : Int) : Int := if k = 0 then 1 else if k = 1 then 2 else 0
theorem H4 (k : Int) (w : GG) :
 Hq Tryz.prog 65 #[.int .i64 k] w fun e w' => e = .returned (.int .i64 (a7L k)) /\ w = w' := by
 by_cases h0 : k = 0
 . subst h0
   go_enter Tryz.func65, Tryz.ntmps65
   go_wp2
   go_ret
   exact ⟨rfl, rfl⟩
 by_cases h1 : k = 1
 . subst h1
   go_enter Tryz.func65, Tryz.ntmps65
   go_wp2
   go_ret
   exact ⟨rfl, rfl⟩
 have hs : a7L k = 0 := by simp [a7L, h0, h1]
 rw [hs]
 clear hs
 go_enter Tryz.func65, Tryz.ntmps65
 go_wp2
 go_ret
 exact ⟨rfl, rfl⟩
set_option maxHeartbeats 400000 in
theorem d3k (A : Option Addr) (n c : Nat) (xs : List UInt8) (w : GG) (h : IsB w A n c xs) :
 Hq Tryz.prog 94 #[.slice A n c] w fun e w' => e = .returned (.int .u8 ((b7t xs).toNat : Int)) /\ w = w' := by
 have hn := h.len63
 have hlen := IsB.len h
 have H := GO h
 have HL := GO hlen
 clear h hlen
 go_enter Tryz.func94, Tryz.ntmps94
 go_wp2
 go_loopg [3, 8] n (fun g x i wr => ∃ k, k <= n /\ g = n - k /\ i = .int .i64 (k : Int) /\ x = .int .u8 ((b7t (xs.take k)).toNat : Int) /\ wr = w)
 case atStart => exact ⟨0, by omega, rfl, rfl, rfl, rfl⟩
 case round =>
  obtain ⟨k, hk, hg, rfl, rfl, rfl⟩ := hrel
  by_cases hlt : k < n
  . obtain ⟨x, b, off, hx, rfl, hc, hx8⟩ := IsB.at_ H.out hlt
    have hl8 := He (b7t (xs.take k))
    have HX := GO (c0p (b7t (xs.take k)) x)
    go_wp2
    go_roundg (n - (k + 1))
    case measure => omega
    case rel => exact ⟨k + 1, by omega, rfl, by go_num, by rw [HX.out, b6g hx, c7F], rfl⟩
  . go_wp2
    go_ret
    have : k = xs.length := by rw [HL.out]; omega
    subst this
    exact ⟨by simp, rfl⟩
end
section
open Go.RowKit
theorem d1j (r : Nat) (h : r < 65536) : bits .and .u16 (r : Int) 1 = ((r % 2 : Nat) : Int) := by
 have := u16_and_nat r 1 h (by omega)
 rw [nat_mask1] at this
 exact this
theorem d0i (r : Nat) (h : r < 65536) : bits .xor .u16 (r : Int) 33800 = ((r ^^^ 33800 : Nat) : Int) := MI r 33800 h (by omega)
structure TabRel (w : GG) (k : Nat) (wr : GG) : Prop where
 le : k <= 256
 out : wr.heap[w.heap.size]? = some (.cells Tryz.zeroCells137 137 (0, 0))
 tab : ∃ cs : Array GK, wr.heap[w.heap.size + 1]? = some (.cells cs 137 (0, 0)) /\ cs.size = 256 /\ ∀ j, j < k -> cs[j]? = some (.int .u16 (a7z j : Int))
 size : w.heap.size + 2 <= wr.heap.size
 below : Below w.heap.size w wr
set_option maxHeartbeats 1000000 in
theorem c7m (w : GG) :
 Hq Tryz.prog 96 #[] w fun e w' => ∃ cs : Array GK, e = .returned (.agg cs) /\ cs.size = 256 /\ (∀ j, j < 256 -> cs[j]? = some (.int .u16 (a7z j : Int))) /\ Below w.heap.size w w' := by
 go_enter Tryz.func96, Tryz.ntmps96
 go_wp2_with fail
 go_loopg [5] 256 (fun g i wr => ∃ k, g = 256 - k /\ i = .int .i64 (k : Int) /\ TabRel w k wr)
 case atStart =>
  refine ⟨0, rfl, rfl, ⟨by omega, heap_alloc2_old w _ _, ⟨Tryz.zeroCells137, heap_alloc2_new w _ _, Tryz.zeroCells137_size, fun j h => absurd h (by omega)⟩, by simp, ?_⟩⟩
  exact ((Below.refl _ _).alloc (GB _) _).alloc (by simp) _
 case round =>
  obtain ⟨k, hg, rfl, hrel⟩ := hrel
  by_cases hlt : k < 256
  . have hki : (k : Int) < 256 := by omega
    have HLT := GO hlt
    clear hlt
    have hwr : LO.wrap (k : Int) = k := by rw [IntKind.wrap_u16]; omega
    go_wp2
    obtain ⟨wo, rfl⟩ : ∃ wo : GG, wo = wr := ⟨_, rfl⟩
    go_loopg [3, 10] 8 (fun g r i wr => ∃ m, m <= 8 /\ g = 8 - m /\ i = .int .i64 (m : Int) /\ r = .int .u16 (G9 m k : Int) /\ wr = wo)
    case atStart => exact ⟨0, by omega, rfl, rfl, rfl, rfl⟩
    case round =>
     obtain ⟨m, hm, hg, rfl, rfl, rfl⟩ := hrel
     have HM := GO (GN hm hg)
     by_cases hlm : m < 8
     . have hr := a9k m k (by have := HLT.out; omega)
       have hmi : (m : Int) < 8 := by omega
       have HS : Hid (G9 (m + 1) k = U1 (G9 m k)) := rfl
       have HLM := GO hlm
       clear hm hg hlm
       generalize G9 m k = r at *
       have ha := d1j r hr
       have HX := GO (d0i (r / 2) (by omega))
       rcases It r with h2 | h2
       . rw [h2] at ha
         have H2 := GO h2
         clear hr h2
         go_wp2
         go_roundg (8 - (m + 1))
         case measure => have := HM.out; have := HLM.out; omega
         case rel =>
          refine ⟨m + 1, HLM.out, rfl, by go_num, ?_, rfl⟩
          rw [HS.out, U1, if_neg (by rw [H2.out]; decide)]; go_num
       . rw [h2] at ha
         have H2 := GO h2
         clear hr h2
         go_wp2
         go_roundg (8 - (m + 1))
         case measure => have := HM.out; have := HLM.out; omega
         case rel =>
          refine ⟨m + 1, HLM.out, rfl, by go_num, ?_, rfl⟩
          have hx := HX.out
          rw [HS.out, U1, if_pos H2.out, ← hx]; rfl
     . have hmi : ¬ (m : Int) < 8 := by omega
       obtain rfl : m = 8 := by omega
       clear hm hg hlm hmi HM
       obtain ⟨cs, hcs, hsz, hj⟩ := hrel.tab
       have hlt := HLT.out
       have hc0 : wr.cell? ⟨w.heap.size + 1, k, none⟩ = some (cs[k]'(by omega)) := by
        rw [HY wr _ k cs _ _ hcs]; exact GQ (by omega)
       have hf0 := JQ wr _ k cs _ hcs
       have HR := GO (GN hrel (GN hcs (GN hsz hj)))
       obtain ⟨r8, h8⟩ : ∃ r, r = G9 8 k := ⟨_, rfl⟩
       rw [← h8]
       have H8 := GO h8
       clear hrel hcs hj hlt h8
       go_wp2
       go_roundg (256 - (k + 1))
       case measure => have := HLT.out; omega
       case rel =>
        refine ⟨k + 1, rfl, by go_num, ?_⟩
        obtain ⟨hrel, hcs, hsz, hj⟩ := HR.out
        have hlt := HLT.out
        refine ⟨by omega, ?_, ⟨cs.setIfInBounds k (.int .u16 r8), Jr wr _ _ cs _ _ hcs, by simp [hsz], ?_⟩, by simpa [NF] using hrel.size, hrel.below.setCell (by simp) _⟩
        . rw [heap_setCell_other _ _ _ _ (by simp)]; exact hrel.out
        . intro j hjk
          by_cases hjk' : j = k
          . subst hjk'
            rw [Array.getElem?_setIfInBounds_self_of_lt (by omega), H8.out]; rfl
          . rw [IR (by omega)]
            exact hj j (by omega)
  . have hki : ¬ (k : Int) < 256 := by omega
    have hle := hrel.le
    obtain rfl : k = 256 := by omega
    obtain ⟨cs, hcs, hsz, hj⟩ := hrel.tab
    have HR := GO (GN hrel (GN hcs (GN hsz hj)))
    clear hlt hle hj hrel
    have hth : wr.there w.heap.size 0 cs.size := by
     have := a0Z HR.out.1.out
     rw [Tryz.zeroCells137_size] at this
     rw [hsz]; exact this
    have Q4 : cs.all (·.oneCell') = true := by
     rw [Mq]
     intro i hi
     have := HR.out.2.2.2 i (by omega)
     rw [GQ hi] at this
     injection this with this
     rw [this]; rfl
    have HT := GO (GN hth Q4)
    clear hth Q4
    go_wp2_with (first | (refine wpList_load_row rfl 137 _ rfl (w.heap.size + 1) rfl _ cs _ _ hcs Tryz.underlying137 rfl (by rw [hsz]; kernel_rfl) ?_) | (refine IN rfl 137 _ _ rfl w.heap.size 0 cs rfl rfl HT.out.1 (by rw [hsz]; kernel_rfl) HT.out.2 ?_))
    refine Hj (a8L rfl _ _ w.heap.size 0 cs.toList _ rfl (Hp _ _ _ _ (by simpa using HT.out.1)) Tryz.underlying137 rfl (by rw [HZ, hsz]; kernel_rfl)) rfl ?_
    exact ⟨cs, rfl, hsz, HR.out.2.2.2, B1 (GB _) _ _ _ HR.out.1.below⟩
set_option maxHeartbeats 1000000 in
theorem d2o (A : Option Addr) (n c : Nat) (xs : List UInt8) (w : GG) (h : IsB w A n c xs) :
 Hq Tryz.prog 95 #[.slice A n c] w fun e w' => e = .returned (.int .u16 (a0W xs : Int)) /\ Below w.heap.size w w' := by
 have hn := h.len63
 have HL := GO (IsB.len h)
 have H := GO h
 clear h
 go_enter Tryz.func95, Tryz.ntmps95
 go_wp2_with fail
 refine (c7m _).mono ?_
 rintro e w1 ⟨cs, rfl, hsz, hj, hb⟩
 have HJ := GO (GN hsz hj)
 have hth : (w1.alloc (.cells Tryz.zeroCells137 137)).there w1.heap.size 0 cs.size := by
  have := a0Z (Ht w1 (.cells Tryz.zeroCells137 137))
  rw [Tryz.zeroCells137_size] at this
  rw [hsz]; exact this
 have Q4 : cs.all (·.oneCell') = true := by
  rw [Mq]
  intro i hi
  have := hj i (by omega)
  rw [GQ hi] at this
  injection this with this
  rw [this]; rfl
 have HT := GO (GN hth (GN Q4 hsz))
 clear hj hth Q4 hsz
 go_wp2_with (refine IN rfl 137 _ _ rfl w1.heap.size 0 cs rfl rfl HT.out.1 (by rw [HT.out.2.2]; kernel_rfl) HT.out.2.1 ?_)
 obtain ⟨W, hW⟩ : ∃ W, W = (w1.alloc (.cells Tryz.zeroCells137 137)).setCells w1.heap.size 0 cs.toList := ⟨_, rfl⟩
 have hbW : Below w.heap.size w W := by rw [hW]; exact B1 hb.size _ _ _ (hb.alloc hb.size _)
 have m0 : ∀ j : Nat, j < 256 -> W.cell? ⟨w1.heap.size, j, none⟩ = some (.int .u16 (a7z j : Int)) := fun j hj => by
  have := Hp (w1.alloc (.cells Tryz.zeroCells137 137)) w1.heap.size 0 cs.toList (by simpa using HT.out.1) j _ (by rw [Array.getElem?_toList]; exact HJ.out.2 j hj)
  rw [hW]; simpa using this
 rw [← hW]
 have HW := GO (GN hbW m0)
 clear hW hbW m0 hb
 go_loopg [4, 10] n (fun g r i wr => ∃ k, k <= n /\ g = n - k /\ i = .int .i64 (k : Int) /\ r = .int .u16 (b4f (xs.take k) : Int) /\ wr = W)
 case atStart => exact ⟨0, by omega, rfl, rfl, rfl, rfl⟩
 case round =>
  obtain ⟨k, hk, hg, rfl, rfl, rfl⟩ := hrel
  by_cases hlt : k < n
  . obtain ⟨x, b, off, hx, rfl, hc, hx8⟩ := IsB.at_ (Rd.below H.out HW.out.1) hlt
    have hr := c4H (xs.take k)
    have b3T := c7r (b4f (xs.take k)) x
    generalize hcr : b4f (xs.take k) = r at *
    have hd : r % 256 ^^^ x.toNat < 256 := KO (n := 8) (by omega) (by omega)
    have hx1 : bits .xor .u8 ((r : Int) % 256) (x.toNat : Int) = ((r % 256 ^^^ x.toNat : Nat) : Int) := u8_xor_nat (r % 256) x.toNat (by omega) (by omega)
    have hcd := HW.out.2 _ hd
    have ht := c5C (r % 256 ^^^ x.toNat) (by omega)
    generalize r % 256 ^^^ x.toNat = d at *
    generalize a7z d = t at *
    have hx2 : bits .xor .u16 ((r : Int) / 256) (t : Int) = ((r / 256 ^^^ t : Nat) : Int) := MI (r / 256) t (by omega) ht
    have hdi : (d : Int) < 256 := by omega
    have HR := GO (GN hr (GN hcr b3T))
    clear hr hcr b3T ht hd
    go_wp2
    go_roundg (n - (k + 1))
    case measure => omega
    case rel =>
     refine ⟨k + 1, by omega, rfl, by go_num, ?_, rfl⟩
     rw [b6g hx, c6f, HR.out.2.1, HR.out.2.2]
  . have hk' : k = xs.length := by have := HL.out; omega
    have hx := c3M (xs.take k)
    have HK := GO hk'
    clear hk'
    go_wp2
    go_ret
    exact ⟨by rw [HK.out, IU]; rfl, HW.out.1⟩
end
section
open Go.RowKit
theorem a1w {w : GG} {B : Nat} {e : GF} (vs : List GK) (hB : B <= w.heap.size) (hm : vs.length <= 1000) : Own (w.alloc (.cells vs.toArray e)) B e (some ⟨w.heap.size, 0, none⟩) vs.length vs.length vs := by
 have h := Mo (base := B) (e := e) (size := 1) w vs.toArray vs.length hB (by unfold maxLen; omega) (by simp)
 simpa using h
set_option maxHeartbeats 400000 in
theorem b8c (k : Int) (A : Option Addr) (n c : Nat) (xs : List UInt8) (w : GG) (h : IsB w A n c xs) :
 Hq Tryz.prog 88 #[.int .i64 k, .slice A n c] w fun e w' => ∃ A' n' c', e = .returned (.tuple #[.slice A' n' c', .int .i64 (b6Y k)]) /\ Own w' w.heap.size 5 A' n' c' ((R5 k xs).map u8) /\ Below w.heap.size w w' := by
 by_cases h0 : k = 0
 . subst h0
   go_enter Tryz.func88, Tryz.ntmps88
   go_wp2_with fail
   refine (d3k A n c xs _ h).mono ?_
   rintro e w1 ⟨rfl, rfl⟩
   go_wp2_with fail
   go_ret2
   exact ⟨_, _, _, rfl, a1w [u8 (b7t xs)] (GB _) (by simp), (Below.refl _ _).alloc (GB _) _⟩
 by_cases h1 : k = 1
 . subst h1
   go_enter Tryz.func88, Tryz.ntmps88
   go_wp2_with fail
   refine (d2o A n c xs _ h).mono ?_
   rintro e w1 ⟨rfl, hb⟩
   have hlt := b4O xs
   have hr : (a0W xs : Int) < 65536 := by omega
   have HC := GO (GN (b9w xs) (GN (c1n xs) hlt))
   clear hlt
   go_wp2_with fail
   go_ret2
   refine ⟨_, _, _, rfl, ?_, hb.alloc hb.size _⟩
   have e1 : u8 (b5p xs) = .int .u8 ((a0W xs : Int) % 256) := by rw [u8, HC.out.1]; rfl
   have e2 : u8 (b5T xs) = .int .u8 ((a0W xs : Int) / 256) := by rw [u8, HC.out.2.1]; rfl
   have h := a1w (w := w1) (B := w.heap.size) (e := 5) [u8 (b5p xs), u8 (b5T xs)] hb.size (by simp)
   show Own _ _ _ _ 2 2 [u8 (b5p xs), u8 (b5T xs)]
   rw [e1, e2]
   rw [e1, e2] at h
   exact h
 have h0' : (k == 0) = false := by simp [h0]
 have h1' : (k == 1) = false := by simp [h1]
 have hs : R5 k xs = [] := by simp [R5, h0, h1]
 have he : b6Y k = 1 := by simp [b6Y, h0, h1]
 rw [hs, he]
 clear hs he h0 h1
 go_enter Tryz.func88, Tryz.ntmps88
 go_wp2_with fail
 go_ret2
 exact ⟨none, 0, 0, rfl, Own.nil _ _, Below.refl _ _⟩
end
section
open Go.RowKit
set_option maxHeartbeats 400000 in
theorem a9d (A : Option Addr) (n c : Nat) (xs : List UInt8) (A' : Option Addr) (n' c' : Nat) (ys : List UInt8) (w : GG) (h : IsB w A n c xs) (h' : IsB w A' n' c' ys) :
 Hq Tryz.prog 69 #[.slice A n c, .slice A' n' c'] w fun e w' => e = .returned (.bool (decide (xs = ys))) /\ w = w' := by
 have k1 := a4m (P := Tryz.prog) h 22 5 9 Tryz.underlying22 Tryz.underlying5 Tryz.underlying9
 have k2 := a4m (P := Tryz.prog) h' 22 5 9 Tryz.underlying22 Tryz.underlying5 Tryz.underlying9
 clear h h'
 go_enter Tryz.func69, Tryz.ntmps69
 go_wp2_with fail
 go_ret
 exact ⟨c9o (by rw [Bool.eq_iff_iff]; simp), rfl⟩
set_option maxHeartbeats 400000 in
theorem a4M (A : Option Addr) (n c : Nat) (xs : List UInt8) (w : GG) (h : IsB w A n c xs) (hn : xs.length <= 1000000) :
 Hq Tryz.prog 29 #[.slice A n c] w fun e w' => ∃ A' n' c', e = .returned (.slice A' n' c') /\ Own w' w.heap.size 5 A' n' c' (xs.map u8) /\ Below w.heap.size w w' := by
 obtain ⟨i0, hi0, hz0, hz1, hz2⟩ := Kt a9u
 have hl := IsB.len h
 have H := GO h
 have HI := GO (GN hi0 (GN hz0 (GN hz1 hz2)))
 have HL := GO hl
 clear h hi0 hz0 hz1 hz2 hl
 have qT : ∀ (w : GG) (a : Option Addr) (n c n' c' : Nat), (binOp .eql 22 (.slice a n c) (.slice none n' c')).run Tryz.prog w = .ok (.bool a.isNone) w := fun w a n c n' c' => LA w _ _ a n c n' c' Tryz.underlying22
 cases A with
 | none =>
   have h0 : xs = [] := by
    have hr := H.out
    rcases xs with _ | ⟨x, xs⟩
    . rfl
    . obtain ⟨b, off, hA, _⟩ := Rd.at_ hr 0 (u8 x) rfl
      cases hA
   subst h0
   go_enter Tryz.func29, Tryz.ntmps29
   go_wp2_with fail
   go_ret
   exact ⟨none, 0, 0, rfl, Own.nil _ _, Below.refl _ _⟩
 | some a =>
   go_enter Tryz.func29, Tryz.ntmps29
   have hown := a1w (w := w) (B := w.heap.size) (e := 5) [] (GB _) (by simp)
   have HO := GO hown
   clear hown
   have hn' : n <= 1000000 := by have := HL.out; omega
   go_wp2_with (at_builtin; refine O8 _ rfl (.tmp 5) (.tmp 6) 22 rfl w.heap.size 5 i0 _ 1 Tryz.underlying22 HI.out.1 HI.out.2.1 HI.out.2.2.1 HI.out.2.2.2 rfl (some ⟨w.heap.size, 0, none⟩) 0 0 [] rfl HO.out (some a) n c _ rfl (H.out.alloc _) (b7j _) ?_ (by omega) (by simp) ?_)
   case _ => omega
   intro A3 c3 w3 b3S hg3 _
   have hb3 : Below w.heap.size w w3 := ((Below.refl _ _).alloc (GB _) _).grown hg3 (by simp) (by simp [Ni])
   go_wp2
   go_ret
   exact ⟨A3, 0 + n, c3, by simp, by simpa using b3S, hb3⟩
end
section
open Go.RowKit
set_option maxHeartbeats 400000 in
theorem a8r (k : Int) (hk : k = 0 ∨ k = 1) (A : Option Addr) (n c : Nat) (xs : List UInt8) (w : GG) (h : IsB w A n c xs) (hx : xs.length <= 900000) :
 Hq Tryz.prog 92 #[.int .i64 k, .slice A n c] w fun e w' => ∃ A' n' c', e = .returned (.tuple #[.slice A' n' c', .int .i64 0]) /\ Own w' w.heap.size 5 A' n' c' ((xs ++ R5 k xs).map u8) /\ Below w.heap.size w w' := by
 have he : b6Y k = 0 := by unfold b6Y; rw [if_pos hk]
 have hlen : (xs ++ R5 k xs).length <= 1000000 := by
  rw [GW, a3X]; unfold C8; (split <;> (try split) <;> omega)
 go_enter Tryz.func92, Tryz.ntmps92
 go_wp2_with fail
 refine (b8c k A n c xs _ h).mono ?_
 rintro e w1 ⟨A1, n1, c1, rfl, ho, hb⟩
 rw [he]
 have HB := GO hb
 have H1 := GO (IsBB.lit2 (e := 22) (h.below hb) ho.rd)
 clear hb ho he
 have HX := GO hlen
 clear hlen
 go_wp2_with fail
 refine (a3T _ _ _ [xs, R5 k xs] _ H1.out (by simpa using HX.out)).mono ?_
 rintro e w2 ⟨A2, n2, c2, rfl, ho2, hb2⟩
 go_wp2_with fail
 go_ret2
 refine ⟨A2, n2, c2, rfl, ?_, (HB.out.alloc HB.out.size _).trans (hb2.mono (by have := HB.out.size; simp; omega))⟩
 have := ho2.base (B' := w.heap.size) (by have := HB.out.size; simp; omega)
 simpa using this
theorem K9 (k : Int) : a7L k = (C8 k : Int) := by unfold a7L C8; split <;> (try split) <;> rfl
theorem G8 (k : Int) (h : k = 0 ∨ k = 1) : 0 < C8 k /\ C8 k <= 2 := by rcases h with rfl | rfl <;> decide
set_option maxHeartbeats 400000 in
theorem a4S (k : Int) (hk : k = 0 ∨ k = 1) (A : Option Addr) (m s c : Nat) (hs : C8 k = s) (xs : List UInt8) (w : GG) (h : IsB w A (m + s) c xs) (hx : xs.length <= 900000) (heq : R5 k (xs.take m) = xs.drop m) :
 Hq Tryz.prog 81 #[.int .i64 k, .slice A (m + s) c] w fun e w' => ∃ A' n' c', e = .returned (.tuple #[.slice A' n' c', .int .i64 0]) /\ Own w' w.heap.size 5 A' n' c' ((xs.take m).map u8) /\ Below w.heap.size w w' := by
 have hd : decide (R5 k (xs.take m) = xs.drop m) = true := decide_eq_true heq
 clear heq
 have hp := G8 k hk
 have he : b6Y k = 0 := by unfold b6Y; rw [if_pos hk]
 have c2l := h.cap
 have h63 := h.len63
 have h1 : IsB w A m c (xs.take m) := IsB.take h (by omega)
 have h2 : IsB w (A.map (·.add m)) s (c - m) (xs.drop m) := by
  have := IsB.cut h (k := m) (by omega)
  rwa [if_neg (by omega), Lh] at this
 go_enter Tryz.func81, Tryz.ntmps81
 go_wp2_with fail
 refine (H4 k _).mono ?_
 rintro e w1 ⟨rfl, rfl⟩
 rw [K9, hs]
 rw [hs] at hp
 have h0 : ((s : Int) == 0) = false := by simp; omega
 have H := GO (GN hs (GN h1 (GN h2 he)))
 clear hs h1 h2 he
 go_wp2_with fail
 refine (b8c k A m c _ _ H.out.2.1).mono ?_
 rintro e w1 ⟨A1, n1, c1, rfl, ho, hb⟩
 rw [H.out.2.2.2]
 have HB := GO (GN ho hb)
 clear ho hb
 go_wp2_with fail
 refine (a9d _ _ _ _ _ _ _ _ _ HB.out.1.rd (Rd.below H.out.2.2.1 HB.out.2)).mono ?_
 rintro e w2 ⟨rfl, rfl⟩
 rw [hd]
 clear hd
 have HJ := GO (IsBB.lit1 (e := 22) (Rd.below H.out.2.1 HB.out.2))
 have HL : Hid (([xs.take m] : List (List UInt8)).flatten.length <= 1000000) := by
  show _ <= _
  simp; omega
 go_wp2_with fail
 refine (a3T _ _ _ [xs.take m] _ HJ.out HL.out).mono ?_
 rintro e w2 ⟨A2, n2, c2, rfl, ho2, hb2⟩
 have HO := GO (GN ho2 hb2)
 clear ho2 hb2
 go_wp2_with fail
 go_ret2
 obtain ⟨ho2, hb2⟩ := HO.out
 have hb := HB.out.2
 refine ⟨A2, n2, c2, rfl, ?_, (hb.alloc hb.size _).trans (hb2.mono (by have := hb.size; simp; omega))⟩
 have := ho2.base (B' := w.heap.size) (by have := hb.size; simp; omega)
 simpa using this
set_option maxHeartbeats 400000 in
theorem c4a (k : Int) (hk : k = 0 ∨ k = 1) (A : Option Addr) (m s c : Nat) (hs : C8 k = s) (xs : List UInt8) (w : GG) (h : IsB w A (m + s) c xs) (heq : ¬ R5 k (xs.take m) = xs.drop m) :
 Hq Tryz.prog 81 #[.int .i64 k, .slice A (m + s) c] w fun e w' => e = .returned (.tuple #[.slice none 0 0, .int .i64 6]) /\ Below w.heap.size w w' := by
 have hd : decide (R5 k (xs.take m) = xs.drop m) = false := decide_eq_false heq
 clear heq
 have hp := G8 k hk
 have he : b6Y k = 0 := by unfold b6Y; rw [if_pos hk]
 have c2l := h.cap
 have h63 := h.len63
 have h1 : IsB w A m c (xs.take m) := IsB.take h (by omega)
 have h2 : IsB w (A.map (·.add m)) s (c - m) (xs.drop m) := by
  have := IsB.cut h (k := m) (by omega)
  rwa [if_neg (by omega), Lh] at this
 go_enter Tryz.func81, Tryz.ntmps81
 go_wp2_with fail
 refine (H4 k _).mono ?_
 rintro e w1 ⟨rfl, rfl⟩
 rw [K9, hs]
 rw [hs] at hp
 have h0 : ((s : Int) == 0) = false := by simp; omega
 have H := GO (GN hs (GN h1 (GN h2 he)))
 clear hs h1 h2 he
 go_wp2_with fail
 refine (b8c k A m c _ _ H.out.2.1).mono ?_
 rintro e w1 ⟨A1, n1, c1, rfl, ho, hb⟩
 rw [H.out.2.2.2]
 have HB := GO (GN ho hb)
 clear ho hb
 go_wp2_with fail
 refine (a9d _ _ _ _ _ _ _ _ _ HB.out.1.rd (Rd.below H.out.2.2.1 HB.out.2)).mono ?_
 rintro e w2 ⟨rfl, rfl⟩
 rw [hd]
 clear hd
 go_wp2_with fail
 go_ret2
 exact ⟨rfl, HB.out.2⟩
end
section
open Go.RowKit
end
section
open Go.RowKit
def T5 (kind code : Int) (inf : List UInt8) : Int :=
 if kind = 0 then (if 254 < inf.length then 3 else 0)
 else if kind = 1 ∨ code = 0 ∨ code = 2 then (if inf.length = 0 then 0 else 4)
 else if inf.length = 1 /\ 1 <= (inf.getD 0 0).toNat /\ (code = 1 -> (inf.getD 0 0).toNat <= 254) then 0 else 4
def d8 (nad kind seq : Int) (more : Bool) (code : Int) (answer : Bool) (inf : List UInt8) : Int :=
 if kind < 0 ∨ 2 < kind then 1
 else if nad < 0 ∨ 254 < nad then 2
 else if kind ≠ 2 /\ (seq < 0 ∨ 1 < seq) then 2
 else if kind ≠ 0 /\ (code < 0 ∨ (if kind = 1 then 3 else 4) <= code) then 2
 else if (kind = 2 /\ seq ≠ 0) ∨ (kind = 0 /\ code ≠ 0) ∨ (kind ≠ 0 /\ more = true) ∨ (kind ≠ 2 /\ answer = true) then 4
 else T5 kind code inf
theorem d3x (w : GG) : (Iu (.iface 127 (.agg #[])) 123 127 true).run Tryz.prog w = .ok (.tuple #[.agg #[], .bool true]) w := by kernel_rfl
theorem d3A (w : GG) : (Iu (.iface 127 (.agg #[])) 123 126 true).run Tryz.prog w = .ok (.tuple #[.agg #[], .bool false]) w := by kernel_rfl
theorem d3B (w : GG) : (Iu (.iface 127 (.agg #[])) 123 125 true).run Tryz.prog w = .ok (.tuple #[.agg #[], .bool false]) w := by kernel_rfl
theorem d3O (w : GG) : (Iu (.iface 126 (.agg #[])) 123 127 true).run Tryz.prog w = .ok (.tuple #[.agg #[], .bool false]) w := by kernel_rfl
theorem d3D (w : GG) : (Iu (.iface 126 (.agg #[])) 123 126 true).run Tryz.prog w = .ok (.tuple #[.agg #[], .bool true]) w := by kernel_rfl
theorem d3z (w : GG) : (Iu (.iface 126 (.agg #[])) 123 125 true).run Tryz.prog w = .ok (.tuple #[.agg #[], .bool false]) w := by kernel_rfl
theorem d3J (w : GG) : (Iu (.iface 125 (.agg #[])) 123 127 true).run Tryz.prog w = .ok (.tuple #[.agg #[], .bool false]) w := by kernel_rfl
theorem d3H (w : GG) : (Iu (.iface 125 (.agg #[])) 123 126 true).run Tryz.prog w = .ok (.tuple #[.agg #[], .bool false]) w := by kernel_rfl
theorem d3s (w : GG) : (Iu (.iface 125 (.agg #[])) 123 125 true).run Tryz.prog w = .ok (.tuple #[.agg #[], .bool true]) w := by kernel_rfl
theorem d3X (w : GG) : (Iu (.nilIface) 123 127 true).run Tryz.prog w = .ok (.tuple #[.agg #[], .bool false]) w := by kernel_rfl
theorem d3V (w : GG) : (Iu (.nilIface) 123 126 true).run Tryz.prog w = .ok (.tuple #[.agg #[], .bool false]) w := by kernel_rfl
theorem d3U (w : GG) : (Iu (.nilIface) 123 125 true).run Tryz.prog w = .ok (.tuple #[.agg #[], .bool false]) w := by kernel_rfl
attribute [local go_sem] d3x d3A d3B d3O d3D d3z d3J d3H d3s d3X d3V d3U
theorem a1A (w : GG) : Hq Tryz.prog 89 #[.iface 126 (.agg #[])] w fun e w' => e = .returned (.int .i64 3) /\ w' = w := by
 go_enter Tryz.func89, Tryz.ntmps89
 go_wp2
 go_ret
 exact ⟨rfl, rfl⟩
theorem a4U (w : GG) : Hq Tryz.prog 89 #[.iface 125 (.agg #[])] w fun e w' => e = .returned (.int .i64 4) /\ w' = w := by
 go_enter Tryz.func89, Tryz.ntmps89
 go_wp2
 go_ret
 exact ⟨rfl, rfl⟩
theorem d1G (w : GG) : Hq Tryz.prog 89 #[.iface 127 (.agg #[])] w fun e w' => e = .returned (.int .i64 0) /\ w' = w := by
 go_enter Tryz.func89, Tryz.ntmps89
 go_wp2
 go_ret
 exact ⟨rfl, rfl⟩
set_option maxHeartbeats 400000 in
theorem d6c (nad kind seq : Int) (more : Bool) (code : Int) (answer : Bool) (A : Option Addr) (n c : Nat) (inf : List UInt8) (w : GG) (h : IsB w A n c inf) :
 Hq Tryz.prog 91 #[.iface 127 (.agg #[]), .agg #[.int .i64 nad, .int .i64 kind, .int .i64 seq, .bool more, .int .i64 code, .bool answer, .slice A n c]] w
  fun e w' => e = .returned (.int .i64 (T5 0 code inf)) /\ Below w.heap.size w w' := by
 have hl := IsB.len h
 by_cases h1 : 254 < n
 . have HV : Hid (T5 0 code inf = 3) := by show _ = _; unfold T5; rw [if_pos rfl, if_pos (by omega)]
   clear hl
   go_enter Tryz.func91, Tryz.ntmps91
   go_wp2
   go_ret
   exact ⟨m6 HV.out.symm, (Below.refl _ _).alloc (GB _) _⟩
 . have HV : Hid (T5 0 code inf = 0) := by show _ = _; unfold T5; rw [if_pos rfl, if_neg (by omega)]
   clear hl
   go_enter Tryz.func91, Tryz.ntmps91
   go_wp2
   go_ret
   exact ⟨m6 HV.out.symm, (Below.refl _ _).alloc (GB _) _⟩
set_option maxHeartbeats 400000 in
theorem d6w (nad kind seq : Int) (more : Bool) (code : Int) (answer : Bool) (A : Option Addr) (n c : Nat) (inf : List UInt8) (w : GG) (h : IsB w A n c inf) :
 Hq Tryz.prog 91 #[.iface 126 (.agg #[]), .agg #[.int .i64 nad, .int .i64 kind, .int .i64 seq, .bool more, .int .i64 code, .bool answer, .slice A n c]] w
  fun e w' => e = .returned (.int .i64 (T5 1 code inf)) /\ Below w.heap.size w w' := by
 have hl := IsB.len h
 by_cases h1 : n = 0
 . subst h1
   have HV : Hid (T5 1 code inf = 0) := by show _ = _; unfold T5; rw [if_neg (by omega), if_pos (by omega), if_pos (by omega)]
   clear hl
   go_enter Tryz.func91, Tryz.ntmps91
   go_wp2
   go_ret
   exact ⟨m6 HV.out.symm, (Below.refl _ _).alloc (GB _) _⟩
 . have HV : Hid (T5 1 code inf = 4) := by show _ = _; unfold T5; rw [if_neg (by omega), if_pos (by omega), if_neg (by omega)]
   have h1' : ((n : Int) == 0) = false := by simp; omega
   clear hl
   go_enter Tryz.func91, Tryz.ntmps91
   go_wp2
   go_ret
   exact ⟨m6 HV.out.symm, (Below.refl _ _).alloc (GB _) _⟩
theorem b8P {xs : List UInt8} {k : Nat} {x : UInt8} (h : Hid (xs[k]? = some x)) : xs.getD k 0 = x := by
 rw [List.getD_eq_getElem?_getD, h.out]; rfl
set_option maxHeartbeats 1000000 in
theorem d5Y (nad kind seq : Int) (more : Bool) (code : Int) (answer : Bool) (A : Option Addr) (n c : Nat) (inf : List UInt8) (w : GG) (h : IsB w A n c inf) (h0 : 0 <= code) (h3 : code <= 3) :
 Hq Tryz.prog 91 #[.iface 125 (.agg #[]), .agg #[.int .i64 nad, .int .i64 kind, .int .i64 seq, .bool more, .int .i64 code, .bool answer, .slice A n c]] w
  fun e w' => e = .returned (.int .i64 (T5 2 code inf)) /\ Below w.heap.size w w' := by
 have hl := IsB.len h
 by_cases hc : code = 0 ∨ code = 2
 . have hc1 : (code == 1) = false := by simp; omega
   have hc3 : (code == 3) = false := by simp; omega
   by_cases h1 : n = 0
   . subst h1
     have HV : Hid (T5 2 code inf = 0) := by show _ = _; unfold T5; rw [if_neg (by omega), if_pos (by omega), if_pos (by omega)]
     clear hl hc h0 h3
     go_enter Tryz.func91, Tryz.ntmps91
     go_wp2
     go_ret
     exact ⟨m6 HV.out.symm, (Below.refl _ _).alloc (GB _) _⟩
   . have HV : Hid (T5 2 code inf = 4) := by show _ = _; unfold T5; rw [if_neg (by omega), if_pos (by omega), if_neg (by omega)]
     have h1' : ((n : Int) == 0) = false := by simp; omega
     clear hl hc h0 h3 h1
     go_enter Tryz.func91, Tryz.ntmps91
     go_wp2
     go_ret
     exact ⟨m6 HV.out.symm, (Below.refl _ _).alloc (GB _) _⟩
 . by_cases h1 : n = 1
   . subst h1
     obtain ⟨x, b, off, hx, rfl, hcx, hx8⟩ := IsB.at_ h (show 0 < 1 by omega)
     have hgx := b8P hx
     obtain ⟨a, ha⟩ : ∃ a, a = x.toNat := ⟨_, rfl⟩
     rw [← ha] at hcx hx8
     have hV : T5 2 code inf = if 1 <= a /\ (code = 1 -> a <= 254) then 0 else 4 := by
      unfold T5
      rw [if_neg (by omega), if_neg (by omega), hgx, ← ha]
      by_cases hq : 1 <= a /\ (code = 1 -> a <= 254)
      . rw [if_pos hq, if_pos ⟨hl, hq.1, hq.2⟩]
      . rw [if_neg hq, if_neg (fun h => hq ⟨h.2.1, h.2.2⟩)]
     rw [Nat.add_zero] at hcx
     have hb := Hx w _ hcx
     have hc2 : (w.alloc (.cells #[.int .i64 nad, .int .i64 kind, .int .i64 seq, .bool more, .int .i64 code, .bool answer, .slice (some ⟨b, off, none⟩) 1 c] 84)).cell? ⟨b, off, none⟩ = some (.int .u8 (a : Int)) := by
      rw [World.cell?_alloc_lt _ _ _ hb]; exact hcx
     clear hl hgx ha hx
     by_cases hc1 : code = 1
     . subst hc1
       by_cases hq : 1 <= a /\ a <= 254
       . have HV := GO (hV.trans (if_pos ⟨hq.1, fun _ => hq.2⟩))
         have hi1 : (1 : Int) <= a := by omega
         have hi2 : (a : Int) <= 254 := by omega
         clear hV hq hc h0 h3
         go_enter Tryz.func91, Tryz.ntmps91
         go_wp2
         go_ret
         exact ⟨m6 HV.out.symm, (Below.refl _ _).alloc (GB _) _⟩
       . have HV := GO (hV.trans (if_neg (by omega)))
         by_cases hi1 : (1 : Int) <= a
         . have hi2 : ¬ (a : Int) <= 254 := by omega
           clear hV hq hc h0 h3
           go_enter Tryz.func91, Tryz.ntmps91
           go_wp2
           go_ret
           exact ⟨m6 HV.out.symm, (Below.refl _ _).alloc (GB _) _⟩
         . clear hV hq hc h0 h3
           go_enter Tryz.func91, Tryz.ntmps91
           go_wp2
           go_ret
           exact ⟨m6 HV.out.symm, (Below.refl _ _).alloc (GB _) _⟩
     . obtain rfl : code = 3 := by omega
       by_cases hq : 1 <= a
       . have HV := GO (hV.trans (if_pos ⟨hq, fun h => absurd h (by omega)⟩))
         have hi1 : (1 : Int) <= a := by omega
         have hi2 : (a : Int) <= 255 := by omega
         clear hV hq hc h0 h3 hc1
         go_enter Tryz.func91, Tryz.ntmps91
         go_wp2
         go_ret
         exact ⟨m6 HV.out.symm, (Below.refl _ _).alloc (GB _) _⟩
       . have HV := GO (hV.trans (if_neg (by omega)))
         have hi1 : ¬ (1 : Int) <= a := by omega
         clear hV hq hc h0 h3 hc1
         go_enter Tryz.func91, Tryz.ntmps91
         go_wp2
         go_ret
         exact ⟨m6 HV.out.symm, (Below.refl _ _).alloc (GB _) _⟩
   . have HV : Hid (T5 2 code inf = 4) := by show _ = _; unfold T5; rw [if_neg (by omega), if_neg (by omega), if_neg (by omega)]
     have h1' : ((n : Int) == 1) = false := by simp; omega
     clear hl h1
     by_cases hc1 : code = 1
     . subst hc1
       clear hc h0 h3
       go_enter Tryz.func91, Tryz.ntmps91
       go_wp2
       go_ret
       exact ⟨m6 HV.out.symm, (Below.refl _ _).alloc (GB _) _⟩
     . obtain rfl : code = 3 := by omega
       clear hc h0 h3 hc1
       go_enter Tryz.func91, Tryz.ntmps91
       go_wp2
       go_ret
       exact ⟨m6 HV.out.symm, (Below.refl _ _).alloc (GB _) _⟩
end
section
open Go.RowKit
attribute [local go_sem] d3x d3A d3B d3O d3D d3z d3J d3H d3s d3X d3V d3U
abbrev Ck (f : Hg) (kind nad seq : Int) (more : Bool) (code : Int) (answer : Bool) (A : Option Addr) (n c : Nat) (w : GG) (r : Int) : Prop := Hq Tryz.prog f #[.agg #[.int .i64 nad, .int .i64 kind, .int .i64 seq, .bool more, .int .i64 code, .bool answer, .slice A n c]] w fun e w' => e = .returned (.int .i64 r) /\ Below w.heap.size w w'
set_option maxHeartbeats 1000000
theorem d1u (nad seq kind : Int) (more : Bool) (code : Int) (answer : Bool) (A : Option Addr) (n c : Nat) (inf : List UInt8) (w : GG) (hk : kind < 0 ∨ 2 < kind) :
 Ck 83 kind nad seq more code answer A n c w (d8 nad kind seq more code answer inf) := by
 have HV : Hid (d8 nad kind seq more code answer inf = 1) := by show _ = _; unfold d8; rw [if_pos hk]
 have h1 : (kind == 0) = false := by simp; omega
 have h2 : (kind == 1) = false := by simp; omega
 have h3 : (kind == 2) = false := by simp; omega
 clear hk
 go_enter Tryz.func83, Tryz.ntmps83
 go_wp2_with (first | (go_at_call 90; go_in) | fail)
 go_ret
 exact ⟨m6 HV.out.symm, (((Below.refl _ _).alloc (GB _) _).alloc (by simp) _).alloc (by simp; omega) _⟩
section
variable (nad seq : Int) (more : Bool) (code : Int) (answer : Bool) (A : Option Addr) (n c : Nat) (inf : List UInt8) (w : GG)
theorem c7J (h : IsB w A n c inf)
 (j7 : nad < 0) :
 Ck 83 0 nad seq more code answer A n c w (d8 nad 0 seq more code answer inf) := by
 have HV : Hid (d8 nad 0 seq more code answer inf = 2) := by
  show _ = _
  unfold d8
  simp_all <;> (try omega)
 go_enter Tryz.func83, Tryz.ntmps83
 go_wp2_with (first | (go_at_call 90; go_in) | fail)
 go_ret
 exact ⟨m6 HV.out.symm, (((Below.refl _ _).alloc (GB _) _).alloc (by simp) _).alloc (by simp; omega) _⟩
theorem c7e (h : IsB w A n c inf)
 (j7 : ¬ (nad < 0)) (m7 : 254 < nad) :
 Ck 83 0 nad seq more code answer A n c w (d8 nad 0 seq more code answer inf) := by
 have HV : Hid (d8 nad 0 seq more code answer inf = 2) := by
  show _ = _
  unfold d8
  simp_all <;> (try omega)
 go_enter Tryz.func83, Tryz.ntmps83
 go_wp2_with (first | (go_at_call 90; go_in) | fail)
 go_ret
 exact ⟨m6 HV.out.symm, (((Below.refl _ _).alloc (GB _) _).alloc (by simp) _).alloc (by simp; omega) _⟩
theorem c6u (h : IsB w A n c inf)
 (j7 : ¬ (nad < 0)) (m7 : ¬ (254 < nad)) (B6 : seq < 0) :
 Ck 83 0 nad seq more code answer A n c w (d8 nad 0 seq more code answer inf) := by
 have HV : Hid (d8 nad 0 seq more code answer inf = 2) := by
  show _ = _
  unfold d8
  simp_all <;> (try omega)
 go_enter Tryz.func83, Tryz.ntmps83
 go_wp2_with (first | (go_at_call 90; go_in) | fail)
 go_ret
 exact ⟨m6 HV.out.symm, (((Below.refl _ _).alloc (GB _) _).alloc (by simp) _).alloc (by simp; omega) _⟩
theorem c5M (h : IsB w A n c inf)
 (j7 : ¬ (nad < 0)) (m7 : ¬ (254 < nad)) (B6 : ¬ (seq < 0)) (E5 : 1 < seq) :
 Ck 83 0 nad seq more code answer A n c w (d8 nad 0 seq more code answer inf) := by
 have HV : Hid (d8 nad 0 seq more code answer inf = 2) := by
  show _ = _
  unfold d8
  simp_all <;> (try omega)
 go_enter Tryz.func83, Tryz.ntmps83
 go_wp2_with (first | (go_at_call 90; go_in) | fail)
 go_ret
 exact ⟨m6 HV.out.symm, (((Below.refl _ _).alloc (GB _) _).alloc (by simp) _).alloc (by simp; omega) _⟩
theorem c7M (h : IsB w A n c inf)
 (j7 : ¬ (nad < 0)) (m7 : ¬ (254 < nad)) (B6 : ¬ (seq < 0)) (E5 : ¬ (1 < seq)) (a1Y : ¬ (code = 0)) :
 Ck 83 0 nad seq more code answer A n c w (d8 nad 0 seq more code answer inf) := by
 have HV : Hid (d8 nad 0 seq more code answer inf = 4) := by
  show _ = _
  unfold d8
  simp_all <;> (try omega)
 have b_code0 : (code != 0) = true := by simp; omega
 go_enter Tryz.func83, Tryz.ntmps83
 go_wp2_with (first | (go_at_call 90; go_in) | fail)
 go_quiet (fail)
 go_wp2_with fail
 go_ret
 exact ⟨m6 HV.out.symm, Below.drewN' ((((Below.refl _ _).alloc (GB _) _).alloc (by simp) _).alloc (by simp; omega) _) _⟩
theorem c5X (h : IsB w A n c inf)
 (j7 : ¬ (nad < 0)) (m7 : ¬ (254 < nad)) (B6 : ¬ (seq < 0)) (E5 : ¬ (1 < seq)) (a1Y : code = 0) (J8 : answer = true) :
 Ck 83 0 nad seq more code answer A n c w (d8 nad 0 seq more code answer inf) := by
 have HV : Hid (d8 nad 0 seq more code answer inf = 4) := by
  show _ = _
  unfold d8
  simp_all <;> (try omega)
 subst a1Y
 subst J8
 go_enter Tryz.func83, Tryz.ntmps83
 go_wp2_with (first | (go_at_call 90; go_in) | fail)
 go_quiet (fail)
 go_wp2_with fail
 go_ret
 exact ⟨m6 HV.out.symm, Below.drewN' ((((Below.refl _ _).alloc (GB _) _).alloc (by simp) _).alloc (by simp; omega) _) _⟩
theorem c6d (h : IsB w A n c inf)
 (j7 : ¬ (nad < 0)) (m7 : ¬ (254 < nad)) (B6 : ¬ (seq < 0)) (E5 : ¬ (1 < seq)) (a1Y : code = 0) (J8 : ¬ (answer = true)) :
 Ck 83 0 nad seq more code answer A n c w (d8 nad 0 seq more code answer inf) := by
 have HV : Hid (d8 nad 0 seq more code answer inf = T5 0 code inf) := by
  show _ = _
  unfold d8
  simp_all <;> (try omega)
 subst a1Y
 obtain rfl : answer = false := by simpa using J8
 go_enter Tryz.func83, Tryz.ntmps83
 go_wp2_with (first | (go_at_call 90; go_in) | fail)
 go_quiet (fail)
 go_wp2_with fail
 refine (d6c _ _ _ _ _ _ _ _ _ inf _ (Rd.drewN (((h.alloc _).alloc _).alloc _) _)).mono ?_
 rintro e w1 ⟨rfl, hb⟩
 go_wp2_with fail
 go_ret
 exact ⟨m6 HV.out.symm, (Below.drewN' ((((Below.refl _ _).alloc (GB _) _).alloc (by simp) _).alloc (by simp; omega) _) _).trans (hb.mono (by simp; omega))⟩
theorem c7H (h : IsB w A n c inf)
 (j7 : nad < 0) :
 Ck 83 1 nad seq more code answer A n c w (d8 nad 1 seq more code answer inf) := by
 have HV : Hid (d8 nad 1 seq more code answer inf = 2) := by
  show _ = _
  unfold d8
  simp_all <;> (try omega)
 go_enter Tryz.func83, Tryz.ntmps83
 go_wp2_with (first | (go_at_call 90; go_in) | fail)
 go_ret
 exact ⟨m6 HV.out.symm, (((Below.refl _ _).alloc (GB _) _).alloc (by simp) _).alloc (by simp; omega) _⟩
theorem c5P (h : IsB w A n c inf)
 (j7 : ¬ (nad < 0)) (m7 : 254 < nad) :
 Ck 83 1 nad seq more code answer A n c w (d8 nad 1 seq more code answer inf) := by
 have HV : Hid (d8 nad 1 seq more code answer inf = 2) := by
  show _ = _
  unfold d8
  simp_all <;> (try omega)
 go_enter Tryz.func83, Tryz.ntmps83
 go_wp2_with (first | (go_at_call 90; go_in) | fail)
 go_ret
 exact ⟨m6 HV.out.symm, (((Below.refl _ _).alloc (GB _) _).alloc (by simp) _).alloc (by simp; omega) _⟩
theorem c7a (h : IsB w A n c inf)
 (j7 : ¬ (nad < 0)) (m7 : ¬ (254 < nad)) (B6 : seq < 0) :
 Ck 83 1 nad seq more code answer A n c w (d8 nad 1 seq more code answer inf) := by
 have HV : Hid (d8 nad 1 seq more code answer inf = 2) := by
  show _ = _
  unfold d8
  simp_all <;> (try omega)
 go_enter Tryz.func83, Tryz.ntmps83
 go_wp2_with (first | (go_at_call 90; go_in) | fail)
 go_ret
 exact ⟨m6 HV.out.symm, (((Below.refl _ _).alloc (GB _) _).alloc (by simp) _).alloc (by simp; omega) _⟩
theorem c7o (h : IsB w A n c inf)
 (j7 : ¬ (nad < 0)) (m7 : ¬ (254 < nad)) (B6 : ¬ (seq < 0)) (E5 : 1 < seq) :
 Ck 83 1 nad seq more code answer A n c w (d8 nad 1 seq more code answer inf) := by
 have HV : Hid (d8 nad 1 seq more code answer inf = 2) := by
  show _ = _
  unfold d8
  simp_all <;> (try omega)
 go_enter Tryz.func83, Tryz.ntmps83
 go_wp2_with (first | (go_at_call 90; go_in) | fail)
 go_ret
 exact ⟨m6 HV.out.symm, (((Below.refl _ _).alloc (GB _) _).alloc (by simp) _).alloc (by simp; omega) _⟩
theorem c5N (h : IsB w A n c inf)
 (j7 : ¬ (nad < 0)) (m7 : ¬ (254 < nad)) (B6 : ¬ (seq < 0)) (E5 : ¬ (1 < seq)) (B5 : code < 0) :
 Ck 83 1 nad seq more code answer A n c w (d8 nad 1 seq more code answer inf) := by
 have HV : Hid (d8 nad 1 seq more code answer inf = 2) := by
  show _ = _
  unfold d8
  simp_all <;> (try omega)
 go_enter Tryz.func83, Tryz.ntmps83
 go_wp2_with (first | (go_at_call 90; go_in) | fail)
 go_quiet (fail)
 go_wp2_with fail
 go_ret
 exact ⟨m6 HV.out.symm, Below.drewN' ((((Below.refl _ _).alloc (GB _) _).alloc (by simp) _).alloc (by simp; omega) _) _⟩
theorem c5Q (h : IsB w A n c inf)
 (j7 : ¬ (nad < 0)) (m7 : ¬ (254 < nad)) (B6 : ¬ (seq < 0)) (E5 : ¬ (1 < seq)) (B5 : ¬ (code < 0)) (E8 : 3 <= code) :
 Ck 83 1 nad seq more code answer A n c w (d8 nad 1 seq more code answer inf) := by
 have HV : Hid (d8 nad 1 seq more code answer inf = 2) := by
  show _ = _
  unfold d8
  simp_all <;> (try omega)
 go_enter Tryz.func83, Tryz.ntmps83
 go_wp2_with (first | (go_at_call 90; go_in) | fail)
 go_quiet ((go_at_call 89; exact Ia (a1A _)))
 go_wp2_with fail
 go_ret
 exact ⟨m6 HV.out.symm, Below.drewN' ((((Below.refl _ _).alloc (GB _) _).alloc (by simp) _).alloc (by simp; omega) _) _⟩
theorem c6B (h : IsB w A n c inf)
 (j7 : ¬ (nad < 0)) (m7 : ¬ (254 < nad)) (B6 : ¬ (seq < 0)) (E5 : ¬ (1 < seq)) (B5 : ¬ (code < 0)) (E8 : ¬ (3 <= code)) (P0 : more = true) :
 Ck 83 1 nad seq more code answer A n c w (d8 nad 1 seq more code answer inf) := by
 have HV : Hid (d8 nad 1 seq more code answer inf = 4) := by
  show _ = _
  unfold d8
  simp_all <;> (try omega)
 subst P0
 go_enter Tryz.func83, Tryz.ntmps83
 go_wp2_with (first | (go_at_call 90; go_in) | fail)
 go_quiet ((go_at_call 89; exact Ia (a1A _)))
 go_wp2_with fail
 go_ret
 exact ⟨m6 HV.out.symm, Below.drewN' ((((Below.refl _ _).alloc (GB _) _).alloc (by simp) _).alloc (by simp; omega) _) _⟩
theorem c6n (h : IsB w A n c inf)
 (j7 : ¬ (nad < 0)) (m7 : ¬ (254 < nad)) (B6 : ¬ (seq < 0)) (E5 : ¬ (1 < seq)) (B5 : ¬ (code < 0)) (E8 : ¬ (3 <= code)) (P0 : ¬ (more = true)) (J8 : answer = true) :
 Ck 83 1 nad seq more code answer A n c w (d8 nad 1 seq more code answer inf) := by
 have HV : Hid (d8 nad 1 seq more code answer inf = 4) := by
  show _ = _
  unfold d8
  simp_all <;> (try omega)
 obtain rfl : more = false := by simpa using P0
 subst J8
 go_enter Tryz.func83, Tryz.ntmps83
 go_wp2_with (first | (go_at_call 90; go_in) | fail)
 go_quiet ((go_at_call 89; exact Ia (a1A _)))
 go_wp2_with fail
 go_ret
 exact ⟨m6 HV.out.symm, Below.drewN' ((((Below.refl _ _).alloc (GB _) _).alloc (by simp) _).alloc (by simp; omega) _) _⟩
theorem c8d (h : IsB w A n c inf)
 (j7 : ¬ (nad < 0)) (m7 : ¬ (254 < nad)) (B6 : ¬ (seq < 0)) (E5 : ¬ (1 < seq)) (B5 : ¬ (code < 0)) (E8 : ¬ (3 <= code)) (P0 : ¬ (more = true)) (J8 : ¬ (answer = true)) :
 Ck 83 1 nad seq more code answer A n c w (d8 nad 1 seq more code answer inf) := by
 have HV : Hid (d8 nad 1 seq more code answer inf = T5 1 code inf) := by
  show _ = _
  unfold d8
  simp_all <;> (try omega)
 obtain rfl : more = false := by simpa using P0
 obtain rfl : answer = false := by simpa using J8
 go_enter Tryz.func83, Tryz.ntmps83
 go_wp2_with (first | (go_at_call 90; go_in) | fail)
 go_quiet ((go_at_call 89; exact Ia (a1A _)))
 go_wp2_with fail
 refine (d6w _ _ _ _ _ _ _ _ _ inf _ (Rd.drewN (((h.alloc _).alloc _).alloc _) _)).mono ?_
 rintro e w1 ⟨rfl, hb⟩
 go_wp2_with fail
 go_ret
 exact ⟨m6 HV.out.symm, (Below.drewN' ((((Below.refl _ _).alloc (GB _) _).alloc (by simp) _).alloc (by simp; omega) _) _).trans (hb.mono (by simp; omega))⟩
theorem c7V (h : IsB w A n c inf)
 (j7 : nad < 0) :
 Ck 83 2 nad seq more code answer A n c w (d8 nad 2 seq more code answer inf) := by
 have HV : Hid (d8 nad 2 seq more code answer inf = 2) := by
  show _ = _
  unfold d8
  simp_all <;> (try omega)
 go_enter Tryz.func83, Tryz.ntmps83
 go_wp2_with (first | (go_at_call 90; go_in) | fail)
 go_ret
 exact ⟨m6 HV.out.symm, (((Below.refl _ _).alloc (GB _) _).alloc (by simp) _).alloc (by simp; omega) _⟩
theorem c7h (h : IsB w A n c inf)
 (j7 : ¬ (nad < 0)) (m7 : 254 < nad) :
 Ck 83 2 nad seq more code answer A n c w (d8 nad 2 seq more code answer inf) := by
 have HV : Hid (d8 nad 2 seq more code answer inf = 2) := by
  show _ = _
  unfold d8
  simp_all <;> (try omega)
 go_enter Tryz.func83, Tryz.ntmps83
 go_wp2_with (first | (go_at_call 90; go_in) | fail)
 go_ret
 exact ⟨m6 HV.out.symm, (((Below.refl _ _).alloc (GB _) _).alloc (by simp) _).alloc (by simp; omega) _⟩
theorem c6F (h : IsB w A n c inf)
 (j7 : ¬ (nad < 0)) (m7 : ¬ (254 < nad)) (B5 : code < 0) :
 Ck 83 2 nad seq more code answer A n c w (d8 nad 2 seq more code answer inf) := by
 have HV : Hid (d8 nad 2 seq more code answer inf = 2) := by
  show _ = _
  unfold d8
  simp_all <;> (try omega)
 go_enter Tryz.func83, Tryz.ntmps83
 go_wp2_with (first | (go_at_call 90; go_in) | fail)
 go_quiet (fail)
 go_wp2_with fail
 go_ret
 exact ⟨m6 HV.out.symm, Below.drewN' ((((Below.refl _ _).alloc (GB _) _).alloc (by simp) _).alloc (by simp; omega) _) _⟩
theorem c7x (h : IsB w A n c inf)
 (j7 : ¬ (nad < 0)) (m7 : ¬ (254 < nad)) (B5 : ¬ (code < 0)) (E8 : 4 <= code) :
 Ck 83 2 nad seq more code answer A n c w (d8 nad 2 seq more code answer inf) := by
 have HV : Hid (d8 nad 2 seq more code answer inf = 2) := by
  show _ = _
  unfold d8
  simp_all <;> (try omega)
 go_enter Tryz.func83, Tryz.ntmps83
 go_wp2_with (first | (go_at_call 90; go_in) | fail)
 go_quiet ((go_at_call 89; exact Ia (a4U _)))
 go_wp2_with fail
 go_ret
 exact ⟨m6 HV.out.symm, Below.drewN' ((((Below.refl _ _).alloc (GB _) _).alloc (by simp) _).alloc (by simp; omega) _) _⟩
theorem c7S (h : IsB w A n c inf)
 (j7 : ¬ (nad < 0)) (m7 : ¬ (254 < nad)) (B5 : ¬ (code < 0)) (E8 : ¬ (4 <= code)) (a4G : ¬ (seq = 0)) :
 Ck 83 2 nad seq more code answer A n c w (d8 nad 2 seq more code answer inf) := by
 have HV : Hid (d8 nad 2 seq more code answer inf = 4) := by
  show _ = _
  unfold d8
  simp_all <;> (try omega)
 have b_seq0 : (seq != 0) = true := by simp; omega
 go_enter Tryz.func83, Tryz.ntmps83
 go_wp2_with (first | (go_at_call 90; go_in) | fail)
 go_quiet ((go_at_call 89; exact Ia (a4U _)))
 go_wp2_with fail
 go_ret
 exact ⟨m6 HV.out.symm, Below.drewN' ((((Below.refl _ _).alloc (GB _) _).alloc (by simp) _).alloc (by simp; omega) _) _⟩
theorem c7i (h : IsB w A n c inf)
 (j7 : ¬ (nad < 0)) (m7 : ¬ (254 < nad)) (B5 : ¬ (code < 0)) (E8 : ¬ (4 <= code)) (a4G : seq = 0) (P0 : more = true) :
 Ck 83 2 nad seq more code answer A n c w (d8 nad 2 seq more code answer inf) := by
 have HV : Hid (d8 nad 2 seq more code answer inf = 4) := by
  show _ = _
  unfold d8
  simp_all <;> (try omega)
 subst a4G
 subst P0
 go_enter Tryz.func83, Tryz.ntmps83
 go_wp2_with (first | (go_at_call 90; go_in) | fail)
 go_quiet ((go_at_call 89; exact Ia (a4U _)))
 go_wp2_with fail
 go_ret
 exact ⟨m6 HV.out.symm, Below.drewN' ((((Below.refl _ _).alloc (GB _) _).alloc (by simp) _).alloc (by simp; omega) _) _⟩
theorem c6J (h : IsB w A n c inf)
 (j7 : ¬ (nad < 0)) (m7 : ¬ (254 < nad)) (B5 : ¬ (code < 0)) (E8 : ¬ (4 <= code)) (a4G : seq = 0) (P0 : ¬ (more = true)) :
 Ck 83 2 nad seq more code answer A n c w (d8 nad 2 seq more code answer inf) := by
 have HV : Hid (d8 nad 2 seq more code answer inf = T5 2 code inf) := by
  show _ = _
  unfold d8
  simp_all <;> (try omega)
 have hlo : 0 <= code := by omega
 have hhi : code <= 3 := by omega
 subst a4G
 obtain rfl : more = false := by simpa using P0
 go_enter Tryz.func83, Tryz.ntmps83
 go_wp2_with (first | (go_at_call 90; go_in) | fail)
 go_quiet ((go_at_call 89; exact Ia (a4U _)))
 go_wp2_with fail
 refine (d5Y _ _ _ _ _ _ _ _ _ inf _ (Rd.drewN (((h.alloc _).alloc _).alloc _) _) hlo hhi).mono ?_
 rintro e w1 ⟨rfl, hb⟩
 go_wp2_with fail
 go_ret
 exact ⟨m6 HV.out.symm, (Below.drewN' ((((Below.refl _ _).alloc (GB _) _).alloc (by simp) _).alloc (by simp; omega) _) _).trans (hb.mono (by simp; omega))⟩
theorem a0N (nad kind seq : Int) (more : Bool) (code : Int) (answer : Bool) (A : Option Addr) (n c : Nat) (inf : List UInt8) (w : GG) (h : IsB w A n c inf) :
 Ck 83 kind nad seq more code answer A n c w (d8 nad kind seq more code answer inf) := by
 by_cases hk : kind < 0 ∨ 2 < kind
 . exact d1u nad seq kind more code answer A n c inf w hk
 have d7l : kind = 0 ∨ kind = 1 ∨ kind = 2 := by omega
 clear hk
 rcases d7l with rfl | rfl | rfl
 . by_cases j7 : nad < 0
   . exact c7J nad seq more code answer A n c inf w h j7
   by_cases m7 : 254 < nad
   . exact c7e nad seq more code answer A n c inf w h j7 m7
   by_cases B6 : seq < 0
   . exact c6u nad seq more code answer A n c inf w h j7 m7 B6
   by_cases E5 : 1 < seq
   . exact c5M nad seq more code answer A n c inf w h j7 m7 B6 E5
   by_cases a1Y : code = 0
   rotate_left
   . exact c7M nad seq more code answer A n c inf w h j7 m7 B6 E5 a1Y
   by_cases J8 : answer = true
   . exact c5X nad seq more code answer A n c inf w h j7 m7 B6 E5 a1Y J8
   exact c6d nad seq more code answer A n c inf w h j7 m7 B6 E5 a1Y J8
 . by_cases j7 : nad < 0
   . exact c7H nad seq more code answer A n c inf w h j7
   by_cases m7 : 254 < nad
   . exact c5P nad seq more code answer A n c inf w h j7 m7
   by_cases B6 : seq < 0
   . exact c7a nad seq more code answer A n c inf w h j7 m7 B6
   by_cases E5 : 1 < seq
   . exact c7o nad seq more code answer A n c inf w h j7 m7 B6 E5
   by_cases B5 : code < 0
   . exact c5N nad seq more code answer A n c inf w h j7 m7 B6 E5 B5
   by_cases E8 : 3 <= code
   . exact c5Q nad seq more code answer A n c inf w h j7 m7 B6 E5 B5 E8
   by_cases P0 : more = true
   . exact c6B nad seq more code answer A n c inf w h j7 m7 B6 E5 B5 E8 P0
   by_cases J8 : answer = true
   . exact c6n nad seq more code answer A n c inf w h j7 m7 B6 E5 B5 E8 P0 J8
   exact c8d nad seq more code answer A n c inf w h j7 m7 B6 E5 B5 E8 P0 J8
 . by_cases j7 : nad < 0
   . exact c7V nad seq more code answer A n c inf w h j7
   by_cases m7 : 254 < nad
   . exact c7h nad seq more code answer A n c inf w h j7 m7
   by_cases B5 : code < 0
   . exact c6F nad seq more code answer A n c inf w h j7 m7 B5
   by_cases E8 : 4 <= code
   . exact c7x nad seq more code answer A n c inf w h j7 m7 B5 E8
   by_cases a4G : seq = 0
   rotate_left
   . exact c7S nad seq more code answer A n c inf w h j7 m7 B5 E8 a4G
   by_cases P0 : more = true
   . exact c7i nad seq more code answer A n c inf w h j7 m7 B5 E8 a4G P0
   exact c6J nad seq more code answer A n c inf w h j7 m7 B5 E8 a4G P0
end
end
section
open Go.RowKit
end
section
open Go.RowKit
def O1 (seq : Int) (more : Bool) : Int := 64 * seq + (if more then 32 else 0)
def K2 (seq code : Int) : Int := 128 + 16 * seq + code
def N9 (code : Int) (answer : Bool) : Int := 192 + (if answer then 32 else 0) + code
theorem d0C (n : Int) (w : GG) :
 Hq Tryz.prog 116 #[.bool true, .int .i64 n] w fun e w' => e = .returned (.int .i64 n) /\ w' = w := by
 go_enter Tryz.func116, Tryz.ntmps116
 go_wp2
 go_ret
 exact ⟨rfl, rfl⟩
theorem d0J (n : Int) (w : GG) :
 Hq Tryz.prog 116 #[.bool false, .int .i64 n] w fun e w' => e = .returned (.int .i64 0) /\ w' = w := by
 go_enter Tryz.func116, Tryz.ntmps116
 go_wp2
 go_ret
 exact ⟨rfl, rfl⟩
set_option maxHeartbeats 1000000 in
theorem a4V (nad kind seq : Int) (more : Bool) (code : Int) (answer : Bool) (v : GK) (w : GG) (hs : seq = 0 ∨ seq = 1) (hc : code = 0 ∨ code = 1 ∨ code = 2 ∨ code = 3) :
 Hq Tryz.prog 117 #[.agg #[], .agg #[.int .i64 nad, .int .i64 kind, .int .i64 seq, .bool more, .int .i64 code, .bool answer, v]] w
  fun e w' => e = .returned (.int .i64 (K2 seq code)) /\ Below w.heap.size w w' := by
 rcases hs with rfl | rfl
 all_goals
  rcases hc with rfl | rfl | rfl | rfl
 all_goals
  go_enter Tryz.func117, Tryz.ntmps117
  go_wp2
  go_ret
  exact ⟨m6 (by decide +kernel), (((Below.refl _ _).alloc (GB _) _).alloc (by simp) _)⟩
set_option maxHeartbeats 1000000 in
theorem a8c (nad kind seq : Int) (more : Bool) (code : Int) (answer : Bool) (v : GK) (w : GG) (hs : seq = 0 ∨ seq = 1) :
 Hq Tryz.prog 120 #[.agg #[], .agg #[.int .i64 nad, .int .i64 kind, .int .i64 seq, .bool more, .int .i64 code, .bool answer, v]] w
  fun e w' => e = .returned (.int .i64 (O1 seq more)) /\ Below w.heap.size w w' := by
 cases more
 . rcases hs with rfl | rfl
   all_goals
    go_enter Tryz.func120, Tryz.ntmps120
    go_wp2_with fail
    go_quiet ((go_at_call 116; exact Ia (d0J _ _)))
    go_wp2_with fail
    go_ret
    exact ⟨m6 (by decide +kernel), Below.drewN' (((Below.refl _ _).alloc (GB _) _).alloc (by simp) _) _⟩
 . rcases hs with rfl | rfl
   all_goals
    go_enter Tryz.func120, Tryz.ntmps120
    go_wp2_with fail
    go_quiet ((go_at_call 116; exact Ia (d0C _ _)))
    go_wp2_with fail
    go_ret
    exact ⟨m6 (by decide +kernel), Below.drewN' (((Below.refl _ _).alloc (GB _) _).alloc (by simp) _) _⟩
set_option maxHeartbeats 1000000 in
theorem a8A (nad kind seq : Int) (more : Bool) (code : Int) (answer : Bool) (v : GK) (w : GG) (hc : code = 0 ∨ code = 1 ∨ code = 2 ∨ code = 3) :
 Hq Tryz.prog 113 #[.agg #[], .agg #[.int .i64 nad, .int .i64 kind, .int .i64 seq, .bool more, .int .i64 code, .bool answer, v]] w
  fun e w' => e = .returned (.int .i64 (N9 code answer)) /\ Below w.heap.size w w' := by
 cases answer
 . rcases hc with rfl | rfl | rfl | rfl
   all_goals
    go_enter Tryz.func113, Tryz.ntmps113
    go_wp2_with fail
    go_quiet ((go_at_call 116; exact Ia (d0J _ _)))
    go_wp2_with fail
    go_ret
    exact ⟨m6 (by decide +kernel), Below.drewN' (((Below.refl _ _).alloc (GB _) _).alloc (by simp) _) _⟩
 . rcases hc with rfl | rfl | rfl | rfl
   all_goals
    go_enter Tryz.func113, Tryz.ntmps113
    go_wp2_with fail
    go_quiet ((go_at_call 116; exact Ia (d0C _ _)))
    go_wp2_with fail
    go_ret
    exact ⟨m6 (by decide +kernel), Below.drewN' (((Below.refl _ _).alloc (GB _) _).alloc (by simp) _) _⟩
end
section
open Go.RowKit
theorem b0q (a b : Nat) (ha : a < 4611686018427387904) (hb : b < 4611686018427387904) : bits .and .i64 (a : Int) (b : Int) = ((a &&& b : Nat) : Int) := by
 have hx : a &&& b < 2 ^ 62 := Nat.and_lt_two_pow _ (by omega)
 have e : ∀ c : Nat, c < 4611686018427387904 -> (BitVec.ofInt 64 (c : Int)).toNat = c := fun c hc => by
  rw [BitVec.ofInt_natCast, BitVec.toNat_ofNat]; exact Ii (by omega)
 show IntKind.i64.wrap ((BitVec.ofInt 64 (a : Int) &&& BitVec.ofInt 64 (b : Int)).toNat : Int) = _
 rw [BitVec.toNat_and, e a ha, e b hb, IntKind.wrap_i64]
 omega
theorem b1Y (c : Nat) (h : c < 256) : bits .and .i64 (c : Int) 32 = ((c / 32 % 2 * 32 : Nat) : Int) := by
 have := b0q c 32 (by omega) (by omega)
 rw [nat_bit 5 c] at this
 exact this
theorem b4L (c : Nat) (h : c < 256) : bits .and .i64 (c : Int) 3 = ((c % 4 : Nat) : Int) := by
 have := b0q c 3 (by omega) (by omega)
 rw [nat_mask2] at this
 exact this
theorem c6l (c : Nat) (h : c < 256) : bits .and .i64 (c : Int) 1 = ((c % 2 : Nat) : Int) := by
 have := b0q c 1 (by omega) (by omega)
 rw [nat_mask1] at this
 exact this
theorem N6 (c : Nat) (h : c < 256) : bits .and .i64 (c : Int) 192 = ((c / 64 * 64 : Nat) : Int) := by
 have := b0q c 192 (by omega) (by omega)
 rw [show c &&& 192 = c / 64 * 64 from by
  have e := nat_midmask 8 6 c (by decide)
  rw [show (2 : Nat) ^ 8 - 2 ^ 6 = 192 by decide] at e
  rw [e, Ii (by omega)]] at this
 exact this
set_option maxHeartbeats 1000000 in
theorem c4J (c : Nat) (hc : c < 128) (w : GG) :
 Hq Tryz.prog 121 #[.agg #[], .int .i64 (c : Int)] w
  fun e w' => e = .returned (.agg #[.int .i64 0, .int .i64 0, .int .i64 (c / 64 : Nat), .bool (decide (c / 32 % 2 = 1)), .int .i64 0, .bool false, .slice none 0 0]) /\ Below w.heap.size w w' := by
 have h1 := b1Y c (by omega)
 rcases It (c / 32) with h2 | h2
 . rw [h2] at h1
   have HD : Hid (decide (c / 32 % 2 = 1) = false) := by show _ = _; rw [h2]; rfl
   have hci : (c : Int) < 256 := by omega
   clear h2
   go_enter Tryz.func121, Tryz.ntmps121
   go_wp2
   refine Hj (v := .agg #[.int .i64 0, .int .i64 0, .int .i64 ((c : Int) / 64), .bool false, .int .i64 0, .bool false, .slice none 0 0]) (by simp [results, Tryz.results121, go_sem]) rfl ⟨?_, ((Below.refl _ _).alloc (GB _) _).alloc (by simp) _⟩
   rw [HD.out]; rfl
 . rw [h2] at h1
   have HD : Hid (decide (c / 32 % 2 = 1) = true) := by show _ = _; rw [h2]; rfl
   have hci : (c : Int) < 256 := by omega
   clear h2
   go_enter Tryz.func121, Tryz.ntmps121
   go_wp2
   refine Hj (v := .agg #[.int .i64 0, .int .i64 0, .int .i64 ((c : Int) / 64), .bool true, .int .i64 0, .bool false, .slice none 0 0]) (by simp [results, Tryz.results121, go_sem]) rfl ⟨?_, ((Below.refl _ _).alloc (GB _) _).alloc (by simp) _⟩
   rw [HD.out]; rfl
set_option maxHeartbeats 1000000 in
theorem b7K (c : Nat) (hc : c < 256) (w : GG) :
 Hq Tryz.prog 118 #[.agg #[], .int .i64 (c : Int)] w
  fun e w' => e = .returned (.agg #[.int .i64 0, .int .i64 1, .int .i64 (c / 16 % 2 : Nat), .bool false, .int .i64 (c % 4 : Nat), .bool false, .slice none 0 0]) /\ Below w.heap.size w w' := by
 have h1 : bits .and .i64 ((c : Int) / 16) 1 = ((c / 16 % 2 : Nat) : Int) := c6l (c / 16) (by omega)
 have h3 := b4L c hc
 have hci : (c : Int) < 256 := by omega
 go_enter Tryz.func118, Tryz.ntmps118
 go_wp2
 exact Hj (v := .agg #[.int .i64 0, .int .i64 1, .int .i64 (c / 16 % 2 : Nat), .bool false, .int .i64 (c % 4 : Nat), .bool false, .slice none 0 0]) (by simp [results, Tryz.results118, go_sem]) rfl ⟨rfl, ((Below.refl _ _).alloc (GB _) _).alloc (by simp) _⟩
set_option maxHeartbeats 1000000 in
theorem c5s (c : Nat) (hc : c < 256) (w : GG) :
 Hq Tryz.prog 114 #[.agg #[], .int .i64 (c : Int)] w
  fun e w' => e = .returned (.agg #[.int .i64 0, .int .i64 2, .int .i64 0, .bool false, .int .i64 (c % 4 : Nat), .bool (decide (c / 32 % 2 = 1)), .slice none 0 0]) /\ Below w.heap.size w w' := by
 have h1 := b1Y c hc
 have h3 := b4L c hc
 rcases It (c / 32) with h2 | h2
 . rw [h2] at h1
   have HD : Hid (decide (c / 32 % 2 = 1) = false) := by show _ = _; rw [h2]; rfl
   have hci : (c : Int) < 256 := by omega
   clear h2
   go_enter Tryz.func114, Tryz.ntmps114
   go_wp2
   refine Hj (v := .agg #[.int .i64 0, .int .i64 2, .int .i64 0, .bool false, .int .i64 ((c % 4 : Nat) : Int), .bool false, .slice none 0 0]) (by simp [results, Tryz.results114, go_sem]) rfl ⟨?_, ((Below.refl _ _).alloc (GB _) _).alloc (by simp) _⟩
   rw [HD.out]
 . rw [h2] at h1
   have HD : Hid (decide (c / 32 % 2 = 1) = true) := by show _ = _; rw [h2]; rfl
   have hci : (c : Int) < 256 := by omega
   clear h2
   go_enter Tryz.func114, Tryz.ntmps114
   go_wp2
   refine Hj (v := .agg #[.int .i64 0, .int .i64 2, .int .i64 0, .bool false, .int .i64 ((c % 4 : Nat) : Int), .bool true, .slice none 0 0]) (by simp [results, Tryz.results114, go_sem]) rfl ⟨?_, ((Below.refl _ _).alloc (GB _) _).alloc (by simp) _⟩
   rw [HD.out]
theorem d5Z (w : GG) : (method 260 127 (.agg #[]) "smartcard/block.parse").run Tryz.prog w = .ok (121, .agg #[]) w := by kernel_rfl
theorem d6q (w : GG) : (method 260 126 (.agg #[]) "smartcard/block.parse").run Tryz.prog w = .ok (118, .agg #[]) w := by kernel_rfl
theorem d6r (w : GG) : (method 260 125 (.agg #[]) "smartcard/block.parse").run Tryz.prog w = .ok (114, .agg #[]) w := by kernel_rfl
theorem d5V (w : GG) : (method 260 127 (.agg #[]) "smartcard/block.control").run Tryz.prog w = .ok (120, .agg #[]) w := by kernel_rfl
theorem d5L (w : GG) : (method 260 126 (.agg #[]) "smartcard/block.control").run Tryz.prog w = .ok (117, .agg #[]) w := by kernel_rfl
theorem d5z (w : GG) : (method 260 125 (.agg #[]) "smartcard/block.control").run Tryz.prog w = .ok (113, .agg #[]) w := by kernel_rfl
end
section
open Go.RowKit
def V5 (a : Act) (d : Option Tmp) : GK := match d with | some d => a.tmps[d]?.getD undef | none => undef
def J6 (ops : Array Oper) (i : Nat) : Option Tmp := (ops[i]?).bind (·.dst)
def Region.plain (ops : Array Oper) (n : Nat) : Bool :=
 (Mb ops.size).all fun i => match ops[i]? with
  | none => false
  | some o => (o.after.all fun e => !Region.binds .any e || decide (e.on < i)) &&
    (match o.dst with
     | none => true
     | some d => decide (d < n) && (Mb ops.size).all fun j => decide (j = i) || J6 ops j != some d)
def Region.before (ops : Array Oper) (i k : Nat) : Bool :=
 ops.all fun o => o.dst != some k || o.after.any fun e => Region.binds .any e && e.on == i
def Waited (ops : Array Oper) (φ : Nat -> GK -> GG -> Prop) (a : Act) (w : GG) : List Edge -> Prop
 | [] => True
 | e :: r => (match Region.binds .any e with | true => φ e.on (V5 a (J6 ops e.on)) w | false => True) /\ Waited ops φ a w r
def d3y (d : Option Tmp) (v : GK) : GK := match d with | some _ => v | none => undef
def c2U (P : Hb) (ops : Array Oper) (Q : Exit -> Act -> GG -> Prop) (T : GG -> GG -> Prop) (φ : Nat -> GK -> GG -> Prop) (a0 : Act) (w0 : GG) (i : Nat) (o : Oper) : Prop :=
 ∀ (a : Act) (w : GG) (K : Act -> GG -> Prop), T w0 w -> (∀ k, Region.before ops i k = true -> a.tmps[k]?.getD undef = a0.tmps[k]?.getD undef) -> Waited ops φ a w o.after.toList ->
  (∀ v w', T w w' -> φ i (d3y o.dst v) w' -> K (a.put o.dst v) w') -> if Region.wanted o (yielded ops a.tmps) = true then Oper.wp P o a w K Q else K (a.put o.dst undef) w
def StepsAt (P : Hb) (ops : Array Oper) (Q : Exit -> Act -> GG -> Prop) (T : GG -> GG -> Prop) (φ : Nat -> GK -> GG -> Prop) (a0 : Act) (w0 : GG) : Nat -> List Oper -> Prop
 | _, [] => True
 | i, o :: r => c2U P ops Q T φ a0 w0 i o /\ StepsAt P ops Q T φ a0 w0 (i + 1) r
def C6 (vs : Nat -> GK) : Nat -> List Oper -> Act -> Act
 | _, [], a => a
 | i, o :: r, a => C6 vs (i + 1) r (a.put o.dst (vs i))
def AllAt (φ : Nat -> GK -> GG -> Prop) (vs : Nat -> GK) (w : GG) : Nat -> List Oper -> Prop
 | _, [] => True
 | i, _ :: r => φ i (vs i) w /\ AllAt φ vs w (i + 1) r
section
variable {P : Hb} {ops : Array Oper} {Q : Exit -> Act -> GG -> Prop} {T : GG -> GG -> Prop} {φ : Nat -> GK -> GG -> Prop} {a0 : Act} {w0 : GG}
theorem StepsAt.get : ∀ (l : List Oper) (k : Nat), StepsAt P ops Q T φ a0 w0 k l -> ∀ i o, l[i]? = some o -> c2U P ops Q T φ a0 w0 (k + i) o
 | [], _, _, i, o, h => by simp at h
 | x :: l, k, hs, 0, o, h => by simp at h; subst h; exact hs.1
 | x :: l, k, hs, i + 1, o, h => by
   have := StepsAt.get l (k + 1) hs.2 i o (by simpa using h)
   rwa [show k + 1 + i = k + (i + 1) by omega] at this
theorem AllAt.of : ∀ (l : List Oper) (k : Nat) {vs : Nat -> GK} {w : GG}, (∀ i, i < l.length -> φ (k + i) (vs (k + i)) w) -> AllAt φ vs w k l
 | [], _, _, _, _ => trivial
 | _ :: l, k, vs, w, h => ⟨by simpa using h 0 (by simp), AllAt.of l (k + 1) (fun i hi => by have := h (i + 1) (by simp; omega); rwa [show k + (i + 1) = k + 1 + i by omega] at this)⟩
theorem Waited.of {a : Act} {w : GG} : ∀ (l : List Edge), (∀ e ∈ l, Region.binds .any e = true -> φ e.on (V5 a (J6 ops e.on)) w) -> Waited ops φ a w l
 | [], _ => trivial
 | e :: l, h => ⟨by cases hb : Region.binds .any e with | true => exact h e (by simp) hb | false => trivial, Waited.of l (fun e' he' => h e' (by simp [he']))⟩
theorem a5Y {n : Nat} (h : Region.plain ops n = true) {i : Nat} {o : Oper} (ho : ops[i]? = some o) :
 (∀ e ∈ o.after, Region.binds .any e = true -> e.on < i) /\ (∀ d, o.dst = some d -> d < n /\ ∀ j, j < ops.size -> j ≠ i -> J6 ops j ≠ some d) := by
 have hi : i < ops.size := (Hr.1 ho).1
 unfold Region.plain at h
 rw [Ib] at h
 have h1 := h i (Nj.2 hi)
 rw [ho] at h1
 simp only [GP] at h1
 refine ⟨fun e he hb => ?_, fun d hd => ?_⟩
 . have := Ko.1 h1.1 e he
   simpa [hb] using this
 . have h2 := h1.2
   rw [hd] at h2
   simp only [GP, decide_eq_true_eq, Ib] at h2
   refine ⟨h2.1, fun j hj hne => ?_⟩
   have := h2.2 j (Nj.2 hj)
   simpa [hne] using this
structure RegInv (ops : Array Oper) (T : GG -> GG -> Prop) (φ : Nat -> GK -> GG -> Prop) (a0 : Act) (w0 : GG) (listed : Array Bool) (a : Act) (w : GG) : Prop where
 world : T w0 w
 size : listed.size = ops.size
 defers : a.defers = a0.defers
 frame : a.tmps.size = a0.tmps.size
 same : ∀ k, (∀ j, listed.getD j false = true -> J6 ops j ≠ some k) -> a.tmps[k]?.getD undef = a0.tmps[k]?.getD undef
 vals : ∀ j, listed.getD j false = true -> φ j (V5 a (J6 ops j)) w
 closed : ∀ j o, ops[j]? = some o -> listed.getD j false = true -> ∀ e ∈ o.after, Region.binds .any e = true -> listed.getD e.on false = true
theorem a2f (a : Act) (d : Option Tmp) (v : GK) : (a.put d v).tmps.size = a.tmps.size := by cases d <;> simp [Jo]
theorem put_defers (a : Act) (d : Option Tmp) (v : GK) : (a.put d v).defers = a.defers := by cases d <;> simp [Jo]
theorem a3Y (a : Act) (d : Option Tmp) (v : GK) (k : Nat) (h : d ≠ some k) : (a.put d v).tmps[k]?.getD undef = a.tmps[k]?.getD undef := by
 cases d with
 | none => rfl
 | some d => simp only [Jo]; rw [IR (fun e => h (by rw [e]))]
theorem a5w (a : Act) (d : Nat) (v : GK) (h : d < a.tmps.size) : (a.put (some d) v).tmps[d]?.getD undef = v := by
 simp [Jo, h]
theorem W9 {listed : Array Bool} {i j : Nat} (hi : i < listed.size) : (listed.setIfInBounds i true).getD j false = true ↔ j = i ∨ listed.getD j false = true := by
 by_cases h : i = j
 . subst h; simp [hi]
 . rw [getD_set_ne false h]; simp [Jh h]
theorem RegInv.step (hp : Region.plain ops a0.tmps.size = true) (htr : ∀ x y z : GG, T x y -> T y z -> T x z) (hst : ∀ i v w w', T w w' -> φ i v w -> φ i v w')
 {listed : Array Bool} {a : Act} {w : GG} (inv : RegInv ops T φ a0 w0 listed a w) {i : Nat} {o : Oper} (ho : ops[i]? = some o) (hr : i ∈ Region.ready .any ops listed)
 {v : GK} {w' : GG} (hw : T w w') (hv : φ i (d3y o.dst v) w') : RegInv ops T φ a0 w0 (listed.setIfInBounds i true) (a.put o.dst v) w' := by
 have hi : i < ops.size := (Hr.1 ho).1
 have hil : i < listed.size := by rw [inv.size]; exact hi
 obtain ⟨hun, o', ho', a0z⟩ := Ks.1 hr
 rw [ho] at ho'; injection ho' with ho'; subst ho'
 obtain ⟨_, hd⟩ := a5Y hp ho
 have hdi : J6 ops i = o.dst := by simp [J6, ho]
 refine ⟨htr _ _ _ inv.world hw, by simpa using inv.size, by rw [put_defers]; exact inv.defers, by rw [a2f]; exact inv.frame, ?_, ?_, ?_⟩
 . intro k hk
   rw [a3Y _ _ _ _ (by rw [← hdi]; exact hk i ((W9 hil).2 (.inl rfl)))]
   exact inv.same k fun j hj => hk j ((W9 hil).2 (.inr hj))
 . intro j hj
   rcases (W9 hil).1 hj with rfl | hj2
   . rw [hdi]
     cases hdo : o.dst with
     | none => rw [hdo] at hv; exact hv
     | some d =>
       rw [hdo] at hv
       have := (hd d hdo).1
       rw [show V5 (a.put (some d) v) (some d) = v from a5w a d v (by rw [inv.frame]; exact this)]
       exact hv
   . have hne : j ≠ i := fun e => by
      subst e
      rcases Ir j listed.size with h' | h'
      . rw [GL, GQ h'] at hun hj2
        simp only [JK] at hun hj2
        rw [hun] at hj2; cases hj2
      . omega
     have hjl : j < ops.size := by
      rcases Ir j ops.size with h' | h'
      . exact h'
      . rw [← inv.size] at h'; simp [Jg h'] at hj2
     have := hst j _ _ _ hw (inv.vals j hj2)
     have hs : V5 (a.put o.dst v) (J6 ops j) = V5 a (J6 ops j) := by
      cases hdj : J6 ops j with
      | none => rfl
      | some k => exact a3Y _ _ _ _ (fun e => (hd k e).2 j hjl hne hdj)
     rw [hs]; exact this
 . intro j oj hoj hj e he hb
   rcases (W9 hil).1 hj with rfl | hj
   . rw [ho] at hoj; injection hoj with hoj; subst hoj
     exact (W9 hil).2 (.inr (a0z e he hb))
   . exact (W9 hil).2 (.inr (inv.closed j oj hoj hj e he hb))
theorem RegInv.wpOp (hp : Region.plain ops a0.tmps.size = true) (htr : ∀ x y z : GG, T x y -> T y z -> T x z) (hst : ∀ i v w w', T w w' -> φ i v w -> φ i v w')
 {listed : Array Bool} {a : Act} {w : GG} (inv : RegInv ops T φ a0 w0 listed a w) {i : Nat} {o : Oper} (ho : ops[i]? = some o) (hr : i ∈ Region.ready .any ops listed)
 (hs : c2U P ops Q T φ a0 w0 i o) :
 Go.wpOp P ops Q i (fun a' w' => RegInv ops T φ a0 w0 (listed.setIfInBounds i true) a' w') a w := by
 have hi : i < ops.size := (Hr.1 ho).1
 obtain ⟨hun, o', ho', a0z⟩ := Ks.1 hr
 rw [ho] at ho'; injection ho' with ho'; subst ho'
 have hil : i < listed.size := by rw [inv.size]; exact hi
 have b3T := hs a w (fun a' w' => RegInv ops T φ a0 w0 (listed.setIfInBounds i true) a' w') inv.world
  (fun k hk => inv.same k fun j hj hdj => by
   unfold Region.before at hk
   have hjl : j < ops.size := by
    rcases Ir j ops.size with h' | h'
    . exact h'
    . rw [← inv.size] at h'; simp [Jg h'] at hj
   have hoj : ops[j]? = some ops[j] := GQ hjl
   have hdj' : (ops[j]).dst = some k := by simpa [J6, hoj] using hdj
   have h1 := Ko.1 hk ops[j] (Mr hjl)
   simp only [hdj', bne_self_eq_false, Bool.false_or] at h1
   rw [Array.any_eq_true] at h1
   obtain ⟨q, hq, hb⟩ := h1
   simp only [GP, beq_iff_eq] at hb
   have h2 := inv.closed j _ hoj hj _ (Mr hq) hb.1
   rw [hb.2] at h2
   rw [GL, GQ hil] at hun h2
   simp only [JK] at hun h2
   rw [hun] at h2; cases h2)
  (Waited.of _ fun e he hb => inv.vals _ (a0z e (by simpa using he) hb))
  (fun v w' hw hv => inv.step hp htr hst ho hr hw hv)
 unfold Go.wpOp
 simp only [ho]
 split
 . rename_i hw
   rw [if_pos hw] at b3T
   exact .inl b3T
 . rename_i hw
   rw [if_neg hw] at b3T
   exact b3T
def marked (listed : Array Bool) : Nat := listed.toList.countP (· = true)
theorem b2Q {listed : Array Bool} {i : Nat} (hi : i < listed.size) (h : listed.getD i true = false) : marked (listed.setIfInBounds i true) = marked listed + 1 := by
 have hf : listed[i] = false := by rw [GL, GQ hi] at h; simpa using h
 unfold marked
 rw [Array.toList_setIfInBounds]
 have hl : listed.toList = listed.toList.take i ++ listed.toList[i]'(by simpa using hi) :: listed.toList.drop (i + 1) := by
  conv => lhs; rw [← Ip i listed.toList, List.drop_eq_getElem_cons (by simpa using hi)]
 rw [List.set_eq_take_append_cons_drop, if_pos (by simpa using hi)]
 conv => rhs; rw [hl]
 simp [List.countP_append, hf]
 omega
theorem c7U (listed : Array Bool) : marked listed <= listed.size := by
 unfold marked; rw [← HZ]; exact List.countP_le_length
theorem RegInv.any (hp : Region.plain ops a0.tmps.size = true) (htr : ∀ x y z : GG, T x y -> T y z -> T x z) (hst : ∀ i v w w', T w w' -> φ i v w -> φ i v w')
 (hs : StepsAt P ops Q T φ a0 w0 0 ops.toList) (O9 : ∀ listed a w, RegInv ops T φ a0 w0 listed a w -> (∀ j, j < ops.size -> listed.getD j false = true) -> Q .normal a w) :
 ∀ (fuel : Nat) (listed : Array Bool) (a : Act) (w : GG), fuel + marked listed = ops.size -> RegInv ops T φ a0 w0 listed a w -> wpAny P .any ops Q fuel listed a w := by
 have d0W : ∀ (listed : Array Bool) (a : Act) (w : GG), RegInv ops T φ a0 w0 listed a w -> Region.ready .any ops listed = [] -> ∀ j, j < ops.size -> listed.getD j false = true := by
  intro listed a w inv hr j
  induction j using Nat.strongRecOn with
  | _ j ih =>
    intro hj
    have hoj : ops[j]? = some ops[j] := GQ hj
    have hjl : j < listed.size := by rw [inv.size]; exact hj
    cases hl : listed.getD j false with
    | true => rfl
    | false =>
      have : j ∈ Region.ready .any ops listed := Ks.2 ⟨by
       rw [GL, GQ hjl] at hl ⊢; exact hl, _, hoj, fun e he hb => by
       have hlt := (a5Y hp hoj).1 e he hb
       exact ih e.on hlt (by omega)⟩
      rw [hr] at this; cases this
 intro fuel
 induction fuel with
 | zero =>
   intro listed a w hm inv
   have a0z : ∀ j, j < ops.size -> listed.getD j false = true := by
    intro j hj
    have hjl : j < listed.size := by rw [inv.size]; exact hj
    cases hl : listed.getD j false with
    | true => rfl
    | false =>
      have h1 := b2Q (listed := listed) hjl (by rw [GL, GQ hjl] at hl ⊢; exact hl)
      have h2 := c7U (listed.setIfInBounds j true)
      rw [Array.size_setIfInBounds, inv.size] at h2
      omega
   refine ⟨?_, O9 listed a w inv a0z⟩
   rcases hr : Region.ready .any ops listed with _ | ⟨j, l⟩
   . rfl
   . have hj : j ∈ Region.ready .any ops listed := by rw [hr]; exact List.mem_cons_self
     obtain ⟨hun, o, ho, _⟩ := Ks.1 hj
     have hjs : j < ops.size := (Hr.1 ho).1
     have h1 := a0z j hjs
     have hjl : j < listed.size := by rw [inv.size]; exact hjs
     rw [GL, GQ hjl] at hun h1
     simp only [JK] at hun h1
     rw [hun] at h1; cases h1
 | succ fuel ih =>
   intro listed a w hm inv
   refine ⟨fun hr => O9 listed a w inv (d0W listed a w inv hr), fun i hi => ?_⟩
   obtain ⟨hun, o, ho, _⟩ := Ks.1 hi
   have his : i < ops.size := (Hr.1 ho).1
   have hsi := StepsAt.get ops.toList 0 hs i o (by simpa using ho)
   rw [HE] at hsi
   refine wpOp_mono (fun a' w' inv' => ih _ a' w' ?_ inv') (inv.wpOp hp htr hst ho hi hsi)
   rw [b2Q (by rw [inv.size]; exact his) hun]
   omega
theorem a4z (vs : Nat -> GK) (k : Nat) : ∀ (l : List Oper) (i : Nat) (a : Act), (∀ (j : Nat) (o : Oper), l[j]? = some o -> o.dst ≠ some k) -> (C6 vs i l a).tmps[k]?.getD undef = a.tmps[k]?.getD undef
 | [], _, _, _ => rfl
 | o :: l, i, a, h => by
   rw [C6, a4z vs k l (i + 1) _ (fun j o' hj => h (j + 1) o' (by simpa using hj)), a3Y _ _ _ _ (h 0 o rfl)]
theorem a9v (vs : Nat -> GK) : ∀ (l : List Oper) (i : Nat) (a : Act), (C6 vs i l a).tmps.size = a.tmps.size
 | [], _, _ => rfl
 | o :: l, i, a => by rw [C6, a9v vs l, a2f]
theorem a5I (vs : Nat -> GK) : ∀ (l : List Oper) (i : Nat) (a : Act), (C6 vs i l a).defers = a.defers
 | [], _, _ => rfl
 | o :: l, i, a => by rw [C6, a5I vs l, put_defers]
theorem b3b (vs : Nat -> GK) (k : Nat) : ∀ (l : List Oper) (i : Nat) (a : Act) (j : Nat) (o : Oper), l[j]? = some o -> o.dst = some k -> k < a.tmps.size -> (∀ (j' : Nat) (o' : Oper), l[j']? = some o' -> o'.dst = some k -> j' = j) -> (C6 vs i l a).tmps[k]?.getD undef = vs (i + j)
 | [], _, _, _, _, h, _, _, _ => by simp at h
 | x :: l, i, a, 0, o, h, hd, hk, hu => by
   simp at h; subst h
   rw [C6, a4z vs k l (i + 1) _ (fun j o' hj hd' => by have := hu (j + 1) o' (by simpa using hj) hd'; omega), hd, a5w _ _ _ hk]; rfl
 | x :: l, i, a, j + 1, o, h, hd, hk, hu => by
   rw [C6, b3b vs k l (i + 1) _ j o (by simpa using h) hd (by rw [a2f]; exact hk) (fun j' o' hj' hd' => by have := hu (j' + 1) o' (by simpa using hj') hd'; omega)]
   congr 1; omega
theorem b0l {id : Nat} {l : List Oper} (T : GG -> GG -> Prop) (φ : Nat -> GK -> GG -> Prop) (hm : P.follows .mixedOrders = true) (hp : Region.plain l.toArray a0.tmps.size = true)
 (hrf : ∀ w, T w w) (htr : ∀ x y z : GG, T x y -> T y z -> T x z) (hst : ∀ i v w w', T w w' -> φ i v w -> φ i v w')
 (hs : StepsAt P l.toArray Q T φ a0 w0.drew 0 l)
 (O9 : ∀ (vs : Nat -> GK) w, T w0.drew w -> AllAt φ vs w 0 l -> Q .normal (C6 vs 0 l a0) w) : (Code.region id l.toArray true).wp P Q a0 w0 := by
 refine wp_region_any hm (RegInv.any hp htr hst (by simpa using hs) ?_ _ _ _ _ ?_ ?_)
 . intro listed a w inv a0z
   have d7m : a = C6 (fun i => V5 a (J6 l.toArray i)) 0 l a0 := by
    have hsz : a.tmps.size = (C6 (fun i => V5 a (J6 l.toArray i)) 0 l a0).tmps.size := by rw [a9v, inv.frame]
    have hd : a.defers = (C6 (fun i => V5 a (J6 l.toArray i)) 0 l a0).defers := by rw [a5I, inv.defers]
    have ht : a.tmps = (C6 (fun i => V5 a (J6 l.toArray i)) 0 l a0).tmps := by
     apply NH hsz
     intro k hk1 hk2
     have hg : a.tmps[k]?.getD undef = (C6 (fun i => V5 a (J6 l.toArray i)) 0 l a0).tmps[k]?.getD undef := by
      by_cases hex : ∃ (j : Nat) (o : Oper), l[j]? = some o /\ o.dst = some k
      . obtain ⟨j, o, ho, hdo⟩ := hex
        have hoa : l.toArray[j]? = some o := by simpa using ho
        have hsp := (a5Y hp hoa).2 k hdo
        rw [b3b _ k l 0 a0 j o ho hdo hsp.1 (fun j' o' hj' hd' => by
         by_cases he : j' = j
         . exact he
         . exact absurd (by simp [J6, hj', hd'] : J6 l.toArray j' = some k) (hsp.2 j' (by have := (GD.1 hj').1; simpa using this) he))]
        simp only [HE, J6, hoa, Option.bind_some, hdo, V5]
      . rw [a4z _ k l 0 a0 (fun j o ho hdo => hex ⟨j, o, ho, hdo⟩)]
        refine inv.same k fun j hj hdj => ?_
        have hjl : j < l.toArray.size := by
         rcases Ir j l.toArray.size with h' | h'
         . exact h'
         . rw [← inv.size] at h'; simp [Jg h'] at hj
        have hoj : l.toArray[j]? = some l.toArray[j] := GQ hjl
        exact hex ⟨j, l.toArray[j], by simp, by simpa [J6, hoj] using hdj⟩
     rw [GQ hk1, GQ hk2] at hg
     exact hg
    cases a with
    | mk t d => simp only at ht hd; cases hq : C6 (fun i => V5 (Act.mk t d) (J6 l.toArray i)) 0 l a0 with | mk t' d' => rw [hq] at ht hd; simp only at ht hd; subst ht hd; rfl
   rw [d7m]
   exact O9 _ w inv.world (AllAt.of l 0 fun i hi => by rw [HE]; exact inv.vals i (a0z i (by simpa using hi)))
 . simp [marked, List.countP_replicate]
 . refine ⟨hrf _, by simp, rfl, rfl, fun _ _ => rfl, fun j hj => ?_, fun j o _ hj => ?_⟩
   . simp [Ju] at hj; split at hj <;> simp at hj
   . simp [Ju] at hj; split at hj <;> simp at hj
def St (T : GG -> GG -> Prop) : Type := { p : GK -> GG -> Prop // ∀ v w w', T w w' -> p v w -> p v w' }
def St.is {T : GG -> GG -> Prop} (x : GK) : St T := ⟨fun v _ => v = x, fun _ _ _ _ h => h⟩
def St.pred {T : GG -> GG -> Prop} (p : GK -> GG -> Prop) (h : ∀ v w w', T w w' -> p v w -> p v w') : St T := ⟨p, h⟩
theorem q7 {id : Nat} {l : List Oper} {T : GG -> GG -> Prop} (L : List (St T)) (hm : P.follows .mixedOrders = true) (hp : Region.plain l.toArray a0.tmps.size = true)
 (hrf : ∀ w, T w w) (htr : ∀ x y z : GG, T x y -> T y z -> T x z)
 (hs : StepsAt P l.toArray Q T (fun i v w => (L.getD i (St.is undef)).1 v w) a0 w0.drew 0 l)
 (O9 : ∀ (vs : Nat -> GK) w, T w0.drew w -> AllAt (fun i v w => (L.getD i (St.is undef)).1 v w) vs w 0 l -> Q .normal (C6 vs 0 l a0) w) : (Code.region id l.toArray true).wp P Q a0 w0 :=
 b0l T _ hm hp hrf htr (fun i v w w' hT h => (L.getD i (St.is undef)).2 v w w' hT h) hs O9
theorem H0 (a : Act) (k : Nat) {v : GK} (h : a.tmps[k]?.getD undef = v) : a.eval (.tmp k) = v := by
 rw [← h]; simp [Act.eval]
theorem b1b {ops : Array Oper} {a : Act} {g d : Nat} {b : Bool} (hd : J6 ops g = some d) (h : a.tmps[d]?.getD undef = .bool b) : yielded ops a.tmps g = some b := by
 unfold yielded
 unfold J6 at hd
 rw [hd]
 cases hq : a.tmps[d]? with
 | none => rw [hq] at h; cases h
 | some v => rw [hq] at h; simp at h; subst h; simp [hq]
theorem c8 {ops : Array Oper} {o : Oper} {a : Act} {w : GG} {K : Act -> GG -> Prop} (hg : o.guard = none) (h : Oper.wp P o a w K Q) :
 if Region.wanted o (yielded ops a.tmps) = true then Oper.wp P o a w K Q else K (a.put o.dst undef) w := by
 rw [if_pos (by simp [Region.wanted, hg])]; exact h
theorem m5 {ops : Array Oper} {o : Oper} {a : Act} {w : GG} {K : Act -> GG -> Prop} {g d : Nat} {b : Bool} (hg : o.guard = some (g, b)) (hd : J6 ops g = some d) (hv : a.tmps[d]?.getD undef = .bool b) (h : Oper.wp P o a w K Q) :
 if Region.wanted o (yielded ops a.tmps) = true then Oper.wp P o a w K Q else K (a.put o.dst undef) w := by
 rw [if_pos (by simp [Region.wanted, hg, b1b hd hv])]; exact h
theorem p5 {ops : Array Oper} {o : Oper} {a : Act} {w : GG} {K : Act -> GG -> Prop} {g d : Nat} {b : Bool} (hg : o.guard = some (g, b)) (hd : J6 ops g = some d) (hv : a.tmps[d]?.getD undef = .bool (!b) ∨ a.tmps[d]?.getD undef = undef) (h : K (a.put o.dst undef) w) :
 if Region.wanted o (yielded ops a.tmps) = true then Oper.wp P o a w K Q else K (a.put o.dst undef) w := by
 rw [if_neg]
 . exact h
 . rcases hv with hv | hv
   . cases b <;> simp [Region.wanted, hg, b1b hd hv]
   . have hy : yielded ops a.tmps g = none := by
      unfold yielded
      unfold J6 at hd
      rw [hd]
      cases hq : a.tmps[d]? with
      | none => simp [hq]
      | some v => rw [hq] at hv; simp at hv; subst hv; simp [hq, undef]
     simp [Region.wanted, hg, hy]
end
structure TR (R n : Nat) (cs : List GK) (w w' : GG) : Prop where
 grown : w.grownBy w' (some R)
 there : w.there R 0 n -> w'.there R 0 n
 fin : w.rangeAt R 0 cs -> w'.rangeAt R 0 cs
theorem TR.refl (R n : Nat) (cs : List GK) (w : GG) : TR R n cs w w := ⟨World.grownBy.refl w _, id, id⟩
theorem a4y {a b c : GG} {row : Option Nat} (h : a.grownBy b row) (k : b.grownBy c row) : a.grownBy c row :=
 ⟨k.os.trans h.os, k.tape.trans h.tape, k.output.trans h.output, Nat.le_trans h.size k.size, fun i hi hne => (k.block i (Jj hi h.size) hne).trans (h.block i hi hne)⟩
theorem TR.trans (R n : Nat) (cs : List GK) (x y z : GG) (h : TR R n cs x y) (k : TR R n cs y z) : TR R n cs x z :=
 ⟨a4y h.grown k.grown, fun q => k.there (h.there q), fun q => k.fin (h.fin q)⟩
theorem TR.of_below {R n : Nat} {cs : List GK} {w w' : GG} (hR : R < w.heap.size) (h : Below w.heap.size w w') : TR R n cs w w' :=
 ⟨⟨h.os, h.tape, h.output, h.size, fun k hk _ => h.block k hk⟩,
  fun q j hj => ⟨by rw [h.cell (p := ⟨R, 0 + j, none⟩) hR]; exact (q j hj).1, by rw [h.frozen (p := ⟨R, 0 + j, none⟩) hR]; exact (q j hj).2⟩,
  fun q j v hv => by rw [h.cell (p := ⟨R, 0 + j, none⟩) hR]; exact q j v hv⟩
theorem TR.cell {R n : Nat} {cs : List GK} {w w' : GG} (h : TR R n cs w w') {b o : Nat} (hb : b < w.heap.size) (hne : b ≠ R) : w'.cell? ⟨b, o, none⟩ = w.cell? ⟨b, o, none⟩ :=
 World.cell?_of_block (h.grown.block b hb (fun e => hne (by injection e)))
theorem a0Q {R : Nat} : ∀ (vs : List GK) (o : Nat) (w : GG), w.grownBy (w.setCells R o vs) (some R)
 | [], _, w => World.grownBy.refl w _
 | v :: vs, o, w => by
   have h1 : w.grownBy (w.setCell ⟨R, o, none⟩ v) (some R) := ⟨rfl, rfl, rfl, by simp [NF], fun k _ hne => Below.heap_setCell w ⟨R, o, none⟩ v k (fun e => hne (by rw [e]))⟩
   exact a4y h1 (a0Q vs (o + 1) (w.setCell ⟨R, o, none⟩ v))
theorem TR.store {R n : Nat} {cs : List GK} {w : GG} (ht : w.there R 0 n) (hn : cs.length = n) : TR R n cs w (w.setCells R 0 cs) /\ (w.setCells R 0 cs).rangeAt R 0 cs := by
 have hr := Hp w R 0 cs (by rw [hn]; exact ht)
 exact ⟨⟨a0Q cs 0 w, fun q => World.there_setCells q R 0 cs, fun _ => hr⟩, hr⟩
theorem TR.below {R n B : Nat} {cs : List GK} {w0 w w' : GG} (h : TR R n cs w w') (hb : Below B w0 w) (hB : B <= R) (hs : w0.heap.size = B) : Below B w0 w' :=
 hb.grown h.grown (by have := hb.size; omega) (fun k hk => by injection hk with hk; omega)
def TB (w w' : GG) : Prop := Below w.heap.size w w'
theorem TB.refl (w : GG) : TB w w := Below.refl _ _
theorem TB.trans (x y z : GG) (h : TB x y) (k : TB y z) : TB x z := Below.trans h (Below.mono k h.size)
theorem TB.cell {w w' : GG} (h : TB w w') {b o : Nat} (hb : b < w.heap.size) : w'.cell? ⟨b, o, none⟩ = w.cell? ⟨b, o, none⟩ := Below.cell h (p := ⟨b, o, none⟩) hb
theorem TB.alloc (w : GG) (o : Obj) : TB w (w.alloc o) := (Below.refl _ _).alloc (GB _) o
end
section
open Go.RowKit
attribute [local go_sem] d5Z d6q d6r d5V d5L d5z
def okC (c : Nat) : Bool := if c < 128 then decide (c % 32 = 0) else if c < 192 then decide (c < 160 /\ c % 16 < 3) else decide (c % 32 < 4)
def a0t (c : Nat) : List GK :=
 if c < 128 then [.int .i64 0, .int .i64 0, .int .i64 (c / 64 : Nat), .bool (decide (c / 32 % 2 = 1)), .int .i64 0, .bool false, .slice none 0 0]
 else if c < 192 then [.int .i64 0, .int .i64 1, .int .i64 (c / 16 % 2 : Nat), .bool false, .int .i64 (c % 4 : Nat), .bool false, .slice none 0 0]
 else [.int .i64 0, .int .i64 2, .int .i64 0, .bool false, .int .i64 (c % 4 : Nat), .bool (decide (c / 32 % 2 = 1)), .slice none 0 0]
set_option maxHeartbeats 2000000 in
theorem b9M (c : Nat) (hc : c < 128) (hok : c % 32 = 0) (w : GG) :
 Hq Tryz.prog 82 #[.int .i64 (c : Int)] w
  fun e w' => e = .returned (.tuple #[.agg (a0t c).toArray, .bool (okC c)]) /\ Below w.heap.size w w' := by
 have ho : okC c = true := by unfold okC; rw [if_pos hc]; simp; omega
 have hbl : a0t c = [.int .i64 0, .int .i64 0, .int .i64 (c / 64 : Nat), .bool (decide (c / 32 % 2 = 1)), .int .i64 0, .bool false, .slice none 0 0] := by unfold a0t; rw [if_pos hc]
 rw [ho, hbl]
 clear ho hbl
 have h1 := N6 c (by omega)
 have b4D : (bits .and .i64 (c : Int) 192 == 192) = false := by rw [h1, beq_eq_false_iff_ne]; omega
 have d7n : (bits .and .i64 (c : Int) 192 == 128) = false := by rw [h1, beq_eq_false_iff_ne]; omega
 clear h1
 have hq : O1 ((c / 64 : Nat) : Int) (decide (c / 32 % 2 = 1)) = (64 * (c / 64) + (if c / 32 % 2 = 1 then 32 else 0) : Nat) := by unfold O1; split <;> simp_all
 have h01 : ((c / 64 : Nat) : Int) = 0 ∨ ((c / 64 : Nat) : Int) = 1 := by omega
 have heq : (O1 ((c / 64 : Nat) : Int) (decide (c / 32 % 2 = 1)) == (c : Int)) = true := by
  rw [hq, beq_iff_eq]; split <;> omega
 have hP : ∀ W, Hq Tryz.prog 121 #[.agg #[], .int .i64 (c : Int)] W fun e w' => e = .returned (.agg #[.int .i64 0, .int .i64 0, .int .i64 (c / 64 : Nat), .bool (decide (c / 32 % 2 = 1)), .int .i64 0, .bool false, .slice none 0 0]) /\ Below W.heap.size W w' := fun W => c4J c hc W
 clear hq hok hc
 generalize hs : ((c / 64 : Nat) : Int) = s at *
 generalize hm : decide (c / 32 % 2 = 1) = m at *
 have HK := GO h01
 clear h01 hs hm
 have HP := GO hP
 clear hP
 go_enter Tryz.func82, Tryz.ntmps82
 go_wp2_with fail
 refine (HP.out _).mono ?_
 rintro e w1 ⟨rfl, hb⟩
 obtain ⟨hc1, hf1⟩ := b3J hb
 have hz : w.heap.size < w1.heap.size := by have := hb.size; simp at this; omega
 have hne : w.heap.size ≠ w1.heap.size := by omega
 go_wp2_with fail
 have hw1 : Below w.heap.size w w1 := ((Below.refl _ _).alloc (GB _) _).trans (hb.mono (by simp))
 have hth : (w1.alloc (.cells #[.int .i64 0, .int .i64 0, .int .i64 s, .bool m, .int .i64 0, .bool false, .slice none 0 0] 84)).drew.there w.heap.size 0 7 := by
  refine B4 (cs := #[.int .i64 0, .int .i64 0, .int .i64 0, .bool false, .int .i64 0, .bool false, .slice none 0 0]) (t := 84) ?_ rfl
  show (w1.alloc _).heap[w.heap.size]? = _
  rw [Below.heap_alloc _ _ _ hz, hb.block _ (by simp)]
  exact Ht w _
 refine q7 (T := TR w.heap.size 7 [.int .i64 0, .int .i64 0, .int .i64 s, .bool m, .int .i64 0, .bool false, .slice none 0 0]) [St.is (.agg #[.int .i64 0, .int .i64 0, .int .i64 s, .bool m, .int .i64 0, .bool false, .slice none 0 0]), St.is (.iface 127 (.agg #[])), St.is (.agg #[.int .i64 0, .int .i64 0, .int .i64 s, .bool m, .int .i64 0, .bool false, .slice none 0 0]), St.is (.int .i64 (O1 s m)), St.is (.int .i64 (c : Int)), St.is (.bool true), St.is (.bool true), St.is (.iface 127 (.agg #[])), St.is (.int .i64 0), St.is (.bool true), St.is (.bool true), St.is undef, St.is undef, St.is undef, St.is undef, St.is undef, St.is (Ho true), St.is (Ho true), St.pred (fun v' w' => w'.rangeAt w.heap.size 0 [.int .i64 0, .int .i64 0, .int .i64 s, .bool m, .int .i64 0, .bool false, .slice none 0 0]) (fun _ _ _ h q => h.fin q), St.is (Ho true)] (by kernel_rfl) (by kernel_rfl) (TR.refl _ _ _) (TR.trans _ _ _) ⟨?s0, ?s1, ?s2, ?s3, ?s4, ?s5, ?s6, ?s7, ?s8, ?s9, ?s10, ?s11, ?s12, ?s13, ?s14, ?s15, ?s16, ?s17, ?s18, ?s19, trivial⟩ ?O9
 case s0 =>
  intro a w' K hT hf hw hK
  refine c8 rfl ?_
  have h5 : a.tmps[5]?.getD undef = .pointer (some ⟨w1.heap.size, 0, none⟩) := hf 5 (by kernel_rfl)
  clear hf hw
  have m0 : ∀ j, w'.cell? ⟨w1.heap.size, j, none⟩ = (w1.alloc (.cells #[.int .i64 0, .int .i64 0, .int .i64 s, .bool m, .int .i64 0, .bool false, .slice none 0 0] 84)).cell? ⟨w1.heap.size, j, none⟩ := fun j => hT.cell (by simp) (Jh hne)
  go_simp
  exact hK _ _ (TR.refl _ _ _ _) rfl
 case s1 =>
  intro a w' K hT hf hw hK
  refine c8 rfl ?_
  have h4 : a.tmps[4]?.getD undef = .iface 127 (.agg #[]) := hf 4 (by kernel_rfl)
  clear hf hw
  go_simp
  exact hK _ _ (TR.refl _ _ _ _) rfl
 case s2 =>
  intro a w' K hT hf hw hK
  refine c8 rfl ?_
  have h5 : a.tmps[5]?.getD undef = .pointer (some ⟨w1.heap.size, 0, none⟩) := hf 5 (by kernel_rfl)
  clear hf hw
  have m0 : ∀ j, w'.cell? ⟨w1.heap.size, j, none⟩ = (w1.alloc (.cells #[.int .i64 0, .int .i64 0, .int .i64 s, .bool m, .int .i64 0, .bool false, .slice none 0 0] 84)).cell? ⟨w1.heap.size, j, none⟩ := fun j => hT.cell (by simp) (Jh hne)
  go_simp
  exact hK _ _ (TR.refl _ _ _ _) rfl
 case s3 =>
  intro a w' K hT hf hw hK
  refine c8 rfl ?_
  have h22 : a.tmps[22]?.getD undef = .iface 127 (.agg #[]) := hw.1
  have h23 : a.tmps[23]?.getD undef = .agg #[.int .i64 0, .int .i64 0, .int .i64 s, .bool m, .int .i64 0, .bool false, .slice none 0 0] := hw.2.1
  clear hf hw
  have hR : w.heap.size < w'.heap.size := by have := hT.grown.size; simp at this; omega
  go_simp
  refine (a8c _ _ _ _ _ _ _ _ HK.out).mono ?_
  rintro e w2 ⟨rfl, hb2⟩
  exact hK _ _ (TR.of_below hR hb2) rfl
 case s4 =>
  intro a w' K hT hf hw hK
  refine c8 rfl ?_
  have h0 : a.tmps[0]?.getD undef = .int .i64 (c : Int) := hf 0 (by kernel_rfl)
  clear hf hw
  go_simp
  exact hK _ _ (TR.refl _ _ _ _) rfl
 case s5 =>
  intro a w' K hT hf hw hK
  refine c8 rfl ?_
  have h24 : a.tmps[24]?.getD undef = .int .i64 (O1 s m) := hw.1
  have h25 : a.tmps[25]?.getD undef = .int .i64 (c : Int) := hw.2.1
  clear hf hw
  go_simp
  exact hK _ _ (TR.refl _ _ _ _) rfl
 case s6 =>
  intro a w' K hT hf hw hK
  refine c8 rfl ?_
  have h26 : a.tmps[26]?.getD undef = .bool true := hw.1
  clear hf hw
  go_simp
  exact hK _ _ (TR.refl _ _ _ _) rfl
 case s7 =>
  intro a w' K hT hf hw hK
  have hg : a.tmps[27]?.getD undef = .bool true := hw.1
  refine m5 rfl rfl hg ?_
  clear hg
  have h4 : a.tmps[4]?.getD undef = .iface 127 (.agg #[]) := hf 4 (by kernel_rfl)
  clear hf hw
  go_simp
  exact hK _ _ (TR.refl _ _ _ _) rfl
 case s8 =>
  intro a w' K hT hf hw hK
  have hg : a.tmps[27]?.getD undef = .bool true := hw.2.1
  refine m5 rfl rfl hg ?_
  clear hg
  have h28 : a.tmps[28]?.getD undef = .iface 127 (.agg #[]) := hw.1
  clear hf hw
  go_simp
  refine (d1G _).mono ?_
  rintro e w2 ⟨rfl, rfl⟩
  exact hK _ _ (TR.refl _ _ _ _) rfl
 case s9 =>
  intro a w' K hT hf hw hK
  have hg : a.tmps[27]?.getD undef = .bool true := hw.2.1
  refine m5 rfl rfl hg ?_
  clear hg
  have h29 : a.tmps[29]?.getD undef = .int .i64 0 := hw.1
  clear hf hw
  go_simp
  exact hK _ _ (TR.refl _ _ _ _) rfl
 case s10 =>
  intro a w' K hT hf hw hK
  have hg : a.tmps[27]?.getD undef = .bool true := hw.2.2.1
  refine m5 rfl rfl hg ?_
  clear hg
  have h30 : a.tmps[30]?.getD undef = .bool true := hw.1
  clear hf hw
  go_simp
  exact hK _ _ (TR.refl _ _ _ _) rfl
 case s11 =>
  intro a w' K hT hf hw hK
  have hg : a.tmps[31]?.getD undef = .bool true := hw.1
  refine p5 rfl rfl (.inl hg) ?_
  exact hK _ _ (TR.refl _ _ _ _) rfl
 case s12 =>
  intro a w' K hT hf hw hK
  have hg : a.tmps[31]?.getD undef = .bool true := hw.2.1
  refine p5 rfl rfl (.inl hg) ?_
  exact hK _ _ (TR.refl _ _ _ _) rfl
 case s13 =>
  intro a w' K hT hf hw hK
  have hg : a.tmps[31]?.getD undef = .bool true := hw.1
  refine p5 rfl rfl (.inl hg) ?_
  exact hK _ _ (TR.refl _ _ _ _) rfl
 case s14 =>
  intro a w' K hT hf hw hK
  have hg : a.tmps[31]?.getD undef = .bool true := hw.2.1
  refine p5 rfl rfl (.inl hg) ?_
  exact hK _ _ (TR.refl _ _ _ _) rfl
 case s15 =>
  intro a w' K hT hf hw hK
  have hg : a.tmps[31]?.getD undef = .bool true := hw.2.2.1
  refine p5 rfl rfl (.inl hg) ?_
  exact hK _ _ (TR.refl _ _ _ _) rfl
 case s16 =>
  intro a w' K hT hf hw hK
  have hg : a.tmps[27]?.getD undef = .bool true := hw.2.2.1
  refine m5 rfl rfl hg ?_
  clear hg
  have h31 : a.tmps[31]?.getD undef = .bool true := hw.1
  have h36 : a.tmps[36]?.getD undef = undef := hw.2.1
  clear hf hw
  go_simp
  exact hK _ _ (TR.refl _ _ _ _) rfl
 case s17 =>
  intro a w' K hT hf hw hK
  refine c8 rfl ?_
  have h27 : a.tmps[27]?.getD undef = .bool true := hw.1
  have h37 : a.tmps[37]?.getD undef = Ho true := hw.2.1
  clear hf hw
  go_simp
  exact hK _ _ (TR.refl _ _ _ _) rfl
 case s18 =>
  intro a w' K hT hf hw hK
  refine c8 rfl ?_
  have h2 : a.tmps[2]?.getD undef = .pointer (some ⟨w.heap.size, 0, none⟩) := hf 2 (by kernel_rfl)
  have h21 : a.tmps[21]?.getD undef = .agg #[.int .i64 0, .int .i64 0, .int .i64 s, .bool m, .int .i64 0, .bool false, .slice none 0 0] := hw.1
  exact JL 84 _ _ rfl w.heap.size 0 #[.int .i64 0, .int .i64 0, .int .i64 s, .bool m, .int .i64 0, .bool false, .slice none 0 0] (H0 a 2 h2) (H0 a 21 h21) (hT.there hth) (by kernel_rfl) (by simp [Iv]) (hK _ _ (TR.store (hT.there hth) rfl).1 (TR.store (hT.there hth) rfl).2)
 case s19 =>
  intro a w' K hT hf hw hK
  refine c8 rfl ?_
  have h38 : a.tmps[38]?.getD undef = Ho true := hw.1
  clear hf hw
  go_simp
  exact hK _ _ (TR.refl _ _ _ _) rfl
 case O9 =>
  rintro vs w' hT ⟨f0, f1, f2, f3, f4, f5, f6, f7, f8, f9, f10, f11, f12, f13, f14, f15, f16, f17, f18, f19, -⟩
  have e0 : vs 0 = .agg #[.int .i64 0, .int .i64 0, .int .i64 s, .bool m, .int .i64 0, .bool false, .slice none 0 0] := f0
  have e1 : vs 1 = .iface 127 (.agg #[]) := f1
  have e2 : vs 2 = .agg #[.int .i64 0, .int .i64 0, .int .i64 s, .bool m, .int .i64 0, .bool false, .slice none 0 0] := f2
  have e3 : vs 3 = .int .i64 (O1 s m) := f3
  have e4 : vs 4 = .int .i64 (c : Int) := f4
  have e5 : vs 5 = .bool true := f5
  have e6 : vs 6 = .bool true := f6
  have e7 : vs 7 = .iface 127 (.agg #[]) := f7
  have e8 : vs 8 = .int .i64 0 := f8
  have e9 : vs 9 = .bool true := f9
  have e10 : vs 10 = .bool true := f10
  have e11 : vs 11 = undef := f11
  have e12 : vs 12 = undef := f12
  have e13 : vs 13 = undef := f13
  have e14 : vs 14 = undef := f14
  have e15 : vs 15 = undef := f15
  have e16 : vs 16 = Ho true := f16
  have e17 : vs 17 = Ho true := f17
  have e19 : vs 19 = Ho true := f19
  simp only [C6, Jo, e0, e1, e2, e3, e4, e5, e6, e7, e8, e9, e10, e11, e12, e13, e14, e15, e16, e17, e19]
  simp only [Hi, Ie, If]
  clear e0 e1 e2 e3 e4 e5 e6 e7 e8 e9 e10 e11 e12 e13 e14 e15 e16 e17 e19 f0 f1 f2 f3 f4 f5 f6 f7 f8 f9 f10 f11 f12 f13 f14 f15 f16 f17 f19
  have hr : w'.rangeAt w.heap.size 0 [.int .i64 0, .int .i64 0, .int .i64 s, .bool m, .int .i64 0, .bool false, .slice none 0 0] := f18
  clear f18
  go_wp2_with fail
  refine Hj (results_cell_tmp rfl _ _ w.heap.size 0 [.int .i64 0, .int .i64 0, .int .i64 s, .bool m, .int .i64 0, .bool false, .slice none 0 0] _ rfl hr Tryz.underlying84 rfl (by kernel_rfl)) rfl ⟨rfl, ?_⟩
  exact hT.below (hw1.alloc hw1.size _).drew (GB _) rfl
set_option maxHeartbeats 2000000 in
theorem b8U (c : Nat) (hc : c < 128) (hok : ¬ c % 32 = 0) (w : GG) :
 Hq Tryz.prog 82 #[.int .i64 (c : Int)] w
  fun e w' => e = .returned (.tuple #[.agg (a0t c).toArray, .bool (okC c)]) /\ Below w.heap.size w w' := by
 have ho : okC c = false := by unfold okC; rw [if_pos hc]; simp; omega
 have hbl : a0t c = [.int .i64 0, .int .i64 0, .int .i64 (c / 64 : Nat), .bool (decide (c / 32 % 2 = 1)), .int .i64 0, .bool false, .slice none 0 0] := by unfold a0t; rw [if_pos hc]
 rw [ho, hbl]
 clear ho hbl
 have h1 := N6 c (by omega)
 have b4D : (bits .and .i64 (c : Int) 192 == 192) = false := by rw [h1, beq_eq_false_iff_ne]; omega
 have d7n : (bits .and .i64 (c : Int) 192 == 128) = false := by rw [h1, beq_eq_false_iff_ne]; omega
 clear h1
 have hq : O1 ((c / 64 : Nat) : Int) (decide (c / 32 % 2 = 1)) = (64 * (c / 64) + (if c / 32 % 2 = 1 then 32 else 0) : Nat) := by unfold O1; split <;> simp_all
 have h01 : ((c / 64 : Nat) : Int) = 0 ∨ ((c / 64 : Nat) : Int) = 1 := by omega
 have heq : (O1 ((c / 64 : Nat) : Int) (decide (c / 32 % 2 = 1)) == (c : Int)) = false := by
  rw [hq, beq_eq_false_iff_ne]; split <;> omega
 have hP : ∀ W, Hq Tryz.prog 121 #[.agg #[], .int .i64 (c : Int)] W fun e w' => e = .returned (.agg #[.int .i64 0, .int .i64 0, .int .i64 (c / 64 : Nat), .bool (decide (c / 32 % 2 = 1)), .int .i64 0, .bool false, .slice none 0 0]) /\ Below W.heap.size W w' := fun W => c4J c hc W
 clear hq hok hc
 generalize hs : ((c / 64 : Nat) : Int) = s at *
 generalize hm : decide (c / 32 % 2 = 1) = m at *
 have HK := GO h01
 clear h01 hs hm
 have HP := GO hP
 clear hP
 go_enter Tryz.func82, Tryz.ntmps82
 go_wp2_with fail
 refine (HP.out _).mono ?_
 rintro e w1 ⟨rfl, hb⟩
 obtain ⟨hc1, hf1⟩ := b3J hb
 have hz : w.heap.size < w1.heap.size := by have := hb.size; simp at this; omega
 have hne : w.heap.size ≠ w1.heap.size := by omega
 go_wp2_with fail
 have hw1 : Below w.heap.size w w1 := ((Below.refl _ _).alloc (GB _) _).trans (hb.mono (by simp))
 have hth : (w1.alloc (.cells #[.int .i64 0, .int .i64 0, .int .i64 s, .bool m, .int .i64 0, .bool false, .slice none 0 0] 84)).drew.there w.heap.size 0 7 := by
  refine B4 (cs := #[.int .i64 0, .int .i64 0, .int .i64 0, .bool false, .int .i64 0, .bool false, .slice none 0 0]) (t := 84) ?_ rfl
  show (w1.alloc _).heap[w.heap.size]? = _
  rw [Below.heap_alloc _ _ _ hz, hb.block _ (by simp)]
  exact Ht w _
 refine q7 (T := TR w.heap.size 7 [.int .i64 0, .int .i64 0, .int .i64 s, .bool m, .int .i64 0, .bool false, .slice none 0 0]) [St.is (.agg #[.int .i64 0, .int .i64 0, .int .i64 s, .bool m, .int .i64 0, .bool false, .slice none 0 0]), St.is (.iface 127 (.agg #[])), St.is (.agg #[.int .i64 0, .int .i64 0, .int .i64 s, .bool m, .int .i64 0, .bool false, .slice none 0 0]), St.is (.int .i64 (O1 s m)), St.is (.int .i64 (c : Int)), St.is (.bool false), St.is (.bool false), St.is undef, St.is undef, St.is undef, St.is undef, St.is undef, St.is undef, St.is undef, St.is undef, St.is undef, St.is undef, St.is (Ho false), St.pred (fun v' w' => w'.rangeAt w.heap.size 0 [.int .i64 0, .int .i64 0, .int .i64 s, .bool m, .int .i64 0, .bool false, .slice none 0 0]) (fun _ _ _ h q => h.fin q), St.is (Ho false)] (by kernel_rfl) (by kernel_rfl) (TR.refl _ _ _) (TR.trans _ _ _) ⟨?s0, ?s1, ?s2, ?s3, ?s4, ?s5, ?s6, ?s7, ?s8, ?s9, ?s10, ?s11, ?s12, ?s13, ?s14, ?s15, ?s16, ?s17, ?s18, ?s19, trivial⟩ ?O9
 case s0 =>
  intro a w' K hT hf hw hK
  refine c8 rfl ?_
  have h5 : a.tmps[5]?.getD undef = .pointer (some ⟨w1.heap.size, 0, none⟩) := hf 5 (by kernel_rfl)
  clear hf hw
  have m0 : ∀ j, w'.cell? ⟨w1.heap.size, j, none⟩ = (w1.alloc (.cells #[.int .i64 0, .int .i64 0, .int .i64 s, .bool m, .int .i64 0, .bool false, .slice none 0 0] 84)).cell? ⟨w1.heap.size, j, none⟩ := fun j => hT.cell (by simp) (Jh hne)
  go_simp
  exact hK _ _ (TR.refl _ _ _ _) rfl
 case s1 =>
  intro a w' K hT hf hw hK
  refine c8 rfl ?_
  have h4 : a.tmps[4]?.getD undef = .iface 127 (.agg #[]) := hf 4 (by kernel_rfl)
  clear hf hw
  go_simp
  exact hK _ _ (TR.refl _ _ _ _) rfl
 case s2 =>
  intro a w' K hT hf hw hK
  refine c8 rfl ?_
  have h5 : a.tmps[5]?.getD undef = .pointer (some ⟨w1.heap.size, 0, none⟩) := hf 5 (by kernel_rfl)
  clear hf hw
  have m0 : ∀ j, w'.cell? ⟨w1.heap.size, j, none⟩ = (w1.alloc (.cells #[.int .i64 0, .int .i64 0, .int .i64 s, .bool m, .int .i64 0, .bool false, .slice none 0 0] 84)).cell? ⟨w1.heap.size, j, none⟩ := fun j => hT.cell (by simp) (Jh hne)
  go_simp
  exact hK _ _ (TR.refl _ _ _ _) rfl
 case s3 =>
  intro a w' K hT hf hw hK
  refine c8 rfl ?_
  have h22 : a.tmps[22]?.getD undef = .iface 127 (.agg #[]) := hw.1
  have h23 : a.tmps[23]?.getD undef = .agg #[.int .i64 0, .int .i64 0, .int .i64 s, .bool m, .int .i64 0, .bool false, .slice none 0 0] := hw.2.1
  clear hf hw
  have hR : w.heap.size < w'.heap.size := by have := hT.grown.size; simp at this; omega
  go_simp
  refine (a8c _ _ _ _ _ _ _ _ HK.out).mono ?_
  rintro e w2 ⟨rfl, hb2⟩
  exact hK _ _ (TR.of_below hR hb2) rfl
 case s4 =>
  intro a w' K hT hf hw hK
  refine c8 rfl ?_
  have h0 : a.tmps[0]?.getD undef = .int .i64 (c : Int) := hf 0 (by kernel_rfl)
  clear hf hw
  go_simp
  exact hK _ _ (TR.refl _ _ _ _) rfl
 case s5 =>
  intro a w' K hT hf hw hK
  refine c8 rfl ?_
  have h24 : a.tmps[24]?.getD undef = .int .i64 (O1 s m) := hw.1
  have h25 : a.tmps[25]?.getD undef = .int .i64 (c : Int) := hw.2.1
  clear hf hw
  go_simp
  exact hK _ _ (TR.refl _ _ _ _) rfl
 case s6 =>
  intro a w' K hT hf hw hK
  refine c8 rfl ?_
  have h26 : a.tmps[26]?.getD undef = .bool false := hw.1
  clear hf hw
  go_simp
  exact hK _ _ (TR.refl _ _ _ _) rfl
 case s7 =>
  intro a w' K hT hf hw hK
  have hg : a.tmps[27]?.getD undef = .bool false := hw.1
  refine p5 rfl rfl (.inl hg) ?_
  exact hK _ _ (TR.refl _ _ _ _) rfl
 case s8 =>
  intro a w' K hT hf hw hK
  have hg : a.tmps[27]?.getD undef = .bool false := hw.2.1
  refine p5 rfl rfl (.inl hg) ?_
  exact hK _ _ (TR.refl _ _ _ _) rfl
 case s9 =>
  intro a w' K hT hf hw hK
  have hg : a.tmps[27]?.getD undef = .bool false := hw.2.1
  refine p5 rfl rfl (.inl hg) ?_
  exact hK _ _ (TR.refl _ _ _ _) rfl
 case s10 =>
  intro a w' K hT hf hw hK
  have hg : a.tmps[27]?.getD undef = .bool false := hw.2.2.1
  refine p5 rfl rfl (.inl hg) ?_
  exact hK _ _ (TR.refl _ _ _ _) rfl
 case s11 =>
  intro a w' K hT hf hw hK
  have hg : a.tmps[31]?.getD undef = undef := hw.1
  refine p5 rfl rfl (.inr hg) ?_
  exact hK _ _ (TR.refl _ _ _ _) rfl
 case s12 =>
  intro a w' K hT hf hw hK
  have hg : a.tmps[31]?.getD undef = undef := hw.2.1
  refine p5 rfl rfl (.inr hg) ?_
  exact hK _ _ (TR.refl _ _ _ _) rfl
 case s13 =>
  intro a w' K hT hf hw hK
  have hg : a.tmps[31]?.getD undef = undef := hw.1
  refine p5 rfl rfl (.inr hg) ?_
  exact hK _ _ (TR.refl _ _ _ _) rfl
 case s14 =>
  intro a w' K hT hf hw hK
  have hg : a.tmps[31]?.getD undef = undef := hw.2.1
  refine p5 rfl rfl (.inr hg) ?_
  exact hK _ _ (TR.refl _ _ _ _) rfl
 case s15 =>
  intro a w' K hT hf hw hK
  have hg : a.tmps[31]?.getD undef = undef := hw.2.2.1
  refine p5 rfl rfl (.inr hg) ?_
  exact hK _ _ (TR.refl _ _ _ _) rfl
 case s16 =>
  intro a w' K hT hf hw hK
  have hg : a.tmps[27]?.getD undef = .bool false := hw.2.2.1
  refine p5 rfl rfl (.inl hg) ?_
  exact hK _ _ (TR.refl _ _ _ _) rfl
 case s17 =>
  intro a w' K hT hf hw hK
  refine c8 rfl ?_
  have h27 : a.tmps[27]?.getD undef = .bool false := hw.1
  have h37 : a.tmps[37]?.getD undef = undef := hw.2.1
  clear hf hw
  go_simp
  exact hK _ _ (TR.refl _ _ _ _) rfl
 case s18 =>
  intro a w' K hT hf hw hK
  refine c8 rfl ?_
  have h2 : a.tmps[2]?.getD undef = .pointer (some ⟨w.heap.size, 0, none⟩) := hf 2 (by kernel_rfl)
  have h21 : a.tmps[21]?.getD undef = .agg #[.int .i64 0, .int .i64 0, .int .i64 s, .bool m, .int .i64 0, .bool false, .slice none 0 0] := hw.1
  exact JL 84 _ _ rfl w.heap.size 0 #[.int .i64 0, .int .i64 0, .int .i64 s, .bool m, .int .i64 0, .bool false, .slice none 0 0] (H0 a 2 h2) (H0 a 21 h21) (hT.there hth) (by kernel_rfl) (by simp [Iv]) (hK _ _ (TR.store (hT.there hth) rfl).1 (TR.store (hT.there hth) rfl).2)
 case s19 =>
  intro a w' K hT hf hw hK
  refine c8 rfl ?_
  have h38 : a.tmps[38]?.getD undef = Ho false := hw.1
  clear hf hw
  go_simp
  exact hK _ _ (TR.refl _ _ _ _) rfl
 case O9 =>
  rintro vs w' hT ⟨f0, f1, f2, f3, f4, f5, f6, f7, f8, f9, f10, f11, f12, f13, f14, f15, f16, f17, f18, f19, -⟩
  have e0 : vs 0 = .agg #[.int .i64 0, .int .i64 0, .int .i64 s, .bool m, .int .i64 0, .bool false, .slice none 0 0] := f0
  have e1 : vs 1 = .iface 127 (.agg #[]) := f1
  have e2 : vs 2 = .agg #[.int .i64 0, .int .i64 0, .int .i64 s, .bool m, .int .i64 0, .bool false, .slice none 0 0] := f2
  have e3 : vs 3 = .int .i64 (O1 s m) := f3
  have e4 : vs 4 = .int .i64 (c : Int) := f4
  have e5 : vs 5 = .bool false := f5
  have e6 : vs 6 = .bool false := f6
  have e7 : vs 7 = undef := f7
  have e8 : vs 8 = undef := f8
  have e9 : vs 9 = undef := f9
  have e10 : vs 10 = undef := f10
  have e11 : vs 11 = undef := f11
  have e12 : vs 12 = undef := f12
  have e13 : vs 13 = undef := f13
  have e14 : vs 14 = undef := f14
  have e15 : vs 15 = undef := f15
  have e16 : vs 16 = undef := f16
  have e17 : vs 17 = Ho false := f17
  have e19 : vs 19 = Ho false := f19
  simp only [C6, Jo, e0, e1, e2, e3, e4, e5, e6, e7, e8, e9, e10, e11, e12, e13, e14, e15, e16, e17, e19]
  simp only [Hi, Ie, If]
  clear e0 e1 e2 e3 e4 e5 e6 e7 e8 e9 e10 e11 e12 e13 e14 e15 e16 e17 e19 f0 f1 f2 f3 f4 f5 f6 f7 f8 f9 f10 f11 f12 f13 f14 f15 f16 f17 f19
  have hr : w'.rangeAt w.heap.size 0 [.int .i64 0, .int .i64 0, .int .i64 s, .bool m, .int .i64 0, .bool false, .slice none 0 0] := f18
  clear f18
  go_wp2_with fail
  refine Hj (results_cell_tmp rfl _ _ w.heap.size 0 [.int .i64 0, .int .i64 0, .int .i64 s, .bool m, .int .i64 0, .bool false, .slice none 0 0] _ rfl hr Tryz.underlying84 rfl (by kernel_rfl)) rfl ⟨rfl, ?_⟩
  exact hT.below (hw1.alloc hw1.size _).drew (GB _) rfl
set_option maxHeartbeats 2000000 in
theorem c2a (c : Nat) (h0 : 128 <= c) (hc : c < 192) (hok : c < 160 /\ c % 16 < 3) (w : GG) :
 Hq Tryz.prog 82 #[.int .i64 (c : Int)] w
  fun e w' => e = .returned (.tuple #[.agg (a0t c).toArray, .bool (okC c)]) /\ Below w.heap.size w w' := by
 have ho : okC c = true := by unfold okC; rw [if_neg (by omega), if_pos hc]; simp; omega
 have hbl : a0t c = [.int .i64 0, .int .i64 1, .int .i64 (c / 16 % 2 : Nat), .bool false, .int .i64 (c % 4 : Nat), .bool false, .slice none 0 0] := by unfold a0t; rw [if_neg (by omega), if_pos hc]
 rw [ho, hbl]
 clear ho hbl
 have h1 := N6 c (by omega)
 rw [show c / 64 * 64 = 128 by omega] at h1
 have hq : K2 ((c / 16 % 2 : Nat) : Int) ((c % 4 : Nat) : Int) = (128 + 16 * (c / 16 % 2) + c % 4 : Nat) := by unfold K2; omega
 have h01 : ((c / 16 % 2 : Nat) : Int) = 0 ∨ ((c / 16 % 2 : Nat) : Int) = 1 := by omega
 have h4 : ((c % 4 : Nat) : Int) = 0 ∨ ((c % 4 : Nat) : Int) = 1 ∨ ((c % 4 : Nat) : Int) = 2 ∨ ((c % 4 : Nat) : Int) = 3 := by omega
 have heq : (K2 ((c / 16 % 2 : Nat) : Int) ((c % 4 : Nat) : Int) == (c : Int)) = true := by
  rw [hq, beq_iff_eq]; omega
 have hlt : ((c % 4 : Nat) : Int) < 3 := by omega
 have hP : ∀ W, Hq Tryz.prog 118 #[.agg #[], .int .i64 (c : Int)] W fun e w' => e = .returned (.agg #[.int .i64 0, .int .i64 1, .int .i64 (c / 16 % 2 : Nat), .bool false, .int .i64 (c % 4 : Nat), .bool false, .slice none 0 0]) /\ Below W.heap.size W w' := fun W => b7K c (by omega) W
 clear hq hok h0 hc
 generalize hs : ((c / 16 % 2 : Nat) : Int) = s at *
 generalize hk : ((c % 4 : Nat) : Int) = k at *
 have HK := GO (GN h01 h4)
 clear h01 h4 hs hk
 have HP := GO hP
 clear hP
 go_enter Tryz.func82, Tryz.ntmps82
 go_wp2_with fail
 refine (HP.out _).mono ?_
 rintro e w1 ⟨rfl, hb⟩
 obtain ⟨hc1, hf1⟩ := b3J hb
 have hz : w.heap.size < w1.heap.size := by have := hb.size; simp at this; omega
 have hne : w.heap.size ≠ w1.heap.size := by omega
 go_wp2_with fail
 have hw1 : Below w.heap.size w w1 := ((Below.refl _ _).alloc (GB _) _).trans (hb.mono (by simp))
 have hth : (w1.alloc (.cells #[.int .i64 0, .int .i64 1, .int .i64 s, .bool false, .int .i64 k, .bool false, .slice none 0 0] 84)).drew.there w.heap.size 0 7 := by
  refine B4 (cs := #[.int .i64 0, .int .i64 0, .int .i64 0, .bool false, .int .i64 0, .bool false, .slice none 0 0]) (t := 84) ?_ rfl
  show (w1.alloc _).heap[w.heap.size]? = _
  rw [Below.heap_alloc _ _ _ hz, hb.block _ (by simp)]
  exact Ht w _
 refine q7 (T := TR w.heap.size 7 [.int .i64 0, .int .i64 1, .int .i64 s, .bool false, .int .i64 k, .bool false, .slice none 0 0]) [St.is (.agg #[.int .i64 0, .int .i64 1, .int .i64 s, .bool false, .int .i64 k, .bool false, .slice none 0 0]), St.is (.iface 126 (.agg #[])), St.is (.agg #[.int .i64 0, .int .i64 1, .int .i64 s, .bool false, .int .i64 k, .bool false, .slice none 0 0]), St.is (.int .i64 (K2 s k)), St.is (.int .i64 (c : Int)), St.is (.bool true), St.is (.bool true), St.is (.iface 126 (.agg #[])), St.is (.int .i64 3), St.is (.bool false), St.is (.bool false), St.is (.pointer (some ⟨w1.heap.size, 4, none⟩)), St.is (.int .i64 k), St.is (.iface 126 (.agg #[])), St.is (.int .i64 3), St.is (.bool true), St.is (.bool true), St.is (.bool true), St.pred (fun v' w' => w'.rangeAt w.heap.size 0 [.int .i64 0, .int .i64 1, .int .i64 s, .bool false, .int .i64 k, .bool false, .slice none 0 0]) (fun _ _ _ h q => h.fin q), St.is (.bool true)] (by kernel_rfl) (by kernel_rfl) (TR.refl _ _ _) (TR.trans _ _ _) ⟨?s0, ?s1, ?s2, ?s3, ?s4, ?s5, ?s6, ?s7, ?s8, ?s9, ?s10, ?s11, ?s12, ?s13, ?s14, ?s15, ?s16, ?s17, ?s18, ?s19, trivial⟩ ?O9
 case s0 =>
  intro a w' K hT hf hw hK
  refine c8 rfl ?_
  have h5 : a.tmps[5]?.getD undef = .pointer (some ⟨w1.heap.size, 0, none⟩) := hf 5 (by kernel_rfl)
  clear hf hw
  have m0 : ∀ j, w'.cell? ⟨w1.heap.size, j, none⟩ = (w1.alloc (.cells #[.int .i64 0, .int .i64 1, .int .i64 s, .bool false, .int .i64 k, .bool false, .slice none 0 0] 84)).cell? ⟨w1.heap.size, j, none⟩ := fun j => hT.cell (by simp) (Jh hne)
  go_simp
  exact hK _ _ (TR.refl _ _ _ _) rfl
 case s1 =>
  intro a w' K hT hf hw hK
  refine c8 rfl ?_
  have h4 : a.tmps[4]?.getD undef = .iface 126 (.agg #[]) := hf 4 (by kernel_rfl)
  clear hf hw
  go_simp
  exact hK _ _ (TR.refl _ _ _ _) rfl
 case s2 =>
  intro a w' K hT hf hw hK
  refine c8 rfl ?_
  have h5 : a.tmps[5]?.getD undef = .pointer (some ⟨w1.heap.size, 0, none⟩) := hf 5 (by kernel_rfl)
  clear hf hw
  have m0 : ∀ j, w'.cell? ⟨w1.heap.size, j, none⟩ = (w1.alloc (.cells #[.int .i64 0, .int .i64 1, .int .i64 s, .bool false, .int .i64 k, .bool false, .slice none 0 0] 84)).cell? ⟨w1.heap.size, j, none⟩ := fun j => hT.cell (by simp) (Jh hne)
  go_simp
  exact hK _ _ (TR.refl _ _ _ _) rfl
 case s3 =>
  intro a w' K hT hf hw hK
  refine c8 rfl ?_
  have h22 : a.tmps[22]?.getD undef = .iface 126 (.agg #[]) := hw.1
  have h23 : a.tmps[23]?.getD undef = .agg #[.int .i64 0, .int .i64 1, .int .i64 s, .bool false, .int .i64 k, .bool false, .slice none 0 0] := hw.2.1
  clear hf hw
  have hR : w.heap.size < w'.heap.size := by have := hT.grown.size; simp at this; omega
  go_simp
  refine (a4V _ _ _ _ _ _ _ _ HK.out.1 HK.out.2).mono ?_
  rintro e w2 ⟨rfl, hb2⟩
  exact hK _ _ (TR.of_below hR hb2) rfl
 case s4 =>
  intro a w' K hT hf hw hK
  refine c8 rfl ?_
  have h0 : a.tmps[0]?.getD undef = .int .i64 (c : Int) := hf 0 (by kernel_rfl)
  clear hf hw
  go_simp
  exact hK _ _ (TR.refl _ _ _ _) rfl
 case s5 =>
  intro a w' K hT hf hw hK
  refine c8 rfl ?_
  have h24 : a.tmps[24]?.getD undef = .int .i64 (K2 s k) := hw.1
  have h25 : a.tmps[25]?.getD undef = .int .i64 (c : Int) := hw.2.1
  clear hf hw
  go_simp
  exact hK _ _ (TR.refl _ _ _ _) rfl
 case s6 =>
  intro a w' K hT hf hw hK
  refine c8 rfl ?_
  have h26 : a.tmps[26]?.getD undef = .bool true := hw.1
  clear hf hw
  go_simp
  exact hK _ _ (TR.refl _ _ _ _) rfl
 case s7 =>
  intro a w' K hT hf hw hK
  have hg : a.tmps[27]?.getD undef = .bool true := hw.1
  refine m5 rfl rfl hg ?_
  clear hg
  have h4 : a.tmps[4]?.getD undef = .iface 126 (.agg #[]) := hf 4 (by kernel_rfl)
  clear hf hw
  go_simp
  exact hK _ _ (TR.refl _ _ _ _) rfl
 case s8 =>
  intro a w' K hT hf hw hK
  have hg : a.tmps[27]?.getD undef = .bool true := hw.2.1
  refine m5 rfl rfl hg ?_
  clear hg
  have h28 : a.tmps[28]?.getD undef = .iface 126 (.agg #[]) := hw.1
  clear hf hw
  go_simp
  refine (a1A _).mono ?_
  rintro e w2 ⟨rfl, rfl⟩
  exact hK _ _ (TR.refl _ _ _ _) rfl
 case s9 =>
  intro a w' K hT hf hw hK
  have hg : a.tmps[27]?.getD undef = .bool true := hw.2.1
  refine m5 rfl rfl hg ?_
  clear hg
  have h29 : a.tmps[29]?.getD undef = .int .i64 3 := hw.1
  clear hf hw
  go_simp
  exact hK _ _ (TR.refl _ _ _ _) rfl
 case s10 =>
  intro a w' K hT hf hw hK
  have hg : a.tmps[27]?.getD undef = .bool true := hw.2.2.1
  refine m5 rfl rfl hg ?_
  clear hg
  have h30 : a.tmps[30]?.getD undef = .bool false := hw.1
  clear hf hw
  go_simp
  exact hK _ _ (TR.refl _ _ _ _) rfl
 case s11 =>
  intro a w' K hT hf hw hK
  have hg : a.tmps[31]?.getD undef = .bool false := hw.1
  refine m5 rfl rfl hg ?_
  clear hg
  have h5 : a.tmps[5]?.getD undef = .pointer (some ⟨w1.heap.size, 0, none⟩) := hf 5 (by kernel_rfl)
  clear hf hw
  go_simp
  exact hK _ _ (TR.refl _ _ _ _) rfl
 case s12 =>
  intro a w' K hT hf hw hK
  have hg : a.tmps[31]?.getD undef = .bool false := hw.2.1
  refine m5 rfl rfl hg ?_
  clear hg
  have h32 : a.tmps[32]?.getD undef = .pointer (some ⟨w1.heap.size, 4, none⟩) := hw.1
  clear hf hw
  have m0 : ∀ j, w'.cell? ⟨w1.heap.size, j, none⟩ = (w1.alloc (.cells #[.int .i64 0, .int .i64 1, .int .i64 s, .bool false, .int .i64 k, .bool false, .slice none 0 0] 84)).cell? ⟨w1.heap.size, j, none⟩ := fun j => hT.cell (by simp) (Jh hne)
  go_simp
  exact hK _ _ (TR.refl _ _ _ _) rfl
 case s13 =>
  intro a w' K hT hf hw hK
  have hg : a.tmps[31]?.getD undef = .bool false := hw.1
  refine m5 rfl rfl hg ?_
  clear hg
  have h4 : a.tmps[4]?.getD undef = .iface 126 (.agg #[]) := hf 4 (by kernel_rfl)
  clear hf hw
  go_simp
  exact hK _ _ (TR.refl _ _ _ _) rfl
 case s14 =>
  intro a w' K hT hf hw hK
  have hg : a.tmps[31]?.getD undef = .bool false := hw.2.1
  refine m5 rfl rfl hg ?_
  clear hg
  have h34 : a.tmps[34]?.getD undef = .iface 126 (.agg #[]) := hw.1
  clear hf hw
  go_simp
  refine (a1A _).mono ?_
  rintro e w2 ⟨rfl, rfl⟩
  exact hK _ _ (TR.refl _ _ _ _) rfl
 case s15 =>
  intro a w' K hT hf hw hK
  have hg : a.tmps[31]?.getD undef = .bool false := hw.2.2.1
  refine m5 rfl rfl hg ?_
  clear hg
  have h33 : a.tmps[33]?.getD undef = .int .i64 k := hw.1
  have h35 : a.tmps[35]?.getD undef = .int .i64 3 := hw.2.1
  clear hf hw
  go_simp
  exact hK _ _ (TR.refl _ _ _ _) rfl
 case s16 =>
  intro a w' K hT hf hw hK
  have hg : a.tmps[27]?.getD undef = .bool true := hw.2.2.1
  refine m5 rfl rfl hg ?_
  clear hg
  have h31 : a.tmps[31]?.getD undef = .bool false := hw.1
  have h36 : a.tmps[36]?.getD undef = .bool true := hw.2.1
  clear hf hw
  go_simp
  exact hK _ _ (TR.refl _ _ _ _) rfl
 case s17 =>
  intro a w' K hT hf hw hK
  refine c8 rfl ?_
  have h27 : a.tmps[27]?.getD undef = .bool true := hw.1
  have h37 : a.tmps[37]?.getD undef = .bool true := hw.2.1
  clear hf hw
  go_simp
  exact hK _ _ (TR.refl _ _ _ _) rfl
 case s18 =>
  intro a w' K hT hf hw hK
  refine c8 rfl ?_
  have h2 : a.tmps[2]?.getD undef = .pointer (some ⟨w.heap.size, 0, none⟩) := hf 2 (by kernel_rfl)
  have h21 : a.tmps[21]?.getD undef = .agg #[.int .i64 0, .int .i64 1, .int .i64 s, .bool false, .int .i64 k, .bool false, .slice none 0 0] := hw.1
  exact JL 84 _ _ rfl w.heap.size 0 #[.int .i64 0, .int .i64 1, .int .i64 s, .bool false, .int .i64 k, .bool false, .slice none 0 0] (H0 a 2 h2) (H0 a 21 h21) (hT.there hth) (by kernel_rfl) (by simp [Iv]) (hK _ _ (TR.store (hT.there hth) rfl).1 (TR.store (hT.there hth) rfl).2)
 case s19 =>
  intro a w' K hT hf hw hK
  refine c8 rfl ?_
  have h38 : a.tmps[38]?.getD undef = .bool true := hw.1
  clear hf hw
  go_simp
  exact hK _ _ (TR.refl _ _ _ _) rfl
 case O9 =>
  rintro vs w' hT ⟨f0, f1, f2, f3, f4, f5, f6, f7, f8, f9, f10, f11, f12, f13, f14, f15, f16, f17, f18, f19, -⟩
  have e0 : vs 0 = .agg #[.int .i64 0, .int .i64 1, .int .i64 s, .bool false, .int .i64 k, .bool false, .slice none 0 0] := f0
  have e1 : vs 1 = .iface 126 (.agg #[]) := f1
  have e2 : vs 2 = .agg #[.int .i64 0, .int .i64 1, .int .i64 s, .bool false, .int .i64 k, .bool false, .slice none 0 0] := f2
  have e3 : vs 3 = .int .i64 (K2 s k) := f3
  have e4 : vs 4 = .int .i64 (c : Int) := f4
  have e5 : vs 5 = .bool true := f5
  have e6 : vs 6 = .bool true := f6
  have e7 : vs 7 = .iface 126 (.agg #[]) := f7
  have e8 : vs 8 = .int .i64 3 := f8
  have e9 : vs 9 = .bool false := f9
  have e10 : vs 10 = .bool false := f10
  have e11 : vs 11 = .pointer (some ⟨w1.heap.size, 4, none⟩) := f11
  have e12 : vs 12 = .int .i64 k := f12
  have e13 : vs 13 = .iface 126 (.agg #[]) := f13
  have e14 : vs 14 = .int .i64 3 := f14
  have e15 : vs 15 = .bool true := f15
  have e16 : vs 16 = .bool true := f16
  have e17 : vs 17 = .bool true := f17
  have e19 : vs 19 = .bool true := f19
  simp only [C6, Jo, e0, e1, e2, e3, e4, e5, e6, e7, e8, e9, e10, e11, e12, e13, e14, e15, e16, e17, e19]
  simp only [Hi, Ie, If]
  clear e0 e1 e2 e3 e4 e5 e6 e7 e8 e9 e10 e11 e12 e13 e14 e15 e16 e17 e19 f0 f1 f2 f3 f4 f5 f6 f7 f8 f9 f10 f11 f12 f13 f14 f15 f16 f17 f19
  have hr : w'.rangeAt w.heap.size 0 [.int .i64 0, .int .i64 1, .int .i64 s, .bool false, .int .i64 k, .bool false, .slice none 0 0] := f18
  clear f18
  go_wp2_with fail
  refine Hj (results_cell_tmp rfl _ _ w.heap.size 0 [.int .i64 0, .int .i64 1, .int .i64 s, .bool false, .int .i64 k, .bool false, .slice none 0 0] _ rfl hr Tryz.underlying84 rfl (by kernel_rfl)) rfl ⟨rfl, ?_⟩
  exact hT.below (hw1.alloc hw1.size _).drew (GB _) rfl
set_option maxHeartbeats 2000000 in
theorem c0W (c : Nat) (h0 : 128 <= c) (hc : c < 192) (hok : ¬ (c < 160 /\ c % 16 < 4)) (w : GG) :
 Hq Tryz.prog 82 #[.int .i64 (c : Int)] w
  fun e w' => e = .returned (.tuple #[.agg (a0t c).toArray, .bool (okC c)]) /\ Below w.heap.size w w' := by
 have ho : okC c = false := by unfold okC; rw [if_neg (by omega), if_pos hc]; simp; omega
 have hbl : a0t c = [.int .i64 0, .int .i64 1, .int .i64 (c / 16 % 2 : Nat), .bool false, .int .i64 (c % 4 : Nat), .bool false, .slice none 0 0] := by unfold a0t; rw [if_neg (by omega), if_pos hc]
 rw [ho, hbl]
 clear ho hbl
 have h1 := N6 c (by omega)
 rw [show c / 64 * 64 = 128 by omega] at h1
 have hq : K2 ((c / 16 % 2 : Nat) : Int) ((c % 4 : Nat) : Int) = (128 + 16 * (c / 16 % 2) + c % 4 : Nat) := by unfold K2; omega
 have h01 : ((c / 16 % 2 : Nat) : Int) = 0 ∨ ((c / 16 % 2 : Nat) : Int) = 1 := by omega
 have h4 : ((c % 4 : Nat) : Int) = 0 ∨ ((c % 4 : Nat) : Int) = 1 ∨ ((c % 4 : Nat) : Int) = 2 ∨ ((c % 4 : Nat) : Int) = 3 := by omega
 have heq : (K2 ((c / 16 % 2 : Nat) : Int) ((c % 4 : Nat) : Int) == (c : Int)) = false := by
  rw [hq, beq_eq_false_iff_ne]; omega
 have hP : ∀ W, Hq Tryz.prog 118 #[.agg #[], .int .i64 (c : Int)] W fun e w' => e = .returned (.agg #[.int .i64 0, .int .i64 1, .int .i64 (c / 16 % 2 : Nat), .bool false, .int .i64 (c % 4 : Nat), .bool false, .slice none 0 0]) /\ Below W.heap.size W w' := fun W => b7K c (by omega) W
 clear hq hok h0 hc
 generalize hs : ((c / 16 % 2 : Nat) : Int) = s at *
 generalize hk : ((c % 4 : Nat) : Int) = k at *
 have HK := GO (GN h01 h4)
 clear h01 h4 hs hk
 have HP := GO hP
 clear hP
 go_enter Tryz.func82, Tryz.ntmps82
 go_wp2_with fail
 refine (HP.out _).mono ?_
 rintro e w1 ⟨rfl, hb⟩
 obtain ⟨hc1, hf1⟩ := b3J hb
 have hz : w.heap.size < w1.heap.size := by have := hb.size; simp at this; omega
 have hne : w.heap.size ≠ w1.heap.size := by omega
 go_wp2_with fail
 have hw1 : Below w.heap.size w w1 := ((Below.refl _ _).alloc (GB _) _).trans (hb.mono (by simp))
 have hth : (w1.alloc (.cells #[.int .i64 0, .int .i64 1, .int .i64 s, .bool false, .int .i64 k, .bool false, .slice none 0 0] 84)).drew.there w.heap.size 0 7 := by
  refine B4 (cs := #[.int .i64 0, .int .i64 0, .int .i64 0, .bool false, .int .i64 0, .bool false, .slice none 0 0]) (t := 84) ?_ rfl
  show (w1.alloc _).heap[w.heap.size]? = _
  rw [Below.heap_alloc _ _ _ hz, hb.block _ (by simp)]
  exact Ht w _
 refine q7 (T := TR w.heap.size 7 [.int .i64 0, .int .i64 1, .int .i64 s, .bool false, .int .i64 k, .bool false, .slice none 0 0]) [St.is (.agg #[.int .i64 0, .int .i64 1, .int .i64 s, .bool false, .int .i64 k, .bool false, .slice none 0 0]), St.is (.iface 126 (.agg #[])), St.is (.agg #[.int .i64 0, .int .i64 1, .int .i64 s, .bool false, .int .i64 k, .bool false, .slice none 0 0]), St.is (.int .i64 (K2 s k)), St.is (.int .i64 (c : Int)), St.is (.bool false), St.is (.bool false), St.is undef, St.is undef, St.is undef, St.is undef, St.is undef, St.is undef, St.is undef, St.is undef, St.is undef, St.is undef, St.is (Ho false), St.pred (fun v' w' => w'.rangeAt w.heap.size 0 [.int .i64 0, .int .i64 1, .int .i64 s, .bool false, .int .i64 k, .bool false, .slice none 0 0]) (fun _ _ _ h q => h.fin q), St.is (Ho false)] (by kernel_rfl) (by kernel_rfl) (TR.refl _ _ _) (TR.trans _ _ _) ⟨?s0, ?s1, ?s2, ?s3, ?s4, ?s5, ?s6, ?s7, ?s8, ?s9, ?s10, ?s11, ?s12, ?s13, ?s14, ?s15, ?s16, ?s17, ?s18, ?s19, trivial⟩ ?O9
 case s0 =>
  intro a w' K hT hf hw hK
  refine c8 rfl ?_
  have h5 : a.tmps[5]?.getD undef = .pointer (some ⟨w1.heap.size, 0, none⟩) := hf 5 (by kernel_rfl)
  clear hf hw
  have m0 : ∀ j, w'.cell? ⟨w1.heap.size, j, none⟩ = (w1.alloc (.cells #[.int .i64 0, .int .i64 1, .int .i64 s, .bool false, .int .i64 k, .bool false, .slice none 0 0] 84)).cell? ⟨w1.heap.size, j, none⟩ := fun j => hT.cell (by simp) (Jh hne)
  go_simp
  exact hK _ _ (TR.refl _ _ _ _) rfl
 case s1 =>
  intro a w' K hT hf hw hK
  refine c8 rfl ?_
  have h4 : a.tmps[4]?.getD undef = .iface 126 (.agg #[]) := hf 4 (by kernel_rfl)
  clear hf hw
  go_simp
  exact hK _ _ (TR.refl _ _ _ _) rfl
 case s2 =>
  intro a w' K hT hf hw hK
  refine c8 rfl ?_
  have h5 : a.tmps[5]?.getD undef = .pointer (some ⟨w1.heap.size, 0, none⟩) := hf 5 (by kernel_rfl)
  clear hf hw
  have m0 : ∀ j, w'.cell? ⟨w1.heap.size, j, none⟩ = (w1.alloc (.cells #[.int .i64 0, .int .i64 1, .int .i64 s, .bool false, .int .i64 k, .bool false, .slice none 0 0] 84)).cell? ⟨w1.heap.size, j, none⟩ := fun j => hT.cell (by simp) (Jh hne)
  go_simp
  exact hK _ _ (TR.refl _ _ _ _) rfl
 case s3 =>
  intro a w' K hT hf hw hK
  refine c8 rfl ?_
  have h22 : a.tmps[22]?.getD undef = .iface 126 (.agg #[]) := hw.1
  have h23 : a.tmps[23]?.getD undef = .agg #[.int .i64 0, .int .i64 1, .int .i64 s, .bool false, .int .i64 k, .bool false, .slice none 0 0] := hw.2.1
  clear hf hw
  have hR : w.heap.size < w'.heap.size := by have := hT.grown.size; simp at this; omega
  go_simp
  refine (a4V _ _ _ _ _ _ _ _ HK.out.1 HK.out.2).mono ?_
  rintro e w2 ⟨rfl, hb2⟩
  exact hK _ _ (TR.of_below hR hb2) rfl
 case s4 =>
  intro a w' K hT hf hw hK
  refine c8 rfl ?_
  have h0 : a.tmps[0]?.getD undef = .int .i64 (c : Int) := hf 0 (by kernel_rfl)
  clear hf hw
  go_simp
  exact hK _ _ (TR.refl _ _ _ _) rfl
 case s5 =>
  intro a w' K hT hf hw hK
  refine c8 rfl ?_
  have h24 : a.tmps[24]?.getD undef = .int .i64 (K2 s k) := hw.1
  have h25 : a.tmps[25]?.getD undef = .int .i64 (c : Int) := hw.2.1
  clear hf hw
  go_simp
  exact hK _ _ (TR.refl _ _ _ _) rfl
 case s6 =>
  intro a w' K hT hf hw hK
  refine c8 rfl ?_
  have h26 : a.tmps[26]?.getD undef = .bool false := hw.1
  clear hf hw
  go_simp
  exact hK _ _ (TR.refl _ _ _ _) rfl
 case s7 =>
  intro a w' K hT hf hw hK
  have hg : a.tmps[27]?.getD undef = .bool false := hw.1
  refine p5 rfl rfl (.inl hg) ?_
  exact hK _ _ (TR.refl _ _ _ _) rfl
 case s8 =>
  intro a w' K hT hf hw hK
  have hg : a.tmps[27]?.getD undef = .bool false := hw.2.1
  refine p5 rfl rfl (.inl hg) ?_
  exact hK _ _ (TR.refl _ _ _ _) rfl
 case s9 =>
  intro a w' K hT hf hw hK
  have hg : a.tmps[27]?.getD undef = .bool false := hw.2.1
  refine p5 rfl rfl (.inl hg) ?_
  exact hK _ _ (TR.refl _ _ _ _) rfl
 case s10 =>
  intro a w' K hT hf hw hK
  have hg : a.tmps[27]?.getD undef = .bool false := hw.2.2.1
  refine p5 rfl rfl (.inl hg) ?_
  exact hK _ _ (TR.refl _ _ _ _) rfl
 case s11 =>
  intro a w' K hT hf hw hK
  have hg : a.tmps[31]?.getD undef = undef := hw.1
  refine p5 rfl rfl (.inr hg) ?_
  exact hK _ _ (TR.refl _ _ _ _) rfl
 case s12 =>
  intro a w' K hT hf hw hK
  have hg : a.tmps[31]?.getD undef = undef := hw.2.1
  refine p5 rfl rfl (.inr hg) ?_
  exact hK _ _ (TR.refl _ _ _ _) rfl
 case s13 =>
  intro a w' K hT hf hw hK
  have hg : a.tmps[31]?.getD undef = undef := hw.1
  refine p5 rfl rfl (.inr hg) ?_
  exact hK _ _ (TR.refl _ _ _ _) rfl
 case s14 =>
  intro a w' K hT hf hw hK
  have hg : a.tmps[31]?.getD undef = undef := hw.2.1
  refine p5 rfl rfl (.inr hg) ?_
  exact hK _ _ (TR.refl _ _ _ _) rfl
 case s15 =>
  intro a w' K hT hf hw hK
  have hg : a.tmps[31]?.getD undef = undef := hw.2.2.1
  refine p5 rfl rfl (.inr hg) ?_
  exact hK _ _ (TR.refl _ _ _ _) rfl
 case s16 =>
  intro a w' K hT hf hw hK
  have hg : a.tmps[27]?.getD undef = .bool false := hw.2.2.1
  refine p5 rfl rfl (.inl hg) ?_
  exact hK _ _ (TR.refl _ _ _ _) rfl
 case s17 =>
  intro a w' K hT hf hw hK
  refine c8 rfl ?_
  have h27 : a.tmps[27]?.getD undef = .bool false := hw.1
  have h37 : a.tmps[37]?.getD undef = undef := hw.2.1
  clear hf hw
  go_simp
  exact hK _ _ (TR.refl _ _ _ _) rfl
 case s18 =>
  intro a w' K hT hf hw hK
  refine c8 rfl ?_
  have h2 : a.tmps[2]?.getD undef = .pointer (some ⟨w.heap.size, 0, none⟩) := hf 2 (by kernel_rfl)
  have h21 : a.tmps[21]?.getD undef = .agg #[.int .i64 0, .int .i64 1, .int .i64 s, .bool false, .int .i64 k, .bool false, .slice none 0 0] := hw.1
  exact JL 84 _ _ rfl w.heap.size 0 #[.int .i64 0, .int .i64 1, .int .i64 s, .bool false, .int .i64 k, .bool false, .slice none 0 0] (H0 a 2 h2) (H0 a 21 h21) (hT.there hth) (by kernel_rfl) (by simp [Iv]) (hK _ _ (TR.store (hT.there hth) rfl).1 (TR.store (hT.there hth) rfl).2)
 case s19 =>
  intro a w' K hT hf hw hK
  refine c8 rfl ?_
  have h38 : a.tmps[38]?.getD undef = Ho false := hw.1
  clear hf hw
  go_simp
  exact hK _ _ (TR.refl _ _ _ _) rfl
 case O9 =>
  rintro vs w' hT ⟨f0, f1, f2, f3, f4, f5, f6, f7, f8, f9, f10, f11, f12, f13, f14, f15, f16, f17, f18, f19, -⟩
  have e0 : vs 0 = .agg #[.int .i64 0, .int .i64 1, .int .i64 s, .bool false, .int .i64 k, .bool false, .slice none 0 0] := f0
  have e1 : vs 1 = .iface 126 (.agg #[]) := f1
  have e2 : vs 2 = .agg #[.int .i64 0, .int .i64 1, .int .i64 s, .bool false, .int .i64 k, .bool false, .slice none 0 0] := f2
  have e3 : vs 3 = .int .i64 (K2 s k) := f3
  have e4 : vs 4 = .int .i64 (c : Int) := f4
  have e5 : vs 5 = .bool false := f5
  have e6 : vs 6 = .bool false := f6
  have e7 : vs 7 = undef := f7
  have e8 : vs 8 = undef := f8
  have e9 : vs 9 = undef := f9
  have e10 : vs 10 = undef := f10
  have e11 : vs 11 = undef := f11
  have e12 : vs 12 = undef := f12
  have e13 : vs 13 = undef := f13
  have e14 : vs 14 = undef := f14
  have e15 : vs 15 = undef := f15
  have e16 : vs 16 = undef := f16
  have e17 : vs 17 = Ho false := f17
  have e19 : vs 19 = Ho false := f19
  simp only [C6, Jo, e0, e1, e2, e3, e4, e5, e6, e7, e8, e9, e10, e11, e12, e13, e14, e15, e16, e17, e19]
  simp only [Hi, Ie, If]
  clear e0 e1 e2 e3 e4 e5 e6 e7 e8 e9 e10 e11 e12 e13 e14 e15 e16 e17 e19 f0 f1 f2 f3 f4 f5 f6 f7 f8 f9 f10 f11 f12 f13 f14 f15 f16 f17 f19
  have hr : w'.rangeAt w.heap.size 0 [.int .i64 0, .int .i64 1, .int .i64 s, .bool false, .int .i64 k, .bool false, .slice none 0 0] := f18
  clear f18
  go_wp2_with fail
  refine Hj (results_cell_tmp rfl _ _ w.heap.size 0 [.int .i64 0, .int .i64 1, .int .i64 s, .bool false, .int .i64 k, .bool false, .slice none 0 0] _ rfl hr Tryz.underlying84 rfl (by kernel_rfl)) rfl ⟨rfl, ?_⟩
  exact hT.below (hw1.alloc hw1.size _).drew (GB _) rfl
set_option maxHeartbeats 2000000 in
theorem c0g (c : Nat) (h0 : 128 <= c) (hc : c < 192) (hok : c < 160 /\ c % 16 = 3) (w : GG) :
 Hq Tryz.prog 82 #[.int .i64 (c : Int)] w
  fun e w' => e = .returned (.tuple #[.agg (a0t c).toArray, .bool (okC c)]) /\ Below w.heap.size w w' := by
 have ho : okC c = false := by unfold okC; rw [if_neg (by omega), if_pos hc]; simp; omega
 have hbl : a0t c = [.int .i64 0, .int .i64 1, .int .i64 (c / 16 % 2 : Nat), .bool false, .int .i64 (c % 4 : Nat), .bool false, .slice none 0 0] := by unfold a0t; rw [if_neg (by omega), if_pos hc]
 rw [ho, hbl]
 clear ho hbl
 have h1 := N6 c (by omega)
 rw [show c / 64 * 64 = 128 by omega] at h1
 have hq : K2 ((c / 16 % 2 : Nat) : Int) ((c % 4 : Nat) : Int) = (128 + 16 * (c / 16 % 2) + c % 4 : Nat) := by unfold K2; omega
 have h01 : ((c / 16 % 2 : Nat) : Int) = 0 ∨ ((c / 16 % 2 : Nat) : Int) = 1 := by omega
 have h4 : ((c % 4 : Nat) : Int) = 0 ∨ ((c % 4 : Nat) : Int) = 1 ∨ ((c % 4 : Nat) : Int) = 2 ∨ ((c % 4 : Nat) : Int) = 3 := by omega
 have heq : (K2 ((c / 16 % 2 : Nat) : Int) ((c % 4 : Nat) : Int) == (c : Int)) = true := by
  rw [hq, beq_iff_eq]; omega
 have hlt : decide (((c % 4 : Nat) : Int) < 3) = false := by simp; omega
 have hP : ∀ W, Hq Tryz.prog 118 #[.agg #[], .int .i64 (c : Int)] W fun e w' => e = .returned (.agg #[.int .i64 0, .int .i64 1, .int .i64 (c / 16 % 2 : Nat), .bool false, .int .i64 (c % 4 : Nat), .bool false, .slice none 0 0]) /\ Below W.heap.size W w' := fun W => b7K c (by omega) W
 clear hq hok h0 hc
 generalize hs : ((c / 16 % 2 : Nat) : Int) = s at *
 generalize hk : ((c % 4 : Nat) : Int) = k at *
 have HK := GO (GN h01 h4)
 clear h01 h4 hs hk
 have HP := GO hP
 clear hP
 go_enter Tryz.func82, Tryz.ntmps82
 go_wp2_with fail
 refine (HP.out _).mono ?_
 rintro e w1 ⟨rfl, hb⟩
 obtain ⟨hc1, hf1⟩ := b3J hb
 have hz : w.heap.size < w1.heap.size := by have := hb.size; simp at this; omega
 have hne : w.heap.size ≠ w1.heap.size := by omega
 go_wp2_with fail
 have hw1 : Below w.heap.size w w1 := ((Below.refl _ _).alloc (GB _) _).trans (hb.mono (by simp))
 have hth : (w1.alloc (.cells #[.int .i64 0, .int .i64 1, .int .i64 s, .bool false, .int .i64 k, .bool false, .slice none 0 0] 84)).drew.there w.heap.size 0 7 := by
  refine B4 (cs := #[.int .i64 0, .int .i64 0, .int .i64 0, .bool false, .int .i64 0, .bool false, .slice none 0 0]) (t := 84) ?_ rfl
  show (w1.alloc _).heap[w.heap.size]? = _
  rw [Below.heap_alloc _ _ _ hz, hb.block _ (by simp)]
  exact Ht w _
 refine q7 (T := TR w.heap.size 7 [.int .i64 0, .int .i64 1, .int .i64 s, .bool false, .int .i64 k, .bool false, .slice none 0 0]) [St.is (.agg #[.int .i64 0, .int .i64 1, .int .i64 s, .bool false, .int .i64 k, .bool false, .slice none 0 0]), St.is (.iface 126 (.agg #[])), St.is (.agg #[.int .i64 0, .int .i64 1, .int .i64 s, .bool false, .int .i64 k, .bool false, .slice none 0 0]), St.is (.int .i64 (K2 s k)), St.is (.int .i64 (c : Int)), St.is (.bool true), St.is (.bool true), St.is (.iface 126 (.agg #[])), St.is (.int .i64 3), St.is (.bool false), St.is (.bool false), St.is (.pointer (some ⟨w1.heap.size, 4, none⟩)), St.is (.int .i64 k), St.is (.iface 126 (.agg #[])), St.is (.int .i64 3), St.is (.bool false), St.is (.bool false), St.is (.bool false), St.pred (fun v' w' => w'.rangeAt w.heap.size 0 [.int .i64 0, .int .i64 1, .int .i64 s, .bool false, .int .i64 k, .bool false, .slice none 0 0]) (fun _ _ _ h q => h.fin q), St.is (.bool false)] (by kernel_rfl) (by kernel_rfl) (TR.refl _ _ _) (TR.trans _ _ _) ⟨?s0, ?s1, ?s2, ?s3, ?s4, ?s5, ?s6, ?s7, ?s8, ?s9, ?s10, ?s11, ?s12, ?s13, ?s14, ?s15, ?s16, ?s17, ?s18, ?s19, trivial⟩ ?O9
 case s0 =>
  intro a w' K hT hf hw hK
  refine c8 rfl ?_
  have h5 : a.tmps[5]?.getD undef = .pointer (some ⟨w1.heap.size, 0, none⟩) := hf 5 (by kernel_rfl)
  clear hf hw
  have m0 : ∀ j, w'.cell? ⟨w1.heap.size, j, none⟩ = (w1.alloc (.cells #[.int .i64 0, .int .i64 1, .int .i64 s, .bool false, .int .i64 k, .bool false, .slice none 0 0] 84)).cell? ⟨w1.heap.size, j, none⟩ := fun j => hT.cell (by simp) (Jh hne)
  go_simp
  exact hK _ _ (TR.refl _ _ _ _) rfl
 case s1 =>
  intro a w' K hT hf hw hK
  refine c8 rfl ?_
  have h4 : a.tmps[4]?.getD undef = .iface 126 (.agg #[]) := hf 4 (by kernel_rfl)
  clear hf hw
  go_simp
  exact hK _ _ (TR.refl _ _ _ _) rfl
 case s2 =>
  intro a w' K hT hf hw hK
  refine c8 rfl ?_
  have h5 : a.tmps[5]?.getD undef = .pointer (some ⟨w1.heap.size, 0, none⟩) := hf 5 (by kernel_rfl)
  clear hf hw
  have m0 : ∀ j, w'.cell? ⟨w1.heap.size, j, none⟩ = (w1.alloc (.cells #[.int .i64 0, .int .i64 1, .int .i64 s, .bool false, .int .i64 k, .bool false, .slice none 0 0] 84)).cell? ⟨w1.heap.size, j, none⟩ := fun j => hT.cell (by simp) (Jh hne)
  go_simp
  exact hK _ _ (TR.refl _ _ _ _) rfl
 case s3 =>
  intro a w' K hT hf hw hK
  refine c8 rfl ?_
  have h22 : a.tmps[22]?.getD undef = .iface 126 (.agg #[]) := hw.1
  have h23 : a.tmps[23]?.getD undef = .agg #[.int .i64 0, .int .i64 1, .int .i64 s, .bool false, .int .i64 k, .bool false, .slice none 0 0] := hw.2.1
  clear hf hw
  have hR : w.heap.size < w'.heap.size := by have := hT.grown.size; simp at this; omega
  go_simp
  refine (a4V _ _ _ _ _ _ _ _ HK.out.1 HK.out.2).mono ?_
  rintro e w2 ⟨rfl, hb2⟩
  exact hK _ _ (TR.of_below hR hb2) rfl
 case s4 =>
  intro a w' K hT hf hw hK
  refine c8 rfl ?_
  have h0 : a.tmps[0]?.getD undef = .int .i64 (c : Int) := hf 0 (by kernel_rfl)
  clear hf hw
  go_simp
  exact hK _ _ (TR.refl _ _ _ _) rfl
 case s5 =>
  intro a w' K hT hf hw hK
  refine c8 rfl ?_
  have h24 : a.tmps[24]?.getD undef = .int .i64 (K2 s k) := hw.1
  have h25 : a.tmps[25]?.getD undef = .int .i64 (c : Int) := hw.2.1
  clear hf hw
  go_simp
  exact hK _ _ (TR.refl _ _ _ _) rfl
 case s6 =>
  intro a w' K hT hf hw hK
  refine c8 rfl ?_
  have h26 : a.tmps[26]?.getD undef = .bool true := hw.1
  clear hf hw
  go_simp
  exact hK _ _ (TR.refl _ _ _ _) rfl
 case s7 =>
  intro a w' K hT hf hw hK
  have hg : a.tmps[27]?.getD undef = .bool true := hw.1
  refine m5 rfl rfl hg ?_
  clear hg
  have h4 : a.tmps[4]?.getD undef = .iface 126 (.agg #[]) := hf 4 (by kernel_rfl)
  clear hf hw
  go_simp
  exact hK _ _ (TR.refl _ _ _ _) rfl
 case s8 =>
  intro a w' K hT hf hw hK
  have hg : a.tmps[27]?.getD undef = .bool true := hw.2.1
  refine m5 rfl rfl hg ?_
  clear hg
  have h28 : a.tmps[28]?.getD undef = .iface 126 (.agg #[]) := hw.1
  clear hf hw
  go_simp
  refine (a1A _).mono ?_
  rintro e w2 ⟨rfl, rfl⟩
  exact hK _ _ (TR.refl _ _ _ _) rfl
 case s9 =>
  intro a w' K hT hf hw hK
  have hg : a.tmps[27]?.getD undef = .bool true := hw.2.1
  refine m5 rfl rfl hg ?_
  clear hg
  have h29 : a.tmps[29]?.getD undef = .int .i64 3 := hw.1
  clear hf hw
  go_simp
  exact hK _ _ (TR.refl _ _ _ _) rfl
 case s10 =>
  intro a w' K hT hf hw hK
  have hg : a.tmps[27]?.getD undef = .bool true := hw.2.2.1
  refine m5 rfl rfl hg ?_
  clear hg
  have h30 : a.tmps[30]?.getD undef = .bool false := hw.1
  clear hf hw
  go_simp
  exact hK _ _ (TR.refl _ _ _ _) rfl
 case s11 =>
  intro a w' K hT hf hw hK
  have hg : a.tmps[31]?.getD undef = .bool false := hw.1
  refine m5 rfl rfl hg ?_
  clear hg
  have h5 : a.tmps[5]?.getD undef = .pointer (some ⟨w1.heap.size, 0, none⟩) := hf 5 (by kernel_rfl)
  clear hf hw
  go_simp
  exact hK _ _ (TR.refl _ _ _ _) rfl
 case s12 =>
  intro a w' K hT hf hw hK
  have hg : a.tmps[31]?.getD undef = .bool false := hw.2.1
  refine m5 rfl rfl hg ?_
  clear hg
  have h32 : a.tmps[32]?.getD undef = .pointer (some ⟨w1.heap.size, 4, none⟩) := hw.1
  clear hf hw
  have m0 : ∀ j, w'.cell? ⟨w1.heap.size, j, none⟩ = (w1.alloc (.cells #[.int .i64 0, .int .i64 1, .int .i64 s, .bool false, .int .i64 k, .bool false, .slice none 0 0] 84)).cell? ⟨w1.heap.size, j, none⟩ := fun j => hT.cell (by simp) (Jh hne)
  go_simp
  exact hK _ _ (TR.refl _ _ _ _) rfl
 case s13 =>
  intro a w' K hT hf hw hK
  have hg : a.tmps[31]?.getD undef = .bool false := hw.1
  refine m5 rfl rfl hg ?_
  clear hg
  have h4 : a.tmps[4]?.getD undef = .iface 126 (.agg #[]) := hf 4 (by kernel_rfl)
  clear hf hw
  go_simp
  exact hK _ _ (TR.refl _ _ _ _) rfl
 case s14 =>
  intro a w' K hT hf hw hK
  have hg : a.tmps[31]?.getD undef = .bool false := hw.2.1
  refine m5 rfl rfl hg ?_
  clear hg
  have h34 : a.tmps[34]?.getD undef = .iface 126 (.agg #[]) := hw.1
  clear hf hw
  go_simp
  refine (a1A _).mono ?_
  rintro e w2 ⟨rfl, rfl⟩
  exact hK _ _ (TR.refl _ _ _ _) rfl
 case s15 =>
  intro a w' K hT hf hw hK
  have hg : a.tmps[31]?.getD undef = .bool false := hw.2.2.1
  refine m5 rfl rfl hg ?_
  clear hg
  have h33 : a.tmps[33]?.getD undef = .int .i64 k := hw.1
  have h35 : a.tmps[35]?.getD undef = .int .i64 3 := hw.2.1
  clear hf hw
  go_simp
  exact hK _ _ (TR.refl _ _ _ _) rfl
 case s16 =>
  intro a w' K hT hf hw hK
  have hg : a.tmps[27]?.getD undef = .bool true := hw.2.2.1
  refine m5 rfl rfl hg ?_
  clear hg
  have h31 : a.tmps[31]?.getD undef = .bool false := hw.1
  have h36 : a.tmps[36]?.getD undef = .bool false := hw.2.1
  clear hf hw
  go_simp
  exact hK _ _ (TR.refl _ _ _ _) rfl
 case s17 =>
  intro a w' K hT hf hw hK
  refine c8 rfl ?_
  have h27 : a.tmps[27]?.getD undef = .bool true := hw.1
  have h37 : a.tmps[37]?.getD undef = .bool false := hw.2.1
  clear hf hw
  go_simp
  exact hK _ _ (TR.refl _ _ _ _) rfl
 case s18 =>
  intro a w' K hT hf hw hK
  refine c8 rfl ?_
  have h2 : a.tmps[2]?.getD undef = .pointer (some ⟨w.heap.size, 0, none⟩) := hf 2 (by kernel_rfl)
  have h21 : a.tmps[21]?.getD undef = .agg #[.int .i64 0, .int .i64 1, .int .i64 s, .bool false, .int .i64 k, .bool false, .slice none 0 0] := hw.1
  exact JL 84 _ _ rfl w.heap.size 0 #[.int .i64 0, .int .i64 1, .int .i64 s, .bool false, .int .i64 k, .bool false, .slice none 0 0] (H0 a 2 h2) (H0 a 21 h21) (hT.there hth) (by kernel_rfl) (by simp [Iv]) (hK _ _ (TR.store (hT.there hth) rfl).1 (TR.store (hT.there hth) rfl).2)
 case s19 =>
  intro a w' K hT hf hw hK
  refine c8 rfl ?_
  have h38 : a.tmps[38]?.getD undef = .bool false := hw.1
  clear hf hw
  go_simp
  exact hK _ _ (TR.refl _ _ _ _) rfl
 case O9 =>
  rintro vs w' hT ⟨f0, f1, f2, f3, f4, f5, f6, f7, f8, f9, f10, f11, f12, f13, f14, f15, f16, f17, f18, f19, -⟩
  have e0 : vs 0 = .agg #[.int .i64 0, .int .i64 1, .int .i64 s, .bool false, .int .i64 k, .bool false, .slice none 0 0] := f0
  have e1 : vs 1 = .iface 126 (.agg #[]) := f1
  have e2 : vs 2 = .agg #[.int .i64 0, .int .i64 1, .int .i64 s, .bool false, .int .i64 k, .bool false, .slice none 0 0] := f2
  have e3 : vs 3 = .int .i64 (K2 s k) := f3
  have e4 : vs 4 = .int .i64 (c : Int) := f4
  have e5 : vs 5 = .bool true := f5
  have e6 : vs 6 = .bool true := f6
  have e7 : vs 7 = .iface 126 (.agg #[]) := f7
  have e8 : vs 8 = .int .i64 3 := f8
  have e9 : vs 9 = .bool false := f9
  have e10 : vs 10 = .bool false := f10
  have e11 : vs 11 = .pointer (some ⟨w1.heap.size, 4, none⟩) := f11
  have e12 : vs 12 = .int .i64 k := f12
  have e13 : vs 13 = .iface 126 (.agg #[]) := f13
  have e14 : vs 14 = .int .i64 3 := f14
  have e15 : vs 15 = .bool false := f15
  have e16 : vs 16 = .bool false := f16
  have e17 : vs 17 = .bool false := f17
  have e19 : vs 19 = .bool false := f19
  simp only [C6, Jo, e0, e1, e2, e3, e4, e5, e6, e7, e8, e9, e10, e11, e12, e13, e14, e15, e16, e17, e19]
  simp only [Hi, Ie, If]
  clear e0 e1 e2 e3 e4 e5 e6 e7 e8 e9 e10 e11 e12 e13 e14 e15 e16 e17 e19 f0 f1 f2 f3 f4 f5 f6 f7 f8 f9 f10 f11 f12 f13 f14 f15 f16 f17 f19
  have hr : w'.rangeAt w.heap.size 0 [.int .i64 0, .int .i64 1, .int .i64 s, .bool false, .int .i64 k, .bool false, .slice none 0 0] := f18
  clear f18
  go_wp2_with fail
  refine Hj (results_cell_tmp rfl _ _ w.heap.size 0 [.int .i64 0, .int .i64 1, .int .i64 s, .bool false, .int .i64 k, .bool false, .slice none 0 0] _ rfl hr Tryz.underlying84 rfl (by kernel_rfl)) rfl ⟨rfl, ?_⟩
  exact hT.below (hw1.alloc hw1.size _).drew (GB _) rfl
set_option maxHeartbeats 2000000 in
theorem b8Q (c : Nat) (h0 : 192 <= c) (hc : c < 256) (hok : c % 32 < 4) (w : GG) :
 Hq Tryz.prog 82 #[.int .i64 (c : Int)] w
  fun e w' => e = .returned (.tuple #[.agg (a0t c).toArray, .bool (okC c)]) /\ Below w.heap.size w w' := by
 have ho : okC c = true := by unfold okC; rw [if_neg (by omega), if_neg (by omega)]; simp; omega
 have hbl : a0t c = [.int .i64 0, .int .i64 2, .int .i64 0, .bool false, .int .i64 (c % 4 : Nat), .bool (decide (c / 32 % 2 = 1)), .slice none 0 0] := by unfold a0t; rw [if_neg (by omega), if_neg (by omega)]
 rw [ho, hbl]
 clear ho hbl
 have h1 := N6 c hc
 rw [show c / 64 * 64 = 192 by omega] at h1
 have hq : N9 ((c % 4 : Nat) : Int) (decide (c / 32 % 2 = 1)) = (192 + (if c / 32 % 2 = 1 then 32 else 0) + c % 4 : Nat) := by unfold N9; split <;> simp_all <;> omega
 have h4 : ((c % 4 : Nat) : Int) = 0 ∨ ((c % 4 : Nat) : Int) = 1 ∨ ((c % 4 : Nat) : Int) = 2 ∨ ((c % 4 : Nat) : Int) = 3 := by omega
 have heq : (N9 ((c % 4 : Nat) : Int) (decide (c / 32 % 2 = 1)) == (c : Int)) = true := by
  rw [hq, beq_iff_eq]; split <;> omega
 have hlt : ((c % 4 : Nat) : Int) < 4 := by omega
 have hP : ∀ W, Hq Tryz.prog 114 #[.agg #[], .int .i64 (c : Int)] W fun e w' => e = .returned (.agg #[.int .i64 0, .int .i64 2, .int .i64 0, .bool false, .int .i64 (c % 4 : Nat), .bool (decide (c / 32 % 2 = 1)), .slice none 0 0]) /\ Below W.heap.size W w' := fun W => c5s c hc W
 clear hq hok h0 hc
 generalize hk : ((c % 4 : Nat) : Int) = k at *
 generalize hm : decide (c / 32 % 2 = 1) = m at *
 have HK := GO h4
 clear h4 hk hm
 have HP := GO hP
 clear hP
 go_enter Tryz.func82, Tryz.ntmps82
 go_wp2_with fail
 refine (HP.out _).mono ?_
 rintro e w1 ⟨rfl, hb⟩
 obtain ⟨hc1, hf1⟩ := b3J hb
 have hz : w.heap.size < w1.heap.size := by have := hb.size; simp at this; omega
 have hne : w.heap.size ≠ w1.heap.size := by omega
 go_wp2_with fail
 have hw1 : Below w.heap.size w w1 := ((Below.refl _ _).alloc (GB _) _).trans (hb.mono (by simp))
 have hth : (w1.alloc (.cells #[.int .i64 0, .int .i64 2, .int .i64 0, .bool false, .int .i64 k, .bool m, .slice none 0 0] 84)).drew.there w.heap.size 0 7 := by
  refine B4 (cs := #[.int .i64 0, .int .i64 0, .int .i64 0, .bool false, .int .i64 0, .bool false, .slice none 0 0]) (t := 84) ?_ rfl
  show (w1.alloc _).heap[w.heap.size]? = _
  rw [Below.heap_alloc _ _ _ hz, hb.block _ (by simp)]
  exact Ht w _
 refine q7 (T := TR w.heap.size 7 [.int .i64 0, .int .i64 2, .int .i64 0, .bool false, .int .i64 k, .bool m, .slice none 0 0]) [St.is (.agg #[.int .i64 0, .int .i64 2, .int .i64 0, .bool false, .int .i64 k, .bool m, .slice none 0 0]), St.is (.iface 125 (.agg #[])), St.is (.agg #[.int .i64 0, .int .i64 2, .int .i64 0, .bool false, .int .i64 k, .bool m, .slice none 0 0]), St.is (.int .i64 (N9 k m)), St.is (.int .i64 (c : Int)), St.is (.bool true), St.is (.bool true), St.is (.iface 125 (.agg #[])), St.is (.int .i64 4), St.is (.bool false), St.is (.bool false), St.is (.pointer (some ⟨w1.heap.size, 4, none⟩)), St.is (.int .i64 k), St.is (.iface 125 (.agg #[])), St.is (.int .i64 4), St.is (.bool true), St.is (.bool true), St.is (.bool true), St.pred (fun v' w' => w'.rangeAt w.heap.size 0 [.int .i64 0, .int .i64 2, .int .i64 0, .bool false, .int .i64 k, .bool m, .slice none 0 0]) (fun _ _ _ h q => h.fin q), St.is (.bool true)] (by kernel_rfl) (by kernel_rfl) (TR.refl _ _ _) (TR.trans _ _ _) ⟨?s0, ?s1, ?s2, ?s3, ?s4, ?s5, ?s6, ?s7, ?s8, ?s9, ?s10, ?s11, ?s12, ?s13, ?s14, ?s15, ?s16, ?s17, ?s18, ?s19, trivial⟩ ?O9
 case s0 =>
  intro a w' K hT hf hw hK
  refine c8 rfl ?_
  have h5 : a.tmps[5]?.getD undef = .pointer (some ⟨w1.heap.size, 0, none⟩) := hf 5 (by kernel_rfl)
  clear hf hw
  have m0 : ∀ j, w'.cell? ⟨w1.heap.size, j, none⟩ = (w1.alloc (.cells #[.int .i64 0, .int .i64 2, .int .i64 0, .bool false, .int .i64 k, .bool m, .slice none 0 0] 84)).cell? ⟨w1.heap.size, j, none⟩ := fun j => hT.cell (by simp) (Jh hne)
  go_simp
  exact hK _ _ (TR.refl _ _ _ _) rfl
 case s1 =>
  intro a w' K hT hf hw hK
  refine c8 rfl ?_
  have h4 : a.tmps[4]?.getD undef = .iface 125 (.agg #[]) := hf 4 (by kernel_rfl)
  clear hf hw
  go_simp
  exact hK _ _ (TR.refl _ _ _ _) rfl
 case s2 =>
  intro a w' K hT hf hw hK
  refine c8 rfl ?_
  have h5 : a.tmps[5]?.getD undef = .pointer (some ⟨w1.heap.size, 0, none⟩) := hf 5 (by kernel_rfl)
  clear hf hw
  have m0 : ∀ j, w'.cell? ⟨w1.heap.size, j, none⟩ = (w1.alloc (.cells #[.int .i64 0, .int .i64 2, .int .i64 0, .bool false, .int .i64 k, .bool m, .slice none 0 0] 84)).cell? ⟨w1.heap.size, j, none⟩ := fun j => hT.cell (by simp) (Jh hne)
  go_simp
  exact hK _ _ (TR.refl _ _ _ _) rfl
 case s3 =>
  intro a w' K hT hf hw hK
  refine c8 rfl ?_
  have h22 : a.tmps[22]?.getD undef = .iface 125 (.agg #[]) := hw.1
  have h23 : a.tmps[23]?.getD undef = .agg #[.int .i64 0, .int .i64 2, .int .i64 0, .bool false, .int .i64 k, .bool m, .slice none 0 0] := hw.2.1
  clear hf hw
  have hR : w.heap.size < w'.heap.size := by have := hT.grown.size; simp at this; omega
  go_simp
  refine (a8A _ _ _ _ _ _ _ _ HK.out).mono ?_
  rintro e w2 ⟨rfl, hb2⟩
  exact hK _ _ (TR.of_below hR hb2) rfl
 case s4 =>
  intro a w' K hT hf hw hK
  refine c8 rfl ?_
  have h0 : a.tmps[0]?.getD undef = .int .i64 (c : Int) := hf 0 (by kernel_rfl)
  clear hf hw
  go_simp
  exact hK _ _ (TR.refl _ _ _ _) rfl
 case s5 =>
  intro a w' K hT hf hw hK
  refine c8 rfl ?_
  have h24 : a.tmps[24]?.getD undef = .int .i64 (N9 k m) := hw.1
  have h25 : a.tmps[25]?.getD undef = .int .i64 (c : Int) := hw.2.1
  clear hf hw
  go_simp
  exact hK _ _ (TR.refl _ _ _ _) rfl
 case s6 =>
  intro a w' K hT hf hw hK
  refine c8 rfl ?_
  have h26 : a.tmps[26]?.getD undef = .bool true := hw.1
  clear hf hw
  go_simp
  exact hK _ _ (TR.refl _ _ _ _) rfl
 case s7 =>
  intro a w' K hT hf hw hK
  have hg : a.tmps[27]?.getD undef = .bool true := hw.1
  refine m5 rfl rfl hg ?_
  clear hg
  have h4 : a.tmps[4]?.getD undef = .iface 125 (.agg #[]) := hf 4 (by kernel_rfl)
  clear hf hw
  go_simp
  exact hK _ _ (TR.refl _ _ _ _) rfl
 case s8 =>
  intro a w' K hT hf hw hK
  have hg : a.tmps[27]?.getD undef = .bool true := hw.2.1
  refine m5 rfl rfl hg ?_
  clear hg
  have h28 : a.tmps[28]?.getD undef = .iface 125 (.agg #[]) := hw.1
  clear hf hw
  go_simp
  refine (a4U _).mono ?_
  rintro e w2 ⟨rfl, rfl⟩
  exact hK _ _ (TR.refl _ _ _ _) rfl
 case s9 =>
  intro a w' K hT hf hw hK
  have hg : a.tmps[27]?.getD undef = .bool true := hw.2.1
  refine m5 rfl rfl hg ?_
  clear hg
  have h29 : a.tmps[29]?.getD undef = .int .i64 4 := hw.1
  clear hf hw
  go_simp
  exact hK _ _ (TR.refl _ _ _ _) rfl
 case s10 =>
  intro a w' K hT hf hw hK
  have hg : a.tmps[27]?.getD undef = .bool true := hw.2.2.1
  refine m5 rfl rfl hg ?_
  clear hg
  have h30 : a.tmps[30]?.getD undef = .bool false := hw.1
  clear hf hw
  go_simp
  exact hK _ _ (TR.refl _ _ _ _) rfl
 case s11 =>
  intro a w' K hT hf hw hK
  have hg : a.tmps[31]?.getD undef = .bool false := hw.1
  refine m5 rfl rfl hg ?_
  clear hg
  have h5 : a.tmps[5]?.getD undef = .pointer (some ⟨w1.heap.size, 0, none⟩) := hf 5 (by kernel_rfl)
  clear hf hw
  go_simp
  exact hK _ _ (TR.refl _ _ _ _) rfl
 case s12 =>
  intro a w' K hT hf hw hK
  have hg : a.tmps[31]?.getD undef = .bool false := hw.2.1
  refine m5 rfl rfl hg ?_
  clear hg
  have h32 : a.tmps[32]?.getD undef = .pointer (some ⟨w1.heap.size, 4, none⟩) := hw.1
  clear hf hw
  have m0 : ∀ j, w'.cell? ⟨w1.heap.size, j, none⟩ = (w1.alloc (.cells #[.int .i64 0, .int .i64 2, .int .i64 0, .bool false, .int .i64 k, .bool m, .slice none 0 0] 84)).cell? ⟨w1.heap.size, j, none⟩ := fun j => hT.cell (by simp) (Jh hne)
  go_simp
  exact hK _ _ (TR.refl _ _ _ _) rfl
 case s13 =>
  intro a w' K hT hf hw hK
  have hg : a.tmps[31]?.getD undef = .bool false := hw.1
  refine m5 rfl rfl hg ?_
  clear hg
  have h4 : a.tmps[4]?.getD undef = .iface 125 (.agg #[]) := hf 4 (by kernel_rfl)
  clear hf hw
  go_simp
  exact hK _ _ (TR.refl _ _ _ _) rfl
 case s14 =>
  intro a w' K hT hf hw hK
  have hg : a.tmps[31]?.getD undef = .bool false := hw.2.1
  refine m5 rfl rfl hg ?_
  clear hg
  have h34 : a.tmps[34]?.getD undef = .iface 125 (.agg #[]) := hw.1
  clear hf hw
  go_simp
  refine (a4U _).mono ?_
  rintro e w2 ⟨rfl, rfl⟩
  exact hK _ _ (TR.refl _ _ _ _) rfl
 case s15 =>
  intro a w' K hT hf hw hK
  have hg : a.tmps[31]?.getD undef = .bool false := hw.2.2.1
  refine m5 rfl rfl hg ?_
  clear hg
  have h33 : a.tmps[33]?.getD undef = .int .i64 k := hw.1
  have h35 : a.tmps[35]?.getD undef = .int .i64 4 := hw.2.1
  clear hf hw
  go_simp
  exact hK _ _ (TR.refl _ _ _ _) rfl
 case s16 =>
  intro a w' K hT hf hw hK
  have hg : a.tmps[27]?.getD undef = .bool true := hw.2.2.1
  refine m5 rfl rfl hg ?_
  clear hg
  have h31 : a.tmps[31]?.getD undef = .bool false := hw.1
  have h36 : a.tmps[36]?.getD undef = .bool true := hw.2.1
  clear hf hw
  go_simp
  exact hK _ _ (TR.refl _ _ _ _) rfl
 case s17 =>
  intro a w' K hT hf hw hK
  refine c8 rfl ?_
  have h27 : a.tmps[27]?.getD undef = .bool true := hw.1
  have h37 : a.tmps[37]?.getD undef = .bool true := hw.2.1
  clear hf hw
  go_simp
  exact hK _ _ (TR.refl _ _ _ _) rfl
 case s18 =>
  intro a w' K hT hf hw hK
  refine c8 rfl ?_
  have h2 : a.tmps[2]?.getD undef = .pointer (some ⟨w.heap.size, 0, none⟩) := hf 2 (by kernel_rfl)
  have h21 : a.tmps[21]?.getD undef = .agg #[.int .i64 0, .int .i64 2, .int .i64 0, .bool false, .int .i64 k, .bool m, .slice none 0 0] := hw.1
  exact JL 84 _ _ rfl w.heap.size 0 #[.int .i64 0, .int .i64 2, .int .i64 0, .bool false, .int .i64 k, .bool m, .slice none 0 0] (H0 a 2 h2) (H0 a 21 h21) (hT.there hth) (by kernel_rfl) (by simp [Iv]) (hK _ _ (TR.store (hT.there hth) rfl).1 (TR.store (hT.there hth) rfl).2)
 case s19 =>
  intro a w' K hT hf hw hK
  refine c8 rfl ?_
  have h38 : a.tmps[38]?.getD undef = .bool true := hw.1
  clear hf hw
  go_simp
  exact hK _ _ (TR.refl _ _ _ _) rfl
 case O9 =>
  rintro vs w' hT ⟨f0, f1, f2, f3, f4, f5, f6, f7, f8, f9, f10, f11, f12, f13, f14, f15, f16, f17, f18, f19, -⟩
  have e0 : vs 0 = .agg #[.int .i64 0, .int .i64 2, .int .i64 0, .bool false, .int .i64 k, .bool m, .slice none 0 0] := f0
  have e1 : vs 1 = .iface 125 (.agg #[]) := f1
  have e2 : vs 2 = .agg #[.int .i64 0, .int .i64 2, .int .i64 0, .bool false, .int .i64 k, .bool m, .slice none 0 0] := f2
  have e3 : vs 3 = .int .i64 (N9 k m) := f3
  have e4 : vs 4 = .int .i64 (c : Int) := f4
  have e5 : vs 5 = .bool true := f5
  have e6 : vs 6 = .bool true := f6
  have e7 : vs 7 = .iface 125 (.agg #[]) := f7
  have e8 : vs 8 = .int .i64 4 := f8
  have e9 : vs 9 = .bool false := f9
  have e10 : vs 10 = .bool false := f10
  have e11 : vs 11 = .pointer (some ⟨w1.heap.size, 4, none⟩) := f11
  have e12 : vs 12 = .int .i64 k := f12
  have e13 : vs 13 = .iface 125 (.agg #[]) := f13
  have e14 : vs 14 = .int .i64 4 := f14
  have e15 : vs 15 = .bool true := f15
  have e16 : vs 16 = .bool true := f16
  have e17 : vs 17 = .bool true := f17
  have e19 : vs 19 = .bool true := f19
  simp only [C6, Jo, e0, e1, e2, e3, e4, e5, e6, e7, e8, e9, e10, e11, e12, e13, e14, e15, e16, e17, e19]
  simp only [Hi, Ie, If]
  clear e0 e1 e2 e3 e4 e5 e6 e7 e8 e9 e10 e11 e12 e13 e14 e15 e16 e17 e19 f0 f1 f2 f3 f4 f5 f6 f7 f8 f9 f10 f11 f12 f13 f14 f15 f16 f17 f19
  have hr : w'.rangeAt w.heap.size 0 [.int .i64 0, .int .i64 2, .int .i64 0, .bool false, .int .i64 k, .bool m, .slice none 0 0] := f18
  clear f18
  go_wp2_with fail
  refine Hj (results_cell_tmp rfl _ _ w.heap.size 0 [.int .i64 0, .int .i64 2, .int .i64 0, .bool false, .int .i64 k, .bool m, .slice none 0 0] _ rfl hr Tryz.underlying84 rfl (by kernel_rfl)) rfl ⟨rfl, ?_⟩
  exact hT.below (hw1.alloc hw1.size _).drew (GB _) rfl
set_option maxHeartbeats 2000000 in
theorem c1f (c : Nat) (h0 : 192 <= c) (hc : c < 256) (hok : ¬ c % 32 < 4) (w : GG) :
 Hq Tryz.prog 82 #[.int .i64 (c : Int)] w
  fun e w' => e = .returned (.tuple #[.agg (a0t c).toArray, .bool (okC c)]) /\ Below w.heap.size w w' := by
 have ho : okC c = false := by unfold okC; rw [if_neg (by omega), if_neg (by omega)]; simp; omega
 have hbl : a0t c = [.int .i64 0, .int .i64 2, .int .i64 0, .bool false, .int .i64 (c % 4 : Nat), .bool (decide (c / 32 % 2 = 1)), .slice none 0 0] := by unfold a0t; rw [if_neg (by omega), if_neg (by omega)]
 rw [ho, hbl]
 clear ho hbl
 have h1 := N6 c hc
 rw [show c / 64 * 64 = 192 by omega] at h1
 have hq : N9 ((c % 4 : Nat) : Int) (decide (c / 32 % 2 = 1)) = (192 + (if c / 32 % 2 = 1 then 32 else 0) + c % 4 : Nat) := by unfold N9; split <;> simp_all <;> omega
 have h4 : ((c % 4 : Nat) : Int) = 0 ∨ ((c % 4 : Nat) : Int) = 1 ∨ ((c % 4 : Nat) : Int) = 2 ∨ ((c % 4 : Nat) : Int) = 3 := by omega
 have heq : (N9 ((c % 4 : Nat) : Int) (decide (c / 32 % 2 = 1)) == (c : Int)) = false := by
  rw [hq, beq_eq_false_iff_ne]; split <;> omega
 have hP : ∀ W, Hq Tryz.prog 114 #[.agg #[], .int .i64 (c : Int)] W fun e w' => e = .returned (.agg #[.int .i64 0, .int .i64 2, .int .i64 0, .bool false, .int .i64 (c % 4 : Nat), .bool (decide (c / 32 % 2 = 1)), .slice none 0 0]) /\ Below W.heap.size W w' := fun W => c5s c hc W
 clear hq hok h0 hc
 generalize hk : ((c % 4 : Nat) : Int) = k at *
 generalize hm : decide (c / 32 % 2 = 1) = m at *
 have HK := GO h4
 clear h4 hk hm
 have HP := GO hP
 clear hP
 go_enter Tryz.func82, Tryz.ntmps82
 go_wp2_with fail
 refine (HP.out _).mono ?_
 rintro e w1 ⟨rfl, hb⟩
 obtain ⟨hc1, hf1⟩ := b3J hb
 have hz : w.heap.size < w1.heap.size := by have := hb.size; simp at this; omega
 have hne : w.heap.size ≠ w1.heap.size := by omega
 go_wp2_with fail
 have hw1 : Below w.heap.size w w1 := ((Below.refl _ _).alloc (GB _) _).trans (hb.mono (by simp))
 have hth : (w1.alloc (.cells #[.int .i64 0, .int .i64 2, .int .i64 0, .bool false, .int .i64 k, .bool m, .slice none 0 0] 84)).drew.there w.heap.size 0 7 := by
  refine B4 (cs := #[.int .i64 0, .int .i64 0, .int .i64 0, .bool false, .int .i64 0, .bool false, .slice none 0 0]) (t := 84) ?_ rfl
  show (w1.alloc _).heap[w.heap.size]? = _
  rw [Below.heap_alloc _ _ _ hz, hb.block _ (by simp)]
  exact Ht w _
 refine q7 (T := TR w.heap.size 7 [.int .i64 0, .int .i64 2, .int .i64 0, .bool false, .int .i64 k, .bool m, .slice none 0 0]) [St.is (.agg #[.int .i64 0, .int .i64 2, .int .i64 0, .bool false, .int .i64 k, .bool m, .slice none 0 0]), St.is (.iface 125 (.agg #[])), St.is (.agg #[.int .i64 0, .int .i64 2, .int .i64 0, .bool false, .int .i64 k, .bool m, .slice none 0 0]), St.is (.int .i64 (N9 k m)), St.is (.int .i64 (c : Int)), St.is (.bool false), St.is (.bool false), St.is undef, St.is undef, St.is undef, St.is undef, St.is undef, St.is undef, St.is undef, St.is undef, St.is undef, St.is undef, St.is (Ho false), St.pred (fun v' w' => w'.rangeAt w.heap.size 0 [.int .i64 0, .int .i64 2, .int .i64 0, .bool false, .int .i64 k, .bool m, .slice none 0 0]) (fun _ _ _ h q => h.fin q), St.is (Ho false)] (by kernel_rfl) (by kernel_rfl) (TR.refl _ _ _) (TR.trans _ _ _) ⟨?s0, ?s1, ?s2, ?s3, ?s4, ?s5, ?s6, ?s7, ?s8, ?s9, ?s10, ?s11, ?s12, ?s13, ?s14, ?s15, ?s16, ?s17, ?s18, ?s19, trivial⟩ ?O9
 case s0 =>
  intro a w' K hT hf hw hK
  refine c8 rfl ?_
  have h5 : a.tmps[5]?.getD undef = .pointer (some ⟨w1.heap.size, 0, none⟩) := hf 5 (by kernel_rfl)
  clear hf hw
  have m0 : ∀ j, w'.cell? ⟨w1.heap.size, j, none⟩ = (w1.alloc (.cells #[.int .i64 0, .int .i64 2, .int .i64 0, .bool false, .int .i64 k, .bool m, .slice none 0 0] 84)).cell? ⟨w1.heap.size, j, none⟩ := fun j => hT.cell (by simp) (Jh hne)
  go_simp
  exact hK _ _ (TR.refl _ _ _ _) rfl
 case s1 =>
  intro a w' K hT hf hw hK
  refine c8 rfl ?_
  have h4 : a.tmps[4]?.getD undef = .iface 125 (.agg #[]) := hf 4 (by kernel_rfl)
  clear hf hw
  go_simp
  exact hK _ _ (TR.refl _ _ _ _) rfl
 case s2 =>
  intro a w' K hT hf hw hK
  refine c8 rfl ?_
  have h5 : a.tmps[5]?.getD undef = .pointer (some ⟨w1.heap.size, 0, none⟩) := hf 5 (by kernel_rfl)
  clear hf hw
  have m0 : ∀ j, w'.cell? ⟨w1.heap.size, j, none⟩ = (w1.alloc (.cells #[.int .i64 0, .int .i64 2, .int .i64 0, .bool false, .int .i64 k, .bool m, .slice none 0 0] 84)).cell? ⟨w1.heap.size, j, none⟩ := fun j => hT.cell (by simp) (Jh hne)
  go_simp
  exact hK _ _ (TR.refl _ _ _ _) rfl
 case s3 =>
  intro a w' K hT hf hw hK
  refine c8 rfl ?_
  have h22 : a.tmps[22]?.getD undef = .iface 125 (.agg #[]) := hw.1
  have h23 : a.tmps[23]?.getD undef = .agg #[.int .i64 0, .int .i64 2, .int .i64 0, .bool false, .int .i64 k, .bool m, .slice none 0 0] := hw.2.1
  clear hf hw
  have hR : w.heap.size < w'.heap.size := by have := hT.grown.size; simp at this; omega
  go_simp
  refine (a8A _ _ _ _ _ _ _ _ HK.out).mono ?_
  rintro e w2 ⟨rfl, hb2⟩
  exact hK _ _ (TR.of_below hR hb2) rfl
 case s4 =>
  intro a w' K hT hf hw hK
  refine c8 rfl ?_
  have h0 : a.tmps[0]?.getD undef = .int .i64 (c : Int) := hf 0 (by kernel_rfl)
  clear hf hw
  go_simp
  exact hK _ _ (TR.refl _ _ _ _) rfl
 case s5 =>
  intro a w' K hT hf hw hK
  refine c8 rfl ?_
  have h24 : a.tmps[24]?.getD undef = .int .i64 (N9 k m) := hw.1
  have h25 : a.tmps[25]?.getD undef = .int .i64 (c : Int) := hw.2.1
  clear hf hw
  go_simp
  exact hK _ _ (TR.refl _ _ _ _) rfl
 case s6 =>
  intro a w' K hT hf hw hK
  refine c8 rfl ?_
  have h26 : a.tmps[26]?.getD undef = .bool false := hw.1
  clear hf hw
  go_simp
  exact hK _ _ (TR.refl _ _ _ _) rfl
 case s7 =>
  intro a w' K hT hf hw hK
  have hg : a.tmps[27]?.getD undef = .bool false := hw.1
  refine p5 rfl rfl (.inl hg) ?_
  exact hK _ _ (TR.refl _ _ _ _) rfl
 case s8 =>
  intro a w' K hT hf hw hK
  have hg : a.tmps[27]?.getD undef = .bool false := hw.2.1
  refine p5 rfl rfl (.inl hg) ?_
  exact hK _ _ (TR.refl _ _ _ _) rfl
 case s9 =>
  intro a w' K hT hf hw hK
  have hg : a.tmps[27]?.getD undef = .bool false := hw.2.1
  refine p5 rfl rfl (.inl hg) ?_
  exact hK _ _ (TR.refl _ _ _ _) rfl
 case s10 =>
  intro a w' K hT hf hw hK
  have hg : a.tmps[27]?.getD undef = .bool false := hw.2.2.1
  refine p5 rfl rfl (.inl hg) ?_
  exact hK _ _ (TR.refl _ _ _ _) rfl
 case s11 =>
  intro a w' K hT hf hw hK
  have hg : a.tmps[31]?.getD undef = undef := hw.1
  refine p5 rfl rfl (.inr hg) ?_
  exact hK _ _ (TR.refl _ _ _ _) rfl
 case s12 =>
  intro a w' K hT hf hw hK
  have hg : a.tmps[31]?.getD undef = undef := hw.2.1
  refine p5 rfl rfl (.inr hg) ?_
  exact hK _ _ (TR.refl _ _ _ _) rfl
 case s13 =>
  intro a w' K hT hf hw hK
  have hg : a.tmps[31]?.getD undef = undef := hw.1
  refine p5 rfl rfl (.inr hg) ?_
  exact hK _ _ (TR.refl _ _ _ _) rfl
 case s14 =>
  intro a w' K hT hf hw hK
  have hg : a.tmps[31]?.getD undef = undef := hw.2.1
  refine p5 rfl rfl (.inr hg) ?_
  exact hK _ _ (TR.refl _ _ _ _) rfl
 case s15 =>
  intro a w' K hT hf hw hK
  have hg : a.tmps[31]?.getD undef = undef := hw.2.2.1
  refine p5 rfl rfl (.inr hg) ?_
  exact hK _ _ (TR.refl _ _ _ _) rfl
 case s16 =>
  intro a w' K hT hf hw hK
  have hg : a.tmps[27]?.getD undef = .bool false := hw.2.2.1
  refine p5 rfl rfl (.inl hg) ?_
  exact hK _ _ (TR.refl _ _ _ _) rfl
 case s17 =>
  intro a w' K hT hf hw hK
  refine c8 rfl ?_
  have h27 : a.tmps[27]?.getD undef = .bool false := hw.1
  have h37 : a.tmps[37]?.getD undef = undef := hw.2.1
  clear hf hw
  go_simp
  exact hK _ _ (TR.refl _ _ _ _) rfl
 case s18 =>
  intro a w' K hT hf hw hK
  refine c8 rfl ?_
  have h2 : a.tmps[2]?.getD undef = .pointer (some ⟨w.heap.size, 0, none⟩) := hf 2 (by kernel_rfl)
  have h21 : a.tmps[21]?.getD undef = .agg #[.int .i64 0, .int .i64 2, .int .i64 0, .bool false, .int .i64 k, .bool m, .slice none 0 0] := hw.1
  exact JL 84 _ _ rfl w.heap.size 0 #[.int .i64 0, .int .i64 2, .int .i64 0, .bool false, .int .i64 k, .bool m, .slice none 0 0] (H0 a 2 h2) (H0 a 21 h21) (hT.there hth) (by kernel_rfl) (by simp [Iv]) (hK _ _ (TR.store (hT.there hth) rfl).1 (TR.store (hT.there hth) rfl).2)
 case s19 =>
  intro a w' K hT hf hw hK
  refine c8 rfl ?_
  have h38 : a.tmps[38]?.getD undef = Ho false := hw.1
  clear hf hw
  go_simp
  exact hK _ _ (TR.refl _ _ _ _) rfl
 case O9 =>
  rintro vs w' hT ⟨f0, f1, f2, f3, f4, f5, f6, f7, f8, f9, f10, f11, f12, f13, f14, f15, f16, f17, f18, f19, -⟩
  have e0 : vs 0 = .agg #[.int .i64 0, .int .i64 2, .int .i64 0, .bool false, .int .i64 k, .bool m, .slice none 0 0] := f0
  have e1 : vs 1 = .iface 125 (.agg #[]) := f1
  have e2 : vs 2 = .agg #[.int .i64 0, .int .i64 2, .int .i64 0, .bool false, .int .i64 k, .bool m, .slice none 0 0] := f2
  have e3 : vs 3 = .int .i64 (N9 k m) := f3
  have e4 : vs 4 = .int .i64 (c : Int) := f4
  have e5 : vs 5 = .bool false := f5
  have e6 : vs 6 = .bool false := f6
  have e7 : vs 7 = undef := f7
  have e8 : vs 8 = undef := f8
  have e9 : vs 9 = undef := f9
  have e10 : vs 10 = undef := f10
  have e11 : vs 11 = undef := f11
  have e12 : vs 12 = undef := f12
  have e13 : vs 13 = undef := f13
  have e14 : vs 14 = undef := f14
  have e15 : vs 15 = undef := f15
  have e16 : vs 16 = undef := f16
  have e17 : vs 17 = Ho false := f17
  have e19 : vs 19 = Ho false := f19
  simp only [C6, Jo, e0, e1, e2, e3, e4, e5, e6, e7, e8, e9, e10, e11, e12, e13, e14, e15, e16, e17, e19]
  simp only [Hi, Ie, If]
  clear e0 e1 e2 e3 e4 e5 e6 e7 e8 e9 e10 e11 e12 e13 e14 e15 e16 e17 e19 f0 f1 f2 f3 f4 f5 f6 f7 f8 f9 f10 f11 f12 f13 f14 f15 f16 f17 f19
  have hr : w'.rangeAt w.heap.size 0 [.int .i64 0, .int .i64 2, .int .i64 0, .bool false, .int .i64 k, .bool m, .slice none 0 0] := f18
  clear f18
  go_wp2_with fail
  refine Hj (results_cell_tmp rfl _ _ w.heap.size 0 [.int .i64 0, .int .i64 2, .int .i64 0, .bool false, .int .i64 k, .bool m, .slice none 0 0] _ rfl hr Tryz.underlying84 rfl (by kernel_rfl)) rfl ⟨rfl, ?_⟩
  exact hT.below (hw1.alloc hw1.size _).drew (GB _) rfl
theorem a3i (c : Nat) (hc : c < 256) (w : GG) :
 Hq Tryz.prog 82 #[.int .i64 (c : Int)] w
  fun e w' => e = .returned (.tuple #[.agg (a0t c).toArray, .bool (okC c)]) /\ Below w.heap.size w w' := by
 by_cases h1 : c < 128
 . by_cases h2 : c % 32 = 0
   . exact b9M c h1 h2 w
   . exact b8U c h1 h2 w
 . by_cases h3 : c < 192
   . by_cases h4 : c < 160 /\ c % 16 < 4
     . by_cases h5 : c % 16 < 3
       . exact c2a c (by omega) h3 ⟨h4.1, h5⟩ w
       . exact c0g c (by omega) h3 (by omega) w
     . exact c0W c (by omega) h3 h4 w
   . by_cases h5 : c % 32 < 4
     . exact b8Q c (by omega) hc h5 w
     . exact c1f c (by omega) hc h5 w
end
section
open Go.RowKit
attribute [local go_sem] d5Z d6q d6r d5V d5L d5z
def a3O (kind seq : Int) (more : Bool) (code : Int) (answer : Bool) : Int := if kind = 0 then O1 seq more else if kind = 1 then K2 seq code else N9 code answer
def c1S (nad kind seq : Int) (more : Bool) (code : Int) (answer : Bool) (n : Nat) : List UInt8 := [Gz nad.toNat, Gz (a3O kind seq more code answer).toNat, Gz n]
def R4 (k nad kind seq : Int) (more : Bool) (code : Int) (answer : Bool) (inf : List UInt8) : List UInt8 :=
 c1S nad kind seq more code answer inf.length ++ inf ++ R5 k (c1S nad kind seq more code answer inf.length ++ inf)
theorem c1Q (a : Nat) (h : a < 256) : u8 (Gz a) = .int .u8 (a : Int) := by
 unfold u8; rw [Iy]; rw [Ii (by omega)]
theorem a2B (a : Int) (h0 : 0 <= a) (h : a < 256) : u8 (Gz a.toNat) = .int .u8 (a % 256) := by
 rw [c1Q _ (by omega)]; congr 1; omega
theorem a8k (a : Nat) (h : a < 256) : u8 (Gz a) = .int .u8 ((a : Int) % 256) := by
 rw [c1Q a h]; congr 1; omega
theorem c9C {α : Type} (a b : List α) : [a, b].flatten = a ++ b := by simp
theorem c8F (w : GG) : Hq Tryz.prog 90 #[.int .i64 0] w fun e w' => e = .returned (.iface 127 (.agg #[])) /\ w = w' := by
 go_enter Tryz.func90, Tryz.ntmps90
 go_wp2
 go_ret
 exact ⟨rfl, rfl⟩
theorem c9i (w : GG) : Hq Tryz.prog 90 #[.int .i64 1] w fun e w' => e = .returned (.iface 126 (.agg #[])) /\ w = w' := by
 go_enter Tryz.func90, Tryz.ntmps90
 go_wp2
 go_ret
 exact ⟨rfl, rfl⟩
theorem c9Q (w : GG) : Hq Tryz.prog 90 #[.int .i64 2] w fun e w' => e = .returned (.iface 125 (.agg #[])) /\ w = w' := by
 go_enter Tryz.func90, Tryz.ntmps90
 go_wp2
 go_ret
 exact ⟨rfl, rfl⟩
set_option maxHeartbeats 400000 in
theorem b8L (nad kind seq : Int) (more : Bool) (code : Int) (answer : Bool) (v : GK) (k : Int) (hk : ¬ (k = 0 ∨ k = 1)) (w : GG) :
 Hq Tryz.prog 84 #[.agg #[.int .i64 nad, .int .i64 kind, .int .i64 seq, .bool more, .int .i64 code, .bool answer, v], .int .i64 k] w
  fun e w' => e = .returned (.tuple #[.slice none 0 0, .int .i64 1]) /\ Below w.heap.size w w' := by
 have hs : a7L k = 0 := by unfold a7L; rw [if_neg (by omega), if_neg (by omega)]
 go_enter Tryz.func84, Tryz.ntmps84
 go_wp2_with fail
 refine (H4 k _).mono ?_
 rintro e w1 ⟨rfl, rfl⟩
 rw [hs]
 go_wp2_with fail
 go_ret2
 exact ⟨rfl, (Below.refl _ _).alloc (GB _) _⟩
set_option maxHeartbeats 400000 in
theorem c3z (nad kind seq : Int) (more : Bool) (code : Int) (answer : Bool) (A : Option Addr) (n c : Nat) (inf : List UInt8) (k : Int) (hk : k = 0 ∨ k = 1) (w : GG) (h : IsB w A n c inf)
 (d6U : d8 nad kind seq more code answer inf ≠ 0) :
 Hq Tryz.prog 84 #[.agg #[.int .i64 nad, .int .i64 kind, .int .i64 seq, .bool more, .int .i64 code, .bool answer, .slice A n c], .int .i64 k] w
  fun e w' => e = .returned (.tuple #[.slice none 0 0, .int .i64 (d8 nad kind seq more code answer inf)]) /\ Below w.heap.size w w' := by
 have hp := G8 k hk
 have hC : ∀ W, IsB W A n c inf -> Hq Tryz.prog 83 #[.agg #[.int .i64 nad, .int .i64 kind, .int .i64 seq, .bool more, .int .i64 code, .bool answer, .slice A n c]] W
  fun e w' => e = .returned (.int .i64 (d8 nad kind seq more code answer inf)) /\ Below W.heap.size W w' := fun W hW => a0N nad kind seq more code answer A n c inf W hW
 generalize d8 nad kind seq more code answer inf = er at *
 have HC := GO hC
 have hne : (er != 0) = true := by simpa using d6U
 clear hC d6U
 go_enter Tryz.func84, Tryz.ntmps84
 go_wp2_with fail
 refine (H4 k _).mono ?_
 rintro e w1 ⟨rfl, rfl⟩
 rw [K9]
 generalize C8 k = s at *
 have h0 : ((s : Int) == 0) = false := by simp; omega
 go_wp2_with fail
 refine (HC.out _ (h.alloc _)).mono ?_
 rintro e w1 ⟨rfl, hb⟩
 go_wp2_with fail
 go_ret2
 exact ⟨rfl, ((Below.refl _ _).alloc (GB _) _).trans (hb.mono (by simp))⟩
set_option maxRecDepth 8000 in
set_option maxHeartbeats 2000000 in
theorem c9x (nad seq : Int) (more : Bool) (A : Option Addr) (n c : Nat) (inf : List UInt8) (k : Int) (hk : k = 0 ∨ k = 1) (w : GG) (h : IsB w A n c inf)
 (hok : d8 nad 0 seq more 0 false inf = 0) (hn0 : 0 <= nad) (hn1 : nad <= 254) (hv : (seq = 0 ∨ seq = 1)) (hlen : n <= 254) :
 Hq Tryz.prog 84 #[.agg #[.int .i64 nad, .int .i64 0, .int .i64 seq, .bool more, .int .i64 0, .bool false, .slice A n c], .int .i64 k] w
  fun e w' => ∃ A' n' c', e = .returned (.tuple #[.slice A' n' c', .int .i64 0]) /\ Own w' w.heap.size 5 A' n' c' ((R4 k nad 0 seq more 0 false inf).map u8) /\ Below w.heap.size w w' := by
 have hp := G8 k hk
 have hl := IsB.len h
 have hctl : 0 <= O1 seq more /\ O1 seq more < 256 := by unfold O1; rcases hv with rfl | rfl <;> cases more <;> simp
 have HV : Hid (((seq = 0 ∨ seq = 1)) /\ u8 (Gz nad.toNat) = .int .u8 (nad % 256) /\ u8 (Gz (O1 seq more).toNat) = .int .u8 ((O1 seq more) % 256) /\ u8 (Gz n) = .int .u8 ((n : Int) % 256)) := ⟨hv, a2B _ hn0 (by omega), a2B _ hctl.1 hctl.2, a8k _ (by omega)⟩
 have HV0 : Hid (IsB w A n c inf /\ inf.length <= 254 /\ (k = 0 ∨ k = 1)) := ⟨h, by omega, hk⟩
 have HL : Hid (R4 k nad 0 seq more 0 false inf = [Gz nad.toNat, Gz (O1 seq more).toNat, Gz n] ++ inf ++ R5 k ([Gz nad.toNat, Gz (O1 seq more).toNat, Gz n] ++ inf)) := by
  show _ = _
  unfold R4 c1S
  rw [hl]
  rfl
 have hC : ∀ W, IsB W A n c inf -> Hq Tryz.prog 83 #[.agg #[.int .i64 nad, .int .i64 0, .int .i64 seq, .bool more, .int .i64 0, .bool false, .slice A n c]] W fun e w' => e = .returned (.int .i64 0) /\ Below W.heap.size W w' := fun W hW => by
  have := a0N nad 0 seq more 0 false A n c inf W hW
  rwa [hok] at this
 have HC := GO hC
 have hc0 := hctl.1
 have hc1 := hctl.2
 clear hC hok hl hctl hv
 go_enter Tryz.func84, Tryz.ntmps84
 go_wp2_with fail
 refine (H4 k _).mono ?_
 rintro e w1 ⟨rfl, rfl⟩
 rw [K9]
 generalize C8 k = s at *
 have h0 : ((s : Int) == 0) = false := by simp; omega
 go_wp2_with fail
 refine (HC.out _ (h.alloc _)).mono ?_
 rintro e w1 ⟨rfl, hb⟩
 have hbw : Below w.heap.size w w1 := ((Below.refl _ _).alloc (GB _) _).trans (hb.mono (by simp))
 go_wp2_with fail
 refine q7 (T := TB) [St.is (.pointer (some ⟨w.heap.size, 0, none⟩)), St.is (.int .i64 nad), St.is (.int .u8 (nad % 256)), St.is (.pointer (some ⟨w.heap.size, 1, none⟩)), St.is (.int .i64 0), St.is (.iface 127 (.agg #[])), St.is (.agg #[.int .i64 nad, .int .i64 0, .int .i64 seq, .bool more, .int .i64 0, .bool false, .slice A n c]), St.is (.int .i64 (O1 seq more)), St.is (.int .u8 ((O1 seq more) % 256)), St.is (.pointer (some ⟨w.heap.size, 6, none⟩)), St.is (.slice A n c), St.is (.int .i64 (n : Int)), St.is (.int .u8 ((n : Int) % 256)), St.pred (fun v' w' => ∃ g, v' = .slice (some ⟨g, 0, none⟩) 3 3 /\ IsB w' (some ⟨g, 0, none⟩) 3 3 [Gz nad.toNat, Gz (O1 seq more).toNat, Gz n]) (fun _ _ _ h q => q.imp fun _ q => ⟨q.1, Rd.below q.2 h⟩), St.pred (fun v' w' => ∃ g, v' = .slice (some ⟨g, 0, none⟩) 3 3 /\ IsB w' (some ⟨g, 0, none⟩) 3 3 [Gz nad.toNat, Gz (O1 seq more).toNat, Gz n]) (fun _ _ _ h q => q.imp fun _ q => ⟨q.1, Rd.below q.2 h⟩)] (by kernel_rfl) (by kernel_rfl) (TB.refl) (TB.trans) ⟨?s0, ?s1, ?s2, ?s3, ?s4, ?s5, ?s6, ?s7, ?s8, ?s9, ?s10, ?s11, ?s12, ?s13, ?s14, trivial⟩ ?O9
 case s0 =>
  intro a w' K hT hf hw hK
  refine c8 ?_ ?_
  . rfl
  have h2 : a.tmps[2]?.getD undef = .pointer (some ⟨w.heap.size, 0, none⟩) := hf 2 (by kernel_rfl)
  clear hf hw
  go_simp
  exact hK _ _ (TB.refl _) rfl
 case s1 =>
  intro a w' K hT hf hw hK
  refine c8 ?_ ?_
  . rfl
  have h16 : a.tmps[16]?.getD undef = .pointer (some ⟨w.heap.size, 0, none⟩) := hw.1
  clear hf hw
  have m0 : ∀ j, w'.cell? ⟨w.heap.size, j, none⟩ = (w.alloc (.cells #[.int .i64 nad, .int .i64 0, .int .i64 seq, .bool more, .int .i64 0, .bool false, .slice A n c] 84)).cell? ⟨w.heap.size, j, none⟩ := fun j => (hT.cell (by have := hb.size; simp at this ⊢; omega)).trans (hb.cell (p := ⟨w.heap.size, j, none⟩) (by simp))
  go_simp
  exact hK _ _ (TB.refl _) rfl
 case s2 =>
  intro a w' K hT hf hw hK
  refine c8 ?_ ?_
  . rfl
  have h17 : a.tmps[17]?.getD undef = .int .i64 nad := hw.1
  clear hf hw
  go_simp
  exact hK _ _ (TB.refl _) rfl
 case s3 =>
  intro a w' K hT hf hw hK
  refine c8 ?_ ?_
  . rfl
  have h2 : a.tmps[2]?.getD undef = .pointer (some ⟨w.heap.size, 0, none⟩) := hf 2 (by kernel_rfl)
  clear hf hw
  go_simp
  exact hK _ _ (TB.refl _) rfl
 case s4 =>
  intro a w' K hT hf hw hK
  refine c8 ?_ ?_
  . rfl
  have h19 : a.tmps[19]?.getD undef = .pointer (some ⟨w.heap.size, 1, none⟩) := hw.1
  clear hf hw
  have m0 : ∀ j, w'.cell? ⟨w.heap.size, j, none⟩ = (w.alloc (.cells #[.int .i64 nad, .int .i64 0, .int .i64 seq, .bool more, .int .i64 0, .bool false, .slice A n c] 84)).cell? ⟨w.heap.size, j, none⟩ := fun j => (hT.cell (by have := hb.size; simp at this ⊢; omega)).trans (hb.cell (p := ⟨w.heap.size, j, none⟩) (by simp))
  go_simp
  exact hK _ _ (TB.refl _) rfl
 case s5 =>
  intro a w' K hT hf hw hK
  refine c8 ?_ ?_
  . rfl
  have h20 : a.tmps[20]?.getD undef = .int .i64 0 := hw.1
  clear hf hw
  go_simp
  refine (c8F _).mono ?_
  rintro e w2 ⟨rfl, rfl⟩
  exact hK _ _ (TB.refl _) rfl
 case s6 =>
  intro a w' K hT hf hw hK
  refine c8 ?_ ?_
  . rfl
  have h2 : a.tmps[2]?.getD undef = .pointer (some ⟨w.heap.size, 0, none⟩) := hf 2 (by kernel_rfl)
  clear hf hw
  have m0 : ∀ j, w'.cell? ⟨w.heap.size, j, none⟩ = (w.alloc (.cells #[.int .i64 nad, .int .i64 0, .int .i64 seq, .bool more, .int .i64 0, .bool false, .slice A n c] 84)).cell? ⟨w.heap.size, j, none⟩ := fun j => (hT.cell (by have := hb.size; simp at this ⊢; omega)).trans (hb.cell (p := ⟨w.heap.size, j, none⟩) (by simp))
  go_simp
  exact hK _ _ (TB.refl _) rfl
 case s7 =>
  intro a w' K hT hf hw hK
  refine c8 ?_ ?_
  . rfl
  have h21 : a.tmps[21]?.getD undef = .iface 127 (.agg #[]) := hw.1
  have h22 : a.tmps[22]?.getD undef = .agg #[.int .i64 nad, .int .i64 0, .int .i64 seq, .bool more, .int .i64 0, .bool false, .slice A n c] := hw.2.1
  clear hf hw
  go_simp
  refine (a8c _ _ _ _ _ _ _ _ HV.out.1).mono ?_
  rintro e w2 ⟨rfl, hb2⟩
  exact hK _ _ hb2 rfl
 case s8 =>
  intro a w' K hT hf hw hK
  refine c8 ?_ ?_
  . rfl
  have h23 : a.tmps[23]?.getD undef = .int .i64 (O1 seq more) := hw.1
  clear hf hw
  go_simp
  exact hK _ _ (TB.refl _) rfl
 case s9 =>
  intro a w' K hT hf hw hK
  refine c8 ?_ ?_
  . rfl
  have h2 : a.tmps[2]?.getD undef = .pointer (some ⟨w.heap.size, 0, none⟩) := hf 2 (by kernel_rfl)
  clear hf hw
  go_simp
  exact hK _ _ (TB.refl _) rfl
 case s10 =>
  intro a w' K hT hf hw hK
  refine c8 ?_ ?_
  . rfl
  have h25 : a.tmps[25]?.getD undef = .pointer (some ⟨w.heap.size, 6, none⟩) := hw.1
  clear hf hw
  have m0 : ∀ j, w'.cell? ⟨w.heap.size, j, none⟩ = (w.alloc (.cells #[.int .i64 nad, .int .i64 0, .int .i64 seq, .bool more, .int .i64 0, .bool false, .slice A n c] 84)).cell? ⟨w.heap.size, j, none⟩ := fun j => (hT.cell (by have := hb.size; simp at this ⊢; omega)).trans (hb.cell (p := ⟨w.heap.size, j, none⟩) (by simp))
  go_simp
  exact hK _ _ (TB.refl _) rfl
 case s11 =>
  intro a w' K hT hf hw hK
  refine c8 ?_ ?_
  . rfl
  have h26 : a.tmps[26]?.getD undef = .slice A n c := hw.1
  clear hf hw
  go_simp
  exact hK _ _ (TB.refl _) rfl
 case s12 =>
  intro a w' K hT hf hw hK
  refine c8 ?_ ?_
  . rfl
  have h27 : a.tmps[27]?.getD undef = .int .i64 (n : Int) := hw.1
  clear hf hw
  go_simp
  exact hK _ _ (TB.refl _) rfl
 case s13 =>
  intro a w' K hT hf hw hK
  refine c8 ?_ ?_
  . rfl
  have h18 : a.tmps[18]?.getD undef = .int .u8 (nad % 256) := hw.1
  have h24 : a.tmps[24]?.getD undef = .int .u8 ((O1 seq more) % 256) := hw.2.1
  have h28 : a.tmps[28]?.getD undef = .int .u8 ((n : Int) % 256) := hw.2.2.1
  clear hf hw
  go_simp
  refine hK _ _ (TB.alloc _ _) ⟨w'.heap.size, rfl, ?_⟩
  have ho := a1w (w := w') (B := 0) (e := 5) [u8 (Gz nad.toNat), u8 (Gz (O1 seq more).toNat), u8 (Gz n)] (Hl _) (by simp)
  have hr := ho.rd
  rw [HV.out.2.1, HV.out.2.2.1, HV.out.2.2.2] at hr
  show Rd _ _ _ _ [u8 (Gz nad.toNat), u8 (Gz (O1 seq more).toNat), u8 (Gz n)]
  rw [HV.out.2.1, HV.out.2.2.1, HV.out.2.2.2]
  exact hr
 case s14 =>
  intro a w' K hT hf hw hK
  refine c8 ?_ ?_
  . rfl
  have h29 := hw.1
  clear hf hw
  obtain ⟨g, h29, hg⟩ := h29
  have h29 : a.tmps[29]?.getD undef = .slice (some ⟨g, 0, none⟩) 3 3 := h29
  have HG := GO hg
  go_simp
  refine hK _ _ (TB.refl _) ?_
  exact ⟨g, rfl, hg⟩
 case O9 =>
  rintro vs w' hT ⟨f0, f1, f2, f3, f4, f5, f6, f7, f8, f9, f10, f11, f12, f13, f14, -⟩
  have e0 : vs 0 = .pointer (some ⟨w.heap.size, 0, none⟩) := f0
  have e1 : vs 1 = .int .i64 nad := f1
  have e2 : vs 2 = .int .u8 (nad % 256) := f2
  have e3 : vs 3 = .pointer (some ⟨w.heap.size, 1, none⟩) := f3
  have e4 : vs 4 = .int .i64 0 := f4
  have e5 : vs 5 = .iface 127 (.agg #[]) := f5
  have e6 : vs 6 = .agg #[.int .i64 nad, .int .i64 0, .int .i64 seq, .bool more, .int .i64 0, .bool false, .slice A n c] := f6
  have e7 : vs 7 = .int .i64 (O1 seq more) := f7
  have e8 : vs 8 = .int .u8 ((O1 seq more) % 256) := f8
  have e9 : vs 9 = .pointer (some ⟨w.heap.size, 6, none⟩) := f9
  have e10 : vs 10 = .slice A n c := f10
  have e11 : vs 11 = .int .i64 (n : Int) := f11
  have e12 : vs 12 = .int .u8 ((n : Int) % 256) := f12
  simp only [C6, Jo, e0, e1, e2, e3, e4, e5, e6, e7, e8, e9, e10, e11, e12]
  simp only [Hi, Ie, If]
  clear e0 e1 e2 e3 e4 e5 e6 e7 e8 e9 e10 e11 e12 f0 f1 f2 f3 f4 f5 f6 f7 f8 f9 f10 f11 f12
  obtain ⟨g1, e13, -⟩ := f13
  obtain ⟨g, e14, hg⟩ := f14
  rw [e13, e14]
  clear e13 e14
  have hbT : Below w.heap.size w w' := hbw.drew.trans (Below.mono hT hbw.size)
  have HJ := GO (IsBB.lit2 (e := 22) hg (Rd.below HV0.out.1 hbT))
  have m0 : ∀ j, w'.cell? ⟨w.heap.size, j, none⟩ = (w.alloc (.cells #[.int .i64 nad, .int .i64 0, .int .i64 seq, .bool more, .int .i64 0, .bool false, .slice A n c] 84)).cell? ⟨w.heap.size, j, none⟩ := fun j => (TB.cell hT (by have := hb.size; simp at this ⊢; omega)).trans (hb.cell (p := ⟨w.heap.size, j, none⟩) (by simp))
  have HB := GO hbT
  clear hg hbT
  go_wp2_with fail
  refine (a3T _ _ _ [[Gz nad.toNat, Gz (O1 seq more).toNat, Gz n], inf] _ HJ.out (by simp; have := HV0.out.2; omega)).mono ?_
  rintro e w2 ⟨A2, n2, c2, rfl, ho2, hb2⟩
  have hb3 : Below w.heap.size w w2 := (HB.out.alloc HB.out.size _).trans (hb2.mono (by have := HB.out.size; simp; omega))
  have HO := GO (GN ho2 hb3)
  clear ho2 hb2 hb3
  go_wp2_with fail
  refine (a8r k HV0.out.2.2 A2 n2 c2 ([Gz nad.toNat, Gz (O1 seq more).toNat, Gz n] ++ inf) _ (by have := HO.out.1.rd; rw [c9C] at this; exact this) (by simp; have := HV0.out.2.1; omega)).mono ?_
  rintro e w3 ⟨A3, n3, c3, rfl, ho3, hb4⟩
  have HO3 := GO (GN ho3 hb4)
  clear ho3 hb4
  go_wp2_with fail
  go_ret2
  refine ⟨A3, n3, c3, rfl, ?_, HO.out.2.trans (HO3.out.2.mono HO.out.2.size)⟩
  have h1 := HO3.out.1.base (B' := w.heap.size) HO.out.2.size
  rw [HL.out]
  exact h1
set_option maxRecDepth 8000 in
set_option maxHeartbeats 2000000 in
theorem c8y (nad seq code : Int)  (A : Option Addr) (n c : Nat) (inf : List UInt8) (k : Int) (hk : k = 0 ∨ k = 1) (w : GG) (h : IsB w A n c inf)
 (hok : d8 nad 1 seq false code false inf = 0) (hn0 : 0 <= nad) (hn1 : nad <= 254) (hv : (seq = 0 ∨ seq = 1) /\ (code = 0 ∨ code = 1 ∨ code = 2 ∨ code = 3)) (hlen : n <= 254) :
 Hq Tryz.prog 84 #[.agg #[.int .i64 nad, .int .i64 1, .int .i64 seq, .bool false, .int .i64 code, .bool false, .slice A n c], .int .i64 k] w
  fun e w' => ∃ A' n' c', e = .returned (.tuple #[.slice A' n' c', .int .i64 0]) /\ Own w' w.heap.size 5 A' n' c' ((R4 k nad 1 seq false code false inf).map u8) /\ Below w.heap.size w w' := by
 have hp := G8 k hk
 have hl := IsB.len h
 have hctl : 0 <= K2 seq code /\ K2 seq code < 256 := by unfold K2; rcases hv with ⟨rfl | rfl, rfl | rfl | rfl | rfl⟩ <;> simp
 have HV : Hid (((seq = 0 ∨ seq = 1) /\ (code = 0 ∨ code = 1 ∨ code = 2 ∨ code = 3)) /\ u8 (Gz nad.toNat) = .int .u8 (nad % 256) /\ u8 (Gz (K2 seq code).toNat) = .int .u8 ((K2 seq code) % 256) /\ u8 (Gz n) = .int .u8 ((n : Int) % 256)) := ⟨hv, a2B _ hn0 (by omega), a2B _ hctl.1 hctl.2, a8k _ (by omega)⟩
 have HV0 : Hid (IsB w A n c inf /\ inf.length <= 254 /\ (k = 0 ∨ k = 1)) := ⟨h, by omega, hk⟩
 have HL : Hid (R4 k nad 1 seq false code false inf = [Gz nad.toNat, Gz (K2 seq code).toNat, Gz n] ++ inf ++ R5 k ([Gz nad.toNat, Gz (K2 seq code).toNat, Gz n] ++ inf)) := by
  show _ = _
  unfold R4 c1S
  rw [hl]
  rfl
 have hC : ∀ W, IsB W A n c inf -> Hq Tryz.prog 83 #[.agg #[.int .i64 nad, .int .i64 1, .int .i64 seq, .bool false, .int .i64 code, .bool false, .slice A n c]] W fun e w' => e = .returned (.int .i64 0) /\ Below W.heap.size W w' := fun W hW => by
  have := a0N nad 1 seq false code false A n c inf W hW
  rwa [hok] at this
 have HC := GO hC
 have hc0 := hctl.1
 have hc1 := hctl.2
 clear hC hok hl hctl hv
 go_enter Tryz.func84, Tryz.ntmps84
 go_wp2_with fail
 refine (H4 k _).mono ?_
 rintro e w1 ⟨rfl, rfl⟩
 rw [K9]
 generalize C8 k = s at *
 have h0 : ((s : Int) == 0) = false := by simp; omega
 go_wp2_with fail
 refine (HC.out _ (h.alloc _)).mono ?_
 rintro e w1 ⟨rfl, hb⟩
 have hbw : Below w.heap.size w w1 := ((Below.refl _ _).alloc (GB _) _).trans (hb.mono (by simp))
 go_wp2_with fail
 refine q7 (T := TB) [St.is (.pointer (some ⟨w.heap.size, 0, none⟩)), St.is (.int .i64 nad), St.is (.int .u8 (nad % 256)), St.is (.pointer (some ⟨w.heap.size, 1, none⟩)), St.is (.int .i64 1), St.is (.iface 126 (.agg #[])), St.is (.agg #[.int .i64 nad, .int .i64 1, .int .i64 seq, .bool false, .int .i64 code, .bool false, .slice A n c]), St.is (.int .i64 (K2 seq code)), St.is (.int .u8 ((K2 seq code) % 256)), St.is (.pointer (some ⟨w.heap.size, 6, none⟩)), St.is (.slice A n c), St.is (.int .i64 (n : Int)), St.is (.int .u8 ((n : Int) % 256)), St.pred (fun v' w' => ∃ g, v' = .slice (some ⟨g, 0, none⟩) 3 3 /\ IsB w' (some ⟨g, 0, none⟩) 3 3 [Gz nad.toNat, Gz (K2 seq code).toNat, Gz n]) (fun _ _ _ h q => q.imp fun _ q => ⟨q.1, Rd.below q.2 h⟩), St.pred (fun v' w' => ∃ g, v' = .slice (some ⟨g, 0, none⟩) 3 3 /\ IsB w' (some ⟨g, 0, none⟩) 3 3 [Gz nad.toNat, Gz (K2 seq code).toNat, Gz n]) (fun _ _ _ h q => q.imp fun _ q => ⟨q.1, Rd.below q.2 h⟩)] (by kernel_rfl) (by kernel_rfl) (TB.refl) (TB.trans) ⟨?s0, ?s1, ?s2, ?s3, ?s4, ?s5, ?s6, ?s7, ?s8, ?s9, ?s10, ?s11, ?s12, ?s13, ?s14, trivial⟩ ?O9
 case s0 =>
  intro a w' K hT hf hw hK
  refine c8 ?_ ?_
  . rfl
  have h2 : a.tmps[2]?.getD undef = .pointer (some ⟨w.heap.size, 0, none⟩) := hf 2 (by kernel_rfl)
  clear hf hw
  go_simp
  exact hK _ _ (TB.refl _) rfl
 case s1 =>
  intro a w' K hT hf hw hK
  refine c8 ?_ ?_
  . rfl
  have h16 : a.tmps[16]?.getD undef = .pointer (some ⟨w.heap.size, 0, none⟩) := hw.1
  clear hf hw
  have m0 : ∀ j, w'.cell? ⟨w.heap.size, j, none⟩ = (w.alloc (.cells #[.int .i64 nad, .int .i64 1, .int .i64 seq, .bool false, .int .i64 code, .bool false, .slice A n c] 84)).cell? ⟨w.heap.size, j, none⟩ := fun j => (hT.cell (by have := hb.size; simp at this ⊢; omega)).trans (hb.cell (p := ⟨w.heap.size, j, none⟩) (by simp))
  go_simp
  exact hK _ _ (TB.refl _) rfl
 case s2 =>
  intro a w' K hT hf hw hK
  refine c8 ?_ ?_
  . rfl
  have h17 : a.tmps[17]?.getD undef = .int .i64 nad := hw.1
  clear hf hw
  go_simp
  exact hK _ _ (TB.refl _) rfl
 case s3 =>
  intro a w' K hT hf hw hK
  refine c8 ?_ ?_
  . rfl
  have h2 : a.tmps[2]?.getD undef = .pointer (some ⟨w.heap.size, 0, none⟩) := hf 2 (by kernel_rfl)
  clear hf hw
  go_simp
  exact hK _ _ (TB.refl _) rfl
 case s4 =>
  intro a w' K hT hf hw hK
  refine c8 ?_ ?_
  . rfl
  have h19 : a.tmps[19]?.getD undef = .pointer (some ⟨w.heap.size, 1, none⟩) := hw.1
  clear hf hw
  have m0 : ∀ j, w'.cell? ⟨w.heap.size, j, none⟩ = (w.alloc (.cells #[.int .i64 nad, .int .i64 1, .int .i64 seq, .bool false, .int .i64 code, .bool false, .slice A n c] 84)).cell? ⟨w.heap.size, j, none⟩ := fun j => (hT.cell (by have := hb.size; simp at this ⊢; omega)).trans (hb.cell (p := ⟨w.heap.size, j, none⟩) (by simp))
  go_simp
  exact hK _ _ (TB.refl _) rfl
 case s5 =>
  intro a w' K hT hf hw hK
  refine c8 ?_ ?_
  . rfl
  have h20 : a.tmps[20]?.getD undef = .int .i64 1 := hw.1
  clear hf hw
  go_simp
  refine (c9i _).mono ?_
  rintro e w2 ⟨rfl, rfl⟩
  exact hK _ _ (TB.refl _) rfl
 case s6 =>
  intro a w' K hT hf hw hK
  refine c8 ?_ ?_
  . rfl
  have h2 : a.tmps[2]?.getD undef = .pointer (some ⟨w.heap.size, 0, none⟩) := hf 2 (by kernel_rfl)
  clear hf hw
  have m0 : ∀ j, w'.cell? ⟨w.heap.size, j, none⟩ = (w.alloc (.cells #[.int .i64 nad, .int .i64 1, .int .i64 seq, .bool false, .int .i64 code, .bool false, .slice A n c] 84)).cell? ⟨w.heap.size, j, none⟩ := fun j => (hT.cell (by have := hb.size; simp at this ⊢; omega)).trans (hb.cell (p := ⟨w.heap.size, j, none⟩) (by simp))
  go_simp
  exact hK _ _ (TB.refl _) rfl
 case s7 =>
  intro a w' K hT hf hw hK
  refine c8 ?_ ?_
  . rfl
  have h21 : a.tmps[21]?.getD undef = .iface 126 (.agg #[]) := hw.1
  have h22 : a.tmps[22]?.getD undef = .agg #[.int .i64 nad, .int .i64 1, .int .i64 seq, .bool false, .int .i64 code, .bool false, .slice A n c] := hw.2.1
  clear hf hw
  go_simp
  refine (a4V _ _ _ _ _ _ _ _ HV.out.1.1 HV.out.1.2).mono ?_
  rintro e w2 ⟨rfl, hb2⟩
  exact hK _ _ hb2 rfl
 case s8 =>
  intro a w' K hT hf hw hK
  refine c8 ?_ ?_
  . rfl
  have h23 : a.tmps[23]?.getD undef = .int .i64 (K2 seq code) := hw.1
  clear hf hw
  go_simp
  exact hK _ _ (TB.refl _) rfl
 case s9 =>
  intro a w' K hT hf hw hK
  refine c8 ?_ ?_
  . rfl
  have h2 : a.tmps[2]?.getD undef = .pointer (some ⟨w.heap.size, 0, none⟩) := hf 2 (by kernel_rfl)
  clear hf hw
  go_simp
  exact hK _ _ (TB.refl _) rfl
 case s10 =>
  intro a w' K hT hf hw hK
  refine c8 ?_ ?_
  . rfl
  have h25 : a.tmps[25]?.getD undef = .pointer (some ⟨w.heap.size, 6, none⟩) := hw.1
  clear hf hw
  have m0 : ∀ j, w'.cell? ⟨w.heap.size, j, none⟩ = (w.alloc (.cells #[.int .i64 nad, .int .i64 1, .int .i64 seq, .bool false, .int .i64 code, .bool false, .slice A n c] 84)).cell? ⟨w.heap.size, j, none⟩ := fun j => (hT.cell (by have := hb.size; simp at this ⊢; omega)).trans (hb.cell (p := ⟨w.heap.size, j, none⟩) (by simp))
  go_simp
  exact hK _ _ (TB.refl _) rfl
 case s11 =>
  intro a w' K hT hf hw hK
  refine c8 ?_ ?_
  . rfl
  have h26 : a.tmps[26]?.getD undef = .slice A n c := hw.1
  clear hf hw
  go_simp
  exact hK _ _ (TB.refl _) rfl
 case s12 =>
  intro a w' K hT hf hw hK
  refine c8 ?_ ?_
  . rfl
  have h27 : a.tmps[27]?.getD undef = .int .i64 (n : Int) := hw.1
  clear hf hw
  go_simp
  exact hK _ _ (TB.refl _) rfl
 case s13 =>
  intro a w' K hT hf hw hK
  refine c8 ?_ ?_
  . rfl
  have h18 : a.tmps[18]?.getD undef = .int .u8 (nad % 256) := hw.1
  have h24 : a.tmps[24]?.getD undef = .int .u8 ((K2 seq code) % 256) := hw.2.1
  have h28 : a.tmps[28]?.getD undef = .int .u8 ((n : Int) % 256) := hw.2.2.1
  clear hf hw
  go_simp
  refine hK _ _ (TB.alloc _ _) ⟨w'.heap.size, rfl, ?_⟩
  have ho := a1w (w := w') (B := 0) (e := 5) [u8 (Gz nad.toNat), u8 (Gz (K2 seq code).toNat), u8 (Gz n)] (Hl _) (by simp)
  have hr := ho.rd
  rw [HV.out.2.1, HV.out.2.2.1, HV.out.2.2.2] at hr
  show Rd _ _ _ _ [u8 (Gz nad.toNat), u8 (Gz (K2 seq code).toNat), u8 (Gz n)]
  rw [HV.out.2.1, HV.out.2.2.1, HV.out.2.2.2]
  exact hr
 case s14 =>
  intro a w' K hT hf hw hK
  refine c8 ?_ ?_
  . rfl
  have h29 := hw.1
  clear hf hw
  obtain ⟨g, h29, hg⟩ := h29
  have h29 : a.tmps[29]?.getD undef = .slice (some ⟨g, 0, none⟩) 3 3 := h29
  have HG := GO hg
  go_simp
  refine hK _ _ (TB.refl _) ?_
  exact ⟨g, rfl, hg⟩
 case O9 =>
  rintro vs w' hT ⟨f0, f1, f2, f3, f4, f5, f6, f7, f8, f9, f10, f11, f12, f13, f14, -⟩
  have e0 : vs 0 = .pointer (some ⟨w.heap.size, 0, none⟩) := f0
  have e1 : vs 1 = .int .i64 nad := f1
  have e2 : vs 2 = .int .u8 (nad % 256) := f2
  have e3 : vs 3 = .pointer (some ⟨w.heap.size, 1, none⟩) := f3
  have e4 : vs 4 = .int .i64 1 := f4
  have e5 : vs 5 = .iface 126 (.agg #[]) := f5
  have e6 : vs 6 = .agg #[.int .i64 nad, .int .i64 1, .int .i64 seq, .bool false, .int .i64 code, .bool false, .slice A n c] := f6
  have e7 : vs 7 = .int .i64 (K2 seq code) := f7
  have e8 : vs 8 = .int .u8 ((K2 seq code) % 256) := f8
  have e9 : vs 9 = .pointer (some ⟨w.heap.size, 6, none⟩) := f9
  have e10 : vs 10 = .slice A n c := f10
  have e11 : vs 11 = .int .i64 (n : Int) := f11
  have e12 : vs 12 = .int .u8 ((n : Int) % 256) := f12
  simp only [C6, Jo, e0, e1, e2, e3, e4, e5, e6, e7, e8, e9, e10, e11, e12]
  simp only [Hi, Ie, If]
  clear e0 e1 e2 e3 e4 e5 e6 e7 e8 e9 e10 e11 e12 f0 f1 f2 f3 f4 f5 f6 f7 f8 f9 f10 f11 f12
  obtain ⟨g1, e13, -⟩ := f13
  obtain ⟨g, e14, hg⟩ := f14
  rw [e13, e14]
  clear e13 e14
  have hbT : Below w.heap.size w w' := hbw.drew.trans (Below.mono hT hbw.size)
  have HJ := GO (IsBB.lit2 (e := 22) hg (Rd.below HV0.out.1 hbT))
  have m0 : ∀ j, w'.cell? ⟨w.heap.size, j, none⟩ = (w.alloc (.cells #[.int .i64 nad, .int .i64 1, .int .i64 seq, .bool false, .int .i64 code, .bool false, .slice A n c] 84)).cell? ⟨w.heap.size, j, none⟩ := fun j => (TB.cell hT (by have := hb.size; simp at this ⊢; omega)).trans (hb.cell (p := ⟨w.heap.size, j, none⟩) (by simp))
  have HB := GO hbT
  clear hg hbT
  go_wp2_with fail
  refine (a3T _ _ _ [[Gz nad.toNat, Gz (K2 seq code).toNat, Gz n], inf] _ HJ.out (by simp; have := HV0.out.2; omega)).mono ?_
  rintro e w2 ⟨A2, n2, c2, rfl, ho2, hb2⟩
  have hb3 : Below w.heap.size w w2 := (HB.out.alloc HB.out.size _).trans (hb2.mono (by have := HB.out.size; simp; omega))
  have HO := GO (GN ho2 hb3)
  clear ho2 hb2 hb3
  go_wp2_with fail
  refine (a8r k HV0.out.2.2 A2 n2 c2 ([Gz nad.toNat, Gz (K2 seq code).toNat, Gz n] ++ inf) _ (by have := HO.out.1.rd; rw [c9C] at this; exact this) (by simp; have := HV0.out.2.1; omega)).mono ?_
  rintro e w3 ⟨A3, n3, c3, rfl, ho3, hb4⟩
  have HO3 := GO (GN ho3 hb4)
  clear ho3 hb4
  go_wp2_with fail
  go_ret2
  refine ⟨A3, n3, c3, rfl, ?_, HO.out.2.trans (HO3.out.2.mono HO.out.2.size)⟩
  have h1 := HO3.out.1.base (B' := w.heap.size) HO.out.2.size
  rw [HL.out]
  exact h1
set_option maxRecDepth 8000 in
set_option maxHeartbeats 2000000 in
theorem c8W (nad code : Int) (answer : Bool) (A : Option Addr) (n c : Nat) (inf : List UInt8) (k : Int) (hk : k = 0 ∨ k = 1) (w : GG) (h : IsB w A n c inf)
 (hok : d8 nad 2 0 false code answer inf = 0) (hn0 : 0 <= nad) (hn1 : nad <= 254) (hv : (code = 0 ∨ code = 1 ∨ code = 2 ∨ code = 3)) (hlen : n <= 254) :
 Hq Tryz.prog 84 #[.agg #[.int .i64 nad, .int .i64 2, .int .i64 0, .bool false, .int .i64 code, .bool answer, .slice A n c], .int .i64 k] w
  fun e w' => ∃ A' n' c', e = .returned (.tuple #[.slice A' n' c', .int .i64 0]) /\ Own w' w.heap.size 5 A' n' c' ((R4 k nad 2 0 false code answer inf).map u8) /\ Below w.heap.size w w' := by
 have hp := G8 k hk
 have hl := IsB.len h
 have hctl : 0 <= N9 code answer /\ N9 code answer < 256 := by unfold N9; rcases hv with rfl | rfl | rfl | rfl <;> cases answer <;> simp
 have HV : Hid (((code = 0 ∨ code = 1 ∨ code = 2 ∨ code = 3)) /\ u8 (Gz nad.toNat) = .int .u8 (nad % 256) /\ u8 (Gz (N9 code answer).toNat) = .int .u8 ((N9 code answer) % 256) /\ u8 (Gz n) = .int .u8 ((n : Int) % 256)) := ⟨hv, a2B _ hn0 (by omega), a2B _ hctl.1 hctl.2, a8k _ (by omega)⟩
 have HV0 : Hid (IsB w A n c inf /\ inf.length <= 254 /\ (k = 0 ∨ k = 1)) := ⟨h, by omega, hk⟩
 have HL : Hid (R4 k nad 2 0 false code answer inf = [Gz nad.toNat, Gz (N9 code answer).toNat, Gz n] ++ inf ++ R5 k ([Gz nad.toNat, Gz (N9 code answer).toNat, Gz n] ++ inf)) := by
  show _ = _
  unfold R4 c1S
  rw [hl]
  rfl
 have hC : ∀ W, IsB W A n c inf -> Hq Tryz.prog 83 #[.agg #[.int .i64 nad, .int .i64 2, .int .i64 0, .bool false, .int .i64 code, .bool answer, .slice A n c]] W fun e w' => e = .returned (.int .i64 0) /\ Below W.heap.size W w' := fun W hW => by
  have := a0N nad 2 0 false code answer A n c inf W hW
  rwa [hok] at this
 have HC := GO hC
 have hc0 := hctl.1
 have hc1 := hctl.2
 clear hC hok hl hctl hv
 go_enter Tryz.func84, Tryz.ntmps84
 go_wp2_with fail
 refine (H4 k _).mono ?_
 rintro e w1 ⟨rfl, rfl⟩
 rw [K9]
 generalize C8 k = s at *
 have h0 : ((s : Int) == 0) = false := by simp; omega
 go_wp2_with fail
 refine (HC.out _ (h.alloc _)).mono ?_
 rintro e w1 ⟨rfl, hb⟩
 have hbw : Below w.heap.size w w1 := ((Below.refl _ _).alloc (GB _) _).trans (hb.mono (by simp))
 go_wp2_with fail
 refine q7 (T := TB) [St.is (.pointer (some ⟨w.heap.size, 0, none⟩)), St.is (.int .i64 nad), St.is (.int .u8 (nad % 256)), St.is (.pointer (some ⟨w.heap.size, 1, none⟩)), St.is (.int .i64 2), St.is (.iface 125 (.agg #[])), St.is (.agg #[.int .i64 nad, .int .i64 2, .int .i64 0, .bool false, .int .i64 code, .bool answer, .slice A n c]), St.is (.int .i64 (N9 code answer)), St.is (.int .u8 ((N9 code answer) % 256)), St.is (.pointer (some ⟨w.heap.size, 6, none⟩)), St.is (.slice A n c), St.is (.int .i64 (n : Int)), St.is (.int .u8 ((n : Int) % 256)), St.pred (fun v' w' => ∃ g, v' = .slice (some ⟨g, 0, none⟩) 3 3 /\ IsB w' (some ⟨g, 0, none⟩) 3 3 [Gz nad.toNat, Gz (N9 code answer).toNat, Gz n]) (fun _ _ _ h q => q.imp fun _ q => ⟨q.1, Rd.below q.2 h⟩), St.pred (fun v' w' => ∃ g, v' = .slice (some ⟨g, 0, none⟩) 3 3 /\ IsB w' (some ⟨g, 0, none⟩) 3 3 [Gz nad.toNat, Gz (N9 code answer).toNat, Gz n]) (fun _ _ _ h q => q.imp fun _ q => ⟨q.1, Rd.below q.2 h⟩)] (by kernel_rfl) (by kernel_rfl) (TB.refl) (TB.trans) ⟨?s0, ?s1, ?s2, ?s3, ?s4, ?s5, ?s6, ?s7, ?s8, ?s9, ?s10, ?s11, ?s12, ?s13, ?s14, trivial⟩ ?O9
 case s0 =>
  intro a w' K hT hf hw hK
  refine c8 ?_ ?_
  . rfl
  have h2 : a.tmps[2]?.getD undef = .pointer (some ⟨w.heap.size, 0, none⟩) := hf 2 (by kernel_rfl)
  clear hf hw
  go_simp
  exact hK _ _ (TB.refl _) rfl
 case s1 =>
  intro a w' K hT hf hw hK
  refine c8 ?_ ?_
  . rfl
  have h16 : a.tmps[16]?.getD undef = .pointer (some ⟨w.heap.size, 0, none⟩) := hw.1
  clear hf hw
  have m0 : ∀ j, w'.cell? ⟨w.heap.size, j, none⟩ = (w.alloc (.cells #[.int .i64 nad, .int .i64 2, .int .i64 0, .bool false, .int .i64 code, .bool answer, .slice A n c] 84)).cell? ⟨w.heap.size, j, none⟩ := fun j => (hT.cell (by have := hb.size; simp at this ⊢; omega)).trans (hb.cell (p := ⟨w.heap.size, j, none⟩) (by simp))
  go_simp
  exact hK _ _ (TB.refl _) rfl
 case s2 =>
  intro a w' K hT hf hw hK
  refine c8 ?_ ?_
  . rfl
  have h17 : a.tmps[17]?.getD undef = .int .i64 nad := hw.1
  clear hf hw
  go_simp
  exact hK _ _ (TB.refl _) rfl
 case s3 =>
  intro a w' K hT hf hw hK
  refine c8 ?_ ?_
  . rfl
  have h2 : a.tmps[2]?.getD undef = .pointer (some ⟨w.heap.size, 0, none⟩) := hf 2 (by kernel_rfl)
  clear hf hw
  go_simp
  exact hK _ _ (TB.refl _) rfl
 case s4 =>
  intro a w' K hT hf hw hK
  refine c8 ?_ ?_
  . rfl
  have h19 : a.tmps[19]?.getD undef = .pointer (some ⟨w.heap.size, 1, none⟩) := hw.1
  clear hf hw
  have m0 : ∀ j, w'.cell? ⟨w.heap.size, j, none⟩ = (w.alloc (.cells #[.int .i64 nad, .int .i64 2, .int .i64 0, .bool false, .int .i64 code, .bool answer, .slice A n c] 84)).cell? ⟨w.heap.size, j, none⟩ := fun j => (hT.cell (by have := hb.size; simp at this ⊢; omega)).trans (hb.cell (p := ⟨w.heap.size, j, none⟩) (by simp))
  go_simp
  exact hK _ _ (TB.refl _) rfl
 case s5 =>
  intro a w' K hT hf hw hK
  refine c8 ?_ ?_
  . rfl
  have h20 : a.tmps[20]?.getD undef = .int .i64 2 := hw.1
  clear hf hw
  go_simp
  refine (c9Q _).mono ?_
  rintro e w2 ⟨rfl, rfl⟩
  exact hK _ _ (TB.refl _) rfl
 case s6 =>
  intro a w' K hT hf hw hK
  refine c8 ?_ ?_
  . rfl
  have h2 : a.tmps[2]?.getD undef = .pointer (some ⟨w.heap.size, 0, none⟩) := hf 2 (by kernel_rfl)
  clear hf hw
  have m0 : ∀ j, w'.cell? ⟨w.heap.size, j, none⟩ = (w.alloc (.cells #[.int .i64 nad, .int .i64 2, .int .i64 0, .bool false, .int .i64 code, .bool answer, .slice A n c] 84)).cell? ⟨w.heap.size, j, none⟩ := fun j => (hT.cell (by have := hb.size; simp at this ⊢; omega)).trans (hb.cell (p := ⟨w.heap.size, j, none⟩) (by simp))
  go_simp
  exact hK _ _ (TB.refl _) rfl
 case s7 =>
  intro a w' K hT hf hw hK
  refine c8 ?_ ?_
  . rfl
  have h21 : a.tmps[21]?.getD undef = .iface 125 (.agg #[]) := hw.1
  have h22 : a.tmps[22]?.getD undef = .agg #[.int .i64 nad, .int .i64 2, .int .i64 0, .bool false, .int .i64 code, .bool answer, .slice A n c] := hw.2.1
  clear hf hw
  go_simp
  refine (a8A _ _ _ _ _ _ _ _ HV.out.1).mono ?_
  rintro e w2 ⟨rfl, hb2⟩
  exact hK _ _ hb2 rfl
 case s8 =>
  intro a w' K hT hf hw hK
  refine c8 ?_ ?_
  . rfl
  have h23 : a.tmps[23]?.getD undef = .int .i64 (N9 code answer) := hw.1
  clear hf hw
  go_simp
  exact hK _ _ (TB.refl _) rfl
 case s9 =>
  intro a w' K hT hf hw hK
  refine c8 ?_ ?_
  . rfl
  have h2 : a.tmps[2]?.getD undef = .pointer (some ⟨w.heap.size, 0, none⟩) := hf 2 (by kernel_rfl)
  clear hf hw
  go_simp
  exact hK _ _ (TB.refl _) rfl
 case s10 =>
  intro a w' K hT hf hw hK
  refine c8 ?_ ?_
  . rfl
  have h25 : a.tmps[25]?.getD undef = .pointer (some ⟨w.heap.size, 6, none⟩) := hw.1
  clear hf hw
  have m0 : ∀ j, w'.cell? ⟨w.heap.size, j, none⟩ = (w.alloc (.cells #[.int .i64 nad, .int .i64 2, .int .i64 0, .bool false, .int .i64 code, .bool answer, .slice A n c] 84)).cell? ⟨w.heap.size, j, none⟩ := fun j => (hT.cell (by have := hb.size; simp at this ⊢; omega)).trans (hb.cell (p := ⟨w.heap.size, j, none⟩) (by simp))
  go_simp
  exact hK _ _ (TB.refl _) rfl
 case s11 =>
  intro a w' K hT hf hw hK
  refine c8 ?_ ?_
  . rfl
  have h26 : a.tmps[26]?.getD undef = .slice A n c := hw.1
  clear hf hw
  go_simp
  exact hK _ _ (TB.refl _) rfl
 case s12 =>
  intro a w' K hT hf hw hK
  refine c8 ?_ ?_
  . rfl
  have h27 : a.tmps[27]?.getD undef = .int .i64 (n : Int) := hw.1
  clear hf hw
  go_simp
  exact hK _ _ (TB.refl _) rfl
 case s13 =>
  intro a w' K hT hf hw hK
  refine c8 ?_ ?_
  . rfl
  have h18 : a.tmps[18]?.getD undef = .int .u8 (nad % 256) := hw.1
  have h24 : a.tmps[24]?.getD undef = .int .u8 ((N9 code answer) % 256) := hw.2.1
  have h28 : a.tmps[28]?.getD undef = .int .u8 ((n : Int) % 256) := hw.2.2.1
  clear hf hw
  go_simp
  refine hK _ _ (TB.alloc _ _) ⟨w'.heap.size, rfl, ?_⟩
  have ho := a1w (w := w') (B := 0) (e := 5) [u8 (Gz nad.toNat), u8 (Gz (N9 code answer).toNat), u8 (Gz n)] (Hl _) (by simp)
  have hr := ho.rd
  rw [HV.out.2.1, HV.out.2.2.1, HV.out.2.2.2] at hr
  show Rd _ _ _ _ [u8 (Gz nad.toNat), u8 (Gz (N9 code answer).toNat), u8 (Gz n)]
  rw [HV.out.2.1, HV.out.2.2.1, HV.out.2.2.2]
  exact hr
 case s14 =>
  intro a w' K hT hf hw hK
  refine c8 ?_ ?_
  . rfl
  have h29 := hw.1
  clear hf hw
  obtain ⟨g, h29, hg⟩ := h29
  have h29 : a.tmps[29]?.getD undef = .slice (some ⟨g, 0, none⟩) 3 3 := h29
  have HG := GO hg
  go_simp
  refine hK _ _ (TB.refl _) ?_
  exact ⟨g, rfl, hg⟩
 case O9 =>
  rintro vs w' hT ⟨f0, f1, f2, f3, f4, f5, f6, f7, f8, f9, f10, f11, f12, f13, f14, -⟩
  have e0 : vs 0 = .pointer (some ⟨w.heap.size, 0, none⟩) := f0
  have e1 : vs 1 = .int .i64 nad := f1
  have e2 : vs 2 = .int .u8 (nad % 256) := f2
  have e3 : vs 3 = .pointer (some ⟨w.heap.size, 1, none⟩) := f3
  have e4 : vs 4 = .int .i64 2 := f4
  have e5 : vs 5 = .iface 125 (.agg #[]) := f5
  have e6 : vs 6 = .agg #[.int .i64 nad, .int .i64 2, .int .i64 0, .bool false, .int .i64 code, .bool answer, .slice A n c] := f6
  have e7 : vs 7 = .int .i64 (N9 code answer) := f7
  have e8 : vs 8 = .int .u8 ((N9 code answer) % 256) := f8
  have e9 : vs 9 = .pointer (some ⟨w.heap.size, 6, none⟩) := f9
  have e10 : vs 10 = .slice A n c := f10
  have e11 : vs 11 = .int .i64 (n : Int) := f11
  have e12 : vs 12 = .int .u8 ((n : Int) % 256) := f12
  simp only [C6, Jo, e0, e1, e2, e3, e4, e5, e6, e7, e8, e9, e10, e11, e12]
  simp only [Hi, Ie, If]
  clear e0 e1 e2 e3 e4 e5 e6 e7 e8 e9 e10 e11 e12 f0 f1 f2 f3 f4 f5 f6 f7 f8 f9 f10 f11 f12
  obtain ⟨g1, e13, -⟩ := f13
  obtain ⟨g, e14, hg⟩ := f14
  rw [e13, e14]
  clear e13 e14
  have hbT : Below w.heap.size w w' := hbw.drew.trans (Below.mono hT hbw.size)
  have HJ := GO (IsBB.lit2 (e := 22) hg (Rd.below HV0.out.1 hbT))
  have m0 : ∀ j, w'.cell? ⟨w.heap.size, j, none⟩ = (w.alloc (.cells #[.int .i64 nad, .int .i64 2, .int .i64 0, .bool false, .int .i64 code, .bool answer, .slice A n c] 84)).cell? ⟨w.heap.size, j, none⟩ := fun j => (TB.cell hT (by have := hb.size; simp at this ⊢; omega)).trans (hb.cell (p := ⟨w.heap.size, j, none⟩) (by simp))
  have HB := GO hbT
  clear hg hbT
  go_wp2_with fail
  refine (a3T _ _ _ [[Gz nad.toNat, Gz (N9 code answer).toNat, Gz n], inf] _ HJ.out (by simp; have := HV0.out.2; omega)).mono ?_
  rintro e w2 ⟨A2, n2, c2, rfl, ho2, hb2⟩
  have hb3 : Below w.heap.size w w2 := (HB.out.alloc HB.out.size _).trans (hb2.mono (by have := HB.out.size; simp; omega))
  have HO := GO (GN ho2 hb3)
  clear ho2 hb2 hb3
  go_wp2_with fail
  refine (a8r k HV0.out.2.2 A2 n2 c2 ([Gz nad.toNat, Gz (N9 code answer).toNat, Gz n] ++ inf) _ (by have := HO.out.1.rd; rw [c9C] at this; exact this) (by simp; have := HV0.out.2.1; omega)).mono ?_
  rintro e w3 ⟨A3, n3, c3, rfl, ho3, hb4⟩
  have HO3 := GO (GN ho3 hb4)
  clear ho3 hb4
  go_wp2_with fail
  go_ret2
  refine ⟨A3, n3, c3, rfl, ?_, HO.out.2.trans (HO3.out.2.mono HO.out.2.size)⟩
  have h1 := HO3.out.1.base (B' := w.heap.size) HO.out.2.size
  rw [HL.out]
  exact h1
end
section
open Go.RowKit
section
variable {nad kind seq : Int} {more : Bool} {code : Int} {answer : Bool} {inf : List UInt8}
theorem a1a (h : d8 nad kind seq more code answer inf = 0) : (0 <= nad /\ nad <= 254) /\ inf.length <= 254 /\
 ((kind = 0 /\ (seq = 0 ∨ seq = 1) /\ code = 0 /\ answer = false) ∨ (kind = 1 /\ (seq = 0 ∨ seq = 1) /\ (code = 0 ∨ code = 1 ∨ code = 2 ∨ code = 3) /\ more = false /\ answer = false) ∨ (kind = 2 /\ seq = 0 /\ (code = 0 ∨ code = 1 ∨ code = 2 ∨ code = 3) /\ more = false)) := by
 unfold d8 at h
 by_cases h1 : kind < 0 ∨ 2 < kind
 . rw [if_pos h1] at h; exact absurd h (by decide)
 rw [if_neg h1] at h
 by_cases h2 : nad < 0 ∨ 254 < nad
 . rw [if_pos h2] at h; exact absurd h (by decide)
 rw [if_neg h2] at h
 by_cases h3 : kind ≠ 2 /\ (seq < 0 ∨ 1 < seq)
 . rw [if_pos h3] at h; exact absurd h (by decide)
 rw [if_neg h3] at h
 by_cases h4 : kind ≠ 0 /\ (code < 0 ∨ (if kind = 1 then 3 else 4) <= code)
 . rw [if_pos h4] at h; exact absurd h (by decide)
 rw [if_neg h4] at h
 by_cases h5 : (kind = 2 /\ seq ≠ 0) ∨ (kind = 0 /\ code ≠ 0) ∨ (kind ≠ 0 /\ more = true) ∨ (kind ≠ 2 /\ answer = true)
 . rw [if_pos h5] at h; exact absurd h (by decide)
 rw [if_neg h5] at h
 unfold T5 at h
 refine ⟨by omega, ?_, ?_⟩
 . by_cases k0 : kind = 0
   . rw [if_pos k0] at h
     by_cases hl : 254 < inf.length
     . rw [if_pos hl] at h; exact absurd h (by decide)
     . omega
   . rw [if_neg k0] at h
     split at h
     . split at h
       . omega
       . exact absurd h (by decide)
     . split at h
       . omega
       . exact absurd h (by decide)
 . have hm : kind ≠ 0 -> more = false := fun k => by
    cases more
    . rfl
    . exact absurd (.inr (.inr (.inl ⟨k, rfl⟩))) h5
   have ha : kind ≠ 2 -> answer = false := fun k => by
    cases answer
    . rfl
    . exact absurd (.inr (.inr (.inr ⟨k, rfl⟩))) h5
   have hk : kind = 0 ∨ kind = 1 ∨ kind = 2 := by omega
   rcases hk with rfl | rfl | rfl
   . exact .inl ⟨rfl, by omega, by omega, ha (by decide)⟩
   . simp at h4
     exact .inr (.inl ⟨rfl, by omega, by omega, hm (by decide), ha (by decide)⟩)
   . simp at h4
     exact .inr (.inr ⟨rfl, by omega, by omega, hm (by decide)⟩)
theorem d4V (h : d8 nad kind seq more code answer inf = 0) : 0 <= a3O kind seq more code answer /\ a3O kind seq more code answer < 256 := by
 obtain ⟨-, -, ⟨rfl, hs, rfl, rfl⟩ | ⟨rfl, hs, hc, rfl, rfl⟩ | ⟨rfl, rfl, hc, rfl⟩⟩ := a1a h
 . unfold a3O O1; rcases hs with rfl | rfl <;> cases more <;> simp
 . unfold a3O K2; rcases hs with rfl | rfl <;> rcases hc with rfl | rfl | rfl | rfl <;> simp
 . unfold a3O N9; rcases hc with rfl | rfl | rfl | rfl <;> cases answer <;> simp
end
def J9 (k nad kind seq : Int) (more : Bool) (code : Int) (answer : Bool) (inf : List UInt8) : Int := if k = 0 ∨ k = 1 then d8 nad kind seq more code answer inf else 1
def X0 (k nad kind seq : Int) (more : Bool) (code : Int) (answer : Bool) (inf : List UInt8) : List UInt8 := if J9 k nad kind seq more code answer inf = 0 then R4 k nad kind seq more code answer inf else []
def a5l (k nad kind seq : Int) (more : Bool) (code : Int) (answer : Bool) (inf : List UInt8) (w : GG) (e : Ending) (w' : GG) : Prop :=
 ∃ A n c, e = .returned (.tuple #[.slice A n c, .int .i64 (J9 k nad kind seq more code answer inf)]) /\ Own w' w.heap.size 5 A n c ((X0 k nad kind seq more code answer inf).map u8) /\ Below w.heap.size w w'
section
variable (nad kind seq : Int) (more : Bool) (code : Int) (answer : Bool) (A : Option Addr) (n c : Nat) (inf : List UInt8) (k : Int) (w : GG)
theorem a9I {er : Int} (h : J9 k nad kind seq more code answer inf = er) (hne : er ≠ 0) : ∀ e w', (e = .returned (.tuple #[.slice none 0 0, .int .i64 er]) /\ Below w.heap.size w w') -> a5l k nad kind seq more code answer inf w e w' := by
 rintro e w' ⟨rfl, hb⟩
 unfold a5l X0
 rw [h, if_neg hne]
 exact ⟨none, 0, 0, rfl, Own.nil _ _, hb⟩
theorem c2K (h : J9 k nad kind seq more code answer inf = 0) : ∀ e w', (∃ A' n' c', e = .returned (.tuple #[.slice A' n' c', .int .i64 0]) /\ Own w' w.heap.size 5 A' n' c' ((R4 k nad kind seq more code answer inf).map u8) /\ Below w.heap.size w w') -> a5l k nad kind seq more code answer inf w e w' := by
 rintro e w' ⟨A', n', c', rfl, ho, hb⟩
 unfold a5l X0
 rw [h, if_pos rfl]
 exact ⟨A', n', c', rfl, ho, hb⟩
theorem d2r (h : IsB w A n c inf) : Hq Tryz.prog 84 #[.agg #[.int .i64 nad, .int .i64 kind, .int .i64 seq, .bool more, .int .i64 code, .bool answer, .slice A n c], .int .i64 k] w (a5l k nad kind seq more code answer inf w) := by
 have hl := IsB.len h
 by_cases hk : k = 0 ∨ k = 1
 case neg => exact (b8L nad kind seq more code answer _ k hk w).mono (a9I nad kind seq more code answer inf k w (by unfold J9; rw [if_neg hk]) (by decide))
 have hE : J9 k nad kind seq more code answer inf = d8 nad kind seq more code answer inf := by unfold J9; rw [if_pos hk]
 by_cases hc : d8 nad kind seq more code answer inf = 0
 case neg => exact (c3z nad kind seq more code answer A n c inf k hk w h hc).mono (a9I nad kind seq more code answer inf k w hE hc)
 rw [hc] at hE
 refine Calls.mono ?_ (c2K nad kind seq more code answer inf k w hE)
 clear hE
 obtain ⟨hn, hi, ⟨rfl, hs, rfl, rfl⟩ | ⟨rfl, hs, hc', rfl, rfl⟩ | ⟨rfl, rfl, hc', rfl⟩⟩ := a1a hc
 . exact c9x nad seq more A n c inf k hk w h hc hn.1 hn.2 hs (by omega)
 . exact c8y nad seq code A n c inf k hk w h hc hn.1 hn.2 ⟨hs, hc'⟩ (by omega)
 . exact c8W nad code answer A n c inf k hk w h hc hn.1 hn.2 hc' (by omega)
end
end
end Go.Proofs.YtfafflepalgcnaaGreat
