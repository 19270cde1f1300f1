/- Texts. -/
import Derived.Test.YtkoilndpfifapaaGreatDoorZ2
import Derived.Test.YtkoilndpfifapaaGreatDoorRows
import Derived.Lib.Builder
import Derived.Laws.Externs
import Derived.Lib.Hide
import Derived.Deep.AppendLies
import Derived.Deep.LoopGhost
import Derived.Deep.DeepMust
import Derived.Lib.AppendZeros
import Derived.Lib.SliceRun
import Derived.Lib.SplitLaws
import Derived.Lib.CutLaws
import Derived.Lib.IndexBytes
import Derived.Lib.Fields
import Derived.Shelf.LaysM
import Derived.Shelf.Strings.Fields
import Derived.Shelf.Strings.Cut
import Derived.Shelf.Strings.Split
import Derived.Shelf.Strconv.Itoa3
import Derived.Lib.UnsafeStr
import Derived.Shelf.RegionOpenPlain
import Derived.Laws.Rows
import Derived.WalkMore
import Derived.ChangeMaps5

set_option linter.unusedSimpArgs false
set_option linter.unusedVariables false
set_option linter.unusedSectionVars false
open Array renaming getElem?_append_left → GD, getElem?_modify → KW, replicate → HM, getD_eq_getD_getElem? → Ge, mapM_eq_mapM_toList → Ir
open Bool renaming and_eq_true → FT, true_and → Lw, and_true → GC
open ByteArray renaming size → Hx
open Go renaming World → Gc, Calls → IF, TypeId → FP, cell_of_row → GA, Value → FX, Program → Gu, TypeInfo → La, run_underlying → Gp, heap_alloc_new → Hf, FuncId → Gv
open Go.Builtin renaming append_ → GM, lenOf → IT, firstCells → IN, unsafeSliceData_ → IA, unsafeString_ → IW
open Go.Lib renaming hid → Gx, index → IG, index_one → MV, indexByte → MW, cut → Nv, index_ge → Nw, splitK → OM, count_miss → ME, decDigits → MX, TabIs → LY, fields → LF, fieldsGo → JT, splitB → ON, countB → MF, cell_of_heap → IH, run_unsafeSliceData_row → JU, run_unsafeString_none → Je
open Go.Result renaming andThen → Jx, andThen_ok → Gg
open Go.RowKit.Below renaming refl → Ii
open Go.Sem renaming run_bind → Gq, run_pure → Hj
open Go.Value renaming slice → Hr, string → JS
open Go.World renaming shape? → LO, var? → LD, freeze → LQ
open List renaming getD_cons_zero → GN, getElem?_eq_getElem → FQ, getElem?_eq_some_iff → FN, length_take → GU, eq_nil_of_length_eq_zero → HT, map_cons → Hp, mem_map → IR, getElem?_map → Gn, mem_cons → GH, getD → Lh, mem_of_getElem? → Gb, all_eq_true → Hg, getD_cons_succ → Ij, replicate → GX, getElem?_append_left → Gh, getD_eq_getElem?_getD → FV, getElem?_append_right → Gk, getElem?_replicate → Jq, mapM_cons → Jv, length_cons → FO, all_cons → Kq
open Nat renaming le_refl → FW, zero_le → Hq, zero_add → GL, beq → FZ, blt → GS, add_comm → IQ, ble → GY, ble_eq → KN, lt_or_ge → Hi, le_of_ble_eq_true → Gm, eq_of_beq_eq_true → FM
open Option renaming map_eq_some_iff → Gl, bind_some → GV, bind_none → Hm
open Or renaming inl → Jb
namespace Go.Proofs.YtkoilndpfifapaaGreatDoor
noncomputable section
namespace En
open Go Go.RowKit
theorem b1b : (Tryz.prog.info? 75).map (·.size) = some 2 := by kernel_rfl
theorem c3a : liesAt Tryz.prog Tryz.prog.depth 75 (2 / Tryz.prog.cellsOf 75) 0 75 1 = true := by kernel_rfl
set_option maxHeartbeats 1000000 in
set_option maxRecDepth 100000 in
theorem d8H (b : Nat) (w : Gc) (h0 : w.cell? ⟨b, 0, none⟩ = some (.pointer (some ⟨b, 0, none⟩))) :
 IF Tryz.prog 46 #[.pointer (some ⟨b, 0, none⟩)] w fun e w' => e = .returned (.tuple #[]) /\ w' = w := by
 obtain ⟨j, hj, _⟩ := Gl.1 b1b
 go_enter Tryz.func46, Tryz.ntmps46
 go_wp2
 rw [Lib.run_neq_ptr_same w _ Tryz.underlying73 hj]
 go_wp2
 go_end0
 exact ⟨rfl, rfl⟩
set_option maxHeartbeats 1000000 in
set_option maxRecDepth 100000 in
theorem d4d (b : Nat) (w : Gc) (h0 : w.cell? ⟨b, 0, none⟩ = some (.pointer none)) (hsh : w.shape? b = some (75, 2)) (hfz : w.frozen? ⟨b, 0, none⟩ = false) :
 IF Tryz.prog 46 #[.pointer (some ⟨b, 0, none⟩)] w fun e w' => e = .returned (.tuple #[]) /\ w' = w.setCell ⟨b, 0, none⟩ (.pointer (some ⟨b, 0, none⟩)) := by
 obtain ⟨j, hj, hjs⟩ := Gl.1 b1b
 go_enter Tryz.func46, Tryz.ntmps46
 go_wp2
 rw [Lib.run_to_unsafe w ⟨b, 0, none⟩ Tryz.underlying73 Tryz.underlying161 hj (by rw [hjs]; decide) hsh (Nat.zero_lt_succ 1)]
 simp only [Jx]
 rw [Oper.upon_value]
 go_wp2
 rw [run_callFunc_extern Tryz.func95 (by kernel_rfl) (by kernel_rfl) (by kernel_rfl) (e := Extern.AbiNoEscape.same) (by kernel_rfl)]
 rw [Lib.run_noEscape]
 simp only [Jx]
 rw [Oper.upon_value]
 go_wp2
 rw [Lib.run_from_unsafe w ⟨b, 0, none⟩ Tryz.underlying161 Tryz.underlying73 hj hsh c3a]
 simp only [Jx]
 rw [Oper.upon_value]
 go_wp2
 go_end0
 exact ⟨rfl, rfl⟩
theorem b6R {T : FP -> Option Ty} {E : Env} {g : G} {w : Gc} {m m' : Mem} (hb : ∀ k s, m'.box? k s = m.box? k s) (hl : m'.length = m.length) (hh : Here T E g w m) : Here T E g w m' :=
 ⟨fun k s b h => hh.mem k s b (by rw [← hb]; exact h), by rw [hh.dom]; funext k s; unfold F4; rw [hb], hh.sk, by rw [hl]; exact hh.len⟩
def a2a (N : Nat) (l : List UInt8) : Option Unit := some ()
theorem c1Q (N : Nat) (l : List UInt8) (h : a2a N l = some ()) : V8 Tryz.prog T 46 [.ptr 1 0 0] [⟨75, [.bld, .v (.bytes l) (.own (.slot 0) 5)]⟩] [] [⟨75, [.bld, .v (.bytes l) (.own (.slot 0) 5)]⟩] := by
 intro ps ds m dst T9 Q7 hlen har E g w us hh hus
 match ps, hlen with
 | [(k, s)], _ =>
 match ds, har with
 | [y], ⟨h1, _⟩ =>
 generalize hy : D.ptr 1 0 0 = y₁ at h1
 cases h1 <;> cases hy
 rename_i k0 s0 hq
 obtain ⟨k', rfl, _, hk'⟩ := hq
 simp at hk'
 obtain ⟨rfl, rfl⟩ := hk'
 obtain ⟨hl, hr⟩ := hus
 match us, hl with
 | [u], _ =>
 have hu := hr 0 _ rfl
 simp only [GN] at hu
 cases hu with
 | ptr k' s' o a1 a2 =>
 have eJ : (inner E m).d - (k + 1) = E.d - k := by show E.d + 1 - (k + 1) = _; omega
 rw [eJ]
 obtain ⟨B, hB, hB'⟩ := Q7 0 (k, s) rfl
 simp at hB'
 subst hB'
 simp only at hB
 have hbr := hh.mem k s _ hB
 obtain ⟨cs, b1, b2, b3⟩ := hbr.heap
 have c0 := b3 0 .bld rfl
 have R7 : w.cell? ⟨g.J (E.d - k) s, 0, none⟩ = some (cs.getD 0 undef) := by
  rw [GA w _ 0 cs _ _ b1]
  have : 0 < cs.size := by rw [b2]; simp
  simp [this]
 have c8Y : ∀ k2 s2, (I0 [(k, s)] [⟨75, [.bld, .v (.bytes l) (.own (.slot 0) 5)]⟩] m).box? k2 s2 = m.box? k2 s2 := by
  intro k2 s2
  simp only [I0]
  rw [I8]
  split
  . rename_i hc; obtain ⟨rfl, rfl, _⟩ := hc; exact hB.symm
  . rfl
 have e1v : (I0 [(k, s)] [⟨75, [.bld, .v (.bytes l) (.own (.slot 0) 5)]⟩] m).length = m.length := a0l _ _ _
 rcases c0.2.2.1 rfl with hn | hn
 . rw [hn] at R7
   refine (d4d _ w R7 ?_ ?_).mono ?_
   . unfold LO
     rw [b1]
     simp at b2
     simp [b2]
   . simp [World.frozen?, b1]
   . rintro e w' ⟨rfl, hw⟩
     obtain ⟨d1, d2, d3, d4⟩ := d4M hh hB rfl b1 hw
     exact ⟨[], g, E, rfl, ⟨d1, rfl, fun _ _ h => h, fun _ _ _ _ => rfl, fun s e v ho => d2 _ e v ho⟩, b6R c8Y e1v d3, ⟨rfl, fun k y h => by simp at h⟩, d4 _⟩
 . rw [hn] at R7
   refine (d8H _ w R7).mono ?_
   rintro e w' ⟨rfl, rfl⟩
   exact ⟨[], g, E, rfl, ⟨Later.refl _ _, rfl, fun _ _ h => h, fun _ _ _ _ => rfl, fun s e v ho => ho⟩, b6R c8Y e1v hh, ⟨rfl, fun k y h => by simp at h⟩, Tr.refl _ _ _⟩
end En
section
open Go.RowKit
def u8 (b : UInt8) : FX := .int .u8 (b.toNat : Int)
def At (w : Gc) (A : Option Addr) (k : Nat) (v : FX) : Prop := ∃ b off, A = some ⟨b, off, none⟩ /\ w.cell? ⟨b, off + k, none⟩ = some v
theorem At.keep {w w' : Gc} {A : Option Addr} {k : Nat} {v : FX} (h : At w A k v) (hk : ∀ p : Addr, p.block < w.heap.size -> w'.cell? p = w.cell? p) : At w' A k v := by
 obtain ⟨b, off, rfl, hc⟩ := h
 exact ⟨b, off, rfl, (hk _ (World.block_lt_of_cell? w _ hc)).trans hc⟩
theorem At.below {w w' : Gc} {A : Option Addr} {k : Nat} {v : FX} (h : At w A k v) (hb : Below w.heap.size w w') : At w' A k v := h.keep fun _ hp => hb.cell hp
structure Rd (w : Gc) (A : Option Addr) (n c : Nat) (vs : List FX) : Prop where
 len : vs.length = n
 cap : n <= c
 max : c <= maxLen
 at_ : ∀ k v, vs[k]? = some v -> At w A k v
abbrev IsB (w : Gc) (A : Option Addr) (n c : Nat) (xs : List UInt8) : Prop := Rd w A n c (xs.map u8)
section
variable {w w' : Gc} {A : Option Addr} {n c : Nat} {vs : List FX} {xs : List UInt8}
theorem Rd.nil : Rd w none 0 0 [] := ⟨rfl, FW _, Hq _, fun k v h => by simp at h⟩
theorem Rd.empty (A : Option Addr) (hc : c <= maxLen) : Rd w A 0 c [] := ⟨rfl, Hq _, hc, fun k v h => by simp at h⟩
theorem Rd.keep (h : Rd w A n c vs) (hk : ∀ p : Addr, p.block < w.heap.size -> w'.cell? p = w.cell? p) : Rd w' A n c vs :=
 ⟨h.len, h.cap, h.max, fun k v hv => (h.at_ k v hv).keep hk⟩
theorem Rd.below (h : Rd w A n c vs) (hb : Below w.heap.size w w') : Rd w' A n c vs := h.keep fun _ hp => hb.cell hp
theorem Rd.drew (h : Rd w A n c vs) : Rd w.drew A n c vs := ⟨h.len, h.cap, h.max, h.at_⟩
theorem Rd.drewN (h : Rd w A n c vs) (k : Nat) : Rd (w.drewN k) A n c vs := ⟨h.len, h.cap, h.max, h.at_⟩
theorem Rd.alloc (h : Rd w A n c vs) (o : Obj) : Rd (w.alloc o) A n c vs := h.keep fun p hp => World.cell?_alloc_lt w o p hp
theorem IsB.len (h : IsB w A n c xs) : xs.length = n := by simpa using Rd.len h
theorem IsB.at_ (h : IsB w A n c xs) {k : Nat} (hk : k < n) : ∃ x b off, Hid (xs[k]? = some x) /\ A = some ⟨b, off, none⟩ /\ w.cell? ⟨b, off + k, none⟩ = some (.int .u8 (x.toNat : Int)) /\ (x.toNat : Int) < 256 := by
 have hl : k < xs.length := by have := IsB.len h; omega
 obtain ⟨b, off, hA, hc⟩ := Rd.at_ h k (u8 xs[k]) (by simp [hl])
 exact ⟨xs[k], b, off, FQ hl, hA, hc, by have := UInt8.toNat_lt xs[k]; omega⟩
theorem IsB.cells (h : IsB w A n c xs) (hn : 0 < n) : ∃ b off, A = some ⟨b, off, none⟩ /\ ∀ k x, xs[k]? = some x -> w.cell? ⟨b, off + k, none⟩ = some (.int .u8 (x.toNat : Int)) := by
 obtain ⟨x, b, off, _, rfl, _⟩ := IsB.at_ h hn
 refine ⟨b, off, rfl, fun k y hk => ?_⟩
 obtain ⟨b', off', hA, hc⟩ := Rd.at_ h k (u8 y) (by simp [hk])
 injection hA with hA
 injection hA with e1 e2
 subst e1 e2
 exact hc
theorem Rd.cut (h : Rd w A n c vs) {k : Nat} (hk : k <= n) : Rd w (if c = k then A else A.map (·.add k)) (n - k) (c - k) (vs.drop k) := by
 refine ⟨by rw [List.length_drop, h.len], by have := h.cap; omega, by have := h.max; omega, fun j v hv => ?_⟩
 rw [List.getElem?_drop] at hv
 obtain ⟨b, off, rfl, hc⟩ := h.at_ _ v hv
 have hkj : k + j < n := by have := (FN.1 hv).1; rw [h.len] at this; exact this
 have e0K := h.cap
 rw [if_neg (by omega)]
 by_cases h0 : k = 0
 . subst h0; exact ⟨b, off, by simp [Addr.add], by simpa using hc⟩
 . exact ⟨b, off + k, by simp [Addr.add, h0], by rw [Nat.add_assoc]; exact hc⟩
theorem Rd.take (h : Rd w A n c vs) {k : Nat} (hk : k <= n) : Rd w A k c (vs.take k) := by
 refine ⟨by rw [GU, h.len]; omega, by have := h.cap; omega, h.max, fun j v hv => ?_⟩
 by_cases hj : j < k
 . rw [List.getElem?_take_of_lt hj] at hv
   exact h.at_ j v hv
 . rw [List.getElem?_eq_none (by rw [GU]; omega)] at hv; cases hv
theorem IsB.cut (h : IsB w A n c xs) {k : Nat} (hk : k <= n) : IsB w (if c = k then A else A.map (·.add k)) (n - k) (c - k) (xs.drop k) := by
 have := Rd.cut h hk
 rwa [← List.map_drop] at this
theorem IsB.take (h : IsB w A n c xs) {k : Nat} (hk : k <= n) : IsB w A k c (xs.take k) := by
 have := Rd.take h hk
 rwa [← List.map_take] at this
end
structure IsBB (w : Gc) (A : Option Addr) (n c : Nat) (ls : List (List UInt8)) : Prop where
 len : ls.length = n
 cap : n <= c
 max : c <= maxLen
 at_ : ∀ k l, ls[k]? = some l -> ∃ A' n' c', At w A k (.slice A' n' c') /\ IsB w A' n' c' l
theorem IsBB.keep {w w' : Gc} {A : Option Addr} {n c : Nat} {ls : List (List UInt8)} (h : IsBB w A n c ls) (hk : ∀ p : Addr, p.block < w.heap.size -> w'.cell? p = w.cell? p) : IsBB w' A n c ls :=
 ⟨h.len, h.cap, h.max, fun k l hl => let ⟨A', n', c', h1, h2⟩ := h.at_ k l hl; ⟨A', n', c', h1.keep hk, Rd.keep h2 hk⟩⟩
theorem IsBB.below {w w' : Gc} {A : Option Addr} {n c : Nat} {ls : List (List UInt8)} (h : IsBB w A n c ls) (hb : Below w.heap.size w w') : IsBB w' A n c ls := h.keep fun _ hp => hb.cell hp
theorem IsBB.lit2 {w : Gc} {e : FP} {A A' : Option Addr} {n c n' c' : Nat} {xs ys : List UInt8} (h : IsB w A n c xs) (h' : IsB w A' n' c' ys) :
 IsBB (w.alloc (.cells #[.slice A n c, .slice A' n' c'] e)) (some ⟨w.heap.size, 0, none⟩) 2 2 [xs, ys] := by
 refine ⟨rfl, FW _, by unfold maxLen; omega, fun k l hl => ?_⟩
 have hk : k = 0 ∨ k = 1 := by have := (FN.1 hl).1; simp at this; omega
 rcases hk with rfl | rfl
 . simp at hl; subst hl
   exact ⟨A, n, c, ⟨w.heap.size, 0, rfl, by simp⟩, h.alloc _⟩
 . simp at hl; subst hl
   exact ⟨A', n', c', ⟨w.heap.size, 0, rfl, by simp⟩, h'.alloc _⟩
abbrev Own (w : Gc) (B : Nat) (e : FP) (A : Option Addr) (n c : Nat) (vs : List FX) : Prop := w.ownsRow B e 1 (.slice A n c) n vs
section
variable {w w' : Gc} {B n c : Nat} {e : FP} {A : Option Addr} {vs : List FX}
theorem Own.rd (h : Own w B e A n c vs) : Rd w A n c vs := by
 have hl := h.1
 rcases h.2 with ⟨hv, hn⟩ | ⟨g, cap, cur, hv, hb, hg, hnc, hcm, hcs, htk⟩
 . injection hv with h1 h2 h3
   subst h1 h2 h3
   have : vs = [] := HT (by simpa using hl)
   subst this
   exact Rd.nil
 . injection hv with h1 h2 h3
   subst h1 h3
   refine ⟨by simpa using hl, hnc, hcm, fun k v hk => ⟨g, 0, rfl, ?_⟩⟩
   have hlt : k < n * 1 := by have := (FN.1 hk).1; rw [hl] at this; exact this
   rw [GL, World.ownsRow.cellAt h k hlt]
   exact hk
theorem Own.nil (B : Nat) (e : FP) : Own w B e none 0 0 [] := World.ownsRow_nil w B e 1
theorem Own.form {v : FX} (h : w.ownsRow B e 1 v n vs) : ∃ A c, v = .slice A n c /\ Own w B e A n c vs /\ (∀ k, v.ownBlock = some k -> B <= k /\ k < w.heap.size) := by
 have hlt := h.lt
 rcases h.2 with ⟨hv, hn⟩ | ⟨g, cap, cur, hv, _⟩
 . subst hv hn; exact ⟨none, 0, rfl, h, hlt⟩
 . subst hv; exact ⟨_, _, rfl, h, hlt⟩
theorem Own.block (h : Own w B e A n c vs) : ∀ k, (Hr A n c).ownBlock = some k -> B <= k := fun k hk => (h.lt k hk).1
theorem Own.below (h : Own w B e A n c vs) (hb : Below w.heap.size w w') : Own w' B e A n c vs := by
 refine ⟨h.1, ?_⟩
 rcases h.2 with h2 | ⟨g, cap, cur, hv, hg, hh, r⟩
 . exact .inl h2
 . refine .inr ⟨g, cap, cur, hv, hg, ?_, r⟩
   rw [hb.block g (Array.getElem?_eq_some_iff.1 hh).1]; exact hh
theorem Own.base (h : Own w B e A n c vs) {B' : Nat} (hB : B' <= B) : Own w B' e A n c vs := by
 refine ⟨h.1, ?_⟩
 rcases h.2 with h2 | ⟨g, cap, cur, hv, hg, hh, r⟩
 . exact .inl h2
 . exact .inr ⟨g, cap, cur, hv, by omega, hh, r⟩
end
theorem b5L {P : Gu} (w : Gc) (B : Nat) (t ty e : FP) (i : La) (z : FX) (bytes : Nat) (ht : P.underlying t = some (.slice e)) (hi : P.info? e = some i) (hz : i.zero = some z)
 (a4x : i.size = 1) (hby : i.bytes = bytes) (hzs : z.cells.size = 1)
 (A : Option Addr) (n c : Nat) (xs : List FX) (hown : Own w B e A n c xs)
 (A' : Option Addr) (m c' : Nat) (news : List FX) (hr : Rd w A' m c' news) (h1 : ∀ u ∈ news, u.oneCell' = true)
 (b5E : (n + m) * bytes <= 140737488355328) (hb0 : 0 < bytes) (c3T : B <= w.heap.size) :
 ∃ A2 c2 w', (GM #[t, t] ty #[.slice A n c, .slice A' m c']).run P w = .ok (.slice A2 (n + m) c2) w' /\ Own w' B e A2 (n + m) c2 (xs ++ news) /\ w.grownBy w' (Hr A n c).ownBlock /\
  ((Hr A2 (n + m) c2).ownBlock = (Hr A n c).ownBlock ∨ (Hr A2 (n + m) c2).ownBlock = some w.heap.size) := by
 have h63 : n + m <= maxLen := by
  have h2 : (n + m) * 1 <= (n + m) * bytes := Nat.mul_le_mul_left _ hb0
  unfold maxLen; omega
 by_cases hm : m = 0
 . subst hm
   have hn : news = [] := HT hr.len
   subst hn
   refine ⟨A, c, w, ?_, by simpa using hown, World.grownBy.refl w _, .inl rfl⟩
   rcases hown.2 with ⟨hv, hn0⟩ | ⟨g, cap, cur, hv, _, _, hnc, _⟩
   . injection hv with a1 a2 a3
     subst a1 a2 a3
     cases A' <;> simp [GM, Gp ht, sizeOf, typeInfo, hi, IT, IN, loadCells, loadCellsFrom]
   . injection hv with a1 a2 a3
     subst a1 a3
     cases A' <;> simp [GM, Gp ht, sizeOf, typeInfo, hi, IT, IN, hnc, storeCells, loadCells, loadCellsFrom]
 . have c0n : 0 < news.length := by rw [hr.len]; omega
   obtain ⟨b, off, rfl, _⟩ := hr.at_ 0 _ (FQ c0n)
   have e5Q : ∀ j u, news[j]? = some u -> w.cell? ((⟨b, off, none⟩ : Addr).add j) = some u := by
    intro j u hu
    obtain ⟨b', off', he, hc⟩ := hr.at_ j u hu
    injection he with he
    injection he with e1 e2
    subst e1 e2
    by_cases hj : j = 0
    . subst hj; simpa [Addr.add] using hc
    . simpa [Addr.add, hj] using hc
   obtain ⟨v', w', L7, h2, h3, _, h5⟩ := run_append_own_at (P := P) w B t ty e i z 1 bytes ht hi hz a4x hby hzs (by omega) (.slice A n c) n xs hown ⟨b, off, none⟩ m c' news (by rw [hr.len]; omega) e5Q h1 h63 b5E c3T
   obtain ⟨A2, c2, rfl, h6, _⟩ := Own.form h2
   exact ⟨A2, c2, w', L7, h6, h3, h5⟩
theorem c0e {P : Gu} (w : Gc) {o : Oper} {a : Act} {K : Act -> Gc -> Prop} {Q : Exit -> Act -> Gc -> Prop} (s x : Operand) (t : FP)
 (ho : o.op = .call { callee := .builtin .append, args := #[s, x], argTypes := #[t, t] })
 (B : Nat) (e : FP) (i : La) (z : FX) (bytes : Nat) (ht : P.underlying t = some (.slice e)) (hi : P.info? e = some i) (hz : i.zero = some z)
 (a4x : i.size = 1) (hby : i.bytes = bytes) (hzs : z.cells.size = 1)
 (A : Option Addr) (n c : Nat) (xs : List FX) (hs : a.eval s = .slice A n c) (hown : Own w B e A n c xs)
 (A' : Option Addr) (m c' : Nat) (news : List FX) (hx : a.eval x = .slice A' m c') (hr : Rd w A' m c' news) (h1 : ∀ u ∈ news, u.oneCell' = true)
 (b5E : (n + m) * bytes <= 140737488355328) (hb0 : 0 < bytes) (c3T : B <= w.heap.size)
 (h : ∀ A2 c2 w', Own w' B e A2 (n + m) c2 (xs ++ news) -> w.grownBy w' (Hr A n c).ownBlock -> ((Hr A2 (n + m) c2).ownBlock = (Hr A n c).ownBlock ∨ (Hr A2 (n + m) c2).ownBlock = some w.heap.size) -> K (a.put o.dst (.slice A2 (n + m) c2)) w') : o.wp P a w K Q := by
 obtain ⟨A2, c2, w', L7, h2, h3, h4⟩ := b5L (P := P) w B t o.type e i z bytes ht hi hz a4x hby hzs A n c xs hown A' m c' news hr h1 b5E hb0 c3T
 unfold Oper.wp execOp
 simp only [ho, resolve, invoke, builtin, Gq, Hj, Gg, List.map_toArray, Hp, List.map_nil, hs, hx, L7]
 exact h A2 c2 w' h2 h3 h4
theorem a2w {P : Gu} (w : Gc) {ops : Array Oper} {rest : List Oper} {o : Oper} {a : Act} {Q : Exit -> Act -> Gc -> Prop} (hgd : o.guard = none) (s x : Operand) (t : FP)
 (ho : o.op = .call { callee := .builtin .append, args := #[s, x], argTypes := #[t, t] })
 (B : Nat) (e : FP) (i : La) (z : FX) (bytes : Nat) (ht : P.underlying t = some (.slice e)) (hi : P.info? e = some i) (hz : i.zero = some z)
 (a4x : i.size = 1) (hby : i.bytes = bytes) (hzs : z.cells.size = 1)
 (A : Option Addr) (n c : Nat) (xs : List FX) (hs : a.eval s = .slice A n c) (hown : Own w B e A n c xs)
 (A' : Option Addr) (m c' : Nat) (news : List FX) (hx : a.eval x = .slice A' m c') (hr : Rd w A' m c' news) (h1 : ∀ u ∈ news, u.oneCell' = true)
 (b5E : (n + m) * bytes <= 140737488355328) (hb0 : 0 < bytes) (c3T : B <= w.heap.size)
 (h : ∀ A2 c2 w', Own w' B e A2 (n + m) c2 (xs ++ news) -> w.grownBy w' (Hr A n c).ownBlock -> ((Hr A2 (n + m) c2).ownBlock = (Hr A n c).ownBlock ∨ (Hr A2 (n + m) c2).ownBlock = some w.heap.size) -> wpList P ops Q rest (a.put o.dst (.slice A2 (n + m) c2)) w') : wpList P ops Q (o :: rest) a w :=
 wpList_plain hgd fun _ hK => c0e w s x t ho B e i z bytes ht hi hz a4x hby hzs A n c xs hs hown A' m c' news hx hr h1 b5E hb0 c3T fun A2 c2 w' h2 h3 h4 => hK _ _ (h A2 c2 w' h2 h3 h4)
theorem d4E (xs : List UInt8) : ∀ u ∈ xs.map u8, u.oneCell' = true := by
 intro u hu
 obtain ⟨b, _, rfl⟩ := IR.1 hu
 rfl
theorem a2r {P : Gu} {fn : Func} {p : Tmp} {ty : FP} (h : fn.results = #[.cell p ty]) (tmps : Array FX) (w : Gc) (b o : Nat) (cs : List FX) (d : TypeDesc)
 (hp : tmps.getD p undef = .pointer (some ⟨b, o, none⟩)) (hc : w.rangeAt b o cs)
 (hu : P.underlying ty = some d) (hd : d.isRow = true) (hi : (P.info? ty).map (·.size) = some cs.length) :
 (results fn tmps).run P w = .ok (.agg cs.toArray) w := by
 have hp' : tmps[p]?.getD undef = .pointer (some ⟨b, o, none⟩) := by simpa using hp
 simp [results, h, hp', asAddr, run_loadVar_mid w b o ty cs d hc hu hd hi]
end
namespace En
open Go Go.RowKit
theorem b6s : (Tryz.prog.info? 5).map (fun i => (i.zero, i.size, i.bytes)) = some (some (.int .u8 0), 1, 1) := by kernel_rfl
section
variable {T : FP -> Option Ty} {E : Env} {g : G} {w w' : Gc} {A : Option Addr} {n c B : Nat} {xs : List UInt8}
theorem c7z {w : Gc} {B : Nat} {e : FP} (vs : List FX) (hB : B <= w.heap.size) (hm : vs.length <= 1000) : Own (w.alloc (.cells vs.toArray e)) B e (some ⟨w.heap.size, 0, none⟩) vs.length vs.length vs := by
 have h := World.ownsRow_lit (base := B) (e := e) (size := 1) w vs.toArray vs.length hB (by unfold maxLen; omega) (by simp)
 simpa using h
theorem a1l {u : FX} (h : RepV g w (.bytes xs) u) : ∃ A n c, u = .slice A n c /\ IsB w A n c xs := by
 cases h with
 | bytes xs A n c hn hc hm h =>
   refine ⟨A, n, c, rfl, ⟨by simp [hn], hc, hm, fun k v hv => ?_⟩⟩
   rw [Gn, Gl] at hv
   obtain ⟨x, hx, rfl⟩ := hv
   obtain ⟨b, off, e, _, h2⟩ := h k x hx
   exact ⟨b, off, e, h2⟩
theorem b0K (hb : Below w.heap.size w w') {A : Option Addr} {n c : Nat} (ho : Own w' w.heap.size 5 A n c (xs.map u8)) :
 ∃ us' g', Ending.returned (.slice A n c) = .returned (S0 us') /\ (∀ E' : Env, RepDs E' g' w' [] [.v (.bytes xs) .no] us') /\ PureTr g w g' w' := by
 refine ⟨[.slice A n c], { g with Γ := fun b => if b < w.heap.size then g.Γ b else .imm }, rfl, fun E' => ⟨rfl, fun k y hk => ?_⟩, ⟨⟨hb.os, hb.tape, hb.output, hb.size, hb.block⟩, fun b hlt => if_pos hlt, fun b hge => by
  show Perm.still (if b < w.heap.size then g.Γ b else .imm) = true
  rw [if_neg (by omega)]; rfl, rfl, rfl⟩⟩
 rcases k with _ | k
 . simp at hk
   subst hk
   have hr := ho.rd
   refine .v _ _ _ (.bytes xs A n c (by simpa using hr.len) hr.cap hr.max fun k x hx => ?_) trivial
   obtain ⟨b, off, e, h2⟩ := hr.at_ k (u8 x) (by simp [hx])
   refine ⟨b, off, e, ?_, h2⟩
   have hge : w.heap.size <= b := ho.block b (by subst e; rfl)
   unfold s5
   show (match (if b < w.heap.size then g.Γ b else .imm) with | .imm => True | .low n => off + k < n | .own _ n => off + k < n | .box _ _ => False)
   rw [if_neg (by omega)]; trivial
 . simp at hk
end
set_option maxHeartbeats 400000 in
theorem b6z (A : Option Addr) (n c : Nat) (xs : List UInt8) (w : Gc) (h : IsB w A n c xs) (hn : xs.length <= 1000000) :
 IF Tryz.prog 53 #[.slice A n c] w fun e w' => ∃ A' n' c', e = .returned (.slice A' n' c') /\ Own w' w.heap.size 5 A' n' c' (xs.map u8) /\ Below w.heap.size w w' := by
 obtain ⟨i0, hi0, hz0, hz1, hz2⟩ := info_parts b6s
 have hl := IsB.len h
 have H := Gx h
 have HI := Gx (And.intro hi0 (And.intro hz0 (And.intro hz1 hz2)))
 have HL := Gx hl
 clear h hi0 hz0 hz1 hz2 hl
 have qT : ∀ (w : Gc) (a : Option Addr) (n c n' c' : Nat), (binOp .eql 22 (.slice a n c) (.slice none n' c')).run Tryz.prog w = .ok (.bool a.isNone) w := fun w a n c n' c' => Lib.run_eql_slice_nil w _ _ a n c n' c' Tryz.underlying22
 cases A with
 | none =>
   have h0 : xs = [] := by
    have hr := H.out
    rcases xs with _ | ⟨x, xs⟩
    . rfl
    . obtain ⟨b, off, hA, _⟩ := Rd.at_ hr 0 (u8 x) rfl
      cases hA
   subst h0
   go_enter Tryz.func53, Tryz.ntmps53
   go_wp2_with fail
   go_ret
   exact ⟨none, 0, 0, rfl, Own.nil _ _, Ii _ _⟩
 | some a =>
   go_enter Tryz.func53, Tryz.ntmps53
   have hown := c7z (w := w) (B := w.heap.size) (e := 5) [] (FW _) (by simp)
   have HO := Gx hown
   clear hown
   have hn' : n <= 1000000 := by have := HL.out; omega
   go_wp2_with (at_builtin; refine a2w _ rfl (.tmp 5) (.tmp 6) 22 rfl w.heap.size 5 i0 _ 1 Tryz.underlying22 HI.out.1 HI.out.2.1 HI.out.2.2.1 HI.out.2.2.2 rfl (some ⟨w.heap.size, 0, none⟩) 0 0 [] rfl HO.out (some a) n c _ rfl (H.out.alloc _) (d4E _) ?_ (by omega) (by simp) ?_)
   case _ => omega
   intro A3 c3 w3 d7d hg3 _
   have hb3 : Below w.heap.size w w3 := ((Ii _ _).alloc (FW _) _).grown hg3 (by simp) (by simp [Value.ownBlock])
   go_wp2
   go_ret
   exact ⟨A3, 0 + n, c3, by simp, by simpa using d7d, hb3⟩
def a0j (N : Nat) (l : List UInt8) : Option (List UInt8) := br (decide (l.length <= 1000000)) (some l) none
theorem e0i (N : Nat) (x0 r0 : List UInt8) (h : a0j N x0 = some r0) : H8 Tryz.prog T 53 [dY x0] [dY r0] := by
 have hn : x0.length <= 1000000 /\ r0 = x0 := by
  unfold a0j br at h
  by_cases hx : x0.length <= 1000000
  . simp [hx] at h; exact ⟨hx, h.symm⟩
  . simp [hx] at h
 obtain ⟨hn, rfl⟩ := hn
 intro E g w us hsz hus
 obtain ⟨hl, hr⟩ := hus
 match us, hl with
 | [u], _ =>
 have hu := hr 0 _ rfl
 simp only [GN] at hu
 cases hu with
 | v x a v hv ha =>
 obtain ⟨A, n, c, rfl, hB⟩ := a1l hv
 refine (b6z A n c r0 w hB hn).mono ?_
 rintro e w' ⟨A', n', c', rfl, ho, hb⟩
 exact b0K hb ho
end En
namespace En
open Go
def a3Q (g : Nat) : List D -> Bool
 | [] => false
 | d :: r => match d with
   | .clos f _ => cond (FZ f g) true (a3Q g r)
   | .fn _ fs _ _ => (match fs with | [f] => cond (FZ f g) true (a3Q g r) | _ => a3Q g r)
   | _ => a3Q g r
def e3Y (g : Nat) (a b : MEnt) : MEnt := ⟨a.f, fun dst ds m K => cond (a3Q g ds) (a.k dst ds m K) (b.k dst ds m K)⟩
section
variable {P : Gu} {T : FP -> Option Ty}
theorem d9F {g : Nat} {a b : MEnt} (h : a.f = b.f) (ha : MEntOK P T a) (hb : MEntOK P T b) : MEntOK P T (e3Y g a b) := by
 refine ⟨ha.goes, fun R dst ds m K r e => ?_⟩
 change cond (a3Q g ds) (a.k dst ds m K) (b.k dst ds m K) = some r at e
 cases hc : a3Q g ds with
 | true => rw [hc] at e; exact ha.ret R dst ds m K r e
 | false =>
   rw [hc] at e
   obtain ⟨rs, m', h1, h2⟩ := hb.ret R dst ds m K r e
   exact ⟨rs, m', h1, by rw [← h] at h2; exact h2⟩
end
end En
namespace En
open Go
def Y1 (c : UInt8) : List UInt8 -> List UInt8 × List UInt8 × Bool
 | [] => ([], [], false)
 | b :: l => bif b == c then ([], l, true) else match Y1 c l with | (x, y, z) => (b :: x, y, z)
def L4 (c : UInt8) : List UInt8 -> List (List UInt8)
 | [] => [[]]
 | b :: l => bif b == c then [] :: L4 c l else match L4 c l with | [] => [[b]] | x :: r => (b :: x) :: r
def a4R : Nat -> Nat -> List UInt8
 | 0, _ => []
 | f + 1, u => bif GS u 10 then [UInt8.ofNat (48 + u)] else a4R f (u / 10) ++ [UInt8.ofNat (48 + u % 10)]
def a1S (n : Int) : List UInt8 := bif decide (n < 0) then 45 :: a4R 20 n.natAbs else a4R 20 n.toNat
theorem b0Y (b c : UInt8) (l : List UInt8) : IG (b :: l) [c] = if b = c then 0 else if IG l [c] = -1 then -1 else IG l [c] + 1 := by
 rw [MV, MV]
 show (if b == c then (0 : Int) else if MW l c == -1 then -1 else MW l c + 1) = _
 simp only [beq_iff_eq]
theorem c7I (c : UInt8) : ∀ s : List UInt8, Nv s [c] = Y1 c s
 | [] => by simp [Nv, IG, Y1]
 | b :: l => by
   have ih := c7I c l
   have hix := b0Y b c l
   have hge := Nw l [c]
   unfold Nv at ih ⊢
   unfold Y1
   rw [hix]
   by_cases h : b = c
   . subst h; simp
   . have hb : (b == c) = false := by simpa using h
     rw [if_neg h, hb, cond_false, ← ih]
     by_cases hm : IG l [c] = -1
     . simp [hm]
     . have e : (IG l [c] + 1).toNat = (IG l [c]).toNat + 1 := by omega
       rw [if_neg hm, if_pos (by omega), if_pos (by omega), e]
       simp
theorem b6q (c : UInt8) : ∀ s : List UInt8, OM [c] 0 (Lib.count s [c]) s = L4 c s
 | [] => by
   rw [ME (by simp [IG])]; rfl
 | b :: l => by
   have ih := b6q c l
   have hix := b0Y b c l
   have hge := Nw l [c]
   unfold L4
   by_cases h : b = c
   . subst h
     rw [Lib.count_cons_eq, IQ, if_pos rfl] at *
     rw [beq_self_eq_true, cond_true, ← ih]
     show (if IG (b :: l) [b] == -1 then _ else _) = _
     rw [hix]; simp
   . have hb : (b == c) = false := by simpa using h
     rw [if_neg h] at hix
     rw [Lib.count_cons_ne b c l h, hb, cond_false, ← ih]
     by_cases hm : IG l [c] = -1
     . rw [ME hm]; rfl
     . obtain ⟨j, hj⟩ : ∃ j : Nat, IG l [c] = j := ⟨(IG l [c]).toNat, by omega⟩
       rw [if_neg hm, hj] at hix
       rw [Lib.count_hit (by simp) hj, IQ]
       have e : ((j : Int) + 1).toNat = j + 1 := by omega
       have e1 : (((j : Int) + 1) == -1) = false := by simp; omega
       have e2 : ((j : Int) == -1) = false := by simp
       simp only [OM, hix, hj, e1, e2]
       simp [e]
theorem b9J : ∀ (f u : Nat), 0 < f -> u < 10 ^ f -> a4R f u = MX u
 | 0, u, h, _ => by omega
 | f + 1, u, _, h => by
   unfold a4R
   rw [MX]
   by_cases hu : u < 10
   . have : GS u 10 = true := by simpa using hu
     rw [this, cond_true, dif_pos hu]
   . have : GS u 10 = false := by
      cases h0 : GS u 10 with
      | false => rfl
      | true => exact absurd (by simpa using h0) hu
     rw [this, cond_false, dif_neg hu]
     have hf : 0 < f := by
      rcases Nat.eq_zero_or_pos f with rfl | h0
      . simp at h; omega
      . exact h0
     rw [b9J f (u / 10) hf (by rw [Nat.pow_succ] at h; omega)]
theorem d2G (n : Int) (h0 : -9223372036854775808 <= n) (h1 : n <= 9223372036854775807) : Lib.itoa n = a1S n := by
 unfold Lib.itoa a1S
 by_cases h : n < 0
 . rw [if_pos h, decide_eq_true h, cond_true, b9J 20 _ (by decide) (by omega)]
 . rw [if_neg h, decide_eq_false h, cond_false, b9J 20 _ (by decide) (by omega)]
theorem b5A : ∀ (f u : Nat), (a4R f u).length <= f
 | 0, u => FW _
 | f + 1, u => by
   unfold a4R
   have := b5A f (u / 10)
   cases GS u 10 <;> simp <;> omega
theorem b7j (n : Int) : (a1S n).length <= 21 := by
 unfold a1S
 have h1 := b5A 20 n.natAbs
 have h2 := b5A 20 n.toNat
 cases decide (n < 0) <;> simp <;> omega
theorem a8L (c : UInt8) : ∀ s : List UInt8, (Y1 c s).1.length <= s.length /\ (Y1 c s).2.1.length <= s.length
 | [] => ⟨FW _, FW _⟩
 | b :: l => by
   have ih := a8L c l
   unfold Y1
   rcases h : Y1 c l with ⟨x, y, z⟩
   rw [h] at ih
   cases b == c <;> simp at ih ⊢ <;> omega
theorem a7w (c : UInt8) : ∀ s : List UInt8, (L4 c s).length <= s.length + 1 /\ ∀ x ∈ L4 c s, x.length <= s.length
 | [] => by simp [L4]
 | b :: l => by
   obtain ⟨h1, h2⟩ := a7w c l
   unfold L4
   cases b == c with
   | true =>
     refine ⟨by simp; omega, fun x hx => ?_⟩
     simp at hx
     rcases hx with rfl | hx
     . simp
     . have := h2 x hx; simp; omega
   | false =>
     rw [cond_false]
     split
     . simp
     . rename_i x r e
       rw [e] at h1 h2
       refine ⟨by simp at h1 ⊢; omega, fun y hy => ?_⟩
       rcases GH.1 hy with rfl | hy
       . have := h2 x (by simp); simp; omega
       . have := h2 y (by simp [hy]); simp; omega
end En
namespace En
open Go Go.Shelf
def renK : Go.Shelf.Ren := ⟨fun k => match k with | 129 => 199 | 138 => 145 | 143 => 146 | 145 => 20 | 146 => 40 | 157 => 45 | 171 => 48 | 195 => 179 | 197 => 180 | 199 => 94 | 217 => 140 | 218 => 181 | 219 => 89 | 220 => 39 | 221 => 90 | 224 => 142 | 225 => 141 | 229 => 93 | 243 => 96 | 246 => 148 | 260 => 197 | 261 => 147 | 266 => 177 | 267 => 143 | 268 => 144 | 283 => 184 | 284 => 185 | 285 => 186 | 286 => 187 | 311 => 182 | 312 => 183 | 314 => 178 | 317 => 198 | 318 => 200 | 319 => 201 | 320 => 202 | 337 => 205 | 338 => 206 | x => x,
 fun k => match k with | 0 => 0 | 2 => 2 | 3 => 3 | 4 => 4 | 5 => 5 | 9 => 9 | 20 => 20 | 21 => 21 | 31 => 76 | 37 => 22 | 40 => 160 | 46 => 116 | 49 => 245 | 51 => 205 | 53 => 253 | 59 => 68 | 105 => 239 | 119 => 158 | 138 => 278 | 139 => 279 | 141 => 207 | 146 => 236 | 152 => 202 | 154 => 204 | 171 => 252 | 173 => 256 | 193 => 241 | 194 => 242 | 196 => 244 | 198 => 247 | 201 => 250 | 212 => 272 | 213 => 273 | 226 => 269 | 227 => 270 | 232 => 281 | 233 => 282 | x => x,
 fun k => match k with | 0 => 0 | 1 => 2 | 3 => 5 | 4 => 6 | 6 => 3 | 17 => 4 | 18 => 7 | 19 => 8 | x => x⟩
end En
namespace En
open Go Go.RowKit Go.Shelf Go.Sort
theorem d7u : Lays.n157 Tryz.prog renK := by
 constructor <;> first | kernel_rfl | (intro w; kernel_rfl)
theorem d8h : Lays.n145 Tryz.prog renK := by
 constructor <;> first | kernel_rfl | (intro w; kernel_rfl)
theorem e0w : Lays.n146 Tryz.prog renK := by
 constructor <;> first | kernel_rfl | (intro w; kernel_rfl)
theorem d9y : Lays.n171 Tryz.prog renK := by
 constructor <;> first | kernel_rfl | (intro w; kernel_rfl)
theorem d6g : LaysM.n171 Tryz.prog renK := by
 constructor <;> first | exact d9y | kernel_rfl | (intro w; kernel_rfl)
theorem e3u : (Tryz.prog.info? (renK.t 9)).map (fun i => (i.zero, i.size, i.bytes)) = some (some (JS ByteArray.empty), 1, 16) := by kernel_rfl
theorem d5P {g : G} {w : Gc} (h : SzOK T g w) : ∃ m, w.cell? ⟨2, 0, none⟩ = some (.int .i64 m) := by
 obtain ⟨_, x, h2, vs, t, f, rfl, _, h4, _⟩ := h.gl 2 (by simp [a0I])
 obtain ⟨m, hm⟩ := h4 rfl
 exact ⟨m, by simp [World.cell?, h2, hm]⟩
theorem d3j {g : G} {w : Gc} (h : SzOK T g w) : LY Tryz.prog w "strings.asciiSpace" .u8 Lib.asciiSpaceTab := by
 obtain ⟨_, x, h2, vs, t, f, rfl, h3, _, _⟩ := h.gl 0 (by simp [a0I])
 obtain rfl := h3 rfl
 unfold LY LD
 rw [show Program.globalNamed Tryz.prog "strings.asciiSpace" = some 0 by kernel_rfl, GV, h2]
 rfl
theorem e2M {g : G} {w : Gc} (h : SzOK T g w) : LY Tryz.prog w "internal/strconv.uint64pow10" .u64 Lib.pow10Tab := by
 obtain ⟨_, x, h2, vs, t, f, rfl, _, _, h5, _⟩ := h.gl 4 (by simp [a0I])
 obtain rfl := h5 rfl
 unfold LY LD
 rw [show Program.globalNamed Tryz.prog "internal/strconv.uint64pow10" = some 4 by kernel_rfl, GV, h2]
 rfl
theorem c6y (w : Gc) (os : Array Obj) : Below w.heap.size w (grow w os) :=
 ⟨rfl, rfl, rfl, by simp [grow], fun b hb => by simp [grow, GD hb]⟩
def c4R (g : G) (w : Gc) : G := { g with Γ := fun b => if b < w.heap.size then g.Γ b else .imm }
theorem a9d {g : G} {w w' : Gc} (hb : Below w.heap.size w w') : PureTr g w (c4R g w) w' :=
 ⟨⟨hb.os, hb.tape, hb.output, hb.size, hb.block⟩, fun b hlt => if_pos hlt, fun b hge => by
   show Perm.still (if b < w.heap.size then g.Γ b else .imm) = true
   rw [if_neg (by omega)]; rfl, rfl, rfl⟩
theorem c2N {g : G} {w w' : Gc} (hg : g.sz 9 = 1) {ls : List (List UInt8)} {n : Nat} (hn : ls.length = n) (hm : n <= maxLen) (hl : ∀ l ∈ ls, l.length <= 9223372036854775807)
 (hw : w' = w.alloc (.cells (ls.map fun l => JS ⟨l.toArray⟩).toArray 9)) : RepV (c4R g w) w' (.sl 9 (ls.map V.str)) (.slice (some ⟨w.heap.size, 0, none⟩) n n) := by
 have hf : (ls.map V.str).flatMap V.cells = ls.map V.str := by
  clear hn hl hw
  induction ls with
  | nil => rfl
  | cons l ls ih => simp only [Hp, List.flatMap_cons, ih]; rfl
 subst hw
 refine .sl 9 _ _ n n (fun k => (JS ⟨(ls.getD k []).toArray⟩)) (by simpa using hn) (FW _) hm (fun x hx => ?_) (fun k y hk => ?_) (fun k y hk => ?_)
 . obtain ⟨l, _, rfl⟩ := IR.1 hx
   show b4a (g.sz 9) _ = true
   rw [hg]; rfl
 . rw [hf, Gn, Gl] at hk
   obtain ⟨l, hl', rfl⟩ := hk
   refine ⟨w.heap.size, 0, rfl, ?_, ?_⟩
   . unfold s5
     show (match (if w.heap.size < w.heap.size then g.Γ w.heap.size else Perm.imm) with | .imm => True | .low n => 0 + k < n | .own _ n => 0 + k < n | .box _ _ => False)
     rw [if_neg (by omega)]
     trivial
   . rw [GA _ _ _ _ _ _ (Hf w _)]
     simp [Lh, hl']
 . rw [hf, Gn, Gl] at hk
   obtain ⟨l, hl', rfl⟩ := hk
   have : ls.getD k [] = l := by simp [Lh, hl']
   rw [this]
   exact .str l (hl l (Gb hl'))
theorem d3Z {g : G} {w : Gc} (h : SzOK T g w) : g.sz 9 = 1 := by rw [h.eq]; kernel_rfl
def e4R (l : List UInt8) : Bool := l.all fun b => GS b.toNat 128
def a4I (N : Nat) (s : List UInt8) : Option (List V) := br (e4R s && GY s.length 1000000) (some ((LF s).map V.str)) none
theorem a4i : ∀ (l cur : List UInt8), (JT cur l).length <= l.length + 1 /\ ∀ x ∈ JT cur l, x.length <= cur.length + l.length
 | [], cur => by unfold JT; split <;> simp
 | b :: l, cur => by
   obtain ⟨h1, h2⟩ := a4i l []
   obtain ⟨h3, h4⟩ := a4i l (cur ++ [b])
   unfold JT
   split
   . split
     . exact ⟨by simp; omega, fun x hx => by have := h2 x hx; simp at this ⊢; omega⟩
     . refine ⟨by simp; omega, fun x hx => ?_⟩
       rcases GH.1 hx with rfl | hx
       . simp
       . have := h2 x hx; simp at this ⊢; omega
   . exact ⟨by simp; omega, fun x hx => by have := h4 x hx; simp at this ⊢; omega⟩
theorem d4O (N : Nat) (x0 : List UInt8) (r0 : List V) (h : a4I N x0 = some r0) : H8 Tryz.prog T 45 [.v (.str x0) .no] [.v (.sl 9 r0) .no] := by
 unfold a4I br at h
 cases hc : e4R x0 && GY x0.length 1000000 with
 | false => rw [hc] at h; cases h
 | true =>
 rw [hc, cond_true] at h
 injection h with h
 subst h
 simp only [FT, KN] at hc
 obtain ⟨hA, hlen⟩ := hc
 intro E g w us hsz hus
 obtain ⟨hl, hr⟩ := hus
 match us, hl with
 | [u], _ =>
 have hu := hr 0 _ rfl
 simp only [GN] at hu
 cases hu with | v x a u hu ha =>
 cases hu with | str s hs =>
 obtain ⟨hb1, hb2⟩ := a4i x0 []
 refine (Any.strings_Fields (P := Tryz.prog) d7u e3u (by kernel_rfl) ⟨x0.toArray⟩ w (by simp [Hx]; omega) (fun j b hj => ?_) (d3j hsz)).mono ?_
 . simp at hj
   have := Hg.1 hA b (Gb hj)
   simpa using this
 . rintro e w' ⟨rfl, hw⟩
   have hb : Below w.heap.size w w' := by rw [hw]; exact (Ii _ _).alloc (FW _) _
   refine ⟨[.slice (some ⟨w.heap.size, 0, none⟩) (LF x0).length (LF x0).length], c4R g w, rfl, fun E' => ⟨rfl, fun k y hk => ?_⟩, a9d hb⟩
   rcases k with _ | k
   . simp at hk
     subst hk
     refine .v _ _ _ (c2N (d3Z hsz) rfl ?_ ?_ hw) trivial
     . show (JT [] _).length <= _
       unfold maxLen; omega
     . intro l hl; have := hb2 l hl; simp at this; omega
   . simp at hk
def a0G (N : Nat) (s sep : List UInt8) : Option (List UInt8 × List UInt8 × Bool) := match sep with | [c] => br (GY s.length 1000000) (some (Y1 c s)) none | _ => none
theorem e4T (N : Nat) (x0 x1 : List UInt8) (r0 r1 : List UInt8) (r2 : Bool) (h : a0G N x0 x1 = some (r0, r1, r2)) : H8 Tryz.prog T 20 [.v (.str x0) .no, .v (.str x1) .no] [.v (.str r0) .no, .v (.str r1) .no, dB r2] := by
 unfold a0G at h
 match x1, h with
 | [c], h =>
 unfold br at h
 cases hc : GY x0.length 1000000 with
 | false => simp [hc] at h
 | true =>
 simp only [hc, cond_true] at h
 injection h with h
 simp only [KN] at hc
 intro E g w us hsz hus
 obtain ⟨hl, hr⟩ := hus
 match us, hl with
 | [u, v], _ =>
 have hu := hr 0 _ rfl
 have hv := hr 1 _ rfl
 simp only [GN, Ij] at hu hv
 cases hu with | v x a u hu ha =>
 cases hu with | str s hs =>
 cases hv with | v x a u hv ha' =>
 cases hv with | str s hs' =>
 obtain ⟨m, hm⟩ := d5P hsz
 obtain ⟨hb1, hb2⟩ := a8L c x0
 refine (Any.strings_Cut (P := Tryz.prog) d8h ⟨x0.toArray⟩ ⟨#[c]⟩ m w (by simp [Hx]; omega) hm).mono ?_
 rintro e w' ⟨rfl, k, rfl⟩
 have e1 : Nv (⟨x0.toArray⟩ : ByteArray).data.toList (⟨#[c]⟩ : ByteArray).data.toList = Y1 c x0 := c7I c x0
 rw [e1, h]
 rw [h] at hb1 hb2
 have hb : Below w.heap.size w (w.drewN k) := below_drewN (Ii _ _) k
 refine ⟨[.string ⟨r0.toArray⟩, .string ⟨r1.toArray⟩, .bool r2], c4R g w, rfl, fun E' => ⟨rfl, fun j y hk => ?_⟩, a9d hb⟩
 rcases j with _ | _ | _ | j
 . simp at hk; subst hk; exact .v _ _ _ (.str _ (by simp at hb1; omega)) trivial
 . simp at hk; subst hk; exact .v _ _ _ (.str _ (by simp at hb2; omega)) trivial
 . simp at hk; subst hk; exact .v _ _ _ (.bool _) trivial
 . simp at hk
def a6B (N : Nat) (s sep : List UInt8) : Option (List V) := match sep with | [c] => br (GY s.length 1000000) (some ((L4 c s).map V.str)) none | _ => none
theorem d7o (N : Nat) (x0 x1 : List UInt8) (r0 : List V) (h : a6B N x0 x1 = some r0) : H8 Tryz.prog T 40 [.v (.str x0) .no, .v (.str x1) .no] [.v (.sl 9 r0) .no] := by
 unfold a6B at h
 match x1, h with
 | [c], h =>
 unfold br at h
 cases hc : GY x0.length 1000000 with
 | false => simp [hc] at h
 | true =>
 simp only [hc, cond_true] at h
 injection h with h
 subst h
 simp only [KN] at hc
 intro E g w us hsz hus
 obtain ⟨hl, hr⟩ := hus
 match us, hl with
 | [u, v], _ =>
 have hu := hr 0 _ rfl
 have hv := hr 1 _ rfl
 simp only [GN, Ij] at hu hv
 cases hu with | v x a u hu ha =>
 cases hu with | str s hs =>
 cases hv with | v x a u hv ha' =>
 cases hv with | str s hs' =>
 obtain ⟨m, hm⟩ := d5P hsz
 obtain ⟨hb1, hb2⟩ := a7w c x0
 refine (Any.strings_Split (P := Tryz.prog) e0w e3u ⟨x0.toArray⟩ ⟨#[c]⟩ m w (by simp [Hx]; omega) hm (by simp [Hx])).mono ?_
 rintro e w' ⟨rfl, hw⟩
 have e1w : (ON ⟨#[c]⟩ 0 (MF ⟨x0.toArray⟩ ⟨#[c]⟩) ⟨x0.toArray⟩).map (·.data.toList) = L4 c x0 := by
  rw [Lib.splitB_data]
  exact b6q c x0
 have e5R : (ON ⟨#[c]⟩ 0 (MF ⟨x0.toArray⟩ ⟨#[c]⟩) ⟨x0.toArray⟩).map JS = (L4 c x0).map fun l => JS ⟨l.toArray⟩ := by
  rw [← e1w, List.map_map]
  apply List.map_congr_left
  intro b _
  simp
 have e3i : MF ⟨x0.toArray⟩ ⟨#[c]⟩ + 1 = (L4 c x0).length := by
  have h1 := Lib.splitB_all ⟨#[c]⟩ (by simp [Hx]) 0 _ ⟨x0.toArray⟩ rfl
  rw [← h1, ← e1w, List.length_map]
 rw [e5R] at hw
 rw [e3i]
 have hb : Below w.heap.size w w' := by rw [hw]; exact (Ii _ _).alloc (FW _) _
 refine ⟨[.slice (some ⟨w.heap.size, 0, none⟩) (L4 c x0).length (L4 c x0).length], c4R g w, rfl, fun E' => ⟨rfl, fun k y hk => ?_⟩, a9d hb⟩
 rcases k with _ | k
 . simp at hk
   subst hk
   exact .v _ _ _ (c2N (d3Z hsz) rfl (by unfold maxLen; omega) (fun l hl => by have := hb2 l hl; omega) hw) trivial
 . simp at hk
def b3J (N : Nat) (n : Int) : Option (List UInt8) := some (a1S n)
theorem e2p (N : Nat) (x0 : Int) (r0 : List UInt8) (h : b3J N x0 = some r0) : H8 Tryz.prog T 48 [dI x0] [.v (.str r0) .no] := by
 injection h with h
 subst h
 intro E g w us hsz hus
 obtain ⟨hl, hr⟩ := hus
 match us, hl with
 | [u], _ =>
 have hu := hr 0 _ rfl
 simp only [GN] at hu
 cases hu with | v x a u hu ha =>
 cases hu with | int k n hi =>
 have hi' : (-9223372036854775808 : Int) <= x0 /\ x0 <= (9223372036854775807 : Int) := hi
 refine (Any.strconv_Itoa (P := Tryz.prog) d6g x0 hi'.1 hi'.2 w (e2M hsz)).mono ?_
 rintro e w' ⟨rfl, k, os, rfl⟩
 rw [d2G x0 hi'.1 hi'.2]
 have hb : Below w.heap.size w (grow (w.drewN k) os) := (below_drewN (Ii _ _) k).trans (c6y (w.drewN k) os)
 refine ⟨[.string ⟨(a1S x0).toArray⟩], c4R g w, rfl, fun E' => ⟨rfl, fun j y hk => ?_⟩, a9d hb⟩
 rcases j with _ | j
 . simp at hk; subst hk; exact .v _ _ _ (.str _ (by have := b7j x0; omega)) trivial
 . simp at hk
end En
namespace En
open Go Go.RowKit
set_option maxHeartbeats 2000000 in
set_option maxRecDepth 100000 in
theorem d8q (b g cap : Nat) (p : FX) (cur : Array FX) (l : List UInt8) (w : Gc) (hbk : w.heap[b]? = some (.cells #[p, .slice (some ⟨g, 0, none⟩) l.length cap] 75 (0, 0))) (hg : w.heap[g]? = some (.cells cur 5 (0, 0)))
 (h0 : l ≠ []) (hnc : l.length <= cap) (hcm : cap <= maxLen) (hcs : cur.size = cap) (R7 : ∀ (j : Nat) x, l[j]? = some x -> cur[j]? = some (.int .u8 (x.toNat : Int))) :
 IF Tryz.prog 29 #[.pointer (some ⟨b, 0, none⟩)] w fun e w' => e = .returned (.string ⟨l.toArray⟩) /\ w' = w.drew.freeze ⟨g, 0, none⟩ l.length := by
 have hl0 : l.length ≠ 0 := by simpa using h0
 have c1 : w.drew.cell? ⟨b, 1, none⟩ = some (.slice (some ⟨g, 0, none⟩) l.length cap) := by
  have : w.drew.heap[b]? = some (.cells #[p, .slice (some ⟨g, 0, none⟩) l.length cap] 75 (0, 0)) := hbk
  rw [IH this]; rfl
 have hSD : (IA #[22] 119 #[.slice (some ⟨g, 0, none⟩) l.length cap]).run Tryz.prog w.drew = .ok (.pointer (some ⟨g, 0, none⟩)) w.drew :=
  JU _ _ _ _ _ _ (by omega)
 have hUS : (IW #[119, 3] 9 #[.pointer (some ⟨g, 0, none⟩), .int .i64 l.length]).run Tryz.prog w.drew = .ok (.string ⟨l.toArray⟩) (w.drew.freeze ⟨g, 0, none⟩ l.length) := by
  refine Lib.run_unsafeString_row w.drew 119 3 9 5 Tryz.underlying119 (by kernel_rfl) g cur.size (by have hg' : w.drew.heap[g]? = some (.cells cur 5 (0, 0)) := hg; simp [LO, hg']) l h0 (by omega) (by unfold maxLen at hcm; omega) ?_
  intro j x hx
  have hg' : w.drew.heap[g]? = some (.cells cur 5 (0, 0)) := hg
  have := R7 j x hx
  have e : (⟨g, 0, none⟩ : Addr).add j = ⟨g, j, none⟩ := by
   unfold Addr.add
   simp only [GL]
   split
   . rename_i h; subst h; rfl
   . rfl
  rw [e, IH hg']
  exact this
 have mixed : Tryz.prog.follows .mixedOrders = true := by kernel_rfl
 go_enter Tryz.func29, Tryz.ntmps29
 go_wp2
 go_region_o
 all_goals (go_wp2; go_ret; exact ⟨rfl, rfl⟩)
set_option maxHeartbeats 2000000 in
set_option maxRecDepth 100000 in
theorem e2c (b : Nat) (p : FX) (w : Gc) (hbk : w.heap[b]? = some (.cells #[p, .slice none 0 0] 75 (0, 0))) :
 IF Tryz.prog 29 #[.pointer (some ⟨b, 0, none⟩)] w fun e w' => e = .returned (.string ⟨#[]⟩) /\ w' = w.drew := by
 have hUS : ∀ (W : Gc) (q : Option Addr), (IW #[119, 3] 9 #[.pointer q, .int .i64 0]).run Tryz.prog W = .ok (.string .empty) W := fun W q => Je W _ _ _ q
 have c1 : w.drew.cell? ⟨b, 1, none⟩ = some (.slice none 0 0) := by
  have : w.drew.heap[b]? = some (.cells #[p, .slice none 0 0] 75 (0, 0)) := hbk
  rw [IH this]; rfl
 have hSD : (IA #[22] 119 #[.slice none 0 0]).run Tryz.prog w.drew = .ok (.pointer none) w.drew := rfl
 have mixed : Tryz.prog.follows .mixedOrders = true := by kernel_rfl
 go_enter Tryz.func29, Tryz.ntmps29
 go_wp2
 go_region_o
 all_goals (go_wp2; go_ret; exact ⟨rfl, rfl⟩)
set_option maxHeartbeats 2000000 in
set_option maxRecDepth 100000 in
theorem d3I (b g cap : Nat) (p : FX) (w : Gc) (hbk : w.heap[b]? = some (.cells #[p, .slice (some ⟨g, 0, none⟩) 0 cap] 75 (0, 0))) (h0 : cap ≠ 0) :
 IF Tryz.prog 29 #[.pointer (some ⟨b, 0, none⟩)] w fun e w' => e = .returned (.string ⟨#[]⟩) /\ w' = w.drew := by
 have hUS : ∀ (W : Gc) (q : Option Addr), (IW #[119, 3] 9 #[.pointer q, .int .i64 0]).run Tryz.prog W = .ok (.string .empty) W := fun W q => Je W _ _ _ q
 have c1 : w.drew.cell? ⟨b, 1, none⟩ = some (.slice (some ⟨g, 0, none⟩) 0 cap) := by
  have : w.drew.heap[b]? = some (.cells #[p, .slice (some ⟨g, 0, none⟩) 0 cap] 75 (0, 0)) := hbk
  rw [IH this]; rfl
 have hSD : (IA #[22] 119 #[.slice (some ⟨g, 0, none⟩) 0 cap]).run Tryz.prog w.drew = .ok (.pointer (some ⟨g, 0, none⟩)) w.drew :=
  JU _ _ _ _ _ _ h0
 have mixed : Tryz.prog.follows .mixedOrders = true := by kernel_rfl
 go_enter Tryz.func29, Tryz.ntmps29
 go_wp2
 go_region_o
 all_goals (go_wp2; go_ret; exact ⟨rfl, rfl⟩)
set_option maxHeartbeats 2000000 in
set_option maxRecDepth 100000 in
theorem d0C (b g : Nat) (p : FX) (cur : Array FX) (w : Gc) (hbk : w.heap[b]? = some (.cells #[p, .slice (some ⟨g, 0, none⟩) 0 0] 75 (0, 0))) (hg : w.heap[g]? = some (.cells cur 5 (0, 0))) :
 IF Tryz.prog 29 #[.pointer (some ⟨b, 0, none⟩)] w fun e w' => e = .returned (.string ⟨#[]⟩) /\ (∃ o, w' = w.drew.alloc o ∨ w' = (w.alloc o).drew) := by
 have hUS : ∀ (W : Gc) (q : Option Addr), (IW #[119, 3] 9 #[.pointer q, .int .i64 0]).run Tryz.prog W = .ok (.string .empty) W := fun W q => Je W _ _ _ q
 have hlt : b < w.heap.size := by
  rcases Hi b w.heap.size with h' | h'
  . exact h'
  . simp [Array.getElem?_eq_none h'] at hbk
 have c1 : w.drew.cell? ⟨b, 1, none⟩ = some (.slice (some ⟨g, 0, none⟩) 0 0) := by
  have : w.drew.heap[b]? = some (.cells #[p, .slice (some ⟨g, 0, none⟩) 0 0] 75 (0, 0)) := hbk
  rw [IH this]; rfl
 have hSD : (IA #[22] 119 #[.slice (some ⟨g, 0, none⟩) 0 0]).run Tryz.prog w.drew = .ok (.pointer (some ⟨w.drew.heap.size, 0, none⟩)) (w.drew.alloc (.view ⟨g, 0, none⟩ 5)) :=
  Lib.run_unsafeSliceData_zero w.drew _ _ 5 Tryz.underlying119 ⟨g, 0, none⟩ 0 (5, cur.size) (by have hg' : w.drew.heap[g]? = some (.cells cur 5 (0, 0)) := hg; simp [LO, hg'])
 have c2 : (w.drew.alloc (.view ⟨g, 0, none⟩ 5)).cell? ⟨b, 1, none⟩ = some (.slice (some ⟨g, 0, none⟩) 0 0) := by
  have : (w.drew.alloc (.view ⟨g, 0, none⟩ 5)).heap[b]? = _ := (Lib.alloc_old w.drew _ b hlt).trans hbk
  rw [IH this]; rfl
 have c3 : (w.alloc (.view ⟨g, 0, none⟩ 5)).drew.cell? ⟨b, 1, none⟩ = some (.slice (some ⟨g, 0, none⟩) 0 0) := c2
 have c0 : w.cell? ⟨b, 1, none⟩ = some (.slice (some ⟨g, 0, none⟩) 0 0) := c1
 have mixed : Tryz.prog.follows .mixedOrders = true := by kernel_rfl
 go_enter Tryz.func29, Tryz.ntmps29
 go_wp2
 go_region_o
 all_goals (go_wp2; go_ret; exact ⟨rfl, _, .inl rfl⟩)
theorem c3y {w : Gc} {x n : Nat} {cur : Array FX} {t : FP} (hx : w.heap[x]? = some (.cells cur t (0, 0))) : Calm x w (w.drew.freeze ⟨x, 0, none⟩ n) := by
 by_cases hn : n = 0
 . unfold LQ
   rw [if_pos hn]
   exact ⟨rfl, rfl, rfl, rfl, fun _ _ => rfl, fun _ => rfl⟩
 . have h0 : (w.drew.freeze ⟨x, 0, none⟩ n).heap = w.heap.modify x fun | .cells c elem (lo, hi) => .cells c elem (if lo == hi then (0, 0 + n) else (min lo 0, max hi (0 + n))) | o => o := by
    unfold LQ
    rw [if_neg hn]
    rfl
   have h1 : (w.drew.freeze ⟨x, 0, none⟩ n).heap[x]? = some (.cells cur t (0, 0 + n)) := by
    rw [h0, KW, if_pos rfl, hx]
    rfl
   have h2 : (w.drew.freeze ⟨x, 0, none⟩ n).os = w.os /\ (w.drew.freeze ⟨x, 0, none⟩ n).tape = w.tape /\ (w.drew.freeze ⟨x, 0, none⟩ n).output = w.output := by
    unfold LQ
    rw [if_neg hn]
    exact ⟨rfl, rfl, rfl⟩
   refine ⟨h2.1, h2.2.1, h2.2.2, by rw [h0]; exact Array.size_modify, fun b hb => ?_, fun o => ?_⟩
   . rw [h0, KW, if_neg (Ne.symm hb)]
   . rw [GA w x o cur _ _ hx, GA _ x o cur _ _ h1]
def a9v (N : Nat) (l : List UInt8) : Option (List UInt8) := some l
theorem d9U : U5 T 5 = 1 := by kernel_rfl
theorem d1b (N : Nat) (l r : List UInt8) (h : a9v N l = some r) : V8 Tryz.prog T 29 [.ptr 1 0 0] [⟨75, [.bld, .v (.bytes l) (.own (.slot 0) 5)]⟩] [.v (.str r) .no] [⟨75, [.bld, dY l]⟩] := by
 injection h with h
 subst h
 intro ps ds m dst T9 Q7 hlen har E g w us hh hus
 match ps, hlen with
 | [(k, s)], _ =>
 match ds, har with
 | [y], ⟨h1, _⟩ =>
 generalize hy : D.ptr 1 0 0 = y₁ at h1
 cases h1 <;> cases hy
 rename_i k0 s0 hq
 obtain ⟨k', rfl, _, hk'⟩ := hq
 simp at hk'
 obtain ⟨rfl, rfl⟩ := hk'
 obtain ⟨hl, hr⟩ := hus
 match us, hl with
 | [u], _ =>
 have hu := hr 0 _ rfl
 simp only [GN] at hu
 cases hu with
 | ptr k' s' o a1 a2 =>
 have eJ : (inner E m).d - (k + 1) = E.d - k := by show E.d + 1 - (k + 1) = _; omega
 rw [eJ]
 obtain ⟨B, hB, hB'⟩ := Q7 0 (k, s) rfl
 simp at hB'
 subst hB'
 simp only at hB
 have hbr := hh.mem k s _ hB
 obtain ⟨cs, b1, b2, b3⟩ := hbr.heap
 have c1 := b3 1 _ rfl
 have hcs : ∃ p v, cs = #[p, v] := by
  obtain ⟨l0⟩ := cs
  match l0, b2 with
  | [p, v], _ => exact ⟨p, v, rfl⟩
 obtain ⟨p, v, rfl⟩ := hcs
 have e0J : RepD E g w [] (.v (.bytes l) (.own (.cell k s 1) 5)) v := c1.2.2.2
 have hw := d0i hh hB
 have em : I0 [(k, s)] [⟨75, [.bld, dY l]⟩] m = m.setBox k s ⟨75, [D.bld, .v (.bytes l) (.own (.slot 0) 5)].map a4Q⟩ := rfl
 rw [em]
 have quiet : ∀ w', Grows w w' -> ∃ g', a0E E g w E g' w' /\ Here T E g' w' (m.setBox k s ⟨75, [D.bld, .v (.bytes l) (.own (.slot 0) 5)].map a4Q⟩) /\ Tr E.d g w g' w' := by
  intro w' hg
  refine ⟨g.at_ w.heap.size .imm, ?_, a9C hg (FW _) _ hw, b7T hg (FW _) _ _⟩
  have hk := Y3 (E := E) (g := g) (dead := []) hg (FW _) .imm
  exact ⟨hk.later, hk.d, hk.dom, hk.J, fun s e v ho => hk.own (.slot s) e v trivial (by simp) ho⟩
 have fin : ∀ w', (∃ g', a0E E g w E g' w' /\ Here T E g' w' (m.setBox k s ⟨75, [D.bld, .v (.bytes l) (.own (.slot 0) 5)].map a4Q⟩) /\ Tr E.d g w g' w') -> l.length <= 9223372036854775807 ->
  ∃ us' g' E', Ending.returned (.string ⟨l.toArray⟩) = .returned (S0 us') /\ a0E E g w E' g' w' /\ Here T E' g' w' (m.setBox k s ⟨75, [D.bld, .v (.bytes l) (.own (.slot 0) 5)].map a4Q⟩) /\ RepDs E' g' w' [] [.v (.str l) .no] us' /\ Tr E.d g w g' w' := by
  rintro w' ⟨g', d1, d2, d3⟩ h63
  refine ⟨[.string ⟨l.toArray⟩], g', E, rfl, d1, d2, ⟨rfl, fun i y hy => ?_⟩, d3⟩
  rcases i with _ | i
  . simp at hy; subst hy; exact .v _ _ _ (.str l h63) trivial
  . simp at hy
 cases e0J with
 | v x a v hv ha =>
 cases hv with
 | bytes xs A n c hn hc hm R7 =>
 have h63 : l.length <= 9223372036854775807 := by rw [hn]; exact Nat.le_trans hc hm
 rcases ha with ha | ⟨_, ha⟩
 . cases ha
 rcases ha with h0 | ⟨x, n', cap, cur, h1, h2, h3, h4, h5, h6⟩
 . injection h0 with e1 e2 e3
   subst e1 e2 e3
   have hl0 : l = [] := List.length_eq_zero_iff.1 hn
   subst hl0
   refine (e2c _ p w b1).mono ?_
   rintro e w' ⟨rfl, rfl⟩
   exact fin _ (quiet _ (Grows.drew w)) h63
 . injection h1 with e1 e2 e3
   subst e1 e2 e3
   rw [hh.sz, d9U, Nat.mul_one] at h2 h6
   by_cases hn0 : l = []
   . subst hn0
     simp at hn
     subst hn
     by_cases e0K : c = 0
     . subst e0K
       refine (d0C _ x p cur w b1 h3).mono ?_
       rintro e w' ⟨rfl, o, hw' | hw'⟩
       . subst hw'; exact fin _ (quiet _ ((Grows.drew w).trans (Grows.alloc _ o))) h63
       . subst hw'; exact fin _ (quiet _ ((Grows.alloc w o).trans (Grows.drew _))) h63
     . refine (d3I _ x c p w b1 e0K).mono ?_
       rintro e w' ⟨rfl, rfl⟩
       exact fin _ (quiet _ (Grows.drew w)) h63
   . subst hn
     refine (d8q _ x c p cur l w b1 h3 hn0 hc hm h6 fun j y hy => ?_).mono ?_
     . obtain ⟨b', off, e1, _, e2⟩ := R7 j y hy
       injection e1 with e1
       injection e1 with e1 e3 _
       subst e1 e3
       rw [GL, GA w x j cur _ _ h3] at e2
       exact e2
     . rintro e w' ⟨rfl, rfl⟩
       have hno : ∀ b, (m.setBox k s ⟨75, [D.bld, .v (.bytes l) (.own (.slot 0) 5)].map a4Q⟩).box? k s = some b -> ∀ (i : Nat) c, b.cells[i]? = some c -> c.noOwn = true := by
        intro b hb i c hc
        rw [I8, if_pos ⟨rfl, rfl, a2h _ _ _ _ hB⟩] at hb
        injection hb with hb
        subst hb
        rcases i with _ | _ | i
        . simp [a4Q] at hc; subst hc; rfl
        . simp [a4Q] at hc; subst hc; rfl
        . simp at hc
       obtain ⟨d1, d2, d3⟩ := c2d (c3y h3) h2 hbr.le hw hno
       exact fin _ ⟨_, d2, d1, d3 _⟩ h63
end En
namespace En
open Go Go.RowKit
theorem e3Z (w : Gc) : (Instr.makeSlice 22 (.int .i64 2) (.int .i64 2)).run Tryz.prog w = .ok (.slice (some ⟨w.heap.size, 0, none⟩) 2 2) (w.alloc (.cells #[.int .u8 0, .int .u8 0] 5)) := by
 obtain ⟨i0, hi0, hz0, hz1, hz2⟩ := info_parts b6s
 have := run_makeSlice (P := Tryz.prog) (w := w) 22 5 i0 (.int .u8 0) Tryz.underlying22 hi0 hz0 .i64 .i64 2 2 (by decide) (by decide) (by rw [hz1]; decide) (by rw [hz2]; decide) (by decide)
 rw [hz1] at this
 rw [this]
 have e : madeCells (Value.int IntKind.u8 0).cells (Int.toNat 2 * 1) = #[.int .u8 0, .int .u8 0] := by
  apply Array.ext
  . rw [size_madeCells]; rfl
  . intro i h1 h2
    simp at h2
    rcases (by omega : i = 0 ∨ i = 1) with rfl | rfl <;> simp [madeCells, Value.cells]
 rw [e]; rfl
attribute [local go_sem] e3Z
end En

namespace En
open Go
def e3d {R a1 a2 a3 a4 a5 a6 : Type} (o : Option (a1 × a2 × a3 × a4 × a5 × a6)) (K : a1 -> a2 -> a3 -> a4 -> a5 -> a6 -> Option R) : Option R := match o with | some (x1, x2, x3, x4, x5, x6) => K x1 x2 x3 x4 x5 x6 | none => none
theorem d9E {R a1 a2 a3 a4 a5 a6 : Type} (x1 : a1) (x2 : a2) (x3 : a3) (x4 : a4) (x5 : a5) (x6 : a6) (K : a1 -> a2 -> a3 -> a4 -> a5 -> a6 -> Option R) : e3d (some (x1, x2, x3, x4, x5, x6)) K = K x1 x2 x3 x4 x5 x6 := id rfl
def e6l {R a1 a2 a3 a4 a5 a6 a7 : Type} (o : Option (a1 × a2 × a3 × a4 × a5 × a6 × a7)) (K : a1 -> a2 -> a3 -> a4 -> a5 -> a6 -> a7 -> Option R) : Option R := match o with | some (x1, x2, x3, x4, x5, x6, x7) => K x1 x2 x3 x4 x5 x6 x7 | none => none
def e2a {R a1 a2 a3 a4 a5 a6 a7 a8 : Type} (o : Option (a1 × a2 × a3 × a4 × a5 × a6 × a7 × a8)) (K : a1 -> a2 -> a3 -> a4 -> a5 -> a6 -> a7 -> a8 -> Option R) : Option R := match o with | some (x1, x2, x3, x4, x5, x6, x7, x8) => K x1 x2 x3 x4 x5 x6 x7 x8 | none => none
theorem d9B {R a1 a2 a3 a4 a5 a6 a7 a8 : Type} (x1 : a1) (x2 : a2) (x3 : a3) (x4 : a4) (x5 : a5) (x6 : a6) (x7 : a7) (x8 : a8) (K : a1 -> a2 -> a3 -> a4 -> a5 -> a6 -> a7 -> a8 -> Option R) : e2a (some (x1, x2, x3, x4, x5, x6, x7, x8)) K = K x1 x2 x3 x4 x5 x6 x7 x8 := id rfl
def e6j {R a1 a2 a3 a4 a5 a6 a7 a8 a9 : Type} (o : Option (a1 × a2 × a3 × a4 × a5 × a6 × a7 × a8 × a9)) (K : a1 -> a2 -> a3 -> a4 -> a5 -> a6 -> a7 -> a8 -> a9 -> Option R) : Option R := match o with | some (x1, x2, x3, x4, x5, x6, x7, x8, x9) => K x1 x2 x3 x4 x5 x6 x7 x8 x9 | none => none
def e3P {R a1 a2 a3 a4 a5 a6 a7 a8 a9 a10 a11 : Type} (o : Option (a1 × a2 × a3 × a4 × a5 × a6 × a7 × a8 × a9 × a10 × a11)) (K : a1 -> a2 -> a3 -> a4 -> a5 -> a6 -> a7 -> a8 -> a9 -> a10 -> a11 -> Option R) : Option R := match o with | some (x1, x2, x3, x4, x5, x6, x7, x8, x9, x10, x11) => K x1 x2 x3 x4 x5 x6 x7 x8 x9 x10 x11 | none => none
def d6f {R a1 a2 a3 a4 a5 a6 a7 a8 a9 a10 a11 a12 : Type} (o : Option (a1 × a2 × a3 × a4 × a5 × a6 × a7 × a8 × a9 × a10 × a11 × a12)) (K : a1 -> a2 -> a3 -> a4 -> a5 -> a6 -> a7 -> a8 -> a9 -> a10 -> a11 -> a12 -> Option R) : Option R := match o with | some (x1, x2, x3, x4, x5, x6, x7, x8, x9, x10, x11, x12) => K x1 x2 x3 x4 x5 x6 x7 x8 x9 x10 x11 x12 | none => none
theorem d5Y {R a1 a2 a3 a4 a5 a6 a7 a8 a9 a10 a11 a12 : Type} (x1 : a1) (x2 : a2) (x3 : a3) (x4 : a4) (x5 : a5) (x6 : a6) (x7 : a7) (x8 : a8) (x9 : a9) (x10 : a10) (x11 : a11) (x12 : a12) (K : a1 -> a2 -> a3 -> a4 -> a5 -> a6 -> a7 -> a8 -> a9 -> a10 -> a11 -> a12 -> Option R) : d6f (some (x1, x2, x3, x4, x5, x6, x7, x8, x9, x10, x11, x12)) K = K x1 x2 x3 x4 x5 x6 x7 x8 x9 x10 x11 x12 := id rfl
def c7g {R a1 a2 a3 a4 a5 a6 a7 a8 a9 a10 a11 a12 a13 a14 a15 a16 : Type} (o : Option (a1 × a2 × a3 × a4 × a5 × a6 × a7 × a8 × a9 × a10 × a11 × a12 × a13 × a14 × a15 × a16)) (K : a1 -> a2 -> a3 -> a4 -> a5 -> a6 -> a7 -> a8 -> a9 -> a10 -> a11 -> a12 -> a13 -> a14 -> a15 -> a16 -> Option R) : Option R := match o with | some (x1, x2, x3, x4, x5, x6, x7, x8, x9, x10, x11, x12, x13, x14, x15, x16) => K x1 x2 x3 x4 x5 x6 x7 x8 x9 x10 x11 x12 x13 x14 x15 x16 | none => none
theorem d1Y {R a1 a2 a3 a4 a5 a6 a7 a8 a9 a10 a11 a12 a13 a14 a15 a16 : Type} (x1 : a1) (x2 : a2) (x3 : a3) (x4 : a4) (x5 : a5) (x6 : a6) (x7 : a7) (x8 : a8) (x9 : a9) (x10 : a10) (x11 : a11) (x12 : a12) (x13 : a13) (x14 : a14) (x15 : a15) (x16 : a16) (K : a1 -> a2 -> a3 -> a4 -> a5 -> a6 -> a7 -> a8 -> a9 -> a10 -> a11 -> a12 -> a13 -> a14 -> a15 -> a16 -> Option R) : c7g (some (x1, x2, x3, x4, x5, x6, x7, x8, x9, x10, x11, x12, x13, x14, x15, x16)) K = K x1 x2 x3 x4 x5 x6 x7 x8 x9 x10 x11 x12 x13 x14 x15 x16 := id rfl
end En
namespace En
open Go
section
variable {R : Type} {P : Gu} {T : FP -> Option Ty} {cx : Cx}
def d2h (ps : List (Nat × Nat)) (Bs Bs₁ : List Bx) : Prop := ∀ (j : Nat) (p : Nat × Nat) B, ps[j]? = some p -> Bs[j]? = some B -> ∃ B₁, Bs₁[j]? = some B₁ /\ BRen (fun k s i => ps[i]? = some (p.1 + k, s)) B B₁
def c0O (P : Gu) (T : FP -> Option Ty) (f : Gv) (ds₁ : List D) (Bs₁ : List Bx) (rs : List D) (Bs₂ : List Bx) : Prop :=
 ∀ (ps : List (Nat × Nat)) (ds : List D) (m : Mem) (dst : Nat) (Bs Bs' : List Bx), (∀ (i j : Nat) (p : Nat × Nat), ps[i]? = some p -> ps[j]? = some p -> i = j) ->
  (∀ (j : Nat) (p : Nat × Nat), ps[j]? = some p -> ∃ B, m.box? p.1 p.2 = some B /\ Bs[j]? = some B) -> Bs.length = ps.length -> Bs'.length = ps.length -> Bs₁.length = ps.length -> ARens ps ds ds₁ -> d2h ps Bs Bs₁ -> d2h ps Bs' Bs₂ -> a0B P T f dst ds m rs (I0 ps Bs' m)
theorem S3 (hm : P.follows .mixedOrders = true) (hcx : CxOK P cx) {f : Gv} {fn : Func} (hf : P.funcs[f]? = some fn) (hb : fn.body = some (s6 fn)) (hro : (drawnOf (s6 fn)).all (a3R cx) = true) (hl : B8 cx fn.ntmps (s6 fn))
 {ds₁ : List D} (Q8 : GY ds₁.length fn.ntmps = true) {Bs₁ Bs₂ : List Bx} {α : Type} {rf : List D -> Mem -> Option α} {r : α} (h : M4 cx fn ds₁ [J4 0 Bs₁] rf = some r)
 {rs : List D} (hrs : ∀ rs' m', rf rs' m' = some r -> fars rs' = true /\ bares rs' = rs /\ ∃ own, m' = [own, J4 0 Bs₂]) : c0O P cx.T f ds₁ Bs₁ rs Bs₂ := by
 intro ps ds m dst Bs Bs' T9 Q7 hlB hlB' hlB₁ har hbr hbr'
 obtain ⟨a1, a2⟩ := har.get
 refine b2y hcx hf hb (R0 hm hcx hro) hl (Gm Q8) T9 (Bs₁ := Bs₁) (fun j p hj => ?_) hlB₁ a1 a2 h (by rw [hlB']) (fun rs' m' hr => ?_) dst
 . obtain ⟨B, h1, h2⟩ := Q7 j p hj
   obtain ⟨B₁, h3, h4⟩ := hbr j p B hj h2
   exact ⟨B, B₁, h1, h3, h4⟩
 . obtain ⟨b1, b2, own, b3⟩ := hrs rs' m' hr
   exact ⟨b1, b2, own, Bs₂, b3, fun j p B' hj hB => (hbr' j p B' hj hB).imp fun _ h => ⟨h.1, h.2.x⟩⟩
theorem F1 {Q : Nat -> Nat -> Nat -> Prop} {B : Bx} (h : B.cells.all D.calm = true) : BRen Q B B :=
 ⟨rfl, rfl, fun i c c₁ h1 h2 => by
  rw [h1] at h2
  injection h2 with h2
  subst h2
  exact c0v (Hg.1 h c (Gb h1))⟩
theorem J6 {ps : List (Nat × Nat)} {k0 k s : Nat} {t : FP} (h : ps[1]? = some (k0 + k, s)) : BRen (fun a b i => ps[i]? = some (k0 + a, b)) ⟨t, [.ptr k s 0]⟩ ⟨t, [.ptr 0 1 0]⟩ := by
 refine ⟨rfl, rfl, fun i c c₁ hc hc₁ => ?_⟩
 rcases i with _ | i
 . simp at hc hc₁
   subst hc hc₁
   exact .ren (by simp) (by simp) rfl rfl rfl rfl (by simp) (.ptr 0 ⟨rfl, h⟩)
 . simp at hc
theorem F0 {ps : List (Nat × Nat)} {p0 p1 : Nat × Nat} (hps : ps = [p0, p1]) {A A₁ B B₁ : Bx} (hA : BRen (fun k s i => ps[i]? = some (p0.1 + k, s)) A A₁) (hB : BRen (fun k s i => ps[i]? = some (p1.1 + k, s)) B B₁) : d2h ps [A, B] [A₁, B₁] := by
 subst hps
 intro j p C hj hC
 rcases j with _ | _ | j
 . simp at hj hC; subst hj hC; exact ⟨A₁, rfl, hA⟩
 . simp at hj hC; subst hj hC; exact ⟨B₁, rfl, hB⟩
 . simp at hj
end
end En
namespace En
open Go Go.RowKit
def N6 : List UInt8 -> Int -> Option Int
 | [], n => some n
 | b :: r, n => bif GS b.toNat 48 || GS 57 b.toNat then none else N6 r (bif decide (n <= 2147483648) then 10 * n + ((b.toNat : Int) - 48) else n)
def a9P (neg : Bool) : Option Int -> Int × Bool × Bool
 | none => (0, false, false)
 | some n => match (bif neg then -n else n) with | m => (m, true, decide (-2147483648 <= m) && decide (m <= 2147483647))
def V3 (s : List UInt8) : Int × Bool × Bool :=
 match s with
 | [] => (0, false, false)
 | b :: r => bif b == 45
   then (match r with | [] => (0, false, false) | c :: _ => bif c == 48 then (0, false, false) else a9P true (N6 r 0))
   else (bif b == 48 && GS 0 r.length then (0, false, false) else a9P false (N6 (b :: r) 0))
def FrN (s : List UInt8) (B : Nat) (at_ : Int) (neg : Bool) (n : Int) (a : Act) : Prop := ∃ (u1 u6 u7 u8 u9 u10 u11 u12 u13 u14 u15 u16 u17 u18 u19 u20 u21 u22 u23 u24 u25 u26 u27 u28 u29 u30 u31 u32 u33 u34 u35 u36 u37 u38 u39 u40 u41 u42 u43 u44 u45 u46 u47 u48 u49 u50 u51 u52 u53 u54 u55 u56 u57 u58 u59 u60 u61 u62 u63 u64 u65 u66 u67 u68 : FX), a = { tmps := #[.string ⟨s.toArray⟩, u1, .pointer (some ⟨B, 0, none⟩), .int .i64 at_, .bool neg, .int .i64 n, u6, u7, u8, u9, u10, u11, u12, u13, u14, u15, u16, u17, u18, u19, u20, u21, u22, u23, u24, u25, u26, u27, u28, u29, u30, u31, u32, u33, u34, u35, u36, u37, u38, u39, u40, u41, u42, u43, u44, u45, u46, u47, u48, u49, u50, u51, u52, u53, u54, u55, u56, u57, u58, u59, u60, u61, u62, u63, u64, u65, u66, u67, u68], defers := [] }
def JN (s : List UInt8) (B : Nat) (w1 : Gc) (m l : Nat) (a : Act) (w' : Gc) : Prop :=
 ∃ (at_ n : Int) (neg : Bool), FrN s B at_ neg n a /\ w' = w1 /\ ((l = 2 /\ 0 <= at_ /\ at_ <= s.length /\ m = s.length - at_.toNat + 2 /\ 0 <= n /\ n <= 30000000000 /\ a9P neg (N6 (s.drop at_.toNat) n) = V3 s)
  ∨ (l = 1 /\ m = 1 /\ 0 <= n /\ n <= 30000000000 /\ a9P neg (some n) = V3 s) ∨ (l = 0 /\ m = 0 /\ V3 s = (0, false, false)))
def gb (s : List UInt8) (i : Nat) : Nat := (s.getD i 0).toNat
theorem c5c (s : List UInt8) (i : Nat) (h : i < ({ data := s.toArray } : ByteArray).size) : (({ data := s.toArray } : ByteArray)[i]'h).toNat = gb s i := by
 have hl : i < s.length := by simpa [Hx] using h
 have : (({ data := s.toArray } : ByteArray)[i]'h) = s[i] := rfl
 rw [this]; simp [gb, Lh, hl]
theorem d6p (s : List UInt8) (i : Nat) : gb s i < 256 := (s.getD i 0).toNat_lt
theorem d6F (s : List UInt8) {k : Nat} (h : s.length <= k) (n : Int) : N6 (s.drop k) n = some n := by rw [List.drop_eq_nil_of_le h]; rfl
theorem c7G (s : List UInt8) {k : Nat} (h : k < s.length) : ∃ b, s.drop k = b :: s.drop (k + 1) /\ b.toNat = gb s k :=
 ⟨s[k], List.drop_eq_getElem_cons h, by simp [gb, Lh, h]⟩
theorem a7U (s : List UInt8) {k : Nat} (h : k < s.length) (hb : gb s k < 48 ∨ 57 < gb s k) (n : Int) : N6 (s.drop k) n = none := by
 obtain ⟨b, e, h1⟩ := c7G s h
 rw [e]
 unfold N6
 have : (GS b.toNat 48 || GS 57 b.toNat) = true := by rw [h1]; simp; omega
 rw [this, cond_true]
theorem a9f (s : List UInt8) {k : Nat} (h : k < s.length) (h1 : 48 <= gb s k) (h2 : gb s k <= 57) (n : Int) : N6 (s.drop k) n = N6 (s.drop (k + 1)) (if n <= 2147483648 then 10 * n + ((gb s k : Int) - 48) else n) := by
 obtain ⟨b, e, hb⟩ := c7G s h
 rw [e]
 conv => lhs; unfold N6
 have : (GS b.toNat 48 || GS 57 b.toNat) = false := by
  rw [hb]
  cases e1 : GS (gb s k) 48 <;> cases e2 : GS 57 (gb s k) <;> simp at e1 e2 ⊢ <;> omega
 rw [this, cond_false, hb]
 by_cases hn : n <= 2147483648
 . rw [decide_eq_true hn, cond_true, if_pos hn]
 . rw [decide_eq_false hn, cond_false, if_neg hn]
theorem a6o (b c : UInt8) : (b == c) = decide (b.toNat = c.toNat) := by
 rw [Bool.eq_iff_iff]; simp [← UInt8.toNat_inj]
theorem d7w (s : List UInt8) (h : s.length = 0 ∨ (gb s 0 = 45 /\ (s.length = 1 ∨ gb s 1 = 48)) ∨ (gb s 0 = 48 /\ 1 < s.length)) : V3 s = (0, false, false) := by
 cases s with
 | nil => rfl
 | cons b r =>
   have e0 : gb (b :: r) 0 = b.toNat := rfl
   have e1 : gb (b :: r) 1 = gb r 0 := rfl
   rw [e0, e1] at h
   unfold V3
   simp only [a6o]
   rcases h with h | ⟨h, h'⟩ | ⟨h, h'⟩
   . simp at h
   . have : decide (b.toNat = (45 : UInt8).toNat) = true := decide_eq_true h
     rw [this, cond_true]
     cases r with
     | nil => rfl
     | cons c r =>
       have e2 : gb (c :: r) 0 = c.toNat := rfl
       rw [e2] at h'
       have : decide (c.toNat = (48 : UInt8).toNat) = true := decide_eq_true (by rcases h' with h' | h' <;> simp at h' ⊢; exact h')
       simp only [this, cond_true]
   . have h1 : decide (b.toNat = (45 : UInt8).toNat) = false := decide_eq_false (by rw [h]; decide)
     have h2 : decide (b.toNat = (48 : UInt8).toNat) = true := decide_eq_true h
     have h3 : GS 0 r.length = true := by simp at h' ⊢; omega
     rw [h1, h2, h3]; rfl
theorem c8j (s : List UInt8) (h : gb s 0 = 45) (hl : 1 < s.length) (h1 : gb s 1 ≠ 48) : a9P true (N6 (s.drop 1) 0) = V3 s := by
 match s, hl with
 | b :: c :: r, _ =>
   have e0 : b.toNat = 45 := h
   have e1 : c.toNat ≠ 48 := h1
   unfold V3
   simp only [a6o]
   have h3 : decide (b.toNat = (45 : UInt8).toNat) = true := decide_eq_true e0
   have h4 : decide (c.toNat = (48 : UInt8).toNat) = false := decide_eq_false e1
   simp only [h3, h4, cond_true, cond_false]; rfl
theorem c7f (s : List UInt8) (hl : 0 < s.length) (h : gb s 0 ≠ 45) (h1 : gb s 0 ≠ 48 ∨ s.length <= 1) : a9P false (N6 (s.drop 0) 0) = V3 s := by
 match s, hl with
 | b :: r, _ =>
   have e0 : b.toNat ≠ 45 := h
   have e1 : b.toNat ≠ 48 ∨ (b :: r).length <= 1 := h1
   unfold V3
   simp only [a6o]
   have h3 : decide (b.toNat = (45 : UInt8).toNat) = false := decide_eq_false e0
   have h4 : (decide (b.toNat = (48 : UInt8).toNat) && GS 0 r.length) = false := by
    rcases e1 with e1 | e1
    . have : decide (b.toNat = (48 : UInt8).toNat) = false := decide_eq_false e1
      rw [this]; rfl
    . have : r.length = 0 := by simpa using e1
      rw [this]; simp; exact fun _ => rfl
   have h5 : (decide (b.toNat = (48 : UInt8).toNat) && GS 0 r.length) = false := h4
   simp only [h3, h5, cond_false]
   rfl
theorem e0s (s : List UInt8) (h : gb s 0 = 45) (hl : 1 < s.length) (h1 : 48 <= gb s 1) (h2 : gb s 1 <= 57) (h3 : gb s 1 ≠ 48) : a9P true (N6 (s.drop (2 : Int).toNat) ((gb s 1 : Int) - 48)) = V3 s := by
 rw [← c8j s h hl h3, a9f s (k := 1) hl h1 h2, if_pos (by decide)]; simp
theorem c7H (s : List UInt8) (hl : 0 < s.length) (h1 : 48 <= gb s 0) (h2 : gb s 0 <= 57) (h3 : gb s 0 ≠ 48 ∨ s.length <= 1) : a9P false (N6 (s.drop (1 : Int).toNat) ((gb s 0 : Int) - 48)) = V3 s := by
 rw [← c7f s hl (by omega) h3, a9f s (k := 0) hl h1 h2, if_pos (by decide)]; simp
theorem d5l (s : List UInt8) (h : gb s 0 = 45) (hl : 1 < s.length) (h1 : gb s 1 < 48 ∨ 57 < gb s 1) (h3 : gb s 1 ≠ 48) : V3 s = (0, false, false) := by
 rw [← c8j s h hl h3, a7U s (k := 1) hl h1]; rfl
theorem d2K (s : List UInt8) (hl : 0 < s.length) (h0 : gb s 0 ≠ 45) (h1 : gb s 0 < 48 ∨ 57 < gb s 0) : V3 s = (0, false, false) := by
 rw [← c7f s hl h0 (by omega), a7U s (k := 0) hl h1]; rfl
theorem b1f (s : List UInt8) : s.isEmpty = decide (s.length = 0) := by cases s <;> simp
theorem b6S (w : Gc) (t : FP) (a b c : FX) : (w.alloc (.cells #[a, b, c] t)).rangeAt w.heap.size 0 [a, b, c] := fun j v hv => by
 rw [GA _ _ _ _ _ _ (Hf w _), GL]
 simpa using hv
theorem d5E {neg : Bool} {n : Int} {s : List UInt8} (h : a9P neg (some n) = V3 s) : V3 s = (bif neg then -n else n, true, decide (-2147483648 <= (bif neg then -n else n)) && decide ((bif neg then -n else n) <= 2147483647)) := h.symm
set_option maxHeartbeats 8000000 in
theorem c4T (s : List UInt8) (hs : s.length <= 1000000) (w : Gc) : IF Tryz.prog 91 #[.string ⟨s.toArray⟩] w fun e w' => e = .returned (.agg #[.int .i64 (V3 s).1, .bool (V3 s).2.1, .bool (V3 s).2.2]) /\ Below w.heap.size w w' := by
 go_enter Tryz.func91, Tryz.ntmps91
 go_wp2
 have g0 := d6p s 0
 have g1 := d6p s 1
 refine a8h (JN s w.heap.size (w.alloc (.cells #[.int .i64 0, .bool false, .bool false] 113))) ?_ ?_
 . go_wp2
   all_goals (try go_step3)
   all_goals (try simp only [c5c, beq_iff_eq, beq_eq_false_iff_ne, b1f, decide_eq_true_eq, decide_eq_false_iff_not] at *)
   all_goals (try (exfalso; omega))
   all_goals (try (refine Jb ⟨0, _, _, _, ⟨_, _, _, _, _, _, _, _, _, _, _, _, _, _, _, _, _, _, _, _, _, _, _, _, _, _, _, _, _, _, _, _, _, _, _, _, _, _, _, _, _, _, _, _, _, _, _, _, _, _, _, _, _, _, _, _, _, _, _, _, _, _, _, _, rfl⟩, rfl, .inr (.inr ⟨rfl, rfl, d7w s ?_⟩)⟩; omega))
   all_goals (go_wp2)
   all_goals (try go_step3)
   all_goals (try simp only [c5c, beq_iff_eq, beq_eq_false_iff_ne, b1f, decide_eq_true_eq, decide_eq_false_iff_not] at *)
   all_goals (try (exfalso; omega))
   . refine Jb ⟨0, _, _, _, ⟨_, _, _, _, _, _, _, _, _, _, _, _, _, _, _, _, _, _, _, _, _, _, _, _, _, _, _, _, _, _, _, _, _, _, _, _, _, _, _, _, _, _, _, _, _, _, _, _, _, _, _, _, _, _, _, _, _, _, _, _, _, _, _, _, rfl⟩, rfl, .inr (.inr ⟨rfl, rfl, d5l s ?_ ?_ ?_ ?_⟩)⟩ <;> omega
   . refine Jb ⟨_, _, _, _, ⟨_, _, _, _, _, _, _, _, _, _, _, _, _, _, _, _, _, _, _, _, _, _, _, _, _, _, _, _, _, _, _, _, _, _, _, _, _, _, _, _, _, _, _, _, _, _, _, _, _, _, _, _, _, _, _, _, _, _, _, _, _, _, _, _, rfl⟩, rfl, .inl ⟨rfl, ?_, ?_, rfl, ?_, ?_, e0s s ?_ ?_ ?_ ?_ ?_⟩⟩ <;> omega
   . refine Jb ⟨0, _, _, _, ⟨_, _, _, _, _, _, _, _, _, _, _, _, _, _, _, _, _, _, _, _, _, _, _, _, _, _, _, _, _, _, _, _, _, _, _, _, _, _, _, _, _, _, _, _, _, _, _, _, _, _, _, _, _, _, _, _, _, _, _, _, _, _, _, _, rfl⟩, rfl, .inr (.inr ⟨rfl, rfl, d5l s ?_ ?_ ?_ ?_⟩)⟩ <;> omega
   . refine Jb ⟨_, _, _, _, ⟨_, _, _, _, _, _, _, _, _, _, _, _, _, _, _, _, _, _, _, _, _, _, _, _, _, _, _, _, _, _, _, _, _, _, _, _, _, _, _, _, _, _, _, _, _, _, _, _, _, _, _, _, _, _, _, _, _, _, _, _, _, _, _, _, rfl⟩, rfl, .inl ⟨rfl, ?_, ?_, rfl, ?_, ?_, c7H s ?_ ?_ ?_ ?_⟩⟩ <;> omega
   . refine Jb ⟨0, _, _, _, ⟨_, _, _, _, _, _, _, _, _, _, _, _, _, _, _, _, _, _, _, _, _, _, _, _, _, _, _, _, _, _, _, _, _, _, _, _, _, _, _, _, _, _, _, _, _, _, _, _, _, _, _, _, _, _, _, _, _, _, _, _, _, _, _, _, rfl⟩, rfl, .inr (.inr ⟨rfl, rfl, d2K s ?_ ?_ ?_⟩)⟩ <;> omega
   . refine Jb ⟨_, _, _, _, ⟨_, _, _, _, _, _, _, _, _, _, _, _, _, _, _, _, _, _, _, _, _, _, _, _, _, _, _, _, _, _, _, _, _, _, _, _, _, _, _, _, _, _, _, _, _, _, _, _, _, _, _, _, _, _, _, _, _, _, _, _, _, _, _, _, rfl⟩, rfl, .inl ⟨rfl, ?_, ?_, rfl, ?_, ?_, c7H s ?_ ?_ ?_ ?_⟩⟩ <;> omega
   . refine Jb ⟨0, _, _, _, ⟨_, _, _, _, _, _, _, _, _, _, _, _, _, _, _, _, _, _, _, _, _, _, _, _, _, _, _, _, _, _, _, _, _, _, _, _, _, _, _, _, _, _, _, _, _, _, _, _, _, _, _, _, _, _, _, _, _, _, _, _, _, _, _, _, rfl⟩, rfl, .inr (.inr ⟨rfl, rfl, d2K s ?_ ?_ ?_⟩)⟩ <;> omega
 . rintro m l a w' ⟨at_, n, neg, ⟨u1, u6, u7, u8, u9, u10, u11, u12, u13, u14, u15, u16, u17, u18, u19, u20, u21, u22, u23, u24, u25, u26, u27, u28, u29, u30, u31, u32, u33, u34, u35, u36, u37, u38, u39, u40, u41, u42, u43, u44, u45, u46, u47, u48, u49, u50, u51, u52, u53, u54, u55, u56, u57, u58, u59, u60, u61, u62, u63, u64, u65, u66, u67, u68, rfl⟩, rfl, h⟩
   rcases h with ⟨rfl, h1, h2, rfl, h3, h4, h5⟩ | ⟨rfl, rfl, h3, h4, h5⟩ | ⟨rfl, rfl, h5⟩
   . refine ⟨_, rfl, ?_⟩
     have ga := d6p s at_.toNat
     go_wp2
     all_goals (try go_step3)
     all_goals (try simp only [c5c, beq_iff_eq, beq_eq_false_iff_ne] at *)
     all_goals (try (exfalso; omega))
     . rename_i he
       refine Jb ⟨1, by omega, _, _, _, ⟨_, _, _, _, _, _, _, _, _, _, _, _, _, _, _, _, _, _, _, _, _, _, _, _, _, _, _, _, _, _, _, _, _, _, _, _, _, _, _, _, _, _, _, _, _, _, _, _, _, _, _, _, _, _, _, _, _, _, _, _, _, _, _, _, rfl⟩, rfl, .inr (.inl ⟨rfl, rfl, h3, h4, ?_⟩)⟩
       rw [← h5, d6F s (by omega)]
     . refine Jb ⟨0, by omega, _, _, _, ⟨_, _, _, _, _, _, _, _, _, _, _, _, _, _, _, _, _, _, _, _, _, _, _, _, _, _, _, _, _, _, _, _, _, _, _, _, _, _, _, _, _, _, _, _, _, _, _, _, _, _, _, _, _, _, _, _, _, _, _, _, _, _, _, _, rfl⟩, rfl, .inr (.inr ⟨rfl, rfl, ?_⟩)⟩
       rw [← h5, a7U s (by omega) (by omega)]; rfl
     . refine Jb ⟨_, ?_, _, _, _, ⟨_, _, _, _, _, _, _, _, _, _, _, _, _, _, _, _, _, _, _, _, _, _, _, _, _, _, _, _, _, _, _, _, _, _, _, _, _, _, _, _, _, _, _, _, _, _, _, _, _, _, _, _, _, _, _, _, _, _, _, _, _, _, _, _, rfl⟩, rfl, .inl ⟨rfl, by omega, by omega, rfl, by omega, by omega, ?_⟩⟩
       . omega
       . rw [← h5, a9f s (k := at_.toNat) (by omega) (by omega) (by omega), if_pos (by omega), show (at_ + 1).toNat = at_.toNat + 1 by omega]
     . refine Jb ⟨_, ?_, _, _, _, ⟨_, _, _, _, _, _, _, _, _, _, _, _, _, _, _, _, _, _, _, _, _, _, _, _, _, _, _, _, _, _, _, _, _, _, _, _, _, _, _, _, _, _, _, _, _, _, _, _, _, _, _, _, _, _, _, _, _, _, _, _, _, _, _, _, rfl⟩, rfl, .inl ⟨rfl, by omega, by omega, rfl, by omega, by omega, ?_⟩⟩
       . omega
       . rw [← h5, a9f s (k := at_.toNat) (by omega) (by omega) (by omega), if_neg (by omega), show (at_ + 1).toNat = at_.toNat + 1 by omega]
     . refine Jb ⟨0, by omega, _, _, _, ⟨_, _, _, _, _, _, _, _, _, _, _, _, _, _, _, _, _, _, _, _, _, _, _, _, _, _, _, _, _, _, _, _, _, _, _, _, _, _, _, _, _, _, _, _, _, _, _, _, _, _, _, _, _, _, _, _, _, _, _, _, _, _, _, _, rfl⟩, rfl, .inr (.inr ⟨rfl, rfl, ?_⟩)⟩
       rw [← h5, a7U s (by omega) (by omega)]; rfl
   . refine ⟨_, rfl, ?_⟩
     cases neg <;> go_wp2
     all_goals (
      have hf := d5E h5
      rename_i hn
      refine bodyPost_ret (a2r rfl _ _ w.heap.size 0 _ _ rfl (b6S w 113 _ _ _) Tryz.underlying113 rfl (by kernel_rfl)) rfl ⟨?_, (Ii _ _).alloc (FW _) _⟩
      rw [hf]
      simp only [cond_true, cond_false]
      first
       | rw [show decide (-2147483648 <= -n) = true from decide_eq_true (by omega), Lw]
       | rw [show decide (-2147483648 <= -n) = false from decide_eq_false (by omega), Bool.false_and]
       | rw [decide_eq_true hn, Lw])
   . refine ⟨_, rfl, ?_⟩
     go_wp2
     refine bodyPost_ret (a2r rfl _ _ w.heap.size 0 _ _ rfl (b6S w 113 _ _ _) Tryz.underlying113 rfl (by kernel_rfl)) rfl ⟨?_, (Ii _ _).alloc (FW _) _⟩
     rw [h5]
theorem a7F : ∀ (l : List UInt8) (n r : Int), 0 <= n /\ n <= 30000000000 -> N6 l n = some r -> 0 <= r /\ r <= 30000000000
 | [], n, r, hn, h => by injection h with h; omega
 | b :: l, n, r, hn, h => by
   unfold N6 at h
   cases hc : (GS b.toNat 48 || GS 57 b.toNat) with
   | true => rw [hc, cond_true] at h; cases h
   | false =>
     rw [hc, cond_false] at h
     have hb : 48 <= b.toNat /\ b.toNat <= 57 := by
      obtain ⟨e1, e2⟩ := Bool.or_eq_false_iff.1 hc
      have k1 : ¬ b.toNat < 48 := fun hx => by
       have : GS b.toNat 48 = true := by simpa using hx
       rw [this] at e1; cases e1
      have k2 : ¬ 57 < b.toNat := fun hx => by
       have : GS 57 b.toNat = true := by simpa using hx
       rw [this] at e2; cases e2
      omega
     refine a7F l _ r ?_ h
     by_cases hk : n <= 2147483648
     . rw [decide_eq_true hk, cond_true]; omega
     . rw [decide_eq_false hk, cond_false]; exact hn
theorem b6X (neg : Bool) (o : Option Int) (h : ∀ r, o = some r -> 0 <= r /\ r <= 30000000000) : -30000000000 <= (a9P neg o).1 /\ (a9P neg o).1 <= 30000000000 := by
 cases o with
 | none => show (-30000000000 : Int) <= 0 /\ (0 : Int) <= 30000000000; omega
 | some n =>
   have := h n rfl
   cases neg
   . show _ <= n /\ n <= _; omega
   . show _ <= -n /\ -n <= _; omega
theorem c9W (s : List UInt8) : -30000000000 <= (V3 s).1 /\ (V3 s).1 <= 30000000000 := by
 have hz : (-30000000000 : Int) <= ((0, false, false) : Int × Bool × Bool).1 /\ ((0, false, false) : Int × Bool × Bool).1 <= 30000000000 := ⟨by decide, by decide⟩
 unfold V3
 split
 . exact hz
 . rename_i b r
   cases b == 45
   . rw [cond_false]
     cases b == 48 && GS 0 r.length
     . exact b6X _ _ fun r h => a7F _ 0 r (by decide) h
     . exact hz
   . rw [cond_true]
     split
     . exact hz
     . rename_i c r
       cases c == 48
       . exact b6X _ _ fun r h => a7F _ 0 r (by decide) h
       . exact hz
def a1A (N : Nat) (s : List UInt8) : Option (Int × Bool × Bool) := br (GY s.length 1000000) (some (V3 s)) none
theorem d1J (N : Nat) (x0 : List UInt8) (r0 : Int) (r1 r2 : Bool) (h : a1A N x0 = some (r0, r1, r2)) : H8 Tryz.prog T 91 [.v (.str x0) .no] [.agg [dI r0, dB r1, dB r2]] := by
 unfold a1A br at h
 cases hc : GY x0.length 1000000 with
 | false => simp [hc] at h
 | true =>
 simp only [hc, cond_true] at h
 injection h with h
 simp only [KN] at hc
 intro E g w us hsz hus
 obtain ⟨hl, hr⟩ := hus
 match us, hl with
 | [u], _ =>
 have hu := hr 0 _ rfl
 simp only [GN] at hu
 cases hu with | v x a u hu ha =>
 cases hu with | str s hs =>
 have hg := c9W x0
 refine (c4T x0 hc w).mono ?_
 rintro e w' ⟨rfl, hb⟩
 rw [h] at hg ⊢
 refine ⟨[.agg #[.int .i64 r0, .bool r1, .bool r2]], c4R g w, rfl, fun E' => ⟨rfl, fun j y hk => ?_⟩, a9d hb⟩
 rcases j with _ | j
 . simp at hk; subst hk
   refine .agg _ _ rfl fun k y hk => ?_
   rcases k with _ | _ | _ | k
   . simp at hk; subst hk; exact .v _ _ _ (.int _ _ (by show (-9223372036854775808 : Int) <= _ /\ _ <= (9223372036854775807 : Int); simp only [] at hg; omega)) trivial
   . simp at hk; subst hk; exact .v _ _ _ (.bool _) trivial
   . simp at hk; subst hk; exact .v _ _ _ (.bool _) trivial
   . simp at hk
 . simp at hk
end En

namespace En
open Go
section
variable {R : Type} {P : Gu} {T : FP -> Option Ty} {E E' : Env} {g g' : G} {w w' : Gc} {cx : Cx}
def c0R (cx : Cx) (fn : Func) (args : List D) (m : Mem) (t : Nat) (K : D -> Mem -> List Pos -> Option R) : Option R :=
 match fn.body with
 | some c => c5L fn.ntmps args fun slots => codeK cx c ⟨slots, [] :: m, []⟩ fun e st' =>
   (match e with
    | .normal => a5M st'.slots t fun d => forceD d fun d => K d st'.mem st'.dead
    | .ret => a5M st'.slots t fun d => forceD d fun d => K d st'.mem st'.dead
    | _ => none)
 | none => none
theorem c3s (hcx : CxOK P cx) {f : Gv} {fn : Func} {c : Code} (hf : P.funcs[f]? = some fn) (hb : fn.body = some c) (hro : D6 P cx c) (hl : B8 cx fn.ntmps c)
 {ds : List D} {us : List FX} (Q8 : ds.length <= fn.ntmps) {m : Mem} (hh : Here cx.T E g w ([] :: m)) (hr : RepDs E g w [] ds us) {t : Nat} (c0o : fn.results.toList = [.tmp t]) {K : D -> Mem -> List Pos -> Option R} {r : R} (h : c0R cx fn ds m t K = some r)
 {post : Ending -> Gc -> Prop} (hq : ∀ d u m' dead' E' g' w', K d m' dead' = some r -> Here cx.T E' g' w' m' -> RepD E' g' w' dead' d u -> E'.d = E.d -> Tr E.d g w g' w' -> post (.returned u) w') :
 IF P f us.toArray w post := by
 refine calls_of_wp hf hb ?_
 unfold c0R at h
 rw [hb] at h
 simp only [b1R] at h
 have d7c : Sim cx.T E g w ⟨ds ++ GX (fn.ntmps - ds.length) .any, [] :: m, []⟩ { tmps := us.toArray ++ HM (fn.ntmps - us.toArray.size) undef, defers := [] } := by
  refine ⟨hh, fun s x hx => ?_, by simp [hr.1], rfl⟩
  rcases Hi s ds.length with hlt | hge
  . rw [Gh hlt] at hx
    have := hr.2 s x hx
    have e : (us.toArray ++ HM (fn.ntmps - us.toArray.size) undef).getD s undef = us.getD s undef := by
     rw [Ge, GD (by simp [hr.1]; exact hlt), FV]; simp
    rw [e]; exact this
  . rw [Gk hge, Jq] at hx
    split at hx
    . injection hx with hx; subst hx; exact .any _
    . cases hx
 refine (a8f hcx c hro).1 _ fn.ntmps _ _ w E g _ r _ hl d7c (by simp [hr.1]; omega) h fun e st' a' w' hk ht => ?_
 obtain ⟨E', g', b1, b2, b3, b4⟩ := ht
 have L7 : (results fn a'.tmps).run P w' = .ok (a'.tmps.getD t undef) w' := by
  rw [a3Z, Ir, c0o]
  simp only [Gq, map_eq_pure_bind, Jv, List.mapM_nil, b2W, Hj, Gg]
  rfl
 have fin : (a5M st'.slots t fun d => forceD d fun d => K d st'.mem st'.dead) = some r -> ∃ v, (results fn a'.tmps).run P w' = .ok v w' /\ post (.returned v) w' := by
  intro hk
  simp only [N8, forceD_eq] at hk
  exact ⟨_, L7, hq _ _ _ _ E' g' w' hk b1.here (b1.slots.ev (T := cx.T) 0 (.tmp t)) b2 b3⟩
 cases e with
 | normal => exact ⟨b1.defers, fin hk⟩
 | ret => exact ⟨b1.defers, fin hk⟩
 | exit i => cases hk
 | goto l => cases hk
theorem c1q {p : Pos} {l : List Pos} (h : O0 p l = false) : p ∉ l := fun hm => by
 rw [(a1r p l).2 hm] at h
 cases h
theorem c5W {b0 k : Nat} (hU : g.Γ b0 = .low k) : Later g w (g.at_ b0 .imm) w := by
 refine ⟨rfl, fun b o v h1 h2 => ⟨?_, h2⟩, fun b x h1 h2 => ⟨?_, h2⟩⟩
 . by_cases hb : b = b0
   . subst hb; unfold s5; rw [G.at_eq]; trivial
   . exact (a1a hb).2 h1
 . have hb : b ≠ b0 := by rintro rfl; rw [hU] at h1; cases h1
   rw [G.at_ne _ _ _ hb]; exact h1
theorem d6H {b0 k : Nat} (hU : g.Γ b0 = .low k) {p : APos} {e : FP} {v : FX} (h : D1 g w p e v) : D1 (g.at_ b0 .imm) w p e v := by
 rcases h with h0 | ⟨b, n, cap, cur, h1, h2, h3, h4⟩
 . exact .inl h0
 . have hb : b ≠ b0 := by rintro rfl; rw [hU] at h2; cases h2
   exact .inr ⟨b, n, cap, cur, h1, by rw [G.at_ne _ _ _ hb]; exact h2, h3, h4⟩
theorem d9j {b0 k : Nat} (hU : g.Γ b0 = .low k) {m : Mem} (h : Here T E g w m) : Here T E (g.at_ b0 .imm) w m := by
 have hk : Keeps E g w [] E (g.at_ b0 .imm) w [] := ⟨c5W hU, rfl, fun _ _ h => h, fun _ _ _ _ => rfl, fun _ h => h, fun _ _ _ _ _ ho => d6H hU ho⟩
 refine ⟨fun k s b hb => ?_, h.dom, h.sk.later (c5W hU), h.len⟩
 obtain ⟨h1, h2, us, h3, h4, h5⟩ := h.mem k s b hb
 have hne : g.J (E.d - k) s ≠ b0 := by intro e; rw [e, hU] at h2; cases h2
 refine ⟨h1, (G.at_ne _ _ _ hne).trans h2, us, h3, h4, fun i c hc => ?_⟩
 obtain ⟨c1, c2, c3, c4⟩ := h5 i c hc
 exact ⟨c1, c2, c3, c4.keep hk⟩
theorem d0j (hcx : CxOK P cx) {f : Gv} {fn : Func} {c : Code} (hf : P.funcs[f]? = some fn) (hb : fn.body = some c) (hro : D6 P cx c) (hl : B8 cx fn.ntmps c)
 {ds ds₁ : List D} (Q8 : ds₁.length <= fn.ntmps) {m : Mem} {ps : List (Nat × Nat)} {Bs₁ : List Bx} (T9 : ∀ (i j : Nat) (p : Nat × Nat), ps[i]? = some p -> ps[j]? = some p -> i = j)
 (Q7 : ∀ (j : Nat) (p : Nat × Nat), ps[j]? = some p -> ∃ B B₁, m.box? p.1 p.2 = some B /\ Bs₁[j]? = some B₁ /\ BRen (fun k s i => ps[i]? = some (p.1 + k, s)) B B₁) (hlen₁ : Bs₁.length = ps.length)
 (hlen : ds₁.length = ds.length) (hds : ∀ (i : Nat) y y₁, ds[i]? = some y -> ds₁[i]? = some y₁ -> Ren (fun k s k₁ s₁ => ∃ k', k = k' + 1 /\ k₁ = 1 /\ ps[s₁]? = some (k', s)) y y₁)
 {t : Nat} (c0o : fn.results.toList = [.tmp t]) {rf : D -> Mem -> List Pos -> Option R} {r : R} (h : c0R cx fn ds₁ [J4 0 Bs₁] t rf = some r) {e : FP} {xs : List V} {Bs' : List Bx} (hlen' : Bs'.length = ps.length)
 (hrs : ∀ d m' dead', rf d m' dead' = some r -> (∃ s, d = .v (.sl e xs) (.own (.slot s) e) /\ O0 (.slot s) dead' = false) /\ ∃ own Bs₂, m' = [own, J4 0 Bs₂] /\ ∀ (j : Nat) (p : Nat × Nat) B', ps[j]? = some p -> Bs'[j]? = some B' -> ∃ B₂, Bs₂[j]? = some B₂ /\ BRenX (fun k s i => ps[i]? = some (p.1 + k, s)) B' B₂)
 (dst : Nat) : a0B P cx.T f dst ds m [.v (.rowI e xs) .no] (I0 ps Bs' m) := by
 intro E g w us hh hus
 have hp : Places ps E.d := ⟨fun j p hj => by
  obtain ⟨B, B₁, h1, _⟩ := Q7 j p hj
  exact (hh.mem _ _ _ h1).le, T9⟩
 have hB₁ : ∀ (j : Nat) (B₁ : Bx), Bs₁[j]? = some B₁ -> ∃ p, ps[j]? = some p := fun j B₁ hj => by
  have : j < ps.length := by rw [← hlen₁]; exact (FN.1 hj).1
  exact ⟨_, FQ this⟩
 have hlat : Later g w (g.view ps E.d) w := ⟨rfl, fun b o v h1 h2 => ⟨(a4N g b o).2 h1, h2⟩, fun b x h1 h2 => ⟨by show (g.Γ b).view ps E.d = _; rw [h1]; rfl, h2⟩⟩
 have hJ : ∀ (j k s : Nat), ps[j]? = some (k, s) -> (g.view ps E.d).J 0 j = g.J (E.d - k) s := fun j k s hj => by
  show (match ps[j]? with | some p => g.J (E.d - p.1) p.2 | none => 0) = _
  rw [hj]
 have hh1 : Here cx.T ⟨1, F4 ([] :: [J4 0 Bs₁])⟩ (g.view ps E.d) w ([] :: [J4 0 Bs₁]) := by
  refine ⟨fun k s b hbx => ?_, rfl, hh.sk.later hlat, rfl⟩
  rcases k with _ | _ | k
  . simp [Mem.box?, G2] at hbx
  . have hbx : Bs₁[s]? = some b := by rw [← V0]; exact hbx
    obtain ⟨⟨k', s'⟩, hj⟩ := hB₁ s b hbx
    obtain ⟨B, B₁, h1, h2, h3⟩ := Q7 s _ hj
    rw [hbx] at h2
    injection h2 with h2
    subst h2
    have hr := hh.mem _ _ _ h1
    obtain ⟨cs, a1, a2, a3⟩ := hr.heap
    refine ⟨FW _, ?_, cs, ?_, by rw [a2, h3.len], fun i c₁ hc₁ => ?_⟩
    . show (g.Γ ((g.view ps E.d).J 0 s)).view ps E.d = _
      rw [hJ s k' s' hj, hr.perm]
      simp only [Perm.view, a5r hp hj]
    . show w.heap[(g.view ps E.d).J 0 s]? = _
      rw [hJ s k' s' hj, h3.ty]; exact a1
    . have hi : i < B.cells.length := by rw [← h3.len]; exact (FN.1 hc₁).1
      have hcc := FQ hi
      have hcr := h3.cell i _ c₁ hcc hc₁
      obtain ⟨b1, b2, b3, b4⟩ := a3 i _ hcc
      obtain ⟨s1, _, s3⟩ := a4p hcr
      refine ⟨(s1 ⟨b1, b2⟩).1, (s1 ⟨b1, b2⟩).2, fun e => ?_, ?_⟩
      . show c2s ((g.view ps E.d).J 0 s) _
        rw [hJ s k' s' hj]; exact b3 (s3.2 e)
      . refine c3H hcr hlat (FW _) (fun e ho => c3q hp hj ho) ?_ b4
        intro a b j hq _ _
        obtain ⟨B2, B2', _, c2, _⟩ := Q7 j _ hq
        refine ⟨FW _, ⟨B2', ?_⟩, ?_⟩
        . show G2 j (J4 0 Bs₁) = _
          rw [V0]; exact c2
        . show (g.view ps E.d).J 0 j = _
          rw [hJ j _ _ hq, IQ]
  . simp [Mem.box?] at hbx
 have hr1 : RepDs ⟨1, F4 ([] :: [J4 0 Bs₁])⟩ (g.view ps E.d) w [] ds₁ us := by
  refine hus.ren hlat ?_ hlen hds
  rintro k s k₁ s₁ ⟨k', rfl, rfl, hq⟩ h5 h6
  obtain ⟨B2, B2', _, c2, _⟩ := Q7 s₁ _ hq
  refine ⟨FW _, ⟨B2', ?_⟩, ?_⟩
  . show G2 s₁ (J4 0 Bs₁) = _
    rw [V0]; exact c2
  . show (g.view ps E.d).J 0 s₁ = g.J (E.d + 1 - (k' + 1)) s
    rw [hJ _ _ _ hq, Nat.add_sub_add_right]
 refine c3s hcx hf hb hro hl Q8 hh1 hr1 c0o h fun d0 u0 m' dead' E2 g2 w' q1 q2 q3 q4 q5 => ?_
 obtain ⟨⟨so, rfl, hso⟩, own, Bs₂, rfl, r3⟩ := hrs d0 m' dead' q1
 have held : Held g w ps E.d g2 w' := by
  refine ⟨fun b hb hs => (q5.hid b hb (a4n hs)).1, fun b hb hs => (q5.hid b hb (a4n hs)).2⟩
 have hJ2 : ∀ (j k s : Nat), ps[j]? = some (k, s) -> g2.J 0 j = g.J (E.d - k) s := fun j k s hj => by
  rw [q5.J 0 j (Nat.zero_lt_one), hJ j k s hj]
 have hsz2 : g2.sz = g.sz := q5.later.sz
 have a3B : Later g2 w' (g.unview ps E.d w.heap.size g2) w' := ⟨hsz2.symm, fun b o v h1 h2 => ⟨a6S held h1, h2⟩, fun b x h1 h2 => ⟨b2K held h1, h2⟩⟩
 have hlat' : Later g w (g.unview ps E.d w.heap.size g2) w' := (hlat.trans q5.later).trans a3B
 have c3S : ∀ (j : Nat) (p : Nat × Nat), ps[j]? = some p -> ∃ B₂, G2 j (J4 0 Bs₂) = some B₂ /\ ∃ B', Bs'[j]? = some B' /\ BRenX (fun k s i => ps[i]? = some (p.1 + k, s)) B' B₂ := fun j p hj => by
  have hj' : j < Bs'.length := by rw [hlen']; exact (FN.1 hj).1
  obtain ⟨B₂, h1, h2⟩ := r3 j p _ hj (FQ hj')
  exact ⟨B₂, by rw [V0]; exact h1, _, FQ hj', h2⟩
 have hdm : F4 (I0 ps Bs' m) = F4 m := by
  funext k s
  by_cases hx : ∃ j : Nat, ps[j]? = some (k, s)
  . obtain ⟨j, hj⟩ := hx
    obtain ⟨B₂, _, B', h1, _⟩ := c3S j _ hj
    obtain ⟨B, _, h2, _⟩ := Q7 j _ hj
    have h3 := a1t ps Bs' m j k s B' T9 hj h1 (a2h _ _ _ _ h2)
    exact propext ⟨fun _ => ⟨_, h2⟩, fun _ => ⟨_, h3⟩⟩
  . have := Q9 ps Bs' m (k := k) (s := s) (fun j hj => hx ⟨j, hj⟩)
    unfold F4; rw [this]
 have keep : a0E E g w E (g.unview ps E.d w.heap.size g2) w' /\ Here cx.T E (g.unview ps E.d w.heap.size g2) w' (I0 ps Bs' m) /\ Tr E.d g w (g.unview ps E.d w.heap.size g2) w' := by
  refine ⟨⟨hlat', rfl, fun _ _ h => h, fun _ _ _ _ => rfl, fun s e v ho => a1U held rfl ho⟩, ⟨fun k s b hbx => ?_, ?_, hh.sk.later hlat', by rw [a0l]; exact hh.len⟩, ?_⟩
  . by_cases hx : ∃ j : Nat, ps[j]? = some (k, s)
    . obtain ⟨j, hj⟩ := hx
      obtain ⟨B₂, hB₂, B', h1, h2⟩ := c3S j _ hj
      obtain ⟨B, _, h3, _⟩ := Q7 j _ hj
      rw [a1t ps Bs' m j k s B' T9 hj h1 (a2h _ _ _ _ h3)] at hbx
      injection hbx with hbx
      subst hbx
      have hr := hh.mem _ _ _ h3
      have hr2 := q2.mem 1 j B₂ hB₂
      have hd2 : E2.d = 1 := q4
      obtain ⟨cs, a1, a2, a3⟩ := hr2.heap
      rw [hd2, hJ2 j k s hj] at a1
      have hp2 := hr2.perm
      rw [hd2, hJ2 j k s hj] at hp2
      refine ⟨hr.le, ?_, cs, by rw [← h2.ty]; exact a1, by rw [a2, h2.len], fun i c hc => ?_⟩
      . show (g.unview ps E.d w.heap.size g2).Γ (g.J (E.d - k) s) = _
        rw [U3]
        . rw [hp2]
          show (match ps[j]? with | some p => Perm.box (E.d - p.1) p.2 | none => .low 0) = _
          rw [hj]
        . rintro ⟨_, hs⟩
          rw [hr.perm] at hs
          simp only [Perm.view, a5r hp hj] at hs
          cases hs
      . have hi : i < B₂.cells.length := by rw [h2.len]; exact (FN.1 hc).1
        have hcc := FQ hi
        have hcr := h2.cell i c _ hc hcc
        obtain ⟨b1, b2, b3, b4⟩ := a3 i _ hcc
        rcases hcr with hcr | ⟨x, a, e1, e2⟩
        rotate_left
        . rw [e2] at b1 b4
          subst e1
          refine ⟨b1, rfl, fun e => (by cases e), ?_⟩
          cases a with
          | no => exact .v _ _ _ ((F6 b4).later a3B) trivial
          | nil e => exact .v _ _ _ ((F6 b4).later a3B) trivial
          | own p e => exact .v _ _ _ ((F6 b4).later a3B) trivial
        obtain ⟨_, s2, s3⟩ := a4p hcr
        refine ⟨(s2 ⟨b1, b2⟩).1, (s2 ⟨b1, b2⟩).2, fun e => ?_, ?_⟩
        . have := b3 (s3.1 e)
          rw [hd2, hJ2 j k s hj] at this
          exact this
        . refine b5V hcr a3B hr.le (fun e ho => by rw [hd2] at ho; exact b5r hsz2 held hj ho) ?_ b4
          intro a b j' hq _ _
          obtain ⟨B3, B3', c1, _, _⟩ := Q7 j' _ hq
          have hle := hp.le _ _ hq
          simp only at hle
          refine ⟨by omega, ?_, ?_⟩
          . rw [hh.dom, IQ]; exact ⟨_, c1⟩
          . show g.J (E.d - (a + k)) b = g2.J (E2.d - (0 + 1)) j'
            rw [hd2, hJ2 j' _ _ hq, IQ]
    . rw [Q9 ps Bs' m (k := k) (s := s) (fun j hj => hx ⟨j, hj⟩)] at hbx
      have hr := hh.mem _ _ _ hbx
      obtain ⟨cs, a1, a2, a3⟩ := hr.heap
      have hn := b3e hp hr.le (fun j hj => hx ⟨j, hj⟩)
      have hlt := G7 a1
      have hs : ((g.Γ (g.J (E.d - k) s)).view ps E.d).still = true := by rw [hr.perm]; simp only [Perm.view, hn]; rfl
      refine ⟨hr.le, ?_, cs, ?_, a2, fun i c hc => ?_⟩
      . show (g.unview ps E.d w.heap.size g2).Γ (g.J (E.d - k) s) = _
        rw [O2 hlt hs]; exact hr.perm
      . show w'.heap[g.J (E.d - k) s]? = _
        rw [held.heap _ hlt hs]; exact a1
      . obtain ⟨b1, b2, b3, b4⟩ := a3 i c hc
        refine ⟨b1, b2, b3, ?_⟩
        exact a3v b2 b4 (by simp) (fun _ _ => true) hlat' rfl (fun _ _ h _ => h) (fun _ _ _ _ _ => rfl) (fun e v ho => a1U held (by simp only [inP, hn, Option.map_none]) ho) (fun _ => true) (fun _ _ _ _ => rfl) (fun _ _ _ _ _ => rfl) (fun _ _ _ _ _ _ => rfl) (fun _ _ _ _ _ => rfl) (fun _ _ _ _ _ => rfl) rfl (fun _ _ => rfl)
  . rw [hdm]; exact hh.dom
  . refine ⟨q5.os, q5.tape, q5.output, q5.size, hlat', fun b hb hi => ?_, fun _ _ _ => rfl⟩
    have hs : ((g.Γ b).view ps E.d).still = true := by
     rcases hi with hi | ⟨n, hi⟩ <;> rw [hi] <;> rfl
    exact ⟨O2 hb hs, held.heap b hb hs⟩
 obtain ⟨k1, k2, k3⟩ := keep
 cases q3 with
 | v _ _ _ hv ha =>
 have hvU := hv.later a3B
 rcases ha with ha | ⟨_, ha⟩
 . exact absurd ha (c1q hso)
 . have hd2 : E2.d = 1 := q4
   rw [hd2] at ha
   rcases ha with rfl | ⟨b0, n, cap, cur, rfl, hΓ, hw0, hn1, hn2, hn3⟩
   . refine ⟨[_], g.unview ps E.d w.heap.size g2, E, rfl, k1, k2, ⟨rfl, fun k y hy => ?_⟩, k3⟩
     rcases k with _ | k
     . simp at hy; subst hy
       refine .v _ _ _ (.rowI _ _ _ _ _ hvU (.inl ?_)) trivial
       cases hv with
       | sl _ _ _ _ _ us hn0 _ _ _ _ _ => exact HT hn0
     . simp at hy
   . have hnb : ¬ (b0 < w.heap.size /\ ((g.Γ b0).view ps E.d).still = true) := fun ⟨h1, h2⟩ => by
      have h3 := held.Γ b0 h1 h2
      have hΓ : g2.Γ b0 = .own (.slot 1 so) (n * g2.sz e) := hΓ
      rw [hΓ] at h3
      rw [← h3] at h2
      cases h2
     have hU : (g.unview ps E.d w.heap.size g2).Γ b0 = .low (n * g2.sz e) := by
      have hΓ : g2.Γ b0 = .own (.slot 1 so) (n * g2.sz e) := hΓ
      rw [U3 hnb, hΓ]; rfl
     have hup := c5W (w := w') hU
     refine ⟨[_], (g.unview ps E.d w.heap.size g2).at_ b0 .imm, E, rfl, ⟨k1.1.trans hup, rfl, fun _ _ h => h, fun _ _ _ _ => rfl, fun s e v ho => d6H hU (k1.2.2.2.2 s e v ho)⟩, d9j hU k2, ⟨rfl, fun k y hy => ?_⟩, ?_⟩
     . rcases k with _ | k
       . simp at hy; subst hy
         exact .v _ _ _ (.rowI _ _ _ _ _ (hvU.later hup) (.inr ⟨b0, cur, rfl, G.at_eq _ _ _, hw0⟩)) trivial
       . simp at hy
     . refine ⟨k3.os, k3.tape, k3.output, k3.size, k3.later.trans hup, fun b hb hi => ?_, k3.J⟩
       have hne : b ≠ b0 := by
        rintro rfl
        exact hnb ⟨hb, by rcases hi with hi | ⟨n, hi⟩ <;> rw [hi] <;> rfl⟩
       rw [G.at_ne _ _ _ hne]
       exact k3.hid b hb hi
end
end En
namespace En
open Go
section
variable {R : Type} {P : Gu} {T : FP -> Option Ty} {E E' : Env} {g g' : G} {w w' : Gc} {cx : Cx}
def b6y (slots : List D) : List Nat -> (List D -> Option R) -> Option R
 | [], K => K []
 | t :: ts, K => a5M slots t fun d => forceD d fun d => b6y slots ts fun ds => K (d :: ds)
theorem c1i (slots : List D) : ∀ (ts : List Nat) (K : List D -> Option R), b6y slots ts K = K (ts.map fun t => slots.getD t .any)
 | [], K => rfl
 | t :: ts, K => by simp only [b6y, N8, forceD_eq, c1i slots ts, Hp]
def b4s (cx : Cx) (fn : Func) (args : List D) (m : Mem) (ts : List Nat) (K : List D -> Mem -> List Pos -> Option R) : Option R :=
 match fn.body with
 | some c => c5L fn.ntmps args fun slots => codeK cx c ⟨slots, [] :: m, []⟩ fun e st' =>
   (match e with
    | .normal => b6y st'.slots ts fun ds => K ds st'.mem st'.dead
    | .ret => b6y st'.slots ts fun ds => K ds st'.mem st'.dead
    | _ => none)
 | none => none
theorem b9H (hcx : CxOK P cx) {f : Gv} {fn : Func} {c : Code} (hf : P.funcs[f]? = some fn) (hb : fn.body = some c) (hro : D6 P cx c) (hl : B8 cx fn.ntmps c)
 {ds : List D} {us : List FX} (Q8 : ds.length <= fn.ntmps) {m : Mem} (hh : Here cx.T E g w ([] :: m)) (hr : RepDs E g w [] ds us) {ts : List Nat} (c0o : fn.results.toList = ts.map .tmp) {K : List D -> Mem -> List Pos -> Option R} {r : R} (h : b4s cx fn ds m ts K = some r)
 {post : Ending -> Gc -> Prop} (hq : ∀ rs us' m' dead' E' g' w', K rs m' dead' = some r -> Here cx.T E' g' w' m' -> RepDs E' g' w' dead' rs us' -> E'.d = E.d -> Tr E.d g w g' w' -> post (.returned (S0 us')) w') :
 IF P f us.toArray w post := by
 refine calls_of_wp hf hb ?_
 unfold b4s at h
 rw [hb] at h
 simp only [b1R] at h
 have d7c : Sim cx.T E g w ⟨ds ++ GX (fn.ntmps - ds.length) .any, [] :: m, []⟩ { tmps := us.toArray ++ HM (fn.ntmps - us.toArray.size) undef, defers := [] } := by
  refine ⟨hh, fun s x hx => ?_, by simp [hr.1], rfl⟩
  rcases Hi s ds.length with hlt | hge
  . rw [Gh hlt] at hx
    have := hr.2 s x hx
    have e : (us.toArray ++ HM (fn.ntmps - us.toArray.size) undef).getD s undef = us.getD s undef := by
     rw [Ge, GD (by simp [hr.1]; exact hlt), FV]; simp
    rw [e]; exact this
  . rw [Gk hge, Jq] at hx
    split at hx
    . injection hx with hx; subst hx; exact .any _
    . cases hx
 refine (a8f hcx c hro).1 _ fn.ntmps _ _ w E g _ r _ hl d7c (by simp [hr.1]; omega) h fun e st' a' w' hk ht => ?_
 obtain ⟨E', g', b1, b2, b3, b4⟩ := ht
 have L7 : ∀ ts : List Nat, ((ts.map ResultVar.tmp).mapM (b2W a'.tmps)).run P w' = .ok (ts.map fun t => a'.tmps.getD t undef) w' := by
  intro ts
  induction ts with
  | nil => rfl
  | cons t ts ih =>
    rw [Hp, Jv]
    simp only [Gq, b2W, Hj, Gg, ih]
    rfl
 have d1u : (results fn a'.tmps).run P w' = .ok (S0 (ts.map fun t => a'.tmps.getD t undef)) w' := by
  rw [a3Z, Ir, c0o]
  simp only [Gq, map_eq_pure_bind, L7, Gg, Hj]
  exact congrArg (fun v => Result.ok v w') (c6P _)
 have fin : (b6y st'.slots ts fun ds => K ds st'.mem st'.dead) = some r -> ∃ v, (results fn a'.tmps).run P w' = .ok v w' /\ post (.returned v) w' := by
  intro hk
  rw [c1i] at hk
  refine ⟨_, d1u, hq _ _ _ _ E' g' w' hk b1.here ⟨by simp, fun k y hy => ?_⟩ b2 b3⟩
  rw [Gn, Gl] at hy
  obtain ⟨t, ht, rfl⟩ := hy
  have e : (ts.map fun t => a'.tmps.getD t undef).getD k undef = a'.tmps.getD t undef := by
   rw [FV, Gn, ht]; rfl
  rw [e]
  exact b1.slots.ev (T := cx.T) 0 (.tmp t)
 cases e with
 | normal => exact ⟨b1.defers, fin hk⟩
 | ret => exact ⟨b1.defers, fin hk⟩
 | exit i => cases hk
 | goto l => cases hk
mutual
theorem far_bare : ∀ (d : D), d.far = true -> d.bare.far = true
 | .v x a, h => rfl
 | .clos f caps, h => fars_bares caps h
 | .agg ds, h => fars_bares ds h
 | .tup ds, h => fars_bares ds h
 | .ptr _ _ _, h => h
 | .nilp, h => h
 | .eptr _ _, h => h
 | .nilF, h => h
 | .fn _ _ _ _, h => h
 | .bld, h => h
 | .any, h => h
theorem fars_bares : ∀ (ds : List D), fars ds = true -> fars (bares ds) = true
 | [], h => rfl
 | d :: ds, h => by
   simp only [fars, FT] at h
   simp only [bares, fars, far_bare d h.1, fars_bares ds h.2, Bool.and_self]
end
mutual
theorem bare_bare : ∀ (d : D), d.bare.bare = d.bare
 | .v x a => rfl
 | .clos f caps => congrArg (D.clos f) (bares_bares caps)
 | .agg ds => congrArg D.agg (bares_bares ds)
 | .tup ds => congrArg D.tup (bares_bares ds)
 | .ptr _ _ _ => rfl
 | .nilp => rfl
 | .eptr _ _ => rfl
 | .nilF => rfl
 | .fn _ _ _ _ => rfl
 | .bld => rfl
 | .any => rfl
theorem bares_bares : ∀ (ds : List D), bares (bares ds) = bares ds
 | [] => rfl
 | d :: ds => by simp only [bares, bare_bare d, bares_bares ds]
end
theorem b3L {b0 k : Nat} (q : APos) (hU : g.Γ b0 = .low k) : Later g w (g.at_ b0 (.own q k)) w := by
 refine ⟨rfl, fun b o v h1 h2 => ⟨?_, h2⟩, fun b x h1 h2 => ⟨?_, h2⟩⟩
 . by_cases hb : b = b0
   . subst hb; unfold s5 at h1 ⊢; rw [hU] at h1; rw [G.at_eq]; exact h1
   . exact (a1a hb).2 h1
 . have hb : b ≠ b0 := by rintro rfl; rw [hU] at h1; cases h1
   rw [G.at_ne _ _ _ hb]; exact h1
theorem c6Q {b0 k : Nat} {q : APos} (hU : g.Γ b0 = .low k) {p : APos} {e : FP} {v : FX} (h : D1 g w p e v) : D1 (g.at_ b0 (.own q k)) w p e v := by
 rcases h with h0 | ⟨b, n, cap, cur, h1, h2, h3, h4⟩
 . exact .inl h0
 . have hb : b ≠ b0 := by rintro rfl; rw [hU] at h2; cases h2
   exact .inr ⟨b, n, cap, cur, h1, by rw [G.at_ne _ _ _ hb]; exact h2, h3, h4⟩
theorem d5p {b0 k : Nat} {q : APos} (hU : g.Γ b0 = .low k) {m : Mem} (h : Here T E g w m) : Here T E (g.at_ b0 (.own q k)) w m := by
 have hk : Keeps E g w [] E (g.at_ b0 (.own q k)) w [] := ⟨b3L q hU, rfl, fun _ _ h => h, fun _ _ _ _ => rfl, fun _ h => h, fun _ _ _ _ _ ho => c6Q hU ho⟩
 refine ⟨fun k s b hb => ?_, h.dom, h.sk.later (b3L q hU), h.len⟩
 obtain ⟨h1, h2, us, h3, h4, h5⟩ := h.mem k s b hb
 have hne : g.J (E.d - k) s ≠ b0 := by intro e; rw [e, hU] at h2; cases h2
 refine ⟨h1, (G.at_ne _ _ _ hne).trans h2, us, h3, h4, fun i c hc => ?_⟩
 obtain ⟨c1, c2, c3, c4⟩ := h5 i c hc
 exact ⟨c1, c2, c3, c4.keep hk⟩
theorem b6V (hm : P.follows .mixedOrders = true) (hcx : CxOK P cx) {f : Gv} {fn : Func} (hf : P.funcs[f]? = some fn) (hb : fn.body = some (s6 fn)) (hro : (drawnOf (s6 fn)).all (a3R cx) = true) (hl : B8 cx fn.ntmps (s6 fn))
 {ds : List D} (Q8 : GY ds.length fn.ntmps = true) (b5D : fars ds = true) (c3R : bares ds = ds) {ts : List Nat} (c0o : fn.results.toList = ts.map .tmp) {rf : List D -> Mem -> List Pos -> Option R} {r : R} (h : b4s cx fn ds [] ts rf = some r)
 {x : V} {e : FP} {rs : List D} (hrs : ∀ rs' m' dd, rf rs' m' dd = some r -> ∃ a rest, rs' = .v x a :: rest /\ fars rest = true /\ bares rest = rs /\ ((∃ e', a = .nil e') ∨ (∃ s, a = .own (.slot s) e /\ O0 (.slot s) dd = false)))
 (m : Mem) (dst : Nat) : a0B P cx.T f dst ds m (.v x (.own (.slot dst) e) :: rs) m := by
 intro E g w us hh0 hus
 have hh : Here cx.T ⟨0, F4 [[]]⟩ g.hide w ([] :: []) := by
  refine ⟨fun k s b hb => ?_, rfl, hh0.sk.later (O1 g w), rfl⟩
  exfalso
  rcases k with _ | k
  . simp [Mem.box?, G2] at hb
  . simp [Mem.box?] at hb
 have hr : RepDs ⟨0, F4 [[]]⟩ g.hide w [] ds us := by
  have := hus.far_ (E' := ⟨0, F4 [[]]⟩) (dead' := []) (O1 g w) b5D
  rwa [c3R] at this
 refine b9H hcx hf hb (R0 hm hcx hro) hl (Gm Q8) hh hr c0o h fun rs' us' m' dd E' g' w' h1 h2 h3 h4 h5 => ?_
 obtain ⟨a, rest, rfl, h6, h7, h8⟩ := hrs rs' m' dd h1
 have hold : ∀ b, b < w.heap.size -> g'.Γ b = g.hide.Γ b /\ w'.heap[b]? = w.heap[b]? := fun b hb => h5.hid b hb (W1 _)
 have c3Q : Later g' w' (g.settle w.heap.size g') w' := by
  refine ⟨?_, fun b o v a1 a2 => ⟨a2f a1 fun hb => (hold b hb).1, a2⟩, fun b x a1 a2 => ⟨?_, a2⟩⟩
  rotate_left
  . unfold G.settle
    simp only
    split
    . rename_i hb
      rw [(hold b hb).1] at a1
      simp only [G.hide] at a1
      cases hp : g.Γ b <;> rw [hp] at a1 <;> first | rfl | cases a1
    . rw [a1]; rfl
  show g.sz = g'.sz
  rw [h5.later.sz]; rfl
 have ptr : PureTr g w (g.settle w.heap.size g') w' := by
  refine ⟨⟨h5.os, h5.tape, h5.output, h5.size, fun b hb => (hold b hb).2⟩, fun b hb => ?_, fun b hb => ?_, rfl, rfl⟩
  . unfold G.settle; simp only; rw [if_pos hb]
  . unfold G.settle; simp only; rw [if_neg (by omega)]; exact a9B _
 obtain ⟨hl3, hr3⟩ := h3
 have hx := hr3 0 _ rfl
 have hrest : RepDs E (g.settle w.heap.size g') w' [] rs us'.tail := by
  have : RepDs E' g' w' dd rest us'.tail := ⟨by rw [List.length_tail, hl3]; rfl, fun k y hy => by
   have := hr3 (k + 1) y (by simpa using hy)
   rw [FV] at this ⊢
   rw [List.getElem?_tail]; exact this⟩
  have := this.far_ (E' := E) (dead' := []) c3Q h6
  rwa [h7] at this
 obtain ⟨u0, ur, rfl⟩ : ∃ u0 ur, us' = u0 :: ur := by
  cases us' with
  | nil => simp at hl3
  | cons u0 ur => exact ⟨u0, ur, rfl⟩
 simp only [GN] at hx
 simp only [List.tail_cons] at hrest
 have a6Z : a0E E g w E (g.settle w.heap.size g') w' := ⟨ptr.later, rfl, fun _ _ h => h, fun _ _ _ _ => rfl, fun _ _ _ ho => ptr.own ho⟩
 cases hx with
 | v _ _ _ hv ha =>
 have fin : ∀ gO : G, Later (g.settle w.heap.size g') w' gO w' -> AttOK E gO w' [] (.own (.slot dst) e) u0 -> RepDs E gO w' [] (.v x (.own (.slot dst) e) :: rs) (u0 :: ur) := by
  intro gO hl ha
  have hk := hrest.1
  refine ⟨by simp [hk], fun k y hy => ?_⟩
  rcases k with _ | k
  . simp at hy; subst hy; exact .v _ _ _ ((hv.later c3Q).later hl) ha
  . have h9 := hrest.2 k y (by simpa using hy)
    have h10 : fars rs = true := by rw [← h7]; exact fars_bares _ h6
    have h11 : bares rs = rs := by rw [← h7]; exact bares_bares _
    have := (hrest.far_ (E' := E) (dead' := []) hl h10).2 k y (by rw [h11]; simpa using hy)
    simpa using this
 have nilcase : u0 = .slice none 0 0 -> ∃ us'' g'' E'', Ending.returned (S0 (u0 :: ur)) = .returned (S0 us'') /\ a0E E g w E'' g'' w' /\ Here cx.T E'' g'' w' m /\ RepDs E'' g'' w' [] (.v x (.own (.slot dst) e) :: rs) us'' /\ Tr E.d g w g'' w' := fun e0 =>
  ⟨_, g.settle w.heap.size g', E, rfl, a6Z, ptr.here hh0, fin _ (Later.refl _ _) (.inr ⟨trivial, .inl e0⟩), ptr.tr _⟩
 rcases h8 with ⟨e', rfl⟩ | ⟨s, rfl, hs⟩
 . exact nilcase ha
 . rcases ha with ha | ⟨_, ha⟩
   . exact absurd ha (c1q hs)
   . have h4 : E'.d = 0 := h4
     rw [h4] at ha
     rcases ha with e0 | ⟨b0, n, cap, cur, rfl, hΓ, hw0, hn1, hn2, hn3⟩
     . exact nilcase e0
     . have hΓ : g'.Γ b0 = .own (.slot 0 s) (n * g'.sz e) := hΓ
       have hnb : ¬ b0 < w.heap.size := fun hlt => by
        have h9 := (hold _ hlt).1
        rw [hΓ] at h9
        simp only [G.hide] at h9
        rcases W1 (g.Γ b0) with e | ⟨n, e⟩ <;> rw [e] at h9 <;> cases h9
       have e5S : g'.sz = g.sz := by rw [h5.later.sz]; rfl
       have hU : (g.settle w.heap.size g').Γ b0 = .low (n * g.sz e) := by
        unfold G.settle
        simp only
        rw [if_neg hnb, hΓ, e5S]; rfl
       refine ⟨_, (g.settle w.heap.size g').at_ b0 (.own (.slot E.d dst) (n * g.sz e)), E, rfl, ⟨ptr.later.trans (b3L _ hU), rfl, fun _ _ h => h, fun _ _ _ _ => rfl, fun _ _ _ ho => c6Q hU (ptr.own ho)⟩, d5p hU (ptr.here hh0), fin _ (b3L _ hU) (.inr ⟨trivial, .inr ⟨b0, n, cap, cur, rfl, G.at_eq _ _ _, hw0, hn1, hn2, ?_⟩⟩), ?_⟩
       . rw [hn3, e5S]; rfl
       . have ht := ptr.tr E.d
         refine ⟨ht.os, ht.tape, ht.output, ht.size, ht.later.trans (b3L _ hU), fun b hb hi => ?_, ht.J⟩
         rw [G.at_ne _ _ _ (by rintro rfl; exact hnb hb)]
         exact ht.hid b hb hi
def c8O {α : Type} (e : FP) (a : Att) (dd : List Pos) (K : Option α) : Option α :=
 match a with
 | .nil _ => K
 | .own p e' => (match p with | .slot s => cond (FZ e' e && !O0 (.slot s) dd) K none | _ => none)
 | .no => none
theorem b4x {α : Type} {e : FP} {a : Att} {dd : List Pos} {K : Option α} {r : α} (h : c8O e a dd K = some r) : K = some r /\ ((∃ e', a = .nil e') ∨ (∃ s, a = .own (.slot s) e /\ O0 (.slot s) dd = false)) := by
 unfold c8O at h
 split at h
 . exact ⟨h, .inl ⟨_, rfl⟩⟩
 . split at h
   . rename_i s
     rcases j8 h with ⟨hc, hk⟩ | ⟨_, hk⟩
     . simp only [FT, Bool.not_eq_true'] at hc
       obtain ⟨h1, h2⟩ := hc
       have h1 := FM h1
       subst h1
       exact ⟨hk, .inr ⟨_, rfl, h2⟩⟩
     . cases hk
   . cases h
 . cases h
end
end En
namespace En
open Go
inductive Lf where
 | i (k : IntKind)
 | b
 | y
 | s
 | l (e : Nat)
 | r (e : Nat)
abbrev Lf.ty : Lf -> Type
 | .i _ => Int
 | .b => Bool
 | .y => List UInt8
 | .s => List UInt8
 | .l _ => List V
 | .r _ => List V
def Lf.mk : (f : Lf) -> f.ty -> V
 | .i k, n => .int k n
 | .b, x => .bool x
 | .y, x => .bytes x
 | .s, x => .str x
 | .l e, x => .sl e x
 | .r e, x => .rowI e x
abbrev fI : Lf := .i .i64
abbrev fW : Lf := .i .u32
inductive Sh where
 | z
 | v (f : Lf) (r : Sh)
 | a (l r : Sh)
 | p (j : Nat) (r : Sh)
 | c (f : Nat) (l r : Sh)
 | m (f j : Nat) (r : Sh)
inductive Cel where
 | n (f : Lf)
 | o (e : Nat)
abbrev Bxs := List (Nat × List Cel)
def HL : List Lf -> Type
 | [] => Unit
 | f :: r => f.ty × HL r
def FnL : List Lf -> Type -> Type
 | [], X => X
 | f :: r, X => f.ty -> FnL r X
def apL : (l : List Lf) -> {X : Type} -> FnL l X -> HL l -> X
 | [], _, s, _ => s
 | _ :: r, _, s, h => apL r (s h.1) h.2
def Sh.lv : Sh -> List Lf -> List Lf
 | .z, q => q
 | .v f r, q => f :: r.lv q
 | .a l r, q => l.lv (r.lv q)
 | .p _ r, q => r.lv q
 | .c _ l r, q => l.lv (r.lv q)
 | .m _ _ r, q => r.lv q
def Cel.lf : Cel -> Lf
 | .n f => f
 | .o _ => .y
def lvC : List Cel -> List Lf -> List Lf
 | [], q => q
 | c :: r, q => c.lf :: lvC r q
def lvB : Bxs -> List Lf -> List Lf
 | [], q => q
 | b :: r, q => lvC b.2 (lvB r q)
def Sh.mk : (sh : Sh) -> {q : List Lf} -> HL (sh.lv q) -> List D × HL q
 | .z, _, h => ([], h)
 | .v f r, q, h => (fun t : List D × HL q => (.v (f.mk h.1) .no :: t.1, t.2)) (r.mk h.2)
 | .a l r, q, h => (fun s : List D × HL (r.lv q) => (fun t : List D × HL q => (.agg s.1 :: t.1, t.2)) (r.mk s.2)) (l.mk h)
 | .p j r, q, h => (fun t : List D × HL q => (.ptr 1 j 0 :: t.1, t.2)) (r.mk (q := q) h)
 | .c f l r, q, h => (fun s : List D × HL (r.lv q) => (fun t : List D × HL q => (.clos f s.1 :: t.1, t.2)) (r.mk s.2)) (l.mk h)
 | .m f j r, q, h => (fun t : List D × HL q => (.fn 1 [f] 1 j :: t.1, t.2)) (r.mk (q := q) h)
def Cel.mk : (c : Cel) -> c.lf.ty -> D
 | .n f, x => .v (f.mk x) .no
 | .o e, x => .v (.bytes x) (.own (.slot 0) e)
def mkC : (l : List Cel) -> {q : List Lf} -> HL (lvC l q) -> List D × HL q
 | [], _, h => ([], h)
 | c :: r, q, h => (fun t : List D × HL q => (c.mk h.1 :: t.1, t.2)) (mkC r h.2)
def mkB : (cs : Bxs) -> {q : List Lf} -> HL (lvB cs q) -> List Bx × HL q
 | [], _, h => ([], h)
 | b :: r, q, h => (fun s : List D × HL (lvB r q) => (fun t : List Bx × HL q => (⟨b.1, s.1⟩ :: t.1, t.2)) (mkB r s.2)) (mkC b.2 h)
def Tup : List Lf -> Type
 | [] => Unit
 | [f] => f.ty
 | f :: g :: r => f.ty × Tup (g :: r)
def unT : (l : List Lf) -> Tup l -> HL l
 | [], _ => ()
 | [_], t => (t, ())
 | _ :: g :: r, t => (t.1, unT (g :: r) t.2)
def toT : (l : List Lf) -> HL l -> Tup l
 | [], _ => ()
 | [_], h => h.1
 | _ :: g :: r, h => (h.1, toT (g :: r) h.2)
theorem b8R : ∀ (l : List Lf) (h : HL l), unT l (toT l h) = h
 | [], _ => rfl
 | [_], _ => rfl
 | _ :: g :: r, h => by
   show (h.1, unT (g :: r) (toT (g :: r) h.2)) = h
   rw [b8R (g :: r)]
   rfl
section
variable {R : Type}
def c4f : (l : List Lf) -> Option (Tup l) -> (HL l -> Option R) -> Option R
 | [], o, K => j3 o fun _ => K ()
 | [_], o, K => j3 o fun a => K (a, ())
 | [_, _], o, K => s7 o fun a b => K (a, b, ())
 | [_, _, _], o, K => T4 o fun a b c => K (a, b, c, ())
 | [_, _, _, _], o, K => c5B o fun a b c d => K (a, b, c, d, ())
 | [_, _, _, _, _], o, K => e0r o fun a b c d e => K (a, b, c, d, e, ())
 | [_, _, _, _, _, _], o, K => e3d o fun a b c d e f => K (a, b, c, d, e, f, ())
 | [_, _, _, _, _, _, _], o, K => e6l o fun a b c d e f g => K (a, b, c, d, e, f, g, ())
 | [_, _, _, _, _, _, _, _], o, K => e2a o fun a b c d e f g h => K (a, b, c, d, e, f, g, h, ())
 | [_, _, _, _, _, _, _, _, _], o, K => e6j o fun a b c d e f g h i => K (a, b, c, d, e, f, g, h, i, ())
 | [_, _, _, _, _, _, _, _, _, _], o, K => e1p o fun a b c d e f g h i j => K (a, b, c, d, e, f, g, h, i, j, ())
 | [_, _, _, _, _, _, _, _, _, _, _], o, K => e3P o fun a b c d e f g h i j k => K (a, b, c, d, e, f, g, h, i, j, k, ())
 | [_, _, _, _, _, _, _, _, _, _, _, _], o, K => d6f o fun a b c d e f g h i j k l => K (a, b, c, d, e, f, g, h, i, j, k, l, ())
 | [_, _, _, _, _, _, _, _, _, _, _, _, _, _, _, _], o, K => c7g o fun a b c d e f g h i j k l m n p q => K (a, b, c, d, e, f, g, h, i, j, k, l, m, n, p, q, ())
 | _, _, _ => none
theorem b7o {l : List Lf} {o : Option (Tup l)} {K : HL l -> Option R} {r : R} (h : c4f l o K = some r) : ∃ t, o = some t /\ K (unT l t) = some r := by
 cases o with
 | none => exfalso; unfold c4f at h; split at h <;> cases h
 | some t => exact ⟨t, rfl, by unfold c4f at h; split at h <;> first | exact h | cases h⟩
theorem e2s {S : Type} {l : List Lf} {o : Option (Tup l)} {F : HL l -> Option S} {K : S -> Option R} : (c4f l o F).bind K = c4f l o fun x => (F x).bind K := by
 iterate 17
  rcases l with _ | ⟨_, l⟩
  . cases o <;> rfl
 rfl
def Lf.un : (f : Lf) -> V -> (f.ty -> Option R) -> Option R
 | .i k, v, K => v.unInt k K
 | .b, v, K => v.unBool K
 | .y, v, K => v.unBytes K
 | .s, v, K => v.unStr K
 | .l e, v, K => v.unSl e K
 | .r _, _, _ => none
theorem Lf.un_some {f : Lf} {v : V} {K : f.ty -> Option R} {r : R} (h : f.un v K = some r) : ∃ x, v = f.mk x /\ K x = some r := by
 cases f with
 | i k =>
   cases v <;> simp only [Lf.un, V.unInt, reduceCtorEq] at h
   split at h
   . rename_i e; subst e; exact ⟨_, rfl, h⟩
   . cases h
 | b => cases v <;> simp only [Lf.un, V.unBool, reduceCtorEq] at h; exact ⟨_, rfl, h⟩
 | y => cases v <;> simp only [Lf.un, V.unBytes, reduceCtorEq] at h; exact ⟨_, rfl, h⟩
 | s => cases v <;> simp only [Lf.un, V.unStr, reduceCtorEq] at h; exact ⟨_, rfl, h⟩
 | l e =>
   cases v <;> simp only [Lf.un, V.unSl, reduceCtorEq] at h
   rcases j8 h with ⟨e1, h⟩ | ⟨_, h⟩
   . obtain rfl := FM e1; exact ⟨_, rfl, h⟩
   . cases h
 | r e => cases h
theorem Lf.un_b {S : Type} {f : Lf} {v : V} {F : f.ty -> Option S} {K : S -> Option R} : (f.un v F).bind K = f.un v fun x => (F x).bind K := by
 cases f with
 | i k =>
   cases v <;> simp only [Lf.un, V.unInt, Hm]
   split <;> rfl
 | b => cases v <;> simp only [Lf.un, V.unBool, Hm]
 | y => cases v <;> simp only [Lf.un, V.unBytes, Hm]
 | s => cases v <;> simp only [Lf.un, V.unStr, Hm]
 | l e => cases v <;> simp only [Lf.un, V.unSl, Hm, H4]
 | r e => rfl
abbrev PS := List (Nat × Nat × Nat)
def look : PS -> Nat -> Option (Nat × Nat)
 | [], _ => none
 | x :: r, i => match FZ x.1 i with | true => some x.2 | false => look r i
def Sh.take (n : Nat) : (sh : Sh) -> {q : List Lf} -> List D -> PS -> (PS -> (HL q -> HL (sh.lv q)) -> Option R) -> Option R
 | .z, _, ds, ps, K => match ds with | [] => K ps id | _ => none
 | .v f r, _, ds, ps, K => match ds with | .v x .no :: ds => f.un x fun a => r.take n ds ps fun ps g => K ps fun y => (a, g y) | _ => none
 | .a l r, _, ds, ps, K => match ds with | .agg cs :: ds => l.take n cs ps fun ps gl => r.take n ds ps fun ps gr => K ps fun y => gl (gr y) | _ => none
 | .p j r, _, ds, ps, K => match ds with | .ptr (k + 1) s 0 :: ds => (match look ps j with | none => cond (GS j n) (r.take n ds ((j, k, s) :: ps) K) none | some _ => none) | _ => none
 | .c f l r, _, ds, ps, K => match ds with | .clos f' cs :: ds => cond (FZ f' f) (l.take n cs ps fun ps gl => r.take n ds ps fun ps gr => K ps fun y => gl (gr y)) none | _ => none
 | .m f j r, _, ds, ps, K => match ds with | .fn i fs k s :: ds => (match look ps j with | some pp => cond (c0r i fs f && (FZ k (pp.1 + 1) && FZ s pp.2)) (r.take n ds ps K) none | none => none) | _ => none
def Ext (ps ps' : PS) : Prop := ∀ j p, look ps j = some p -> look ps' j = some p
def e6R (n : Nat) (ps : PS) (P : List (Nat × Nat)) : Prop := ∀ j p, j < n -> look ps j = some p -> P[j]? = some p
def Sh.flat : Sh -> Bool
 | .z => true
 | .v _ r => r.flat
 | .a l r => l.flat && r.flat
 | .p _ _ => false
 | .c _ l r => l.flat && r.flat
 | .m _ _ _ => false
theorem d0d {ps : PS} {j : Nat} {p : Nat × Nat} (h : look ps j = none) : Ext ps ((j, p) :: ps) := by
 intro i q hi
 show (match FZ j i with | true => some p | false => look ps i) = some q
 cases e : FZ j i with
 | true => rw [← FM e, h] at hi; cases hi
 | false => exact hi
theorem d1q {ps : PS} {j : Nat} {p : Nat × Nat} : look ((j, p) :: ps) j = some p := by
 show (match FZ j j with | true => some p | false => look ps j) = some p
 rw [show FZ j j = true by induction j with | zero => rfl | succ n ih => exact ih]
structure Took (n : Nat) (sh : Sh) (q : List Lf) (ds : List D) (ps ps' : PS) (g : HL q -> HL (sh.lv q)) (ds₁ : List D) : Prop where
 eq : ∀ y : HL q, sh.mk (g y) = (ds₁, y)
 ext : Ext ps ps'
 ren : ∀ P, e6R n ps' P -> (∀ j p, look ps' j = some p -> j < n) -> ARens P ds ds₁
 lt : (∀ j p, look ps j = some p -> j < n) -> ∀ j p, look ps' j = some p -> j < n
 flat : sh.flat = true -> ds = ds₁
theorem Sh.take_some {n : Nat} : ∀ (sh : Sh) {q : List Lf} (ds : List D) (ps : PS) (K : PS -> (HL q -> HL (sh.lv q)) -> Option R) (r : R), sh.take n ds ps K = some r -> ∃ ps' g ds₁, K ps' g = some r /\ Took n sh q ds ps ps' g ds₁ := by
 intro sh
 induction sh with
 | z =>
   intro q ds ps K r h
   simp only [Sh.take] at h
   split at h
   . exact ⟨ps, id, [], h, fun y => rfl, fun _ _ h => h, fun _ _ _ => trivial, fun h => h, fun _ => rfl⟩
   . cases h
 | v f sh ih =>
   intro q ds ps K r h
   simp only [Sh.take] at h
   split at h
   . obtain ⟨a, e0, h2⟩ := Lf.un_some h
     clear h; subst e0; have h := h2; clear h2
     obtain ⟨ps', g, ds₁, h, t⟩ := ih _ _ _ _ h
     refine ⟨ps', _, .v (f.mk a) .no :: ds₁, h, fun y => ?_, t.ext, fun P hP hn => ⟨M8 _, t.ren P hP hn⟩, t.lt, fun e => by rw [t.flat e]⟩
     simp only [Sh.mk, t.eq]
   . cases h
 | a l sh ihl ih =>
   intro q ds ps K r h
   simp only [Sh.take] at h
   split at h
   . obtain ⟨ps1, gl, cs₁, h, u⟩ := ihl _ _ _ _ h
     obtain ⟨ps', g, ds₁, h, t⟩ := ih _ _ _ _ h
     refine ⟨ps', _, .agg cs₁ :: ds₁, h, fun y => ?_, fun j p hj => t.ext j p (u.ext j p hj), fun P hP hn => ⟨a5K (u.ren P (fun j p hlt hj => hP j p hlt (t.ext j p hj)) fun j p hj => hn j p (t.ext j p hj)), t.ren P hP hn⟩, fun h0 => t.lt (u.lt h0), fun e => ?_⟩
     . simp only [Sh.mk, u.eq, t.eq]
     . simp only [Sh.flat, FT] at e
       rw [u.flat e.1, t.flat e.2]
   . cases h
 | p j sh ih =>
   intro q ds ps K r h
   simp only [Sh.take] at h
   split at h
   . rename_i k s ds'
     split at h
     . rename_i hj
       rcases j8 h with ⟨e1, h⟩ | ⟨_, h⟩
       . obtain ⟨ps', g, ds₁, h, t⟩ := ih _ _ _ _ h
         have e1 := Gm e1
         have hl := t.ext j (k, s) d1q
         refine ⟨ps', g, .ptr 1 j 0 :: ds₁, h, fun y => ?_, fun i p hi => t.ext i p (d0d hj i p hi), fun P hP hn => ⟨G0 _ (hP j _ (by omega) hl), t.ren P hP hn⟩, fun h0 => t.lt fun i p hi => ?_, fun e => by cases e⟩
         . have := t.eq y
           simp only [Sh.mk, this]
         . have hi : (match FZ j i with | true => some (k, s) | false => look ps i) = some p := hi
           cases e : FZ j i with
           | true => have := FM e; omega
           | false => rw [e] at hi; exact h0 i p hi
       . cases h
     . cases h
   . cases h
 | c f l sh ihl ih =>
   intro q ds ps K r h
   simp only [Sh.take] at h
   split at h
   . rcases j8 h with ⟨e1, h⟩ | ⟨_, h⟩
     . obtain rfl := FM e1
       obtain ⟨ps1, gl, cs₁, h, u⟩ := ihl _ _ _ _ h
       obtain ⟨ps', g, ds₁, h, t⟩ := ih _ _ _ _ h
       refine ⟨ps', _, .clos _ cs₁ :: ds₁, h, fun y => ?_, fun j p hj => t.ext j p (u.ext j p hj), fun P hP hn => ⟨a0X (u.ren P (fun j p hlt hj => hP j p hlt (t.ext j p hj)) fun j p hj => hn j p (t.ext j p hj)), t.ren P hP hn⟩, fun h0 => t.lt (u.lt h0), fun e => ?_⟩
       . simp only [Sh.mk, u.eq, t.eq]
       . simp only [Sh.flat, FT] at e
         rw [u.flat e.1, t.flat e.2]
     . cases h
   . cases h
 | m f j sh ih =>
   intro q ds ps K r h
   simp only [Sh.take] at h
   split at h
   . split at h
     . rename_i p hj
       rcases j8 h with ⟨e1, h3⟩ | ⟨_, h3⟩
       . obtain ⟨rfl, rfl, rfl, rfl⟩ := c0p e1
         obtain ⟨ps', g, ds₁, h, t⟩ := ih _ _ _ _ h3
         refine ⟨ps', g, .fn 1 [f] 1 j :: ds₁, h, fun y => ?_, t.ext, fun P hP hn => ⟨c8z (hP j _ (hn j _ (t.ext j _ hj)) (t.ext j _ hj)), t.ren P hP hn⟩, t.lt, fun e => by cases e⟩
         have := t.eq y
         simp only [Sh.mk, this]
       . cases h3
     . cases h
   . cases h
theorem Sh.take_b {n : Nat} {S : Type} {K : S -> Option R} : ∀ (sh : Sh) {q : List Lf} (ds : List D) (ps : PS) (F : PS -> (HL q -> HL (sh.lv q)) -> Option S), (sh.take n ds ps F).bind K = sh.take n ds ps fun ps g => (F ps g).bind K := by
 intro sh
 induction sh with
 | z => intro q ds ps F; simp only [Sh.take]; split <;> rfl
 | v f sh ih =>
   intro q ds ps F; simp only [Sh.take]; split
   . rw [Lf.un_b]; simp only [ih]
   . rfl
 | a l sh ihl ih =>
   intro q ds ps F; simp only [Sh.take]; split
   . rw [ihl]; simp only [ih]
   . rfl
 | p j sh ih =>
   intro q ds ps F; simp only [Sh.take]; split
   . split
     . generalize GS j n = bb
       cases bb
       . rfl
       . exact ih (q := q) _ _ _
     . rfl
   . rfl
 | c f l sh ihl ih =>
   intro q ds ps F; simp only [Sh.take]; split
   . rw [H4, ihl]; simp only [ih]; rfl
   . rfl
 | m f j sh ih =>
   intro q ds ps F; simp only [Sh.take]; split
   . split
     . rename_i pp _
       generalize (c0r _ _ f && (FZ _ (pp.1 + 1) && FZ _ pp.2)) = bb
       cases bb
       . rfl
       . exact ih (q := q) _ _ _
     . rfl
   . rfl
def d7h (ps : PS) : Nat -> Nat -> (List (Nat × Nat) -> Option R) -> Option R
 | 0, _, K => K []
 | n + 1, i, K => match look ps i with | some p => d7h ps n (i + 1) fun l => K (p :: l) | none => none
theorem b7i {ps : PS} : ∀ (n i : Nat) (K : List (Nat × Nat) -> Option R) (r : R), d7h ps n i K = some r -> ∃ P, K P = some r /\ ∀ j, j < n -> P[j]? = look ps (i + j)
 | 0, i, K, r, h => ⟨[], h, fun j hj => by omega⟩
 | n + 1, i, K, r, h => by
   simp only [d7h] at h
   split at h
   . rename_i p hp
     obtain ⟨P, h, hP⟩ := b7i n (i + 1) _ r h
     refine ⟨p :: P, h, fun j hj => ?_⟩
     rcases j with _ | j
     . rw [Nat.add_zero, hp]; rfl
     . rw [List.getElem?_cons_succ, hP j (by omega)]
       congr 1; omega
   . cases h
def b1l : (l : List Cel) -> {q : List Lf} -> List D -> ((HL q -> HL (lvC l q)) -> Option R) -> Option R
 | [], _, ds, K => match ds with | [] => K id | _ => none
 | .n f :: r, _, ds, K => match ds with | .v x .no :: ds => f.un x fun a => b1l r ds fun g => K fun y => (a, g y) | _ => none
 | .o e :: r, _, ds, K => match ds with | .v (.bytes x) (.own (.slot 0) e') :: ds => cond (FZ e' e) (b1l r ds fun g => K fun y => (x, g y)) none | _ => none
theorem a3E : ∀ (l : List Cel) {q : List Lf} (ds : List D) (K : (HL q -> HL (lvC l q)) -> Option R) (r : R), b1l l ds K = some r -> ∃ g, K g = some r /\ ∀ y : HL q, mkC l (g y) = (ds, y)
 | [], q, ds, K, r, h => by
   simp only [b1l] at h
   split at h
   . exact ⟨id, h, fun y => rfl⟩
   . cases h
 | .n f :: l, q, ds, K, r, h => by
   simp only [b1l] at h
   split at h
   . obtain ⟨a, e0, h2⟩ := Lf.un_some h
     clear h; subst e0; have h := h2; clear h2
     obtain ⟨g, h, hg⟩ := a3E l _ _ _ h
     refine ⟨_, h, fun y => ?_⟩
     simp only [mkC, hg, Cel.mk]
   . cases h
 | .o e :: l, q, ds, K, r, h => by
   simp only [b1l] at h
   split at h
   . rcases j8 h with ⟨e1, h⟩ | ⟨_, h⟩
     . obtain rfl := FM e1
       obtain ⟨g, h, hg⟩ := a3E l _ _ _ h
       refine ⟨_, h, fun y => ?_⟩
       simp only [mkC, hg, Cel.mk]
     . cases h
   . cases h
def c2V : (cs : Bxs) -> {q : List Lf} -> List Bx -> ((HL q -> HL (lvB cs q)) -> Option R) -> Option R
 | [], _, Bxs, K => match Bxs with | [] => K id | _ => none
 | b :: r, _, Bxs, K => match Bxs with | B :: Bxs => cond (FZ B.ty b.1) (b1l b.2 B.cells fun gl => c2V r Bxs fun gr => K fun y => gl (gr y)) none | _ => none
theorem b4n : ∀ (cs : Bxs) {q : List Lf} (Bxs : List Bx) (K : (HL q -> HL (lvB cs q)) -> Option R) (r : R), c2V cs Bxs K = some r -> ∃ g, K g = some r /\ ∀ y : HL q, mkB cs (g y) = (Bxs, y)
 | [], q, Bxs, K, r, h => by
   simp only [c2V] at h
   split at h
   . exact ⟨id, h, fun y => rfl⟩
   . cases h
 | b :: cs, q, Bxs, K, r, h => by
   simp only [c2V] at h
   split at h
   . rename_i B Bxs'
     rcases j8 h with ⟨e1, h⟩ | ⟨_, h⟩
     . have e1 := FM e1
       obtain ⟨gl, h, hl⟩ := a3E _ _ _ _ h
       obtain ⟨g, h, hg⟩ := b4n cs _ _ _ h
       refine ⟨_, h, fun y => ?_⟩
       simp only [mkB, hl, hg, ← e1]
     . cases h
   . cases h
def Sh.give : (sh : Sh) -> {q : List Lf} -> List D -> ((HL q -> HL (sh.lv q)) -> Option R) -> Option R
 | .z, _, ds, K => match ds with | [] => K id | _ => none
 | .v f r, _, ds, K => match ds with | .v x _ :: ds => f.un x fun a => r.give ds fun g => K fun y => (a, g y) | _ => none
 | .a l r, _, ds, K => match ds with | .agg cs :: ds => l.give cs fun gl => r.give ds fun gr => K fun y => gl (gr y) | _ => none
 | _, _, _, _ => none
theorem Sh.give_some : ∀ (sh : Sh) {q : List Lf} (ds : List D) (K : (HL q -> HL (sh.lv q)) -> Option R) (r : R), sh.give ds K = some r -> ∃ g, K g = some r /\ fars ds = true /\ ∀ y : HL q, sh.mk (g y) = (bares ds, y) := by
 intro sh
 induction sh with
 | z =>
   intro q ds K r h
   simp only [Sh.give] at h
   split at h
   . exact ⟨id, h, rfl, fun y => rfl⟩
   . cases h
 | v f sh ih =>
   intro q ds K r h
   simp only [Sh.give] at h
   split at h
   . obtain ⟨a, e0, h2⟩ := Lf.un_some h
     clear h; subst e0; have h := h2; clear h2
     obtain ⟨g, h, hf, hg⟩ := ih _ _ _ h
     refine ⟨_, h, by simpa [fars, D.far] using hf, fun y => ?_⟩
     simp only [Sh.mk, hg, bares, D.bare]
   . cases h
 | a l sh ihl ih =>
   intro q ds K r h
   simp only [Sh.give] at h
   split at h
   . obtain ⟨gl, h, hfl, hl⟩ := ihl _ _ _ h
     obtain ⟨g, h, hf, hg⟩ := ih _ _ _ h
     refine ⟨_, h, by simp [fars, D.far, hf, hfl], fun y => ?_⟩
     simp only [Sh.mk, hl, hg, bares, D.bare]
   . cases h
 | p j sh ih => intro q ds K r h; cases h
 | c f l sh ihl ih => intro q ds K r h; cases h
 | m f j sh ih => intro q ds K r h; cases h
def c2g : (cs : Bxs) -> {q : List Lf} -> Nat -> Fr -> ((HL q -> HL (lvB cs q)) -> Option R) -> Option R
 | [], _, _, fr, K => match fr with | [] => K id | _ => none
 | b :: r, _, i, fr, K => match fr with | x :: fr => cond (FZ x.1 i && FZ x.2.ty b.1) (b1l b.2 x.2.cells fun gl => c2g r (i + 1) fr fun gr => K fun y => gl (gr y)) none | _ => none
theorem b4H : ∀ (cs : Bxs) {q : List Lf} (i : Nat) (fr : Fr) (K : (HL q -> HL (lvB cs q)) -> Option R) (r : R), c2g cs i fr K = some r -> ∃ g Bxs, K g = some r /\ fr = J4 i Bxs /\ ∀ y : HL q, mkB cs (g y) = (Bxs, y)
 | [], q, i, fr, K, r, h => by
   simp only [c2g] at h
   split at h
   . exact ⟨id, [], h, rfl, fun y => rfl⟩
   . cases h
 | b :: cs, q, i, fr, K, r, h => by
   simp only [c2g] at h
   split at h
   . rename_i x fr'
     rcases j8 h with ⟨e1, h⟩ | ⟨_, h⟩
     . simp only [FT] at e1
       have e2 := FM e1.1
       have e3 := FM e1.2
       obtain ⟨gl, h, hl⟩ := a3E _ _ _ _ h
       obtain ⟨g, Bxs, h, hf, hg⟩ := b4H cs _ _ _ _ h
       refine ⟨_, x.2 :: Bxs, h, ?_, fun y => ?_⟩
       . rw [hf, J4, ← e2]
       . simp only [mkB, hl, hg, ← e3]
     . cases h
   . cases h
def rgP (rs : Sh) (K : HL (rs.lv []) -> Option R) (ds : List D) (m : Mem) : Option R := rs.give ds fun g => K (g ())
def rgV (rs : Sh) (cs : Bxs) (K : HL (rs.lv (lvB cs [])) -> Option R) (ds : List D) (m : Mem) : Option R :=
 match m with
 | [_, fr] => rs.give ds fun g => c2g cs 0 fr fun h => K (g (h ()))
 | _ => none
theorem c0s {rs : Sh} {cs : Bxs} {K : HL (rs.lv (lvB cs [])) -> Option R} {ds : List D} {m : Mem} {r : R} (h : rgV rs cs K ds m = some r) : ∃ x, K x = some r /\ fars ds = true /\ bares ds = (rs.mk x).1 /\ ∃ own, m = [own, J4 0 (mkB cs (rs.mk x).2).1] := by
 unfold rgV at h
 split at h
 . obtain ⟨g, h, hf, hg⟩ := Sh.give_some _ _ _ _ h
   obtain ⟨g2, B, h5, e5, hB⟩ := b4H _ _ _ _ _ h
   have e := hg (g2 ())
   refine ⟨_, h5, hf, (congrArg Prod.fst e).symm, _, congrArg (fun z => [_, z]) (e5.trans (congrArg (J4 0) ?_))⟩
   exact (congrArg Prod.fst (hB ())).symm.trans (congrArg (fun z => (mkB cs (Prod.snd z)).1) e).symm
 . cases h
end
def pE (f : Nat) (sa rs : Sh) (s : FnL (sa.lv []) (Option (Tup (rs.lv [])))) : Ent := ⟨f, fun ds K => sa.take 0 ds [] fun _ g => c4f _ (apL _ s (g ())) fun t => K (rs.mk t).1⟩
def POK (P : Gu) (T : FP -> Option Ty) (f : Nat) (sa rs : Sh) (s : FnL (sa.lv []) (Option (Tup (rs.lv [])))) : Prop :=
 ∀ (h : HL (sa.lv [])) t, apL _ s h = some t -> H8 P T f (sa.mk h).1 (rs.mk (unT _ t)).1
section
variable {P : Gu} {T : FP -> Option Ty} {cx : Cx} {f : Gv} {fn : Func}
theorem a1i {sa rs : Sh} {s : FnL (sa.lv []) (Option (Tup (rs.lv [])))} (hg : a4z P f) (hfl : sa.flat = true) (hs : POK P T f sa rs s) : EntOK P T (pE f sa rs s) := by
 refine ⟨hg, fun R ds K r h => ?_, fun R ds K => ?_⟩
 . obtain ⟨ps, g, ds₁, h, t⟩ := Sh.take_some _ _ _ _ _ h
   obtain ⟨x, hx, h⟩ := b7o h
   refine ⟨_, h, ?_⟩
   have hv : ∀ z, sa.mk (g ()) = z -> H8 P T f z.1 (rs.mk (unT _ x)).1 := by
    rintro z rfl
    exact hs (g ()) x hx
   rw [t.flat hfl]
   exact hv _ (t.eq ())
 . show sa.take 0 ds [] _ = Option.bind (sa.take 0 ds [] _) K
   rw [Sh.take_b]
   simp only [e2s]
   rfl
theorem e1D : ∀ (sh : Sh) {q : List Lf} (h : HL (sh.lv q)), sh.flat = true -> fars (sh.mk h).1 = true /\ bares (sh.mk h).1 = (sh.mk h).1 := by
 intro sh
 induction sh with
 | z => intro q h _; exact ⟨rfl, rfl⟩
 | v f sh ih =>
   intro q h e
   obtain ⟨a, b⟩ := ih (q := q) h.2 e
   exact ⟨by simp only [Sh.mk, fars, D.far, a, GC], by simp only [Sh.mk, bares, D.bare, b]⟩
 | a l sh ihl ih =>
   intro q h e
   simp only [Sh.flat, FT] at e
   obtain ⟨c, d⟩ := ihl (q := sh.lv q) h e.1
   obtain ⟨a, b⟩ := ih (q := q) (l.mk (q := sh.lv q) h).2 e.2
   exact ⟨by simp only [Sh.mk, fars, D.far, a, c, GC], by simp only [Sh.mk, bares, D.bare, b, d]⟩
 | p j sh ih => intro q h e; cases e
 | c f l sh ihl ih =>
   intro q h e
   simp only [Sh.flat, FT] at e
   obtain ⟨c, d⟩ := ihl (q := sh.lv q) h e.1
   obtain ⟨a, b⟩ := ih (q := q) (l.mk (q := sh.lv q) h).2 e.2
   exact ⟨by simp only [Sh.mk, fars, D.far, a, c, GC], by simp only [Sh.mk, bares, D.bare, b, d]⟩
 | m f j sh ih => intro q h e; cases e
def Sh.len : Sh -> Nat
 | .z => 0
 | .v _ r => r.len + 1
 | .a _ r => r.len + 1
 | .p _ r => r.len + 1
 | .c _ _ r => r.len + 1
 | .m _ _ r => r.len + 1
theorem c6o : ∀ (sh : Sh) {q : List Lf} (h : HL (sh.lv q)), (sh.mk h).1.length = sh.len := by
 intro sh
 induction sh with
 | z => intro q h; rfl
 | v f sh ih => intro q h; simp only [Sh.mk, FO, Sh.len]; rw [ih h.2]
 | a l sh ihl ih => intro q h; simp only [Sh.mk, FO, Sh.len]; rw [ih (q := q) (l.mk (q := sh.lv q) h).2]
 | p j sh ih => intro q h; simp only [Sh.mk, FO, Sh.len]; rw [ih (q := q) h]
 | c f l sh ihl ih => intro q h; simp only [Sh.mk, FO, Sh.len]; rw [ih (q := q) (l.mk (q := sh.lv q) h).2]
 | m f j sh ih => intro q h; simp only [Sh.mk, FO, Sh.len]; rw [ih (q := q) h]
def okB (cx : Cx) (fn : Func) (sa : Sh) : Bool := fn.body.isSome && ((drawnOf (s6 fn)).all (a3R cx) && GY sa.len fn.ntmps)
theorem a3x (h : fn.body.isSome = true) : fn.body = some (s6 fn) := by
 unfold s6
 cases e : fn.body with
 | none => rw [e] at h; cases h
 | some c => rfl
theorem pok (hm : P.follows .mixedOrders = true) (hcx : CxOK P cx) (hl : B8 cx fn.ntmps (s6 fn)) (hf : P.funcs[f]? = some fn) {sa rs : Sh} (hk : okB cx fn sa = true) (hfl : sa.flat = true) {s : FnL (sa.lv []) (Option (Tup (rs.lv [])))}
 (hC : ∀ h, M4 cx fn (sa.mk h).1 [] (rgP rs fun x => some (toT _ x)) = apL _ s h) : POK P cx.T f sa rs s := by
 intro h t ht
 simp only [okB, FT] at hk
 obtain ⟨a, b⟩ := e1D sa h hfl
 refine c8C hm hcx hf (a3x hk.1) hk.2.1 hl (by rw [c6o]; exact hk.2.2) a b ((hC h).trans ht) fun rs' m hr => ?_
 obtain ⟨g, hr, b5D, hg⟩ := Sh.give_some _ _ _ _ hr
 injection hr with hr
 subst hr
 exact ⟨b5D, ((congrArg (fun z => (rs.mk z).1) (b8R _ (g ()))).trans (congrArg Prod.fst (hg ()))).symm⟩
def d9e : (ch : Bool) -> (cs : Bxs) -> List Bx -> HL (cond ch (lvB cs []) []) -> List Bx
 | true, cs, _, h => (mkB cs h).1
 | false, _, B, _ => B
def vE (f : Nat) (sa : Sh) (cs : Bxs) (rs : Sh) (ch : Bool) (s : FnL (sa.lv (lvB cs [])) (Option (Tup (rs.lv (cond ch (lvB cs []) []))))) : MEnt :=
 ⟨f, fun dst ds m K => sa.take cs.length ds [] fun ps g => d7h ps cs.length 0 fun P => a0s P m fun B => c2V cs B fun h => c4f _ (apL _ s (g (h ()))) fun t => J5 P (d9e ch cs B (rs.mk t).2) m fun m' => K (rs.mk t).1 m'⟩
def VOK (P : Gu) (T : FP -> Option Ty) (f : Nat) (sa : Sh) (cs : Bxs) (rs : Sh) (ch : Bool) (s : FnL (sa.lv (lvB cs [])) (Option (Tup (rs.lv (cond ch (lvB cs []) []))))) : Prop :=
 ∀ (h : HL (sa.lv (lvB cs []))) t, apL _ s h = some t -> V8 P T f (sa.mk h).1 (mkB cs (sa.mk h).2).1 (rs.mk (unT _ t)).1 (d9e ch cs (mkB cs (sa.mk h).2).1 (rs.mk (unT _ t)).2)
theorem c7a : ∀ (cs : Bxs) {q : List Lf} (h : HL (lvB cs q)), (mkB cs h).1.length = cs.length
 | [], q, h => rfl
 | b :: cs, q, h => by simp only [mkB, FO]; rw [c7a cs]
theorem b4I : ∀ (l : List Cel) {q : List Lf} (h : HL (lvC l q)), (mkC l h).1.all D.calm = true
 | [], q, h => rfl
 | .n f :: l, q, h => by simp only [mkC, Kq, b4I l h.2, Cel.mk, D.calm, GC]
 | .o e :: l, q, h => by simp only [mkC, Kq, b4I l h.2, Cel.mk, D.calm, GC]
theorem a4M : ∀ (cs : Bxs) {q : List Lf} (h : HL (lvB cs q)), a8G (mkB cs h).1 = true
 | [], q, h => rfl
 | b :: cs, q, h => by
   have e := b4I b.2 (q := lvB cs q) h
   simp only [mkB, a8G, a4M cs, GC]
   exact e
theorem e1e {sa : Sh} {cs : Bxs} {rs : Sh} {ch : Bool} {s : FnL (sa.lv (lvB cs [])) (Option (Tup (rs.lv (cond ch (lvB cs []) []))))} (hg : a4z P f) (hs : VOK P T f sa cs rs ch s) : MEntOK P T (vE f sa cs rs ch s) := by
 refine ⟨hg, fun R dst ds m K r h => ?_⟩
 obtain ⟨ps, g, ds₁, h, t⟩ := Sh.take_some _ _ _ _ _ h
 obtain ⟨Pl, h, hP⟩ := b7i _ _ _ _ h
 obtain ⟨B, a1, a2, a3, h⟩ := F8 h
 obtain ⟨gb, h, hB⟩ := b4n _ _ _ _ h
 obtain ⟨x, hx, h⟩ := b7o h
 rw [F5] at h
 have hlt := t.lt (fun j p hj => by cases hj)
 have hv : ∀ z, sa.mk (g (gb ())) = z -> ∀ y, mkB cs z.2 = y -> V8 P T f z.1 y.1 (rs.mk (unT _ x)).1 (d9e ch cs y.1 (rs.mk (unT _ x)).2) := by
  rintro z rfl y rfl
  exact hs (g (gb ())) x hx
 exact ⟨_, _, h, hv _ (t.eq _) _ (hB ()) Pl ds m dst a1 a2 a3 (t.ren Pl (fun j p hj hl => by rw [hP j hj, GL]; exact hl) hlt)⟩
theorem vok (hm : P.follows .mixedOrders = true) (hcx : CxOK P cx) (hl : B8 cx fn.ntmps (s6 fn)) (hf : P.funcs[f]? = some fn) {sa : Sh} {cs : Bxs} {rs : Sh} (hk : okB cx fn sa = true) {s : FnL (sa.lv (lvB cs [])) (Option (Tup (rs.lv (lvB cs []))))}
 (hC : ∀ h, M4 cx fn (sa.mk h).1 [J4 0 (mkB cs (sa.mk h).2).1] (rgV rs cs fun x => some (toT _ x)) = apL _ s h) : VOK P cx.T f sa cs rs true s := by
 intro h t ht
 simp only [okB, FT] at hk
 refine b1G hm hcx hf (a3x hk.1) hk.2.1 hl (by rw [c6o]; exact hk.2.2) (a4M _ _) (a4M _ _) (by simp only [d9e, c7a]) ((hC h).trans ht) fun rs' m hr => ?_
 obtain ⟨x, hx, h1, h2, own, h3⟩ := c0s hr
 injection hx with hx
 subst hx
 have e := b8R _ x
 exact ⟨h1, h2.trans (congrArg (fun z => (rs.mk z).1) e).symm, own, h3.trans (congrArg (fun z => [own, J4 0 (mkB cs (rs.mk z).2).1]) e).symm⟩
open Classical in
theorem wok (hm : P.follows .mixedOrders = true) (hcx : CxOK P cx) (hl : B8 cx fn.ntmps (s6 fn)) (hf : P.funcs[f]? = some fn) {sa : Sh} {cs : Bxs} {lf : Lf} (hk : okB cx fn sa = true) {s : FnL (sa.lv (lvB cs [])) (Option lf.ty)} (C : (α : Type) -> FnL (sa.lv (lvB cs [])) ((lf.ty -> Option α) -> Option α))
 (hC : ∀ (α : Type) h (K : lf.ty -> HL (lvB cs []) -> Option α), M4 cx fn (sa.mk h).1 [J4 0 (mkB cs (sa.mk h).2).1] (rgV (.v lf .z) cs fun x => K x.1 x.2) = apL _ (C α) h fun e => K e (sa.mk h).2) (hs : ∀ h, apL _ (C _) h some = apL _ s h) : VOK P cx.T f sa cs (.v lf .z) false s := by
 intro h t ht
 simp only [okB, FT] at hk
 have e := hC lf.ty h fun e y => if y = (sa.mk h).2 then some e else none
 simp only [if_true] at e
 refine b1G hm hcx hf (a3x hk.1) hk.2.1 hl (by rw [c6o]; exact hk.2.2) (a4M _ _) (a4M _ _) rfl (e.trans ((hs h).trans ht)) fun rs' m hr => ?_
 obtain ⟨x, hx, h1, h2, own, h3⟩ := c0s hr
 split at hx
 . rename_i hy
   injection hx with hx
   refine ⟨h1, ?_, own, ?_⟩
   . rw [h2, ← hx]; rfl
   . rw [h3]
     show [own, J4 0 (mkB cs x.2).1] = _
     rw [hy]
 . cases hx
end
abbrev cz (es : List Ent) (ms : List MEnt) (d : Bool := false) : Cx := { T := T, isPure := a5b es, pureK := fun g ds K => a1K es g ds K, memK := fun g dst ds m K => W4 ms g dst ds m K, meth := a2E [], keep := fun _ => [], keepX := fun _ => [], loopT := fun _ _ _ _ => none, jumps := 9, dyn := d }
structure Lp where
 r : Nat
 k : List Nat
 x : List Nat
 l : {R : Type} -> List D -> Mem -> (Ex -> List D -> Mem -> Option R) -> Option R
def lpk : List Lp -> Nat -> List Nat
 | [], _ => []
 | a :: r, q => match FZ q a.r with | true => a.k | false => lpk r q
def lpx : List Lp -> Nat -> List Nat
 | [], _ => []
 | a :: r, q => match FZ q a.r with | true => a.x | false => lpx r q
def lpl {R : Type} : List Lp -> Nat -> List D -> Mem -> (Ex -> List D -> Mem -> Option R) -> Option R
 | [], _, _, _, _ => none
 | a :: r, q, ds, m, K => match FZ q a.r with | true => a.l ds m K | false => lpl r q ds m K
abbrev cl (es : List Ent) (ms : List MEnt) (ls : List Lp) (d : Bool := false) : Cx := { T := T, isPure := a5b es, pureK := fun g ds K => a1K es g ds K, memK := fun g dst ds m K => W4 ms g dst ds m K, meth := a2E [], keep := lpk ls, keepX := lpx ls, loopT := lpl ls, jumps := 9, dyn := d }
theorem A9 {es : List Ent} {ms : List MEnt} {d : Bool} (a : a5s Tryz.prog T es) (b : a4l Tryz.prog T ms) : CxOK Tryz.prog (cz es ms d) := M3 (es := es) (me := ms) (ms := []) a7s a b trivial rfl (fun _ _ _ _ => rfl) (fun _ _ _ _ _ _ => rfl) rfl
theorem D4 {es : List Ent} {ms : List MEnt} {ls : List Lp} {d : Bool} (a : a5s Tryz.prog T es) (b : a4l Tryz.prog T ms) : CxOK Tryz.prog (cl es ms ls d) := M3 (es := es) (me := ms) (ms := []) a7s a b trivial rfl (fun _ _ _ _ => rfl) (fun _ _ _ _ _ _ => rfl) rfl
theorem fo : Tryz.prog.follows .mixedOrders = true := by kernel_rfl
theorem lz {cx : Cx} {n : Nat} {fn : Func} (h : (F2 (s6 fn)).length = 0) : B8 cx n (s6 fn) := j6 (k := 0) h trivial
theorem gz {f : Gv} {fn : Func} (hf : Tryz.prog.funcs[f]? = some fn) (h : ((fn.name == "runtime.NumGoroutine") == false && fn.body.isSome) = true) : a4z Tryz.prog f := by
 simp only [FT, beq_iff_eq] at h
 exact K6 hf h.1 (c := s6 fn) (a3x h.2)
theorem lpI {R ε σ : Type} {step : St -> (Ex -> St -> Option R) -> Option R} {n : Nat} {ks xs : List Nat} {K : Ex -> List D -> Mem -> Option R} (F : ε -> (σ -> Option R) -> σ -> Option R) (S : ε -> Nat -> σ -> Option R) (sl : σ -> List D) (sm : σ -> Mem) (h0 : ∀ e s, S e 0 s = none) (hS : ∀ e t s, S e (t + 1) s = F e (S e t) s) {e : ε}
 (hF : ∀ (L : List D -> Mem -> Option R) s, W3 step n ks xs L (sl s) (sm s) K = F e (fun s => L (sl s) (sm s)) s) : ∀ t s, O9 step n ks xs t (sl s) (sm s) K = S e t s
 | 0, s => (h0 e s).symm
 | t + 1, s => (hF _ s).trans ((congrArg (fun L => F e L s) (funext fun s => lpI F S sl sm h0 hS hF t s)).trans (hS e t s).symm)
def okC (cx : Cx) (fn : Func) (sa : Sh) : Bool := ((fn.name == "runtime.NumGoroutine") == false) && okB cx fn sa
theorem c4s {cx : Cx} {f : Gv} {fn : Func} {sa : Sh} (hf : Tryz.prog.funcs[f]? = some fn) (h : okC cx fn sa = true) : a4z Tryz.prog f /\ okB cx fn sa = true := by
 simp only [okC, FT, beq_iff_eq] at h
 have h2 := h.2
 simp only [okB, FT] at h2
 exact ⟨K6 hf h.1 (c := s6 fn) (a3x h2.1), h.2⟩
def b9p (fn : Func) : Bool := FZ (F2 (s6 fn)).length 0
theorem b0B {cx : Cx} {n : Nat} {fn : Func} (h : b9p fn = true) : B8 cx n (s6 fn) := lz (FM h)
section
variable {cx : Cx} {f : Gv} {fn : Func} (hcx : CxOK Tryz.prog cx) (hf : Tryz.prog.funcs[f]? = some fn)
include hcx hf
theorem pk {sa rs : Sh} {s : FnL (sa.lv []) (Option (Tup (rs.lv [])))} (hl : B8 cx fn.ntmps (s6 fn)) (hk : (okC cx fn sa && sa.flat) = true) (hC : ∀ h, M4 cx fn (sa.mk h).1 [] (rgP rs fun x => some (toT _ x)) = apL _ s h) : EntOK Tryz.prog cx.T (pE f sa rs s) := by
 simp only [FT] at hk
 obtain ⟨a, b⟩ := c4s hf hk.1
 exact a1i a hk.2 (pok fo hcx hl hf b hk.2 hC)
theorem pk0 {sa rs : Sh} {s : FnL (sa.lv []) (Option (Tup (rs.lv [])))} (hk : (b9p fn && (okC cx fn sa && sa.flat)) = true) (hC : ∀ h, M4 cx fn (sa.mk h).1 [] (rgP rs fun x => some (toT _ x)) = apL _ s h) : EntOK Tryz.prog cx.T (pE f sa rs s) := by
 rw [FT] at hk
 exact pk hcx hf (b0B hk.1) hk.2 hC
theorem vk {sa : Sh} {cs : Bxs} {rs : Sh} {s : FnL (sa.lv (lvB cs [])) (Option (Tup (rs.lv (lvB cs []))))} (hl : B8 cx fn.ntmps (s6 fn)) (hk : okC cx fn sa = true) (hC : ∀ h, M4 cx fn (sa.mk h).1 [J4 0 (mkB cs (sa.mk h).2).1] (rgV rs cs fun x => some (toT _ x)) = apL _ s h) : MEntOK Tryz.prog cx.T (vE f sa cs rs true s) := by
 obtain ⟨a, b⟩ := c4s hf hk
 exact e1e a (vok fo hcx hl hf b hC)
theorem vk0 {sa : Sh} {cs : Bxs} {rs : Sh} {s : FnL (sa.lv (lvB cs [])) (Option (Tup (rs.lv (lvB cs []))))} (hk : (b9p fn && okC cx fn sa) = true) (hC : ∀ h, M4 cx fn (sa.mk h).1 [J4 0 (mkB cs (sa.mk h).2).1] (rgV rs cs fun x => some (toT _ x)) = apL _ s h) : MEntOK Tryz.prog cx.T (vE f sa cs rs true s) := by
 rw [FT] at hk
 exact vk hcx hf (b0B hk.1) hk.2 hC
theorem wk {sa : Sh} {cs : Bxs} {lf : Lf} {s : FnL (sa.lv (lvB cs [])) (Option lf.ty)} (hl : B8 cx fn.ntmps (s6 fn)) (hk : okC cx fn sa = true) (C : (α : Type) -> FnL (sa.lv (lvB cs [])) ((lf.ty -> Option α) -> Option α))
 (hC : ∀ (α : Type) h (K : lf.ty -> HL (lvB cs []) -> Option α), M4 cx fn (sa.mk h).1 [J4 0 (mkB cs (sa.mk h).2).1] (rgV (.v lf .z) cs fun x => K x.1 x.2) = apL _ (C α) h fun e => K e (sa.mk h).2) (hs : ∀ h, apL _ (C _) h some = apL _ s h) : MEntOK Tryz.prog cx.T (vE f sa cs (.v lf .z) false s) := by
 obtain ⟨a, b⟩ := c4s hf hk
 exact e1e a (wok fo hcx hl hf b C hC hs)
theorem wk0 {sa : Sh} {cs : Bxs} {lf : Lf} {s : FnL (sa.lv (lvB cs [])) (Option lf.ty)} (hk : (b9p fn && okC cx fn sa) = true) (C : (α : Type) -> FnL (sa.lv (lvB cs [])) ((lf.ty -> Option α) -> Option α))
 (hC : ∀ (α : Type) h (K : lf.ty -> HL (lvB cs []) -> Option α), M4 cx fn (sa.mk h).1 [J4 0 (mkB cs (sa.mk h).2).1] (rgV (.v lf .z) cs fun x => K x.1 x.2) = apL _ (C α) h fun e => K e (sa.mk h).2) (hs : ∀ h, apL _ (C _) h some = apL _ s h) : MEntOK Tryz.prog cx.T (vE f sa cs (.v lf .z) false s) := by
 rw [FT] at hk
 exact wk hcx hf (b0B hk.1) hk.2 C hC hs
end
end En
end
end Go.Proofs.YtkoilndpfifapaaGreatDoor
