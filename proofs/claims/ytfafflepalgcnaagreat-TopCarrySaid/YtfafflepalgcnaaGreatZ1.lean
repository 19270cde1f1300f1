/- Texts. -/
import Derived.WalkKit
import Derived.Below
import Derived.Laws.OwnMore
import Derived.Deep.Draws
import Derived.Maps.AppendAt
import Derived.Deep.MidRow
import Derived.WalkSpells
import Derived.WalkLawsBesides
import Derived.Laws.StructEq
import Derived.Laws.Tables
import Derived.Laws.IdiomStrings
import Derived.Laws.CopyRow
import Derived.Lib.AppendStr
import Derived.Great.BuildSlice
import Derived.Laws.MakeOwn
import Derived.BigFrame
set_option linter.unusedSimpArgs false
set_option linter.unusedVariables false
set_option linter.unusedSectionVars false
open Array renaming getD_eq_getD_getElem? → GL, getElem?_append_left → HF, length_toList → HZ, size_append → Je, getElem?_append_right → KJ, ext' → Nd, toList_eq_nil_iff → Kd, eq_empty_of_size_eq_zero → Kq
open BitVec renaming ofInt → HH
open Bool renaming cond_eq_ite → Hk, eq_iff_iff → Lp, and_eq_true → GP, not_eq_true' → Ik, or_eq_false_iff → Hw, not_eq_false' → JT
open ByteArray renaming size → Kh
open Go renaming IntKind → IS, TypeId → GF, FuncId → Hg, Value → GK, Operand → Hy, BinOp → LS, Field → LU, MapEntry → Mg, World → GG, Program → Hb, run_underlying → Hc, run_eqGuard_agg → MN, run_len_slice → Nv, run_sliceBound → KM, run_sliceAt_slice → KT, run_slice_any → LV, run_indexAt_slice → Mj, cell_of_row → HY, grownCap_ge → IL, grownCap_le_maxLen → Ix, heap_alloc_new → Ht, setRow_heap → LI, setRow_other → JJ, TypeInfo → LJ, size_zeroCells → Kl, growslice_fits → Nc, size_madeCells → JI
open Go.Addr renaming add_mid → IF
open Go.Builtin renaming len_ → NQ, append_ → Is, lenOf → Kv, firstCells → JU, zeroCells → Kk
open Go.ByteArray renaming toList_eq → KC
open Go.Instr renaming sliceBounds → Jc, sliceBound → Mu, indexAt → LW, sureAddr → Jl, field → Ol, index → Om, fieldAt → LX, loadAt → Ki, fill → Ll, buildSlice → Ld, findNow → La, sameNow → LY, lookup → Mm, makeFunc → Nh
open Go.IntKind renaming min → JY, max → JZ, bits → KI, signed → Kg, i64 → GA, u8 → GI
open Go.Lib renaming strCells → KK
open Go.MapKept renaming run_getObj_map → Km, run_checkKey → Kx, IsKey → JP, run_findKey → KF
open Go.Op renaming bytesLess → Jy, intArith → LF, intBits → Lk, intCmp → Lc, stringOp → Ka, equalIn → JF, eqFields → ME, equal → Oi, unary → Na
open Go.Result renaming andThen_ok → GT, andThen → LK
open Go.Sem renaming run_bind → GY, run_pure → IG
open Go.Value renaming int → JW, bool → OJ, cells → JX
open Int renaming le_of_lt → Lj, ediv_nonneg → ML, le_total → NL, tmod_nonneg → MM, lt_or_gt_of_ne → Ma, tmod_neg → NM, neg_neg → Oh, tmod_eq_emod_of_nonneg → Jk, not_lt → OK, toNat_natCast → Im
open List renaming replicate → IX, getD_eq_getElem?_getD → GJ, getElem?_take → Iw, getElem?_drop → IB, getElem?_eq_some_iff → GD, all_eq_true → Ib, getElem?_take_of_lt → JO, length_take → HN, length_drop → Ih, drop_drop → LG, mem_cons_of_mem → Hv, drop_zero → JG, take_length → IU, flatMap_cons → Jn, getElem?_append_right → GV, flatMap_append → KD, getElem?_append_left → GS, mem_of_mem_take → LH, mem_cons → Ku, getElem?_eq_getElem → GH, mem_of_getElem? → IC, range → Mb, getElem?_map → Hz, length_cons → Hu, getElem?_cons_succ → Jd, foldl_cons → MO, mem_append → Jz, size_toArray → IH, length_append → GW, getElem?_toArray → Iq, append_assoc → Ic, mem_iff_getElem? → JC, getElem?_eq_none → JD, replicate_succ → KE, all_cons → Nz
open Nat renaming beq → GR, blt → GM, ble → Jb, le_refl → GB, le_trans → KH, lt_of_lt_of_le → Jj, eq_of_beq_eq_true → GE, le_of_ble_eq_true → Ha, zero_le → Hl, ble_eq_true_of_le → Lu, add_mul → Il, add_assoc → ID, lt_or_ge → Ir, zero_add → HE, sub_zero → Kj, eq_zero_or_pos → HU, le_mul_of_pos_right → Kb, mul_pos → On, zero_mul → Lm, not_lt_zero → MP, mul_le_mul_right → IY, mul_one → IZ, one_mul → Oo
open Option renaming map_eq_some_iff → Hd, bind_some → Ij, bind_none → Ji
open Option.some renaming injEq → Hf
open UInt8 renaming ofNat → Gz, toNat_lt → He
namespace Go.Proofs.YtfafflepalgcnaaGreat
namespace En
open Go
inductive CK where
 | int (k : IS)
 | bool
 | str
 | bytes (e : GF)
 | slc (e : GF)
 | ptr
 | iface
 | func
 | bld
 | map
structure Ty where
 desc : TypeDesc
 cks : List CK
 nbytes : Nat
 eqb : Bool := false
def Ty.row (t : Ty) : Bool := match t.desc with | .struct _ => true | .array _ _ => true | _ => false
def Ty.size (t : Ty) : Nat := t.cks.length
inductive V where
 | bool (b : Bool)
 | int (k : IS) (n : Int)
 | str (s : List UInt8)
 | bytes (s : List UInt8)
 | sl (e : GF) (xs : List V)
 | agg (cs : List V)
 | iface (t : GF) (v : V)
 | nilI
 | mset (ks : List Int)
 | nilM
 deriving Inhabited
inductive Pos where
 | slot (s : Nat)
 | cell (k s i : Nat)
 deriving DecidableEq
def Pos.eqb : Pos -> Pos -> Bool
 | .slot a, .slot b => GR a b
 | .cell a b c, .cell d e f => GR a d && (GR b e && GR c f)
 | _, _ => false
def P7 (p : Pos) : List Pos -> Bool
 | [] => false
 | q :: r => cond (p.eqb q) true (P7 p r)
inductive Att where
 | no
 | nil (e : GF)
 | own (p : Pos) (e : GF)
inductive D where
 | v (x : V) (a : Att)
 | ptr (k s o : Nat)
 | nilp
 | eptr (cs : List V) (o : Nat)
 | clos (f : Hg) (caps : List D)
 | nilF
 | fn (n : Int) (fs : List Hg) (k s : Nat)
 | agg (ds : List D)
 | tup (ds : List D)
 | bld
 | any
 deriving Inhabited
structure Bx where
 ty : GF
 cells : List D
abbrev Fr := List (Nat × Bx)
abbrev Mem := List Fr
structure St where
 slots : List D
 mem : Mem
 dead : List Pos
def D7 (s : Nat) : Fr -> Option Bx
 | [] => none
 | (s', b) :: r => cond (GR s s') (some b) (D7 s r)
def b1g (s : Nat) (b : Bx) : Fr -> Fr
 | [] => [(s, b)]
 | (s', b') :: r => cond (GR s s') ((s, b) :: r) (cond (GM s s') ((s, b) :: (s', b') :: r) ((s', b') :: b1g s b r))
def Mem.box? : Mem -> Nat -> Nat -> Option Bx
 | [], _, _ => none
 | fr :: _, 0, s => D7 s fr
 | _ :: m, k + 1, s => Mem.box? m k s
def Mem.setBox : Mem -> Nat -> Nat -> Bx -> Mem
 | [], _, _, _ => []
 | fr :: m, 0, s, b => b1g s b fr :: m
 | fr :: m, k + 1, s, b => fr :: Mem.setBox m k s b
def c9t : CK -> D
 | .int k => .v (.int k 0) .no
 | .bool => .v (.bool false) .no
 | .str => .v (.str []) .no
 | .bytes e => .v (.bytes []) (.nil e)
 | .slc e => .v (.sl e []) (.nil e)
 | .ptr => .nilp
 | .iface => .v .nilI .no
 | .func => .nilF
 | .bld => .bld
 | .map => .v .nilM .no
def zeroV : CK -> GK
 | .int k => .int k 0
 | .bool => .bool false
 | .str => .string ⟨#[]⟩
 | .bytes _ => .slice none 0 0
 | .slc _ => .slice none 0 0
 | .ptr => .pointer none
 | .iface => .nilIface
 | .func => .nilFunc
 | .bld => .pointer none
 | .map => .map none
def Ty.zero (t : Ty) : GK := if t.row then .agg (t.cks.map zeroV).toArray else zeroV (t.cks.headD .bool)
def Ty.zeroDs (t : Ty) : List D := t.cks.map c9t
def Att.shift (k : Nat) : Att -> Att
 | .own (.cell k' s i) e => .own (.cell (k' + k) s i) e
 | .own (.slot _) _ => .no
 | a => a
mutual
def D.shift (k : Nat) : D -> D
 | .v x a => .v x (a.shift k)
 | .ptr k' s o => .ptr (k' + k) s o
 | .clos f caps => .clos f (D.shifts k caps)
 | .agg ds => .agg (D.shifts k ds)
 | .tup ds => .tup (D.shifts k ds)
 | .nilp => .nilp
 | .eptr cs o => .eptr cs o
 | .nilF => .nilF
 | .fn n fs k' s => .fn n fs (k' + k) s
 | .bld => .bld
 | .any => .any
def D.shifts (k : Nat) : List D -> List D
 | [] => []
 | d :: ds => d.shift k :: D.shifts k ds
end
abbrev dI (n : Int) : D := .v (.int .i64 n) .no
abbrev dB (b : Bool) : D := .v (.bool b) .no
abbrev dY (b : List UInt8) : D := .v (.bytes b) .no
abbrev LB := List UInt8
abbrev a3W (X : Type) := Int -> Int -> Int -> Int -> Int -> LB -> Int -> List V -> LB -> Int -> LB -> X
abbrev a3o (X : Type) := Int -> Int -> Int -> Int -> Int -> LB -> Int -> List V -> LB -> Int -> Int -> LB -> Bool -> Int -> X
abbrev a0a (X : Type) := Int -> Int -> Int -> Int -> LB -> Int -> Bool -> X
abbrev a8f (X : Type) := List Int -> Int -> LB -> Int -> Int -> Int -> Int -> Int -> Int -> Int -> Int -> Int -> LB -> Int -> Bool -> Bool -> LB -> Int -> X
abbrev b0k (X : Type) := Bool -> Int -> Int -> Int -> Int -> LB -> Int -> Bool -> Bool -> Int -> Int -> Int -> Int -> Int -> Int -> Bool -> Bool -> Int -> Int -> LB -> Bool -> LB -> Int -> Bool -> X
end En
namespace En
open Go
variable {R : Type}
def br (c : Bool) (x y : Option R) : Option R := cond c x y
def V.unInt (k : IS) (x : V) (K : Int -> Option R) : Option R := match x with | .int k' n => if k' = k then K n else none | _ => none
def V.unBool (x : V) (K : Bool -> Option R) : Option R := match x with | .bool b => K b | _ => none
def V.unStr (x : V) (K : List UInt8 -> Option R) : Option R := match x with | .str b => K b | _ => none
def V.unBytes (x : V) (K : List UInt8 -> Option R) : Option R := match x with | .bytes b => K b | _ => none
def V.unSl (e : GF) (x : V) (K : List V -> Option R) : Option R := match x with | .sl e' b => cond (GR e' e) (K b) none | _ => none
def V.unAgg (x : V) (K : List V -> Option R) : Option R := match x with | .agg b => K b | _ => none
def V.unI (x : V) (K : V -> Option R) : Option R := match x with | .iface t v => K (.iface t v) | .nilI => K .nilI | _ => none
def c3F (xs : List V) (K : V -> List V -> Option R) : Option R := match xs with | x :: r => K x r | [] => none
def d6p (xs : List V) (K : Option R) : Option R := match xs with | [] => K | _ :: _ => none
def c3O : CK -> V -> (V -> Option R) -> Option R
 | .int k, x, K => x.unInt k fun n => K (.int k n)
 | .bool, x, K => x.unBool fun b => K (.bool b)
 | .str, x, K => x.unStr fun b => K (.str b)
 | .bytes _, x, K => x.unBytes fun b => K (.bytes b)
 | .slc e, x, K => x.unSl e fun b => K (.sl e b)
 | .iface, x, K => x.unI fun b => K b
 | _, _, _ => none
def b1h : List CK -> List V -> (List V -> Option R) -> Option R
 | [], xs, K => d6p xs (K [])
 | ck :: cks, xs, K => c3F xs fun x r => c3O ck x fun y => b1h cks r fun ys => K (y :: ys)
def fit (ty : Ty) (x : V) (K : List V -> Option R) : Option R :=
 match ty.row with
 | true => x.unAgg fun cs => b1h ty.cks cs K
 | false => c3O (ty.cks.headD .ptr) x fun y => K [y]
def at? {α : Type} (xs : List α) (i : Nat) (K : α -> Option R) : Option R := match xs[i]? with | some x => K x | none => none
def a0g (i : Int) (j : Nat) : Nat -> (Nat -> Option R) -> Option R
 | 0, _ => none
 | m + 1, K => br (decide (i = (j : Int))) (K j) (a0g i (j + 1) m K)
def check (b : Bool) (K : Option R) : Option R := br b K none
def V.cells : V -> List V
 | .agg cs => cs
 | x => [x]
def V.one : V -> Bool
 | .agg _ => false
 | _ => true
def b4s (n : Nat) (x : V) : Bool := x.cells.length == n && x.cells.all V.one
def b7a (a : Att) (K : Att -> Option R) : Option R := match a with | .no => K .no | .nil e => K (.nil e) | .own p e => K (.own p e)
mutual
def forceD (d : D) (K : D -> Option R) : Option R :=
 match d with
 | .v x a => b7a a fun a => K (.v x a)
 | .ptr k s o => K (.ptr k s o)
 | .nilp => K .nilp
 | .eptr cs o => K (.eptr cs o)
 | .clos f caps => forceL caps fun caps => K (.clos f caps)
 | .nilF => K .nilF
 | .fn n fs k s => K (.fn n fs k s)
 | .bld => K .bld
 | .agg ds => forceL ds fun ds => K (.agg ds)
 | .tup ds => forceL ds fun ds => K (.tup ds)
 | .any => K .any
def forceL (ds : List D) (K : List D -> Option R) : Option R :=
 match ds with
 | [] => K []
 | d :: r => forceD d fun d => forceL r fun r => K (d :: r)
end
theorem W4 (a : Att) (K : Att -> Option R) : b7a a K = K a := by cases a <;> rfl
mutual
theorem forceD_eq (d : D) (K : D -> Option R) : forceD d K = K d := by
 cases d <;> simp only [forceD, W4, forceL_eq]
theorem forceL_eq (ds : List D) (K : List D -> Option R) : forceL ds K = K ds := by
 cases ds <;> simp only [forceL, forceD_eq, forceL_eq]
end
mutual
def D.noOwn : D -> Bool
 | .v _ a => (match a with | .own _ _ => false | _ => true)
 | .clos _ caps => noOwns caps
 | .agg ds => noOwns ds
 | .tup ds => noOwns ds
 | _ => true
def noOwns : List D -> Bool
 | [] => true
 | d :: ds => d.noOwn && noOwns ds
end
def a8v : List D -> Nat -> (D -> Option R) -> Option R
 | [], _, K => K .any
 | x :: _, 0, K => K x
 | _ :: r, n + 1, K => a8v r n K
theorem O7 : ∀ (l : List D) (n : Nat) (K : D -> Option R), a8v l n K = K (l.getD n .any)
 | [], n, K => by simp [a8v]
 | x :: _, 0, K => rfl
 | x :: r, n + 1, K => by simp only [a8v, O7 r n K]; rfl
def b1K : List D -> Nat -> D -> (List D -> Option R) -> Option R
 | [], _, _, K => K []
 | _ :: r, 0, d, K => K (d :: r)
 | x :: r, n + 1, d, K => b1K r n d fun r' => K (x :: r')
theorem a3z : ∀ (l : List D) (n : Nat) (d : D) (K : List D -> Option R), b1K l n d K = K (l.set n d)
 | [], n, d, K => rfl
 | x :: _, 0, d, K => rfl
 | x :: r, n + 1, d, K => by simp only [b1K, a3z r n d]; rfl
def b7F (s : Nat) (b : Bx) : Fr -> (Fr -> Option R) -> Option R
 | [], K => K [(s, b)]
 | (s', b') :: r, K => cond (GR s s') (K ((s, b) :: r)) (cond (GM s s') (K ((s, b) :: (s', b') :: r)) (b7F s b r fun r' => K ((s', b') :: r')))
theorem b4I (s : Nat) (b : Bx) : ∀ (fr : Fr) (K : Fr -> Option R), b7F s b fr K = K (b1g s b fr)
 | [], K => rfl
 | (s', b') :: r, K => by
   unfold b7F b1g
   cases GR s s' <;> cases GM s s' <;> simp [b4I s b r]
def M6 : Mem -> Nat -> Nat -> Bx -> (Mem -> Option R) -> Option R
 | [], _, _, _, K => K []
 | fr :: m, 0, s, b, K => b7F s b fr fun fr => K (fr :: m)
 | fr :: m, k + 1, s, b, K => M6 m k s b fun m => K (fr :: m)
theorem B9 : ∀ (m : Mem) (k s : Nat) (b : Bx) (K : Mem -> Option R), M6 m k s b K = K (m.setBox k s b)
 | [], k, s, b, K => rfl
 | fr :: m, 0, s, b, K => by simp only [M6, b4I]; rfl
 | fr :: m, k + 1, s, b, K => by simp only [M6, B9 m k s b]; rfl
def D.one : D -> Bool
 | .v x _ => (match x with | .agg _ => false | _ => true)
 | .ptr _ _ _ => true
 | .nilp => true
 | .eptr _ _ => true
 | .clos _ _ => true
 | .nilF => true
 | .fn _ _ _ _ => true
 | .bld => true
 | _ => false
def vD (x : V) : D := .v x .no
def cellsOf : D -> List D
 | .agg ds => ds
 | .v x a => (match x with | .agg cs => cs.map vD | _ => [.v x a])
 | d => [d]
def c3T : List D -> Option (List V)
 | [] => some []
 | .v x _ :: r => (match x with | .agg _ => none | _ => (c3T r).map (x :: ·))
 | _ :: _ => none
def toV : D -> Option V
 | .v x _ => (match x with | .agg _ => none | _ => some x)
 | .agg ds => (c3T ds).map .agg
 | _ => none
def c4F (row : Bool) (cs : List D) : Option D := match row with | true => some (.agg cs) | false => (match cs with | [d] => cond d.one (some d) none | _ => none)
def b3I (cs : List D) (off : Nat) : List D -> List D
 | [] => cs
 | d :: r => b3I (cs.set off d) (off + 1) r
def a5H (place : Nat -> Option (Nat × Nat)) (cs : List D) : List (Nat × D) -> Option (List D)
 | [] => some cs
 | (i, d) :: r =>
   match place i with
   | none => none
   | some (off, size) => cond ((cellsOf d).all D.one && (GR (cellsOf d).length size && Jb (off + size) cs.length)) (a5H place (b3I cs off (cellsOf d)) r) none
def Att.plain : Att -> Att
 | .own _ _ => .no
 | a => a
mutual
def D.plain : D -> D
 | .v x a => .v x a.plain
 | .agg ds => .agg (plains ds)
 | .clos f caps => .clos f (plains caps)
 | .tup ds => .tup (plains ds)
 | .ptr k s o => .ptr k s o
 | .nilp => .nilp
 | .eptr cs o => .eptr cs o
 | .nilF => .nilF
 | .fn n fs k s => .fn n fs k s
 | .bld => .bld
 | .any => .any
def plains : List D -> List D
 | [] => []
 | d :: ds => d.plain :: plains ds
end
mutual
def D.bare : D -> D
 | .v x _ => .v x .no
 | .agg ds => .agg (bares ds)
 | .clos f caps => .clos f (bares caps)
 | .tup ds => .tup (bares ds)
 | .ptr k s o => .ptr k s o
 | .nilp => .nilp
 | .eptr cs o => .eptr cs o
 | .nilF => .nilF
 | .fn n fs k s => .fn n fs k s
 | .bld => .bld
 | .any => .any
def bares : List D -> List D
 | [] => []
 | d :: ds => d.bare :: bares ds
end
mutual
def D.low (k : Nat) : D -> Option D
 | .v x a => some (.v x (match a with | .nil e => .nil e | _ => .no))
 | .ptr k' s o => cond (Jb k k') (some (.ptr (k' - k) s o)) none
 | .clos f caps => (lows k caps).map (.clos f)
 | .agg ds => (lows k ds).map .agg
 | .tup ds => (lows k ds).map .tup
 | .nilp => some .nilp
 | .eptr cs o => some (.eptr cs o)
 | .nilF => some .nilF
 | .fn n fs k' s => cond (Jb k k') (some (.fn n fs (k' - k) s)) none
 | .bld => some .bld
 | .any => none
def lows (k : Nat) : List D -> Option (List D)
 | [] => some []
 | d :: ds => match d.low k with
   | some x => (match lows k ds with | some r => some (x :: r) | none => none)
   | none => none
end
def b7M (ck : CK) (v : GK) : D :=
 match v with
 | .int k n => cond (decide (k.min <= n) && decide (n <= k.max)) (.v (.int k n) .no) .any
 | .bool b => .v (.bool b) .no
 | .string s => cond (Jb s.data.toList.length 1000000) (.v (.str s.data.toList) .no) .any
 | .nilIface => .v .nilI .no
 | .nilFunc => .nilF
 | .map none => .v .nilM .no
 | .pointer none => .nilp
 | .slice none 0 0 => (match ck with | .bytes e => .v (.bytes []) (.nil e) | .slc e => .v (.sl e []) (.nil e) | _ => .any)
 | .func (.func f) first caps => (match first.toList, caps.toList with | [], [] => .clos f [] | _, _ => .any)
 | _ => .any
def a0p : List CK -> List GK -> List D
 | ck :: cks, v :: vs => b7M ck v :: a0p cks vs
 | _, _ => []
def b6O (ty : Option Ty) (v : GK) : D :=
 match v with
 | .agg cs => (match ty with | some ty => cond (GR cs.toList.length ty.cks.length) (.agg (a0p ty.cks cs.toList)) .any | none => .any)
 | v => b7M (match ty with | some ty => ty.cks.headD .ptr | none => .ptr) v
def C9 (T : GF -> Option Ty) (slots : List D) (h : GF) : Hy -> D
 | .tmp t => slots.getD t .any
 | .const v => b6O (T h) v
 | .func f => .clos f []
 | .global _ => .any
def evK (T : GF -> Option Ty) (slots : List D) (h : GF) (x : Hy) (K : D -> Option R) : Option R :=
 match x with
 | .tmp t => a8v slots t K
 | .const v => forceD (b6O (T h) v) K
 | .func f => K (.clos f [])
 | .global _ => K .any
theorem E7 (T : GF -> Option Ty) (slots : List D) (h : GF) (x : Hy) (K : D -> Option R) : evK T slots h x K = K (C9 T slots h x) := by
 cases x <;> simp only [evK, C9, O7, forceD_eq]
def a2g (k : IS) (n : Int) : D := .v (.int k n) .no
def P3 (b : Bool) : D := .v (.bool b) .no
def A7 (op : LS) (k : IS) (a b : Int) : Int :=
 match op with
 | .and => k.wrap (HH k.bits a &&& HH k.bits b).toNat
 | .or => k.wrap (HH k.bits a ||| HH k.bits b).toNat
 | .xor => k.wrap (HH k.bits a ^^^ HH k.bits b).toNat
 | _ => k.wrap (HH k.bits a &&& ~~~ (HH k.bits b)).toNat
def a4r (k : IS) (a b : Int) : Int := k.wrap (a * 2 ^ (min b.toNat k.bits))
def a2c (k : IS) (a b : Int) : Int := a.fdiv (2 ^ (min b.toNat k.bits))
def b4c (op : LS) (k : IS) (a b : Int) (K : D -> Option R) : Option R :=
 match op with
 | .add => K (a2g k (k.wrap (a + b)))
 | .sub => K (a2g k (k.wrap (a - b)))
 | .mul => K (a2g k (k.wrap (a * b)))
 | .quo => check (decide (b ≠ 0)) (K (a2g k (k.wrap (a.tdiv b))))
 | .rem => check (decide (b ≠ 0)) (K (a2g k (a.tmod b)))
 | .and => K (a2g k (A7 .and k a b))
 | .or => K (a2g k (A7 .or k a b))
 | .xor => K (a2g k (A7 .xor k a b))
 | .andNot => K (a2g k (A7 .andNot k a b))
 | .eql => K (P3 (decide (a = b)))
 | .neq => K (P3 (!decide (a = b)))
 | .lss => K (P3 (decide (a < b)))
 | .leq => K (P3 (decide (a <= b)))
 | .gtr => K (P3 (decide (b < a)))
 | .geq => K (P3 (decide (b <= a)))
 | .shl => check (decide (0 <= b)) (K (a2g k (a4r k a b)))
 | .shr => check (decide (0 <= b)) (K (a2g k (a2c k a b)))
def c6h (op : LS) (a b : List UInt8) (K : D -> Option R) : Option R :=
 match op with
 | .add => check (decide (a.length + b.length <= 9223372036854775807)) (K (.v (.str (a ++ b)) .no))
 | .eql => K (P3 (decide (a = b)))
 | .neq => K (P3 (!decide (a = b)))
 | .lss => K (P3 (Jy a b))
 | .leq => K (P3 (Jy a b || decide (a = b)))
 | .gtr => K (P3 (!(Jy a b || decide (a = b))))
 | .geq => K (P3 (!Jy a b))
 | _ => none
def d0o : D -> Option Bool
 | .ptr _ _ _ => some false
 | .eptr _ _ => some false
 | .nilp => some true
 | _ => none
def c4f : D -> Option Bool
 | .v (.iface _ _) _ => some false
 | .v .nilI _ => some true
 | _ => none
def d3t : D -> Option Bool
 | .clos _ _ => some false
 | .nilF => some true
 | .fn n _ _ _ => some (decide (n = 0))
 | _ => none
def c3R : D -> Option Bool
 | .v (.mset _) _ => some false
 | .v .nilM _ => some true
 | _ => none
def c9U (desc : TypeDesc) (x y : D) : Option Bool :=
 match desc with
 | .pointer _ => (match y with | .nilp => d0o x | _ => none)
 | .interface _ => (match y with | .v .nilI _ => c4f x | _ => none)
 | .func _ _ _ => (match y with | .nilF => d3t x | _ => none)
 | .map _ _ => (match y with | .v .nilM _ => c3R x | _ => none)
 | _ => none
def a6s : Hy -> Bool
 | .const _ => true
 | _ => false
def T4 (T : GF -> Option Ty) (t : GF) : Nat := match T t with | some ty => ty.size | none => 0
def a0v (T : GF -> Option Ty) (n : Nat) : Nat -> List LU -> Bool
 | off, [] => GR off n
 | off, f :: fs => GR f.offset off && a0v T n (off + T4 T f.type) fs
def c0b (F : GF -> List D -> List D -> Option Bool) (T : GF -> Option Ty) : List LU -> List D -> List D -> Option Bool
 | [], _, _ => some true
 | f :: fs, ds, es => match F f.type (ds.take (T4 T f.type)) (es.take (T4 T f.type)) with
   | some r => (match c0b F T fs (ds.drop (T4 T f.type)) (es.drop (T4 T f.type)) with | some q => some (r && q) | none => none)
   | none => none
def eqK (T : GF -> Option Ty) : Nat -> GF -> List D -> List D -> Option Bool
 | 0, _, _, _ => none
 | n + 1, t, ds, es => match T t with
   | none => none
   | some ty => match ty.desc with
     | .int _ => (match ds, es with | [.v (.int k a) _], [.v (.int k' b) _] => if k = k' then some (decide (a = b)) else none | _, _ => none)
     | .bool => (match ds, es with | [.v (.bool a) _], [.v (.bool b) _] => some (a == b) | _, _ => none)
     | .string => (match ds, es with | [.v (.str a) _], [.v (.str b) _] => some (decide (a = b)) | _, _ => none)
     | .struct fs => cond (ty.eqb && (a0v T ty.size 0 fs.toList && (GR ds.length ty.size && (GR es.length ty.size && Jb 1 ty.size)))) (c0b (eqK T n) T fs.toList ds es) none
     | _ => none
def a8X (T : GF -> Option Ty) (t : GF) (ds es : List D) (K : Bool -> Option R) : Option R :=
 match T t with
 | some ty => cond ty.row (match eqK T 9 t ds es with | some b => K b | none => none) none
 | none => none
def c6r (T : GF -> Option Ty) (op : LS) (xt : GF) (yc : Bool) (x y : D) (K : D -> Option R) : Option R :=
 match x, y with
 | .v (.int k a) _, .v (.int k' b) _ =>
   (match op with
    | .shl => b4c .shl k a b K
    | .shr => b4c .shr k a b K
    | op => if k = k' then b4c op k a b K else none)
 | .v (.str a) _, .v (.str b) _ => c6h op a b K
 | .v (.bool a) _, .v (.bool b) _ =>
   (match T xt with
    | some ty => (match ty.desc, op with
      | .bool, .eql => K (P3 (a == b))
      | .bool, .neq => K (P3 (!(a == b)))
      | _, _ => none)
    | none => none)
 | .agg ds, .agg es => (match op with | .eql => a8X T xt ds es fun b => K (P3 b) | .neq => a8X T xt ds es fun b => K (P3 (!b)) | _ => none)
 | x, y =>
   (match yc, T xt with
    | true, some ty => (match c9U ty.desc x y with
      | some b => (match op with | .eql => K (P3 b) | .neq => K (P3 (!b)) | _ => none)
      | none => none)
    | _, _ => none)
def unK (op : UnOp) (x : D) (K : D -> Option R) : Option R :=
 match op, x with
 | .neg, .v (.int k n) _ => K (a2g k (k.wrap (0 - n)))
 | .xor, .v (.int k n) _ => K (a2g k (A7 .xor k (if k.signed then -1 else k.max) n))
 | .not, .v (.bool b) _ => K (P3 (!b))
 | _, _ => none
def b5n (T : GF -> Option Ty) (src dst : GF) (x : D) (K : D -> Option R) : Option R :=
 match T src, T dst with
 | some ts, some td =>
   (match ts.desc, td.desc, x with
    | .int _, .int k, .v (.int _ n) _ => K (a2g k (k.wrap n))
    | .slice e, .string, .v (.bytes s) _ => (match T e with | some te => (match te.desc with | .int .u8 => check (decide (s.length <= 9223372036854775807)) (K (.v (.str s) .no)) | _ => none) | none => none)
    | .string, .slice e, .v (.str s) _ => (match T e with | some te => (match te.desc with | .int .u8 => check (decide (s.length <= 1000000)) (K (.v (.bytes s) .no)) | _ => none) | none => none)
    | .string, .string, .v (.str s) a => K (.v (.str s) a)
    | _, _, _ => none)
 | _, _ => none
def a3e (x : Option D) (dflt hi : Nat) (K : Nat -> Option R) : Option R :=
 match x with
 | none => K dflt
 | some (.v (.int _ i) _) => check (decide (0 <= i) && decide (i <= (hi : Int))) (K i.toNat)
 | some _ => none
def b4l {α : Type} (xs : List α) (lo hi : Option D) (K : List α -> Option R) : Option R :=
 match lo, hi with
 | none, none => K xs
 | some lo, none => a3e (some lo) 0 xs.length fun l => K (xs.drop l)
 | none, some hi => a3e (some hi) 0 xs.length fun h => K (xs.take h)
 | some lo, some hi => a3e (some hi) 0 xs.length fun h => a3e (some lo) 0 h fun l => K ((xs.take h).drop l)
def c9T (lo hi mx : Option D) : Bool :=
 match mx with
 | none => true
 | some (.v (.int _ j) _) => (match lo, hi with | none, some (.v (.int _ i) _) => decide (i = j) | _, _ => false)
 | some _ => false
def c6g (lo hi mx : Option D) (K : Option R) : Option R :=
 match mx with
 | none => K
 | some (.v (.int _ j) _) => (match lo, hi with | none, some (.v (.int _ i) _) => check (decide (i = j)) K | _, _ => none)
 | some _ => none
theorem c6N {lo hi mx : Option D} {K : Option R} {r : R} (h : c6g lo hi mx K = some r) : c9T lo hi mx = true /\ K = some r := by
 unfold c6g at h
 unfold c9T
 split at h
 . exact ⟨rfl, h⟩
 . split at h
   . unfold check br at h
     rw [Hk] at h
     split at h
     . rename_i hd; exact ⟨hd, h⟩
     . cases h
   . cases h
 . cases h
def a8w (T : GF -> Option Ty) (t : GF) (x : D) (lo hi mx : Option D) (K : D -> Option R) : Option R :=
 match mx.isNone with
 | false => c6g lo hi mx (match T t with
   | some ty =>
     (match ty.desc, x with
      | .slice e, .v (.bytes s) _ => (match T e with | some te => cond (GR te.size 1) (b4l s lo hi fun r => K (.v (.bytes r) .no)) none | none => none)
      | _, _ => none)
   | none => none)
 | true =>
   match T t with
   | some ty =>
     (match ty.desc, x with
      | .slice e, .v (.bytes s) _ => (match T e with | some te => cond (GR te.size 1) (b4l s lo hi fun r => K (.v (.bytes r) .no)) none | none => none)
      | .slice e, .v (.sl e' s) _ => (match T e with | some te => cond (GR e' e) (b4l s lo hi fun r => K (.v (.sl e r) .no)) none | none => none)
      | .string, .v (.str s) _ => b4l s lo hi fun r => K (.v (.str r) .no)
      | _, _ => none)
   | none => none
def c6S (T : GF -> Option Ty) (t : GF) (x : D) (K : D -> Option R) : Option R :=
 match T t with
 | some ty =>
   (match ty.desc, x with
    | .slice _, .v (.bytes s) _ => K (a2g .i64 s.length)
    | .slice _, .v (.sl _ s) _ => K (a2g .i64 s.length)
    | .string, .v (.str s) _ => K (a2g .i64 s.length)
    | .array n _, _ => check (decide (n <= 1000000)) (K (a2g .i64 n))
    | _, _ => none)
 | none => none
def inK (i : Int) (n : Nat) (K : Nat -> Option R) : Option R := check (decide (0 <= i) && decide (i < (n : Int))) (K i.toNat)
def V8 (T : GF -> Option Ty) (t : GF) (x i : D) (K : D -> Option R) : Option R :=
 match T t, i with
 | some ty, .v (.int _ i) _ =>
   (match ty.desc, x with
    | .slice e, .v (.bytes s) _ => (match T e with | some te => cond (GR te.size 1) (inK i s.length fun j => at? s j fun b => K (.eptr [.int .u8 b.toNat] 0)) none | none => none)
    | .slice e, .v (.sl e' s) _ => (match T e with | some te => cond (GR te.size 0 || !GR e' e) none (inK i s.length fun j => at? s j fun y => fit te y fun cs => K (.eptr cs 0)) | none => none)
    | .array n e, .ptr k s o => (match T e with | some te => a0g i 0 n fun j => K (.ptr k s (o + j * te.size)) | none => none)
    | .array n e, .eptr cs o => (match T e with | some te => a0g i 0 n fun j => K (.eptr cs (o + j * te.size)) | none => none)
    | _, _ => none)
 | _, _ => none
def a4k (row : Bool) (ds : List D) (off size : Nat) : Option D :=
 match row with
 | true => cond (Jb (off + size) ds.length) (some (.agg ((ds.drop off).take size))) none
 | false => ds[off]?
def a8P (T : GF -> Option Ty) (t : GF) (x i : D) (K : D -> Option R) : Option R :=
 match T t, i with
 | some ty, .v (.int _ i) _ =>
   (match ty.desc, x with
    | .string, .v (.str s) _ => inK i s.length fun j => at? s j fun b => K (a2g .u8 b.toNat)
    | .array n e, .agg ds => (match T e with | some te => a0g i 0 n fun j => (match a4k te.row ds (j * te.size) te.size with | some d => forceD d.plain K | none => none) | none => none)
    | _, _ => none)
 | _, _ => none
def a8I (T : GF -> Option Ty) (t : GF) (x : D) (f : Nat) (K : D -> Option R) : Option R :=
 match T t, x with
 | some ty, .agg ds =>
   (match ty.desc with
    | .struct fs => (match fs[f]? with
      | some fl => (match T fl.type with | some te => (match a4k te.row ds fl.offset te.size with | some d => forceD d.plain K | none => none) | none => none)
      | none => none)
    | _ => none)
 | _, _ => none
def W1 (T : GF -> Option Ty) (t : GF) (x : D) (f : Nat) (K : D -> Option R) : Option R :=
 match T t with
 | some ty =>
   (match ty.desc with
    | .struct fs => (match fs[f]? with
      | some fl => (match T fl.type with
        | some te => cond (GR te.size 0) none (match x with
          | .ptr k s o => K (.ptr k s (o + fl.offset))
          | .eptr cs o => K (.eptr cs (o + fl.offset))
          | _ => none)
        | none => none)
      | none => none)
    | _ => none)
 | none => none
def w4 (k s i : Nat) (d : D) : D :=
 match d with
 | .v x (.own _ e) => .v x (.own (.cell k s i) e)
 | .bld => .any
 | d => d.shift k
def N2 (k s : Nat) : Nat -> List D -> List D
 | _, [] => []
 | i, d :: r => (w4 k s i d).plain :: N2 k s (i + 1) r
def a0m (T : GF -> Option Ty) (t : GF) (a : D) (m : Mem) (K : D -> Option R) : Option R :=
 match T t with
 | some ty =>
   (match a with
    | .ptr k s o => (match m.box? k s with
      | some b =>
        (match ty.row with
         | true => cond (Jb (o + ty.size) b.cells.length) (forceD (.agg (N2 k s o ((b.cells.drop o).take ty.size))) K) none
         | false => cond (GR ty.size 1) (match b.cells[o]? with | some d => forceD (w4 k s o d) K | none => none) none)
      | none => none)
    | .eptr cs o =>
      (match ty.row with
       | true => cond (Jb (o + ty.size) cs.length) (forceD (.agg (((cs.drop o).take ty.size).map vD)) K) none
       | false => cond (GR ty.size 1) (match cs[o]? with | some y => K (.v y .no) | none => none) none)
    | _ => none)
 | none => none
def d3N (dead : List Pos) (a : Att) : Att :=
 match a with
 | .nil e => .own (.slot 0) e
 | .own (.slot g) e => cond (P7 (.slot g) dead) .no (.own (.slot 0) e)
 | _ => .no
def c0E (dead : List Pos) (a : Att) : List Pos :=
 match a with
 | .own (.slot g) _ => .slot g :: dead
 | _ => dead
def N5 (k : Nat) : List D -> List Pos -> (List D -> List Pos -> Option R) -> Option R
 | [], dead, K => K [] dead
 | d :: r, dead, K =>
   cond d.one
    (match d with
     | .v x a => b7a (d3N dead a) fun a' => N5 k r (c0E dead a) fun cs dead' => K (.v x a' :: cs) dead'
     | d => (match d.low k with | some d' => forceD d' fun d' => N5 k r dead fun cs dead' => K (d' :: cs) dead' | none => none))
    none
def c5A (cs : List D) (off : Nat) : List D -> (List D -> Option R) -> Option R
 | [], K => K cs
 | d :: r, K => b1K cs off d fun cs => c5A cs (off + 1) r K
def b6H (T : GF -> Option Ty) (t : GF) (a v : D) (m : Mem) (dead : List Pos) (K : Mem -> List Pos -> Option R) : Option R :=
 match T t with
 | some ty =>
   (match a with
    | .ptr k s o => (match m.box? k s with
      | some b => cond (GR (cellsOf v).length ty.size && Jb (o + ty.size) b.cells.length)
       (N5 k (cellsOf v) dead fun cs dead' => c5A b.cells o cs fun cs' => M6 m k s ⟨b.ty, cs'⟩ fun m' => K m' dead') none
      | none => none)
    | _ => none)
 | none => none
def d2D (f : Hg) : Nat -> List Hg -> Option Nat
 | _, [] => none
 | j, g :: r => cond (GR f g) (some j) (d2D f (j + 1) r)
def fnC (k : Nat) (old new : D) : D :=
 match old with
 | .fn _ fs k0 s0 => (match new with
   | .nilF => .fn 0 fs (k0 + k) s0
   | .fn i gs k1 s1 => (match gs with
     | [f] => (match d2D f 0 fs with | some j => cond (decide (i = 1)) (.fn ((j : Int) + 1) fs k1 s1) (.fn i gs k1 s1) | none => .fn i gs k1 s1)
     | _ => .fn i gs k1 s1)
   | d => d)
 | .v _ a => (match a with | .no => (match new with | .v x a' => (match a' with | .nil _ => .v x .no | a' => .v x a') | d => d) | _ => new)
 | _ => new
def c2e (k : Nat) : List D -> List D -> List D
 | o :: os, d :: ds => fnC k o d :: c2e k os ds
 | _, ds => ds
def d3Y : List D -> Bool
 | [] => false
 | d :: r => (match d with | .fn _ _ _ _ => true | _ => d3Y r)
def b3D (m : Mem) (a v : D) : D :=
 match a with
 | .ptr k s o => (match m.box? k s with
   | some b => cond (d3Y b.cells) (match v with
     | .agg ds => .agg (c2e k (b.cells.drop o) ds)
     | d => fnC k ((b.cells.drop o).headD .any) d) v
   | none => v)
 | _ => v
def c9z (n : Int) : Nat -> List Hg -> (Hg -> Option R) -> Option R
 | _, [], _ => none
 | j, f :: r, K => br (decide (n = ((j : Int) + 1))) (K f) (c9z n (j + 1) r K)
def a5v (k : Int) : List Int -> Bool
 | [] => false
 | x :: r => decide (k = x) || a5v k r
def a5a (T : GF -> Option Ty) (t : GF) (x i : D) (K : D -> Option R) : Option R :=
 match T t, x, i with
 | some ty, .v (.mset ks) _, .v (.int .i64 n) _ =>
   (match ty.desc with
    | .map kt et => (match T kt, T et with
      | some tk, some te => (match tk.desc, te.cks with
        | .int .i64, [.bool] => cond te.row none (K (P3 (a5v n ks)))
        | _, _ => none)
      | _, _ => none)
    | _ => none)
 | _, _, _ => none
def a1C (s : Nat) (t : GF) (ds : List D) (m : Mem) (dead : List Pos) (K : Mem -> List Pos -> Option R) : Option R :=
 match m with
 | fr :: _ =>
   (match D7 s fr with
    | none => N5 0 ds dead fun cs dead' => M6 m 0 s ⟨t, cs⟩ fun m' => K m' dead'
    | some _ => none)
 | [] => none
def placesOf (T : GF -> Option Ty) : List LU -> Option (List (Nat × Nat))
 | [] => some []
 | f :: fs => match T f.type with
   | some te => (match placesOf T fs with | some r => some ((f.offset, te.size) :: r) | none => none)
   | none => none
def a8O (T : GF -> Option Ty) (t : GF) (parts : List (Nat × D)) (K : D -> Option R) : Option R :=
 match T t with
 | some ty =>
   (match ty.desc with
    | .struct fs => (match placesOf T fs.toList with
      | some places => (match a5H (fun i => places[i]?) ty.zeroDs (parts.map fun p => (p.1, p.2.plain)) with | some cs => forceD (.agg cs) K | none => none)
      | none => none)
    | .array _ e => (match T e with
      | some te => (match a5H (fun i => some (i * te.size, te.size)) ty.zeroDs (parts.map fun p => (p.1, p.2.plain)) with | some cs => forceD (.agg cs) K | none => none)
      | none => none)
    | _ => none)
 | none => none
def a6q {α : Type} (xs : List α) : Nat -> List α
 | 0 => []
 | n + 1 => xs ++ a6q xs n
def a7D : List D -> Option (List UInt8)
 | [] => some []
 | .v (.int .u8 n) _ :: r => (match a7D r with | some l => some (Gz n.toNat :: l) | none => none)
 | _ :: _ => none
def chunk (row : Bool) (size : Nat) (cs : List D) : Nat -> Option (List V)
 | 0 => some []
 | n + 1 =>
   match c4F row (cs.take size) with
   | some d => (match toV d with
     | some x => (match chunk row size (cs.drop size) n with | some r => some (x :: r) | none => none)
     | none => none)
   | none => none
def R9 (T : GF -> Option Ty) (dst : Nat) (t : GF) (len : Nat) (parts : List (Nat × D)) (K : D -> Option R) : Option R :=
 match T t with
 | some ty =>
   (match ty.desc with
    | .slice e => (match T e with
      | some te =>
        cond (GR te.size 0 || !Jb (len * te.size) 1000) none
        (match a5H (fun i => some (i * te.size, te.size)) (a6q te.zeroDs len) (parts.map fun p => (p.1, p.2.bare)) with
         | some cs =>
           (match ty.cks with
            | [.bytes _] => (match a7D cs with | some l => cond (GR te.size 1) (K (.v (.bytes l) (.own (.slot dst) e))) none | none => none)
            | [.slc _] => (match chunk te.row te.size cs len with | some l => K (.v (.sl e l) (.own (.slot dst) e)) | none => none)
            | _ => none)
         | none => none)
      | none => none)
    | _ => none)
 | none => none
def V2 (T : GF -> Option Ty) (dst : Nat) (t : GF) (len cap : D) (K : D -> Option R) : Option R :=
 match T t, len, cap with
 | some ty, .v (.int _ l) _, .v (.int _ c) _ =>
   (match ty.desc with
    | .slice e => (match T e with
      | some te =>
        cond (GR te.size 0 || GR te.nbytes 0) none
        (check (decide (0 <= l) && (decide (l <= c) && decide (c * te.nbytes <= 140737488355328)))
         (match ty.cks with
          | [.bytes _] => (match te.cks with | [.int .u8] => K (.v (.bytes (IX l.toNat 0)) (.own (.slot dst) e)) | _ => none)
          | [.slc _] => (match chunk te.row te.size te.zeroDs 1 with
            | some [z] => K (.v (.sl e (IX l.toNat z)) (.own (.slot dst) e))
            | _ => none)
          | _ => none))
      | none => none)
    | _ => none)
 | _, _, _ => none
def a1l (a : Att) (e : GF) (m : Mem) (dead : List Pos) (K : Mem -> List Pos -> Option R) : Option R :=
 match a with
 | .nil e' => cond (GR e' e) (K m dead) none
 | .own p e' => cond (GR e' e && !P7 p dead)
  (match p with
   | .slot g => K m (.slot g :: dead)
   | .cell k s i => (match m.box? k s with
     | some b => (match b.cells[i]? with
       | some (.v x (.own _ _)) => b1K b.cells i (.v x .no) fun cs => M6 m k s ⟨b.ty, cs⟩ fun m' => K m' (.cell k s i :: dead)
       | _ => none)
     | none => none))
  none
 | .no => none
def a3d (T : GF -> Option Ty) (dst : Nat) (t t2 : GF) (s x : D) (m : Mem) (dead : List Pos) (K : D -> Mem -> List Pos -> Option R) : Option R :=
 match T t, T t2 with
 | some ty, some ty2 =>
   (match ty.desc with
    | .slice e => (match T e with
      | some te =>
        (match GR te.size 0 || GR te.nbytes 0 with
        | true => none
        | false => match s, x with
         | .v (.bytes xs) a, .v (.bytes ys) _ =>
           (match ty2.desc with
            | .slice e2 => cond (GR e2 e && GR te.size 1)
             (a1l a e m dead fun m' dead' => check (decide ((xs.length + ys.length) * te.nbytes <= 140737488355328)) (K (.v (.bytes (xs ++ ys)) (.own (.slot dst) e)) m' dead')) none
            | _ => none)
         | .v (.sl e1 xs) a, .v (.sl e1' ys) _ =>
           (match ty2.desc with
            | .slice e2 => cond (GR e2 e && (GR e1 e && GR e1' e))
             (a1l a e m dead fun m' dead' => check (decide ((xs.length + ys.length) * te.nbytes <= 140737488355328)) (K (.v (.sl e (xs ++ ys)) (.own (.slot dst) e)) m' dead')) none
            | _ => none)
         | .v (.bytes xs) a, .v (.str ys) _ =>
           (match ty2.desc with
            | .string => cond (GR te.size 1)
             (a1l a e m dead fun m' dead' => check (decide ((xs.length + ys.length) * te.nbytes <= 140737488355328)) (K (.v (.bytes (xs ++ ys)) (.own (.slot dst) e)) m' dead')) none
            | _ => none)
         | _, _ => none)
      | none => none)
    | _ => none)
 | _, _ => none
def a3A (mx : Bool) (args : List D) (K : D -> Option R) : Option R :=
 match args with
 | [.v (.int k a) _, .v (.int k' b) _] => if k = k' then K (a2g k (match mx with | true => max a b | false => min a b)) else none
 | _ => none
end En
namespace En
open Go
variable {R : Type}
inductive Ex where
 | normal | exit (id : Nat) | goto (l : Nat) | ret
structure Cx where
 T : GF -> Option Ty
 isPure : Hg -> Bool
 pureK : {R : Type} -> Hg -> List D -> (List D -> Option R) -> Option R
 memK : {R : Type} -> Hg -> Nat -> List D -> Mem -> (List D -> Mem -> Option R) -> Option R
 meth : GF -> String -> Option Hg
 keep : Nat -> List Nat
 keepX : Nat -> List Nat
 loopT : {R : Type} -> Nat -> List D -> Mem -> (Ex -> List D -> Mem -> Option R) -> Option R
 jumps : Nat
 dyn : Bool := false
 isStill : Hg -> Bool := fun _ => false
 stillK : {R : Type} -> Hg -> List D -> Mem -> (List D -> Option R) -> Option R := fun _ _ _ _ => none
def d3v (dst : Nat) (a : Att) : Att := match a with | .nil e => .own (.slot dst) e | a => a
def b2V (dst : Nat) (d : D) : D := match d with | .v x a => .v x (d3v dst a) | d => d
def b8s (slots : List D) (dst : Option Nat) (d : D) (K : List D -> Option R) : Option R :=
 match dst with
 | some s => (match d with | .v x a => b7a (d3v s a) fun a => b1K slots s (.v x a) K | d => b1K slots s d K)
 | none => K slots
def c0M (ds : List D) : D :=
 match ds with
 | [d] => d
 | ds => .tup ds
def b4o (d : D) : D := d.bare.shift 1
def a0n (T : GF -> Option Ty) (slots : List D) : List GF -> List Hy -> (List D -> Option R) -> Option R
 | t :: ts, x :: xs, K => evK T slots t x fun d => forceD (b4o d) fun d => a0n T slots ts xs fun r => K (d :: r)
 | [], x :: xs, K => evK T slots 0 x fun d => forceD (b4o d) fun d => a0n T slots [] xs fun r => K (d :: r)
 | _, [], K => K []
def d6d (T : GF -> Option Ty) (t : GF) : GF := match T t with | some ty => (match ty.desc with | .slice e => e | _ => 0) | none => 0
def a0P (h0 : GF) (T : GF -> Option Ty) (slots : List D) : List (Nat × Hy) -> (List (Nat × D) -> Option R) -> Option R
 | [], K => K []
 | (i, x) :: r, K => evK T slots h0 x fun d => a0P h0 T slots r fun ps => K ((i, d) :: ps)
def evO (T : GF -> Option Ty) (slots : List D) (x : Option Hy) (K : Option D -> Option R) : Option R :=
 match x with
 | none => K none
 | some x => evK T slots 0 x fun d => K (some d)
def a5C (T : GF -> Option Ty) (slots : List D) : List Hy -> (List D -> Option R) -> Option R
 | [], K => K []
 | x :: r, K => evK T slots 0 x fun d => forceD d.plain fun d => a5C T slots r fun ds => K (d :: ds)
def opK (T : GF -> Option Ty) (dst : Nat) (oty : GF) (slots : List D) (op : Op) (m : Mem) (dead : List Pos) (K : D -> Mem -> List Pos -> Option R) : Option R :=
 match op with
 | .move x => evK T slots oty x fun d => K d m dead
 | .assign x => evK T slots oty x fun d => K d m dead
 | .pick c a b => evK T slots 0 c fun dc => (match dc with
   | .v x _ => x.unBool fun t => br t (evK T slots oty a fun d => K d m dead) (evK T slots oty b fun d => K d m dead)
   | _ => none)
 | .alloc t => (match T t with | some ty => a1C dst t ty.zeroDs m dead fun m' d' => K (.ptr 0 dst 0) m' d' | none => none)
 | .box t x => (match T t with | some ty => evK T slots t x fun d => a1C dst t (cellsOf d) m dead fun m' d' => K (.ptr 0 dst 0) m' d' | none => none)
 | .build t parts => a0P 0 T slots parts.toList fun ps => a8O T t ps fun d => K d m dead
 | .buildSlice t len parts => a0P (d6d T t) T slots parts.toList fun ps => R9 T dst t len ps fun d => K d m dead
 | .load t a => evK T slots 0 a fun da => a0m T t da m fun d => K d m dead
 | .store t a x => evK T slots 0 a fun da => evK T slots t x fun dx => forceD (b3D m da dx) fun dx => b6H T t da dx m dead fun m' d' => K .any m' d'
 | .lookup t x i ok => (match ok with | true => none | false => evK T slots t x fun dx => evK T slots 0 i fun di => a5a T t dx di fun d => K d m dead)
 | .nilCheck x => evK T slots oty x fun d => (match d with | .ptr k s o => K (.ptr k s o) m dead | .eptr cs o => K (.eptr cs o) m dead | .clos f caps => K (.clos f caps) m dead | _ => none)
 | .binOp op xt x y yt => evK T slots xt x fun dx => evK T slots yt y fun dy => c6r T op xt (a6s y) dx dy fun d => K d m dead
 | .unOp op xt x => evK T slots xt x fun dx => unK op dx fun d => K d m dead
 | .convert src t x => evK T slots src x fun dx => b5n T src t dx fun d => K d m dead
 | .makeInterface t x => evK T slots t x fun dx => (match T t, toV dx with | some ty, some y => (match ty.desc with | .interface _ => none | _ => K (.v (.iface t y) .no) m dead) | _, _ => none)
 | .makeFunc (.func f) first caps => (match first.toList with
   | [] => a5C T slots caps.toList fun ds => K (.clos f ds) m dead
   | [x] => (match caps.toList with
     | [] => evK T slots 0 x fun d => (match d with | .ptr k s o => cond (GR o 0) (K (.fn 1 [f] k s) m dead) none | _ => none)
     | _ => none)
   | _ => none)
 | .makeSlice t l c => evK T slots 0 l fun dl => evK T slots 0 c fun dc => V2 T dst t dl dc fun d => K d m dead
 | .slice t x lo hi mx => evK T slots t x fun dx => evO T slots lo fun dlo => evO T slots hi fun dhi => evO T slots mx fun dmx => a8w T t dx dlo dhi dmx fun d => K d m dead
 | .fieldAddr t x f => evK T slots 0 x fun dx => W1 T t dx f fun d => K d m dead
 | .field t x f => evK T slots t x fun dx => a8I T t dx f fun d => K d m dead
 | .indexAddr t x i => evK T slots t x fun dx => evK T slots 0 i fun di => V8 T t dx di fun d => K d m dead
 | .index t x i => evK T slots t x fun dx => evK T slots 0 i fun di => a8P T t dx di fun d => K d m dead
 | .extract x i => evK T slots 0 x fun dx => (match dx with | .tup ds => (match ds[i]? with | some d => forceD d.plain fun d => K d m dead | none => none) | _ => none)
 | .call c =>
   (match c.callee, c.args.toList, c.argTypes.toList with
    | .builtin .len, [x], [t] => evK T slots t x fun dx => c6S T t dx fun d => K d m dead
    | .builtin .append, [s, x], [t, t2] => evK T slots t s fun ds => evK T slots t2 x fun dx => a3d T dst t t2 ds dx m dead K
    | .builtin .max, [a, b], [t, u] => evK T slots t a fun da => evK T slots u b fun db => a3A true [da, db] fun d => K d m dead
    | .builtin .min, [a, b], [t, u] => evK T slots t a fun da => evK T slots u b fun db => a3A false [da, db] fun d => K d m dead
    | _, _, _ => none)
 | _ => none
def a6W (cx : Cx) (g : Hg) (dst : Nat) (args : List D) (m : Mem) (dead : List Pos) (K : Bool -> D -> Mem -> List Pos -> Option R) : Option R :=
 match cx.isPure g with
 | true => cx.pureK g args fun rs => K false (c0M rs) m dead
 | false => cond (cx.isStill g) (cx.stillK g args m fun rs => K false (c0M rs) m dead) (cx.memK g dst args m fun rs m' => K true (c0M rs) m' dead)
def c4U (y : V) : D := match y with | .agg cs => .agg (cs.map vD) | y => vD y
def runK (cx : Cx) (o : Oper) (slots : List D) (mem : Mem) (dead : List Pos) (K : Bool -> D -> Mem -> List Pos -> Option R) : Option R :=
 match o.op with
 | .call c =>
   (match c.callee with
    | .builtin _ => opK cx.T (o.dst.getD 0) o.type slots o.op mem dead (K false)
    | .value f => evK cx.T slots 0 f fun df => (match df with
      | .clos g caps => a0n cx.T slots c.argTypes.toList c.args.toList fun args =>
       forceL (caps.map b4o) fun caps => a6W cx g (o.dst.getD 0) (args ++ caps) mem dead K
      | .fn n fs k s => a0n cx.T slots c.argTypes.toList c.args.toList fun args =>
       c9z n 0 fs fun g => a6W cx g (o.dst.getD 0) (.ptr (k + 1) s 0 :: args) mem dead K
      | _ => none)
    | .invoke recv name => evK cx.T slots 0 recv fun dr => (match dr with
      | .v x _ => (match x with
        | .iface t y => (match cx.meth t name with
          | some g => a0n cx.T slots c.argTypes.toList c.args.toList fun args => a6W cx g (o.dst.getD 0) (c4U y :: args) mem dead K
          | none => none)
        | _ => none)
      | _ => none))
 | op => opK cx.T (o.dst.getD 0) o.type slots op mem dead (K false)
def a3S (ops : Array Oper) (j : Nat) : Option Nat := match ops[j]? with | some o => o.dst | none => none
def a7R : List D -> (List D -> Option R) -> Option R
 | [], K => K []
 | d :: r, K =>
   match d with
   | .v x a => (match a with
     | .own p e => (match p with
       | .slot g => a7R r fun r => K (.v x (.own (.slot g) e) :: r)
       | _ => a7R r fun r => K (.v x .no :: r))
     | a => a7R r fun r => K (.v x a :: r))
   | d => cond d.noOwn (a7R r fun r => K (d :: r)) (a7R r fun r => K (.any :: r))
def a5A (cx : Cx) (o : Oper) (st : St) (K : St -> Option R) : Option R :=
 match st with
 | ⟨slots, mem, dead⟩ => runK cx o slots mem dead fun c d m' dead' => cond c (a7R slots fun slots => b8s slots o.dst d fun slots => K ⟨slots, m', dead'⟩) (b8s slots o.dst d fun slots => K ⟨slots, m', dead'⟩)
def b6h (o : Oper) (st : St) (K : St -> Option R) : Option R :=
 match st with
 | ⟨slots, mem, dead⟩ => b8s slots o.dst (.tup []) fun slots => K ⟨slots, mem, dead⟩
def p6 (cx : Cx) (ops : Array Oper) (o : Oper) (st : St) (K : St -> Option R) : Option R :=
 match o.guard with
 | none => a5A cx o st K
 | some (j, want) =>
   (match a3S ops j, st with
    | some s, ⟨slots, mem, dead⟩ => a8v slots s fun d => (match d with
      | .v x a => x.unBool fun b =>
        br b (b1K slots s (.v (.bool true) a) fun slots => (match want with | true => a5A cx o ⟨slots, mem, dead⟩ K | false => b6h o ⟨slots, mem, dead⟩ K))
         (b1K slots s (.v (.bool false) a) fun slots => (match want with | false => a5A cx o ⟨slots, mem, dead⟩ K | true => b6h o ⟨slots, mem, dead⟩ K))
      | .tup _ => b6h o ⟨slots, mem, dead⟩ K
      | _ => none)
    | none, _ => none)
def findF : List Oper -> Nat -> Option Nat
 | [], _ => none
 | o :: r, j => (match o.dst with
   | some d => cond (GR d j) (match o.op with | .fieldAddr _ (.tmp p) _ => some p | .indexAddr _ (.tmp p) _ => some p | .nilCheck _ => some 1000000 | _ => none) (findF r j)
   | none => findF r j)
def a1E (ops : Array Oper) : Nat -> Nat -> Nat
 | 0, j => j
 | n + 1, j => match findF ops.toList j with | some p => a1E ops n p | none => j
def a0j (l k q : Nat) : Bool := cond (GR l 1000000) (Jb 1 k) (GR k 0 && GR q l)
def b6s (ops : Array Oper) (slots : List D) (z : Hy) (K : Option R) : Option R :=
 match z with
 | .tmp j => a8v slots j fun d => (match d with | .ptr k q _ => cond (a0j (a1E ops 20 j) k q) K none | _ => K)
 | _ => none
def c8O (slots : List D) (args : List Hy) (K : Option R) : Option R :=
 match args with
 | [x, _] => (match x with
   | .tmp j => a8v slots j fun d => (match d with
     | .v _ a => (match a with
       | .own p _ => (match p with | .cell _ _ _ => none | _ => K)
       | _ => K)
     | _ => K)
   | _ => none)
 | _ => none
def isApp (op : Op) : Bool := match op with | .call c => (match c.callee with | .builtin .append => true | _ => false) | _ => false
def b8q (op : Op) : List Hy := match op with | .call c => c.args.toList | _ => []
def b3K (cx : Cx) (ops : Array Oper) (op : Op) (slots : List D) (K : Option R) : Option R :=
 match cx.dyn with
 | false => K
 | true => cond (isApp op) (c8O slots (b8q op) K) (match op with
   | .load _ z => b6s ops slots z K
   | .store _ z _ => b6s ops slots z K
   | _ => K)
def a7i (cx : Cx) (ops : Array Oper) : List Oper -> St -> (St -> Option R) -> Option R
 | [], st, K => K st
 | o :: r, ⟨slots, mem, dead⟩, K => b3K cx ops o.op slots (p6 cx ops o ⟨slots, mem, dead⟩ fun st' => a7i cx ops r st' K)
inductive Cls where
 | n | r | a | w | c | s
def w6 (cx : Cx) (op : Op) : Cls :=
 match op with
 | .load _ _ => .r
 | .alloc _ => .a
 | .box _ _ => .w
 | .store _ _ _ => .w
 | .call c => (match c.callee with
   | .builtin .append => .w
   | .builtin _ => .n
   | .value (.func f) => (match cx.isPure f with | true => .n | false => cond (cx.isStill f) .s .c)
   | .value _ => .c
   | .invoke _ _ => .c)
 | _ => .n
def a3E (dead : List Pos) : Nat -> List Pos -> List D -> (List D -> Option R) -> Option R
 | _, _, [], K => K []
 | s, seen, d :: r, K =>
   match d with
   | .v x a => (match a with
     | .own p e => (match p with
       | .slot g => cond (P7 (.slot g) dead || P7 (.slot g) seen) (a3E dead (s + 1) seen r fun r => K (.v x .no :: r)) (a3E dead (s + 1) (.slot g :: seen) r fun r => K (.v x (.own (.slot s) e) :: r))
       | _ => a3E dead (s + 1) seen r fun r => K (.v x .no :: r))
     | a => a3E dead (s + 1) seen r fun r => K (.v x a :: r))
   | d => cond d.noOwn (a3E dead (s + 1) seen r fun r => K (d :: r)) (a3E dead (s + 1) seen r fun r => K (.any :: r))
def b0D (st : St) (K : St -> Option R) : Option R :=
 match st with
 | ⟨slots, mem, dead⟩ => (match dead with
   | [] => K ⟨slots, mem, []⟩
   | p :: r => a3E (p :: r) 0 [] slots fun slots => K ⟨slots, mem, []⟩)
def b3e (s : Nat) : List Nat -> Bool
 | [] => false
 | t :: r => cond (GR s t) true (b3e s r)
mutual
def D.hangs (ks : List Nat) (k : Nat) : D -> Bool
 | .ptr k' s _ => GR k' k && !b3e s ks
 | .fn _ _ k' s => GR k' k && !b3e s ks
 | .clos _ caps => hangsL ks k caps
 | .agg ds => hangsL ks k ds
 | .tup ds => hangsL ks k ds
 | _ => false
def hangsL (ks : List Nat) (k : Nat) : List D -> Bool
 | [] => false
 | d :: ds => d.hangs ks k || hangsL ks k ds
end
def c0T (ks : List Nat) : Fr -> (Fr -> Option R) -> Option R
 | [], K => K []
 | (s, b) :: r, K => cond (b3e s ks && !hangsL ks 0 b.cells) (c0T ks r fun r => K ((s, b) :: r)) (cond (b3e s ks) none (c0T ks r K))
def a7K (all : List Nat) (slots : List D) (dead : List Pos) : List Nat -> List Pos -> (List D -> Option R) -> Option R
 | [], _, K => K []
 | s :: ks, seen, K => a8v slots s fun d =>
   (match d with
   | .v x a => (match a with
     | .own p e => (match p with
       | .slot g => cond (P7 (.slot g) dead || P7 (.slot g) seen) (a7K all slots dead ks seen fun r => K (.v x .no :: r)) (a7K all slots dead ks (.slot g :: seen) fun r => K (.v x (.own (.slot s) e) :: r))
       | _ => a7K all slots dead ks seen fun r => K (.v x .no :: r))
     | a => a7K all slots dead ks seen fun r => K (.v x a :: r))
   | d => cond (d.noOwn && !d.hangs all 0) (a7K all slots dead ks seen fun r => K (d :: r)) (a7K all slots dead ks seen fun r => K (.any :: r)))
def c8r (d : D) : D := match d with | .v x a => (match a with | .own _ _ => .v x .no | a => .v x a) | d => d
def c1G (ks : List Nat) : Fr -> (Fr -> Option R) -> Option R
 | [], K => K []
 | (s, b) :: r, K => cond (b3e (s + 100000) ks) (forceL (b.cells.map c8r) fun cs => c1G ks r fun r => K ((s, ⟨b.ty, cs⟩) :: r)) (c1G ks r fun r => K ((s, b) :: r))
def a7q (slots : List D) : List Nat -> List Pos -> List Pos
 | [], dead => dead
 | k :: ks, dead => cond (Jb 200000 k) (match slots.getD (k - 200000) .any with | .v _ (.own p _) => p :: a7q slots ks dead | _ => a7q slots ks dead) (a7q slots ks dead)
def a8x (slots : List D) : List Nat -> List Pos -> (List Pos -> Option R) -> Option R
 | [], dead, K => K dead
 | k :: ks, dead, K => cond (Jb 200000 k) (a8v slots (k - 200000) fun d => match d with | .v _ (.own p _) => a8x slots ks dead fun r => K (p :: r) | _ => a8x slots ks dead K) (a8x slots ks dead K)
def b4R (ks : List Nat) (st : St) (K : List D -> Mem -> Option R) : Option R :=
 match st with
 | ⟨slots, fr :: out, dead⟩ => a8x slots ks dead fun dead => a7K ks slots dead ks [] fun ds => c0T ks fr fun fr => c1G ks fr fun fr => K ds (fr :: out)
 | _ => none
def Y0 : Nat -> Nat -> List Nat -> List D -> (List D -> Option R) -> Option R
 | 0, _, _, _, K => K []
 | n + 1, s, k :: ks, d :: ds, K => cond (GR s k) (Y0 n (s + 1) ks ds fun r => K (d :: r)) (Y0 n (s + 1) (k :: ks) (d :: ds) fun r => K (.any :: r))
 | n + 1, s, ks, ds, K => Y0 n (s + 1) ks ds fun r => K (.any :: r)
def U8 : Code -> Nat
 | .region id _ _ => id
 | .seq a _ => U8 a
 | .block _ a => U8 a
 | .scope a => U8 a
 | .loop a => U8 a
 | .cond _ a _ => U8 a
 | _ => 0
def a0k (body : St -> (Ex -> St -> Option R) -> Option R) (n : Nat) (ks xs : List Nat) (L : List D -> Mem -> Option R) (ds : List D) (m : Mem) (K : Ex -> List D -> Mem -> Option R) : Option R :=
 Y0 n 0 ks ds fun slots => body ⟨slots, m, []⟩ fun e st' =>
  (match e with
   | .normal => b4R ks st' L
   | e => b4R xs st' fun ds m => K e ds m)
def a0T (body : St -> (Ex -> St -> Option R) -> Option R) (n : Nat) (ks xs : List Nat) : Nat -> List D -> Mem -> (Ex -> List D -> Mem -> Option R) -> Option R
 | 0, _, _, _ => none
 | t + 1, ds, m, K => a0k body n ks xs (fun ds m => a0T body n ks xs t ds m K) ds m K
def D6 : Code -> List Code
 | .seq a b => D6 a ++ D6 b
 | .cond _ a b => D6 a ++ D6 b
 | .block _ a => D6 a
 | .loop a => a :: D6 a
 | .scope a => D6 a
 | _ => []
def drawnOf : Code -> List (Array Oper)
 | .region _ ops draw => (match draw with | true => [ops] | false => [])
 | .seq a b => drawnOf a ++ drawnOf b
 | .cond _ a b => drawnOf a ++ drawnOf b
 | .block _ a => drawnOf a
 | .loop a => drawnOf a
 | .scope a => drawnOf a
 | _ => []
def q8 (l : Nat) : Code -> Bool
 | .seq a b => q8 l a || q8 l b
 | .label l' => GR l' l
 | _ => false
def c5D (from_ : Nat -> St -> (Ex -> St -> Option R) -> Option R) (has : Nat -> Bool) : Nat -> Nat -> St -> (Ex -> St -> Option R) -> Option R
 | 0, _, _, _ => none
 | n + 1, l, st, K => from_ l st fun e st' => match e with | .goto l' => cond (has l') (c5D from_ has n l' st' K) (K (.goto l') st') | e => K e st'
mutual
def codeK (cx : Cx) (c : Code) (st : St) (K : Ex -> St -> Option R) : Option R :=
 match c with
 | .skip => K .normal st
 | .region id ops draw =>
   a7i cx ops ops.toList st fun st' => b0D st' fun st' => K .normal st'
 | .seq a b => codeK cx a st fun e st' => match e with | .normal => codeK cx b st' K | e => K e st'
 | .cond c a b =>
   (match c, st with
    | .tmp t, ⟨slots, mem, dead⟩ => a8v slots t fun d => (match d with
      | .v x at_ => x.unBool fun v => br v (b1K slots t (.v (.bool true) at_) fun slots => codeK cx a ⟨slots, mem, dead⟩ K) (b1K slots t (.v (.bool false) at_) fun slots => codeK cx b ⟨slots, mem, dead⟩ K)
      | _ => none)
    | .const (.bool v), st => cond v (codeK cx a st K) (codeK cx b st K)
    | _, _ => none)
 | .block id a => codeK cx a st fun e st' => match e with | .exit i => cond (GR i id) (K .normal st') (K (.exit i) st') | e => K e st'
 | .loop a =>
   (match st with
    | ⟨slots, mem, dead⟩ => b4R (cx.keep (U8 a)) ⟨slots, mem, dead⟩ fun ds m => cx.loopT (U8 a) ds m fun e ds m => Y0 slots.length 0 (cx.keepX (U8 a)) ds fun slots => K e ⟨slots, m, []⟩)
 | .exit id => K (.exit id) st
 | .scope a => codeK cx a st fun e st' => (match e with
   | .goto l => cond (q8 l a) (c5D (fun l st K => fromK cx l a st K) (fun l => q8 l a) cx.jumps l st' K) (K (.goto l) st')
   | e => K e st')
 | .label _ => K .normal st
 | .goto l => K (.goto l) st
 | .ret => K .ret st
 | _ => none
def fromK (cx : Cx) (l : Nat) (c : Code) (st : St) (K : Ex -> St -> Option R) : Option R :=
 match c with
 | .seq a b => cond (q8 l a) (fromK cx l a st fun e st' => match e with | .normal => codeK cx b st' K | e => K e st') (fromK cx l b st K)
 | .label _ => K .normal st
 | _ => none
end
def d2x (cx : Cx) (rv : ResultVar) (st : St) (K : D -> Option R) : Option R :=
 match rv with
 | .tmp t => a8v st.slots t fun d => forceD d.bare K
 | .cell p ty => a8v st.slots p fun dp => a0m cx.T ty dp st.mem fun d => forceD d.bare K
def b3C (cx : Cx) : List ResultVar -> St -> (List D -> Option R) -> Option R
 | [], _, K => K []
 | r :: rs, st, K => d2x cx r st fun d => b3C cx rs st fun ds => K (d :: ds)
def b8A : Nat -> (List D -> Option R) -> Option R
 | 0, K => K []
 | n + 1, K => b8A n fun r => K (.any :: r)
def c9Z (n : Nat) : List D -> (List D -> Option R) -> Option R
 | [], K => b8A n K
 | d :: ds, K => c9Z (n - 1) ds fun r => K (d :: r)
def g8 (cx : Cx) (fn : Func) (args : List D) (m : Mem) (K : List D -> Mem -> Option R) : Option R :=
 match fn.body with
 | some c => c9Z fn.ntmps args fun slots => codeK cx c ⟨slots, [] :: m, []⟩ fun e st' =>
   (match e with
    | .normal => b3C cx fn.results.toList st' fun rs => K rs st'.mem
    | .ret => b3C cx fn.results.toList st' fun rs => K rs st'.mem
    | _ => none)
 | none => none
def G1 (fn : Func) (i : Nat) : Code := (D6 (fn.body.getD .skip)).getD i .skip
def d3 {α : Type} (o : Option α) (K : α -> Option R) : Option R := match o with | some a => K a | none => none
def Q3 {α β : Type} (o : Option (α × β)) (K : α -> β -> Option R) : Option R := match o with | some (a, b) => K a b | none => none
def a3n {α β γ : Type} (o : Option (α × β × γ)) (K : α -> β -> γ -> Option R) : Option R := match o with | some (a, b, c) => K a b c | none => none
def M8 {α β γ δ : Type} (o : Option (α × β × γ × δ)) (K : α -> β -> γ -> δ -> Option R) : Option R := match o with | some (a, b, c, d) => K a b c d | none => none
end En
namespace En
open Go
inductive APos where
 | slot (d s : Nat)
 | cell (d s i : Nat)
 deriving DecidableEq
inductive Perm where
 | imm
 | low (n : Nat)
 | own (p : APos) (n : Nat)
 | box (d s : Nat)
structure G where
 Γ : Nat -> Perm
 J : Nat -> Nat -> Nat
 sz : GF -> Nat
def j9 (g : G) (b o : Nat) : Prop := match g.Γ b with | .imm => True | .low n => o < n | .own _ n => o < n | .box _ _ => False
def a8s (d : Nat) : Pos -> APos
 | .slot s => .slot d s
 | .cell k s i => .cell (d - k) s i
def b3n (d : Nat) : Pos -> Prop
 | .slot _ => True
 | .cell k _ _ => k <= d
def d6n (es : Array Mg) (ks : List Int) : Prop := es.toList.map (fun e => (e.key, e.val)) = ks.map fun k => (JW .i64 k, OJ true)
inductive RepV (g : G) (w : GG) : V -> GK -> Prop
 | bool (b : Bool) : RepV g w (.bool b) (.bool b)
 | int (k : IS) (n : Int) (h : k.min <= n /\ n <= k.max) : RepV g w (.int k n) (.int k n)
 | str (s : List UInt8) (h : s.length <= 9223372036854775807) : RepV g w (.str s) (.string ⟨s.toArray⟩)
 | bytes (xs : List UInt8) (A : Option Addr) (n c : Nat) (hn : xs.length = n) (hc : n <= c) (hm : c <= maxLen)
  (h : ∀ (k : Nat) x, xs[k]? = some x -> ∃ b off, A = some ⟨b, off, none⟩ /\ j9 g b (off + k) /\ w.cell? ⟨b, off + k, none⟩ = some (.int .u8 (x.toNat : Int))) : RepV g w (.bytes xs) (.slice A n c)
 | sl (e : GF) (xs : List V) (A : Option Addr) (n c : Nat) (us : Nat -> GK) (hn : xs.length = n) (hc : n <= c) (hm : c <= maxLen) (hs : ∀ x ∈ xs, b4s (g.sz e) x = true)
  (h : ∀ (k : Nat) y, (xs.flatMap V.cells)[k]? = some y -> ∃ b off, A = some ⟨b, off, none⟩ /\ j9 g b (off + k) /\ w.cell? ⟨b, off + k, none⟩ = some (us k))
  (hr : ∀ (k : Nat) y, (xs.flatMap V.cells)[k]? = some y -> RepV g w y (us k)) : RepV g w (.sl e xs) (.slice A n c)
 | agg (cs : List V) (us : Array GK) (hn : us.size = cs.length) (hr : ∀ (k : Nat) y, cs[k]? = some y -> RepV g w y (us.getD k undef)) : RepV g w (.agg cs) (.agg us)
 | iface (t : GF) (x : V) (v : GK) (h : RepV g w x v) : RepV g w (.iface t x) (.iface t v)
 | nilI : RepV g w .nilI .nilIface
 | mset (ks : List Int) (b : Nat) (es : Array Mg) (clock : Nat) (hb : g.Γ b = .imm) (hw : w.heap[b]? = some (.map es clock)) (hm : d6n es ks) : RepV g w (.mset ks) (.map (some b))
 | nilM : RepV g w .nilM (.map none)
structure Later (g : G) (w : GG) (g' : G) (w' : GG) : Prop where
 sz : g'.sz = g.sz
 st : ∀ b o v, j9 g b o -> w.cell? ⟨b, o, none⟩ = some v -> j9 g' b o /\ w'.cell? ⟨b, o, none⟩ = some v
 im : ∀ b x, g.Γ b = .imm -> w.heap[b]? = some x -> g'.Γ b = .imm /\ w'.heap[b]? = some x
theorem Later.refl (g : G) (w : GG) : Later g w g w := ⟨rfl, fun _ _ _ h h' => ⟨h, h'⟩, fun _ _ h h' => ⟨h, h'⟩⟩
theorem Later.trans {g g1 g2 : G} {w w1 w2 : GG} (h : Later g w g1 w1) (k : Later g1 w1 g2 w2) : Later g w g2 w2 :=
 ⟨k.sz.trans h.sz, fun b o v h1 h2 => k.st b o v (h.st b o v h1 h2).1 (h.st b o v h1 h2).2, fun b x h1 h2 => k.im b x (h.im b x h1 h2).1 (h.im b x h1 h2).2⟩
theorem RepV.later {g g' : G} {w w' : GG} (hl : Later g w g' w') {x : V} {v : GK} (h : RepV g w x v) : RepV g' w' x v := by
 induction h with
 | bool b => exact .bool b
 | int k n h => exact .int k n h
 | str s h => exact .str s h
 | bytes xs A n c hn hc hm h =>
   refine .bytes xs A n c hn hc hm fun k x hx => ?_
   obtain ⟨b, off, e, h1, h2⟩ := h k x hx
   exact ⟨b, off, e, hl.st _ _ _ h1 h2⟩
 | sl e xs A n c us hn hc hm hs h hr ih =>
   refine .sl e xs A n c us hn hc hm (by rw [hl.sz]; exact hs) (fun k x hx => ?_) ih
   obtain ⟨b, off, e, h1, h2⟩ := h k x hx
   exact ⟨b, off, e, hl.st _ _ _ h1 h2⟩
 | agg cs us hn hr ih => exact .agg cs us hn ih
 | iface t x v h ih => exact .iface t x v ih
 | nilI => exact .nilI
 | mset ks b es clock hb hw hm => exact .mset ks b es clock (hl.im _ _ hb hw).1 (hl.im _ _ hb hw).2 hm
 | nilM => exact .nilM
theorem RepV.one {g : G} {w : GG} {x : V} {v : GK} (h : RepV g w x v) (h1 : x.one = true) : v.oneCell' = true := by
 cases h <;> first | rfl | cases h1
theorem RepV.cells {g : G} {w : GG} {x : V} {v : GK} (h : RepV g w x v) : v.cells.size = x.cells.length /\ ∀ (k : Nat) y, x.cells[k]? = some y -> RepV g w y (v.cells.getD k undef) := by
 cases h with
 | agg cs us hn hr => exact ⟨hn, hr⟩
 | _ =>
   refine ⟨rfl, fun k y hk => ?_⟩
   rcases k with _ | k
   . simp [V.cells] at hk
     subst hk
     simp only [JX]
     first
      | exact .bool _
      | exact .int _ _ (by assumption)
      | exact .str _ (by assumption)
      | exact .bytes _ _ _ _ (by assumption) (by assumption) (by assumption) (by assumption)
      | exact .sl _ _ _ _ _ _ (by assumption) (by assumption) (by assumption) (by assumption) (by assumption) (by assumption)
      | exact .iface _ _ _ (by assumption)
      | exact .nilI
      | exact .mset _ _ _ _ (by assumption) (by assumption) (by assumption)
      | exact .nilM
   . simp [V.cells] at hk
def p8 (g : G) (w : GG) (p : APos) (e : GF) (v : GK) : Prop :=
 v = .slice none 0 0 ∨ ∃ b n cap cur, v = .slice (some ⟨b, 0, none⟩) n cap /\ g.Γ b = .own p (n * g.sz e) /\ w.heap[b]? = some (.cells cur e (0, 0)) /\ n <= cap /\ cap <= maxLen /\ cur.size = cap * g.sz e
structure Env where
 d : Nat
 dom : Nat -> Nat -> Prop
def AttOK (E : Env) (g : G) (w : GG) (dead : List Pos) : Att -> GK -> Prop
 | .no, _ => True
 | .nil _, v => v = .slice none 0 0
 | .own p e, v => p ∈ dead ∨ (b3n E.d p /\ p8 g w (a8s E.d p) e v)
def FnV (n : Int) (fs : List Hg) (C : Prop) (b : Nat) (v : GK) : Prop :=
 (n = 0 /\ v = .nilFunc) ∨ ∃ (i : Nat) (f : Hg), fs[i]? = some f /\ n = (i : Int) + 1 /\ C /\ v = .func (.func f) #[.pointer (some ⟨b, 0, none⟩)] #[]
theorem FnV.imp {n : Int} {fs : List Hg} {C C' : Prop} {b b' : Nat} {v : GK} (h : FnV n fs C b v) (hc : C -> C' /\ b' = b) : FnV n fs C' b' v := by
 rcases h with h | ⟨i, f, h1, h2, h3, h4⟩
 . exact .inl h
 . obtain ⟨a, rfl⟩ := hc h3
   exact .inr ⟨i, f, h1, h2, a, h4⟩
inductive RepD (E : Env) (g : G) (w : GG) (dead : List Pos) : D -> GK -> Prop
 | v (x : V) (a : Att) (v : GK) (h : RepV g w x v) (ha : AttOK E g w dead a v) : RepD E g w dead (.v x a) v
 | ptr (k s o : Nat) (hk : k <= E.d) (hd : E.dom k s) : RepD E g w dead (.ptr k s o) (.pointer (some ⟨g.J (E.d - k) s, o, none⟩))
 | nilp : RepD E g w dead .nilp (.pointer none)
 | eptr (cs : List V) (o b off : Nat) (us : Nat -> GK) (h : ∀ (k : Nat) y, cs[k]? = some y -> j9 g b (off + k) /\ w.cell? ⟨b, off + k, none⟩ = some (us k))
  (hr : ∀ (k : Nat) y, cs[k]? = some y -> RepV g w y (us k)) : RepD E g w dead (.eptr cs o) (.pointer (some ⟨b, off + o, none⟩))
 | clos (f : Hg) (caps : List D) (us : Array GK) (hn : us.size = caps.length) (hr : ∀ (k : Nat) y, caps[k]? = some y -> RepD E g w dead y (us.getD k undef)) : RepD E g w dead (.clos f caps) (.func (.func f) #[] us)
 | nilF : RepD E g w dead .nilF .nilFunc
 | fn (n : Int) (fs : List Hg) (k s : Nat) (v : GK) (h : FnV n fs (k <= E.d /\ E.dom k s) (g.J (E.d - k) s) v) : RepD E g w dead (.fn n fs k s) v
 | bld : RepD E g w dead .bld (.pointer none)
 | agg (ds : List D) (us : Array GK) (hn : us.size = ds.length) (hr : ∀ (k : Nat) y, ds[k]? = some y -> RepD E g w dead y (us.getD k undef)) : RepD E g w dead (.agg ds) (.agg us)
 | tup (ds : List D) (us : Array GK) (hn : us.size = ds.length) (hr : ∀ (k : Nat) y, ds[k]? = some y -> RepD E g w dead y (us.getD k undef)) : RepD E g w dead (.tup ds) (.tuple us)
 | any (v : GK) : RepD E g w dead .any v
structure Keeps (E : Env) (g : G) (w : GG) (dead : List Pos) (E' : Env) (g' : G) (w' : GG) (dead' : List Pos) : Prop where
 later : Later g w g' w'
 d : E'.d = E.d
 dom : ∀ k s, E.dom k s -> E'.dom k s
 J : ∀ k s, k <= E.d -> E.dom k s -> g'.J (E.d - k) s = g.J (E.d - k) s
 dead : ∀ p, p ∈ dead -> p ∈ dead'
 own : ∀ p e v, b3n E.d p -> p ∉ dead' -> p8 g w (a8s E.d p) e v -> p8 g' w' (a8s E.d p) e v
theorem Keeps.refl (E : Env) (g : G) (w : GG) (dead : List Pos) : Keeps E g w dead E g w dead :=
 ⟨Later.refl g w, rfl, fun _ _ h => h, fun _ _ _ _ => rfl, fun _ h => h, fun _ _ _ _ _ h => h⟩
theorem Keeps.trans {E E1 E2 : Env} {g g1 g2 : G} {w w1 w2 : GG} {d d1 d2 : List Pos} (h : Keeps E g w d E1 g1 w1 d1) (k : Keeps E1 g1 w1 d1 E2 g2 w2 d2) : Keeps E g w d E2 g2 w2 d2 := by
 refine ⟨h.later.trans k.later, k.d.trans h.d, fun a s hh => k.dom a s (h.dom a s hh), fun a s ha hd => ?_, fun p hp => k.dead p (h.dead p hp), fun p e v hp hn ho => ?_⟩
 . have := k.J a s (by rw [h.d]; exact ha) (h.dom a s hd)
   rw [h.d] at this
   exact this.trans (h.J a s ha hd)
 . have h1 := h.own p e v hp (fun hh => hn (k.dead p hh)) ho
   have := k.own p e v (by rw [h.d]; exact hp) hn (by rw [h.d]; exact h1)
   rwa [h.d] at this
theorem AttOK.keep {E E' : Env} {g g' : G} {w w' : GG} {dead dead' : List Pos} (hk : Keeps E g w dead E' g' w' dead') {a : Att} {v : GK} (h : AttOK E g w dead a v) : AttOK E' g' w' dead' a v := by
 cases a with
 | no => trivial
 | nil e => exact h
 | own p e =>
   by_cases hp : p ∈ dead'
   . exact .inl hp
   . rcases h with h | ⟨h1, h2⟩
     . exact absurd (hk.dead p h) hp
     . refine .inr ⟨by rw [hk.d]; exact h1, ?_⟩
       rw [hk.d]
       exact hk.own p e v h1 hp h2
theorem RepD.keep {E E' : Env} {g g' : G} {w w' : GG} {dead dead' : List Pos} (hk : Keeps E g w dead E' g' w' dead') {x : D} {v : GK} (h : RepD E g w dead x v) : RepD E' g' w' dead' x v := by
 induction h with
 | v x a v h ha => exact .v x a v (h.later hk.later) (ha.keep hk)
 | ptr k s o h1 h2 =>
   have := hk.J k s h1 h2
   rw [← this, ← hk.d]
   exact .ptr k s o (by rw [hk.d]; exact h1) (hk.dom k s h2)
 | nilp => exact .nilp
 | eptr cs o b off us h hr => exact .eptr cs o b off us (fun k y hy => hk.later.st _ _ _ (h k y hy).1 (h k y hy).2) (fun k y hy => (hr k y hy).later hk.later)
 | clos f caps us hn hr ih => exact .clos f caps us hn ih
 | nilF => exact .nilF
 | fn n fs k s v h => exact .fn n fs k s v (h.imp fun ⟨h1, h2⟩ => ⟨⟨by rw [hk.d]; exact h1, hk.dom k s h2⟩, by rw [hk.d]; exact hk.J k s h1 h2⟩)
 | bld => exact .bld
 | agg ds us hn hr ih => exact .agg ds us hn ih
 | tup ds us hn hr ih => exact .tup ds us hn ih
 | any v => exact .any v
def D.flat : D -> Bool
 | .v _ _ => true
 | d => d.noOwn
def t9 (m : Mem) (k s : Nat) : Prop := ∃ b, m.box? k s = some b
def b5X (b : Nat) (v : GK) : Prop := v = .pointer none ∨ v = .pointer (some ⟨b, 0, none⟩)
structure BoxRep (E : Env) (g : G) (w : GG) (k s : Nat) (b : Bx) : Prop where
 le : k <= E.d
 perm : g.Γ (g.J (E.d - k) s) = .box (E.d - k) s
 heap : ∃ us, w.heap[g.J (E.d - k) s]? = some (.cells us b.ty (0, 0)) /\ us.size = b.cells.length /\
  ∀ (i : Nat) c, b.cells[i]? = some c -> c.one = true /\ c.flat = true /\ (c = .bld -> b5X (g.J (E.d - k) s) (us.getD i undef)) /\ RepD E g w [] (w4 k s i c) (us.getD i undef)
def MemRep (E : Env) (g : G) (w : GG) (m : Mem) : Prop := ∀ k s b, m.box? k s = some b -> BoxRep E g w k s b
structure Tr (d : Nat) (g : G) (w : GG) (g' : G) (w' : GG) : Prop where
 os : w'.os = w.os
 tape : w'.tape = w.tape
 output : w'.output = w.output
 size : w.heap.size <= w'.heap.size
 later : Later g w g' w'
 hid : ∀ b, b < w.heap.size -> (g.Γ b = .imm ∨ ∃ n, g.Γ b = .low n) -> g'.Γ b = g.Γ b /\ w'.heap[b]? = w.heap[b]?
 J : ∀ d' s, d' < d -> g'.J d' s = g.J d' s
theorem Tr.refl (d : Nat) (g : G) (w : GG) : Tr d g w g w :=
 ⟨rfl, rfl, rfl, GB _, Later.refl g w, fun _ _ _ => ⟨rfl, rfl⟩, fun _ _ _ => rfl⟩
theorem Tr.trans {d : Nat} {g g1 g2 : G} {w w1 w2 : GG} (h : Tr d g w g1 w1) (k : Tr d g1 w1 g2 w2) : Tr d g w g2 w2 := by
 refine ⟨k.os.trans h.os, k.tape.trans h.tape, k.output.trans h.output, KH h.size k.size, h.later.trans k.later, fun b hb hi => ?_, fun d' s hd => (k.J d' s hd).trans (h.J d' s hd)⟩
 obtain ⟨a1, a2⟩ := h.hid b hb hi
 obtain ⟨b1, b2⟩ := k.hid b (Jj hb h.size) (by rw [a1]; exact hi)
 exact ⟨b1.trans a1, b2.trans a2⟩
theorem Pos.eqb_iff (p q : Pos) : p.eqb q = true ↔ p = q := by
 cases p <;> cases q <;> simp [Pos.eqb]
theorem a2N (p : Pos) : ∀ l : List Pos, P7 p l = true ↔ p ∈ l
 | [] => by simp [P7]
 | q :: l => by
   unfold P7
   cases h : p.eqb q with
   | true => simp [(Pos.eqb_iff p q).1 h]
   | false =>
     have : p ≠ q := fun e => by rw [(Pos.eqb_iff p q).2 e] at h; cases h
     simp [a2N p l, this]
theorem a6a {s t : Nat} (h : s ≠ t) : GR s t = false := by
 cases hb : GR s t with
 | false => rfl
 | true => exact absurd (GE hb) h
theorem I6 (t s : Nat) (b : Bx) (r : Fr) : D7 t ((s, b) :: r) = if t = s then some b else D7 t r := by
 show (bif GR t s then some b else D7 t r) = _
 by_cases h : t = s
 . subst h; simp
 . rw [a6a h, if_neg h]; rfl
theorem b4H (s t : Nat) (b : Bx) : ∀ fr : Fr, D7 t (b1g s b fr) = if t = s then some b else D7 t fr
 | [] => by rw [b1g, I6]
 | (s', b') :: r => by
   unfold b1g
   by_cases h1 : s = s'
   . subst h1
     simp only [Nat.beq_refl, cond_true, I6]
     by_cases h : t = s <;> simp [h]
   . rw [a6a h1]
     simp only [cond_false]
     cases hb : GM s s' with
     | true => simp only [cond_true, I6]
     | false =>
       simp only [cond_false, I6, b4H s t b r]
       by_cases h : t = s
       . subst h; simp [h1]
       . simp [h]
theorem C5 : ∀ (m : Mem) (k s : Nat) (b : Bx) (k' s' : Nat), (m.setBox k s b).box? k' s' = if k' = k /\ s' = s /\ k < m.length then some b else m.box? k' s'
 | [], k, s, b, k', s' => by simp [Mem.setBox, Mem.box?]
 | fr :: m, 0, s, b, 0, s' => by simp [Mem.setBox, Mem.box?, b4H]
 | fr :: m, 0, s, b, k' + 1, s' => by simp [Mem.setBox, Mem.box?]
 | fr :: m, k + 1, s, b, 0, s' => by simp [Mem.setBox, Mem.box?]
 | fr :: m, k + 1, s, b, k' + 1, s' => by simp [Mem.setBox, Mem.box?, C5 m k s b k' s']
theorem D0 : ∀ (m : Mem) (k s : Nat) (b : Bx), (m.setBox k s b).length = m.length
 | [], _, _, _ => rfl
 | _ :: _, 0, _, _ => rfl
 | _ :: m, k + 1, s, b => by simp [Mem.setBox, D0 m k s b]
theorem a4a : ∀ (m : Mem) (k s : Nat) (b : Bx), m.box? k s = some b -> k < m.length
 | [], _, _, _, h => by simp [Mem.box?] at h
 | _ :: _, 0, _, _, _ => by simp
 | _ :: m, k + 1, s, b, h => by have := a4a m k s b h; simp; omega
end En
namespace En
open Go
/-- A struct that is compared. -/
def eqOKB (P : Hb) (t : GF) (ty : Ty) : Bool := !ty.eqb || (!P.stoodInHeld t && (!P.eqGuardType P.depth t && (match ty.desc with | .struct fs => fs.toList.all fun f => !(f.name == "_") | _ => true)))
structure TyOK (P : Hb) (t : GF) (ty : Ty) : Prop where
 desc : P.underlying t = some ty.desc
 info : ∃ i, P.info? t = some i /\ i.zero = some ty.zero /\ i.size = ty.size /\ i.bytes = ty.nbytes
 one : ty.row = false -> ty.size = 1
 eq : eqOKB P t ty = true
def p7 (P : Hb) (T : GF -> Option Ty) : Prop := ∀ t ty, T t = some ty -> TyOK P t ty
def d5M (P : Hb) (o : Oper) (a : Act) (w : GG) (v : GK) (w' : GG) : Prop :=
 (execOp a.eval o).run P w = .ok (.value v) w' ∨ ((execOp a.eval o).run P w = .ok .skip w' /\ v = undef)
theorem c2v {P : Hb} {o : Oper} {a : Act} {w w' : GG} {v : GK} (h : d5M P o a w v w') {next : Act -> GG -> Prop} {Q : Exit -> Act -> GG -> Prop} (hn : next (a.put o.dst v) w') : o.wp P a w next Q := by
 unfold Oper.wp
 rcases h with h | ⟨h, rfl⟩
 . rw [h]; exact hn
 . rw [h]; exact hn
def d3R (b : Nat) (x : Obj) : Prop := False
def d3F : List Nat := []
structure SzOK (T : GF -> Option Ty) (g : G) (w : GG) : Prop where
 eq : g.sz = T4 T
 gl : ∀ b ∈ d3F, g.Γ b = .imm /\ ∃ x, w.heap[b]? = some x /\ d3R b x
theorem SzOK.later {T : GF -> Option Ty} {g g' : G} {w w' : GG} (h : SzOK T g w) (hl : Later g w g' w') : SzOK T g' w' :=
 ⟨hl.sz.trans h.eq, fun b hb => by
  obtain ⟨h1, x, h2, h3⟩ := h.gl b hb
  obtain ⟨h4, h5⟩ := hl.im b x h1 h2
  exact ⟨h4, x, h5, h3⟩⟩
structure Here (T : GF -> Option Ty) (E : Env) (g : G) (w : GG) (m : Mem) : Prop where
 mem : MemRep E g w m
 dom : E.dom = t9 m
 sk : SzOK T g w
 len : m.length = E.d + 1
theorem Here.sz {T : GF -> Option Ty} {E : Env} {g : G} {w : GG} {m : Mem} (h : Here T E g w m) : g.sz = T4 T := h.sk.eq
def Res (P : Hb) (T : GF -> Option Ty) (E : Env) (g : G) (w : GG) (m : Mem) (dead : List Pos) (o : Oper) (a : Act) (x : D) (m' : Mem) (dead' : List Pos) : Prop :=
 ∃ v w' g' E', d5M P o a w v w' /\ Keeps E g w dead E' g' w' dead' /\ Here T E' g' w' m' /\ RepD E' g' w' dead' x v /\ Tr E.d g w g' w'
theorem Res.pure {P : Hb} {T : GF -> Option Ty} {E : Env} {g : G} {w : GG} {m : Mem} {dead : List Pos} {o : Oper} {a : Act} {x : D} (hh : Here T E g w m) {v : GK}
 (hr : (execOp a.eval o).run P w = .ok (.value v) w) (hx : RepD E g w dead x v) : Res P T E g w m dead o a x m dead :=
 ⟨v, w, g, E, .inl hr, Keeps.refl E g w dead, hh, hx, Tr.refl _ _ _⟩
section
variable {P : Hb} {T : GF -> Option Ty} {E : Env} {g : G} {w : GG} {dead : List Pos}
theorem RepD.int_inv {k : IS} {n : Int} {a : Att} {v : GK} (h : RepD E g w dead (.v (.int k n) a) v) : v = .int k n /\ k.min <= n /\ n <= k.max := by
 cases h with | v x a v h ha => cases h with | int k n hh => exact ⟨rfl, hh⟩
theorem RepD.bool_inv {b : Bool} {a : Att} {v : GK} (h : RepD E g w dead (.v (.bool b) a) v) : v = .bool b := by
 cases h with | v x a v h ha => cases h; rfl
theorem RepD.str_inv {s : List UInt8} {a : Att} {v : GK} (h : RepD E g w dead (.v (.str s) a) v) : v = .string ⟨s.toArray⟩ /\ s.length <= 9223372036854775807 := by
 cases h with | v x a v h ha => cases h with | str s hh => exact ⟨rfl, hh⟩
theorem RepD.int_ {k : IS} {n : Int} (h : k.min <= n /\ n <= k.max) : RepD E g w dead (a2g k n) (.int k n) := .v _ _ _ (.int k n h) trivial
theorem RepD.bool_ (b : Bool) : RepD E g w dead (P3 b) (.bool b) := .v _ _ _ (.bool b) trivial
theorem RepD.str_ {s : List UInt8} (h : s.length <= 9223372036854775807) : RepD E g w dead (.v (.str s) .no) (.string ⟨s.toArray⟩) := .v _ _ _ (.str s h) trivial
theorem F1 (k : IS) (n : Int) : k.min <= k.wrap n /\ k.wrap n <= k.max := by
 cases k <;> simp only [IntKind.wrap, JY, JZ, KI, Kg] <;> simp <;> (try split) <;> omega
theorem RepD.plain_ {x : D} {v : GK} (h : RepD E g w dead x v) : RepD E g w dead x.plain v := by
 have hl : ∀ (ds : List D) (k : Nat) y, (plains ds)[k]? = some y -> ∃ z, ds[k]? = some z /\ y = z.plain := by
  intro ds
  induction ds with
  | nil => intro k y h; simp [plains] at h
  | cons d ds ih =>
    intro k y h
    rcases k with _ | k
    . simp [plains] at h; exact ⟨d, by simp, h.symm⟩
    . simp [plains] at h; obtain ⟨z, h1, h2⟩ := ih k y h; exact ⟨z, by simpa using h1, h2⟩
 have hn : ∀ ds : List D, (plains ds).length = ds.length := by
  intro ds; induction ds with | nil => rfl | cons d ds ih => simp [plains, ih]
 induction h with
 | v x a v h ha => cases a <;> simp only [D.plain, Att.plain] <;> first | exact .v _ _ _ h ha | exact .v _ _ _ h trivial
 | ptr k s o h1 h2 => exact .ptr k s o h1 h2
 | nilp => exact .nilp
 | eptr cs o b off us h hr => exact .eptr cs o b off us h hr
 | clos f caps us hn' hr ih =>
   refine .clos f _ us (by rw [hn]; exact hn') fun k y hy => ?_
   obtain ⟨z, hz, rfl⟩ := hl _ k y hy
   exact ih k z hz
 | nilF => exact .nilF
 | fn n fs k s v h => exact .fn n fs k s v h
 | bld => exact .bld
 | agg ds us hn' hr ih =>
   refine .agg _ us (by rw [hn]; exact hn') fun k y hy => ?_
   obtain ⟨z, hz, rfl⟩ := hl _ k y hy
   exact ih k z hz
 | tup ds us hn' hr ih =>
   refine .tup _ us (by rw [hn]; exact hn') fun k y hy => ?_
   obtain ⟨z, hz, rfl⟩ := hl _ k y hy
   exact ih k z hz
 | any v => exact .any v
theorem E9 : ∀ (ds : List D) (k : Nat) y, (bares ds)[k]? = some y -> ∃ z, ds[k]? = some z /\ y = z.bare
 | [], k, y, h => by simp [bares] at h
 | d :: ds, 0, y, h => by simp [bares] at h; exact ⟨d, by simp, h.symm⟩
 | d :: ds, k + 1, y, h => by
   simp [bares] at h; obtain ⟨z, h1, h2⟩ := E9 ds k y h; exact ⟨z, by simpa using h1, h2⟩
theorem t6 : ∀ ds : List D, (bares ds).length = ds.length
 | [] => rfl
 | d :: ds => by simp [bares, t6 ds]
theorem RepD.bare_ {x : D} {v : GK} (h : RepD E g w dead x v) : RepD E g w dead x.bare v := by
 induction h with
 | v x a v h ha => exact .v _ _ _ h trivial
 | ptr k s o h1 h2 => exact .ptr k s o h1 h2
 | nilp => exact .nilp
 | eptr cs o b off us h hr => exact .eptr cs o b off us h hr
 | clos f caps us hn' hr ih =>
   refine .clos f _ us (by rw [t6]; exact hn') fun k y hy => ?_
   obtain ⟨z, hz, rfl⟩ := E9 _ k y hy
   exact ih k z hz
 | nilF => exact .nilF
 | fn n fs k s v h => exact .fn n fs k s v h
 | bld => exact .bld
 | agg ds us hn' hr ih =>
   refine .agg _ us (by rw [t6]; exact hn') fun k y hy => ?_
   obtain ⟨z, hz, rfl⟩ := E9 _ k y hy
   exact ih k z hz
 | tup ds us hn' hr ih =>
   refine .tup _ us (by rw [t6]; exact hn') fun k y hy => ?_
   obtain ⟨z, hz, rfl⟩ := E9 _ k y hy
   exact ih k z hz
 | any v => exact .any v
theorem b3f (ck : CK) (v : GK) : RepD E g w dead (b7M ck v) v := by
 unfold b7M
 split
 . rw [Hk]
   split
   . rename_i h; exact RepD.int_ (by simpa using h)
   . exact .any _
 . exact RepD.bool_ _
 . rename_i s
   rw [Hk]
   split
   . rename_i h
     have h := Ha h
     exact RepD.str_ (by omega)
   . exact .any _
 . exact .v _ _ _ .nilI trivial
 . exact .nilF
 . exact .v _ _ _ .nilM trivial
 . exact .nilp
 . split
   . exact .v _ _ _ (.bytes [] none 0 0 rfl (GB _) (Hl _) fun k x h => by simp at h) rfl
   . exact .v _ _ _ (.sl _ [] none 0 0 (fun _ => undef) rfl (GB _) (Hl _) (fun x h => by simp at h) (fun k x h => by simp at h) (fun k x h => by simp at h)) rfl
   . exact .any _
 . rename_i f first caps
   obtain ⟨l1⟩ := first
   obtain ⟨l2⟩ := caps
   rcases l1 with _ | ⟨x, l1⟩ <;> rcases l2 with _ | ⟨y, l2⟩ <;> simp only []
   . exact .clos f [] #[] rfl fun k y h => by simp at h
   all_goals exact .any _
 . exact .any _
theorem a9E : ∀ (cks : List CK) (vs : List GK) (k : Nat) y, (a0p cks vs)[k]? = some y -> RepD E g w dead y (vs.getD k undef)
 | [], vs, k, y, h => by simp [a0p] at h
 | _ :: _, [], k, y, h => by simp [a0p] at h
 | ck :: cks, v :: vs, 0, y, h => by simp [a0p] at h; subst h; exact b3f ck v
 | ck :: cks, v :: vs, k + 1, y, h => by simp [a0p] at h; simpa using a9E cks vs k y h
theorem a4E : ∀ (cks : List CK) (vs : List GK), vs.length = cks.length -> (a0p cks vs).length = vs.length
 | [], [], _ => rfl
 | _ :: cks, _ :: vs, h => by simp [a0p, a4E cks vs (by simpa using h)]
 | [], _ :: _, h => by simp at h
 | _ :: _, [], h => by simp at h
theorem c3W (ty : Option Ty) (v : GK) : RepD E g w dead (b6O ty v) v := by
 unfold b6O
 split
 . rename_i cs
   split
   . rw [Hk]
     split
     . rename_i h
       have h := GE h
       refine .agg _ cs (by rw [a4E _ _ h]; simp) fun k y hy => ?_
       have := a9E (E := E) (g := g) (w := w) (dead := dead) _ _ k y hy
       simpa using this
     . exact .any _
   . exact .any _
 . exact b3f _ _
theorem c7j {slots : List D} {a : Act} (hs : ∀ (s : Nat) x, slots[s]? = some x -> RepD E g w dead x (a.tmps.getD s undef)) (h : GF) (z : Hy) : RepD E g w dead (C9 T slots h z) (a.eval z) := by
 cases z with
 | tmp t =>
   simp only [C9, Act.eval, GJ]
   cases hx : slots[t]? with
   | none => exact .any _
   | some x => exact hs t x hx
 | const v => exact c3W _ _
 | global gg => exact .any _
 | func f => exact .clos f [] #[] rfl fun k y h => by simp at h
end
end En
namespace En
open Go
section
variable {P : Hb} {T : GF -> Option Ty} {E : Env} {g : G} {w : GG} {dead : List Pos}
theorem B7 {α : Type} {b : Bool} {K : Option α} {r : α} (h : check b K = some r) : b = true /\ K = some r := by
 cases b
 . cases h
 . exact ⟨rfl, h⟩
theorem g5 {α : Type} {b : Bool} {K K' : Option α} {r : α} (h : cond b K K' = some r) : (b = true /\ K = some r) ∨ (b = false /\ K' = some r) := by
 cases b
 . exact .inr ⟨rfl, h⟩
 . exact .inl ⟨rfl, h⟩
theorem a6j (k : IS) : k.min <= 0 /\ 0 <= k.max := by
 cases k <;> simp [JY, JZ, KI, Kg]
theorem a6w (a b : Int) (h : 0 <= a) (hb : 0 < b) : a % b <= a := by
 have h1 := Int.mul_ediv_add_emod a b
 have h2 : 0 <= b * (a / b) := Int.mul_nonneg (Lj hb) (ML h (Lj hb))
 omega
theorem c2W (k : IS) (a b : Int) (ha : k.min <= a /\ a <= k.max) : k.min <= a.tmod b /\ a.tmod b <= k.max := by
 have h0 := a6j k
 rcases NL 0 a with h | h
 . have h1 : 0 <= a.tmod b := MM b h
   have h2 : a.tmod b <= a := by
    by_cases hb : b = 0
    . subst hb; simp
    . rcases Ma hb with hb | hb
      . have := NM a (-b); rw [Oh] at this; rw [this, Jk h]
        exact a6w _ _ h (by omega)
      . rw [Jk h]; exact a6w _ _ h hb
   omega
 . have hn : 0 <= -a := by omega
   have h1 : 0 <= (-a).tmod b := MM b hn
   have h3 : (-a).tmod b = -(a.tmod b) := Int.neg_tmod a b
   have h2 : (-a).tmod b <= -a := by
    by_cases hb : b = 0
    . subst hb; simp
    . rcases Ma hb with hb | hb
      . have := NM (-a) (-b); rw [Oh] at this; rw [this, Jk hn]
        exact a6w _ _ hn (by omega)
      . rw [Jk hn]; exact a6w _ _ hn hb
   omega
theorem c6V (k : IS) (a b : Int) (ha : k.min <= a /\ a <= k.max) : k.min <= a2c k a b /\ a2c k a b <= k.max := by
 have h0 := a6j k
 unfold a2c
 generalize min b.toNat k.bits = n
 have hp : (0 : Int) < 2 ^ n := Int.pow_pos (by decide)
 rw [Int.fdiv_eq_ediv_of_nonneg _ (Lj hp)]
 rcases NL 0 a with h | h
 . have h1 : 0 <= a / 2 ^ n := ML h (Lj hp)
   have h2 : a / 2 ^ n <= a := Int.ediv_le_self _ h
   omega
 . have h1 : a <= a / 2 ^ n := by
    rw [Int.le_ediv_iff_mul_le hp]
    have : a * 2 ^ n <= a * 1 := Int.mul_le_mul_of_nonpos_left h (by omega)
    omega
   have h2 : a / 2 ^ n <= 0 := Int.ediv_nonpos_of_nonpos_of_neg h hp
   omega
theorem c2Y (op : LS) (hop : op ≠ .shl /\ op ≠ .shr) (xt : GF) (k : IS) (a b : Int) (d : D) (h : b4c op k a b some = some d) (ha : k.min <= a /\ a <= k.max) (hb : k.min <= b /\ b <= k.max) :
 ∃ v, (binOp op xt (.int k a) (.int k b)).run P w = .ok v w /\ RepD E g w dead d v := by
 cases op <;> simp only [b4c, Hf] at h
 case add => subst h; exact ⟨_, by simp [binOp, LF], RepD.int_ (F1 _ _)⟩
 case sub => subst h; exact ⟨_, by simp [binOp, LF], RepD.int_ (F1 _ _)⟩
 case mul => subst h; exact ⟨_, by simp [binOp, LF], RepD.int_ (F1 _ _)⟩
 case quo =>
  obtain ⟨h1, h2⟩ := B7 h
  injection h2 with h2; subst h2
  exact ⟨_, by simp at h1; simp [binOp, Op.intDiv, h1], RepD.int_ (F1 _ _)⟩
 case rem =>
  obtain ⟨h1, h2⟩ := B7 h
  injection h2 with h2; subst h2
  exact ⟨_, by simp at h1; simp [binOp, Op.intDiv, h1], RepD.int_ (c2W _ _ _ ha)⟩
 case and => subst h; exact ⟨_, by simp [binOp, Lk, A7], RepD.int_ (F1 _ _)⟩
 case or => subst h; exact ⟨_, by simp [binOp, Lk, A7], RepD.int_ (F1 _ _)⟩
 case xor => subst h; exact ⟨_, by simp [binOp, Lk, A7], RepD.int_ (F1 _ _)⟩
 case andNot => subst h; exact ⟨_, by simp [binOp, Lk, A7], RepD.int_ (F1 _ _)⟩
 case shl => exact absurd rfl hop.1
 case shr => exact absurd rfl hop.2
 case eql => subst h; exact ⟨.bool (decide (a = b)), by simp [binOp, Lc]; rfl, RepD.bool_ _⟩
 case neq => subst h; exact ⟨.bool (!decide (a = b)), by simp [binOp, Lc]; rfl, RepD.bool_ _⟩
 case lss => subst h; exact ⟨.bool (decide (a < b)), by simp [binOp, Lc], RepD.bool_ _⟩
 case leq => subst h; exact ⟨.bool (decide (a <= b)), by simp [binOp, Lc], RepD.bool_ _⟩
 case gtr => subst h; exact ⟨.bool (decide (b < a)), by simp [binOp, Lc], RepD.bool_ _⟩
 case geq => subst h; exact ⟨.bool (decide (b <= a)), by simp [binOp, Lc], RepD.bool_ _⟩
theorem c6A (xt : GF) (k k' : IS) (a b : Int) (d : D) (h : b4c .shl k a b some = some d) : ∃ v, (binOp .shl xt (.int k a) (.int k' b)).run P w = .ok v w /\ RepD E g w dead d v := by
 obtain ⟨h1, h2⟩ := B7 h
 injection h2 with h2; subst h2
 simp at h1
 exact ⟨_, by simp [binOp, Op.shift, OK.2 h1, a4r], RepD.int_ (F1 _ _)⟩
theorem c6G (xt : GF) (k k' : IS) (a b : Int) (d : D) (h : b4c .shr k a b some = some d) (ha : k.min <= a /\ a <= k.max) : ∃ v, (binOp .shr xt (.int k a) (.int k' b)).run P w = .ok v w /\ RepD E g w dead d v := by
 obtain ⟨h1, h2⟩ := B7 h
 injection h2 with h2; subst h2
 simp at h1
 exact ⟨_, by simp [binOp, Op.shift, OK.2 h1, a2c], RepD.int_ (c6V _ _ _ ha)⟩
theorem a7F (s : List UInt8) : (⟨s.toArray⟩ : ByteArray).toList = s := by
 rw [KC]
theorem b0t (a b : List UInt8) : (a == b) = decide (a = b) := by rw [Lp]; simp
theorem c2Z (op : LS) (xt : GF) (a b : List UInt8) (d : D) (h : c6h op a b some = some d) (ha : a.length <= 9223372036854775807) :
 ∃ v, (binOp op xt (.string ⟨a.toArray⟩) (.string ⟨b.toArray⟩)).run P w = .ok v w /\ RepD E g w dead d v := by
 have e1 := a7F a
 have e2 := a7F b
 cases op <;> simp only [c6h, Hf, reduceCtorEq] at h
 case add =>
  obtain ⟨h1, h2⟩ := B7 h
  injection h2 with h2; subst h2
  simp at h1
  refine ⟨.string ⟨(a ++ b).toArray⟩, ?_, RepD.str_ (by simpa using h1)⟩
  have hs : ((⟨a.toArray⟩ : ByteArray).size + (⟨b.toArray⟩ : ByteArray).size) <= 9223372036854775807 := by simpa [Kh] using h1
  show (Ka .add _ _).run P w = _
  rw [run_string_add_sum _ _ _ hs]
  congr 2
 case eql => subst h; exact ⟨.bool (decide (a = b)), by simp [binOp, Ka, e1, e2, b0t], RepD.bool_ _⟩
 case neq => subst h; exact ⟨.bool (!decide (a = b)), by simp [binOp, Ka, e1, e2, b0t], RepD.bool_ _⟩
 case lss => subst h; exact ⟨.bool (Jy a b), by simp [binOp, Ka, e1, e2], RepD.bool_ _⟩
 case leq => subst h; exact ⟨.bool (Jy a b || decide (a = b)), by simp [binOp, Ka, e1, e2, b0t], RepD.bool_ _⟩
 case gtr => subst h; exact ⟨.bool (!(Jy a b || decide (a = b))), by simp [binOp, Ka, e1, e2, b0t], RepD.bool_ _⟩
 case geq => subst h; exact ⟨.bool (!Jy a b), by simp [binOp, Ka, e1, e2], RepD.bool_ _⟩
end
end En
namespace En
open Go
section
variable {P : Hb} {T : GF -> Option Ty} {E : Env} {g : G} {w : GG} {dead : List Pos}
theorem TyOK.size {t : GF} {ty : Ty} (h : TyOK P t ty) : (sizeOf t).run P w = .ok ty.size w := by
 obtain ⟨i, hi, _, hs, _⟩ := h.info
 simp [sizeOf, typeInfo, hi, hs]
theorem TyOK.isAgg {t : GF} {ty : Ty} (h : TyOK P t ty) : (isAgg t).run P w = .ok ty.row w := by
 unfold Go.isAgg
 rw [GY, Hc h.desc w]
 unfold Ty.row
 cases ty.desc <;> simp
theorem G2 (hT : p7 P T) {e : GF} {te : Ty} (hte : T e = some te) (ds : List D) (us : Array GK) (hn : us.size = ds.length) (hr : ∀ (k : Nat) y, ds[k]? = some y -> RepD E g w dead y (us.getD k undef)) (off : Nat) (d : D)
 (h : a4k te.row ds off te.size = some d) : ∃ v, (part e us off).run P w = .ok v w /\ RepD E g w dead d v := by
 have hok := hT _ _ hte
 unfold a4k at h
 simp only [forceD_eq, Hk] at h
 unfold part
 rw [GY, hok.isAgg]
 simp only [GT]
 split at h
 . rename_i J7
   split at h
   . rename_i hle
     have hle := Ha hle
     injection h with h; subst h
     refine ⟨.agg (us.extract off (off + te.size)), ?_, .agg _ _ (by simp; omega) fun k y hk => ?_⟩
     . simp [hok.size (w := w), J7]
     . rw [Iw] at hk
       split at hk
       . rename_i hlt
         rw [IB] at hk
         have := hr _ y hk
         have hlen := (GD.1 hk).1
         have e1 : (us.extract off (off + te.size)).getD k undef = us.getD (off + k) undef := by
          simp [GL, Array.getElem?_extract]
          rw [if_pos (by omega)]
         rw [e1]; exact this
       . cases hk
   . cases h
 . rename_i J7
   have hlt := (GD.1 h).1
   have hu : us[off]? = some us[off] := Array.getElem?_eq_getElem (by omega)
   refine ⟨us[off], by simp [hu, J7], ?_⟩
   have := hr off d h
   simpa [hu] using this
theorem c4x {t : GF} {ty : Ty} (h : TyOK P t ty) (he : ty.eqb = true) {fs : Array LU} (hd : ty.desc = .struct fs) : P.stoodInHeld t = false /\ P.eqGuardType P.depth t = false /\ P.fieldsOf t = fs /\ ∀ f ∈ fs.toList, f.name ≠ "_" := by
 have h1 := h.eq
 unfold eqOKB at h1
 rw [he, hd] at h1
 simp only [Bool.not_true, Bool.false_or, GP, Ik, Ib, beq_eq_false_iff_ne] at h1
 obtain ⟨a, b, c⟩ := h1
 refine ⟨a, b, ?_, c⟩
 unfold Program.fieldsOf
 rw [h.desc, hd]
def d2u (E : Env) (g : G) (w : GG) (dead : List Pos) (ds : List D) (us : Array GK) : Prop := us.size = ds.length /\ ∀ (k : Nat) y, ds[k]? = some y -> RepD E g w dead y (us.getD k undef)
theorem c8Q {t : GF} {ty : Ty} (h : T t = some ty) : T4 T t = ty.size := by unfold T4; rw [h]
theorem b5F (hT : p7 P T) : ∀ (n : Nat) (t : GF) (te : Ty), T t = some te -> ∀ (ds es : List D) (us vs : Array GK) (off d : Nat) (b : Bool), d2u E g w dead ds us -> d2u E g w dead es vs -> n <= d ->
 eqK T n t ((ds.drop off).take te.size) ((es.drop off).take te.size) = some b ->
 ∃ a c, (part t us off).run P w = .ok a w /\ (part t vs off).run P w = .ok c w /\ (JF d t a c).run P w = .ok b w
 | 0, t, te, hte, ds, es, us, vs, off, d, b, _, _, _, h => by simp [eqK] at h
 | n + 1, t, te, hte, ds, es, us, vs, off, d, b, hu, hv, hd, h => by
   obtain ⟨d, rfl⟩ : ∃ d', d = d' + 1 := ⟨d - 1, by omega⟩
   have hok := hT _ _ hte
   have o7 := hok.desc
   unfold eqK at h
   rw [hte] at h
   simp only at h
   have one : te.row = false -> ∀ (x y : D), (ds.drop off).take te.size = [x] -> (es.drop off).take te.size = [y] -> a4k te.row ds off te.size = some x /\ a4k te.row es off te.size = some y := by
    intro hr x y hx hy
    have hs := hok.one hr
    rw [hs] at hx hy
    unfold a4k
    rw [hr]
    simp only
    have g1 : (ds.drop off)[0]? = some x := by
     have : ((ds.drop off).take 1)[0]? = some x := by rw [hx]; rfl
     rwa [JO (by omega)] at this
    have g2 : (es.drop off)[0]? = some y := by
     have : ((es.drop off).take 1)[0]? = some y := by rw [hy]; rfl
     rwa [JO (by omega)] at this
    rw [IB] at g1 g2
    exact ⟨g1, g2⟩
   split at h
   . rename_i k hk
     split at h
     . rename_i k1 a1 _ k2 a2 _ e1 e2
       obtain ⟨p1, p2⟩ := one (by simp [Ty.row, hk]) _ _ e1 e2
       obtain ⟨x, q1, q2⟩ := G2 (P := P) (w := w) (E := E) (g := g) (dead := dead) hT hte ds us hu.1 hu.2 off _ p1
       obtain ⟨y, q3, q4⟩ := G2 (P := P) (w := w) (E := E) (g := g) (dead := dead) hT hte es vs hv.1 hv.2 off _ p2
       obtain ⟨rfl, _⟩ := q2.int_inv
       obtain ⟨rfl, _⟩ := q4.int_inv
       split at h
       . rename_i hkk
         subst hkk
         injection h with h
         refine ⟨_, _, q1, q3, ?_⟩
         rw [run_equalIn_int w d t k1 k a1 a2 (by rw [o7, hk]), ← h]
         rfl
       . cases h
     . cases h
   . rename_i hk
     split at h
     . rename_i a1 _ a2 _ e1 e2
       obtain ⟨p1, p2⟩ := one (by simp [Ty.row, hk]) _ _ e1 e2
       obtain ⟨x, q1, q2⟩ := G2 (P := P) (w := w) (E := E) (g := g) (dead := dead) hT hte ds us hu.1 hu.2 off _ p1
       obtain ⟨y, q3, q4⟩ := G2 (P := P) (w := w) (E := E) (g := g) (dead := dead) hT hte es vs hv.1 hv.2 off _ p2
       have r1 := q2.bool_inv
       have r2 := q4.bool_inv
       subst r1 r2
       injection h with h
       refine ⟨_, _, q1, q3, ?_⟩
       rw [run_equalIn_bool' w d t a1 a2 (by rw [o7, hk]), ← h]
     . cases h
   . rename_i hk
     split at h
     . rename_i a1 _ a2 _ e1 e2
       obtain ⟨p1, p2⟩ := one (by simp [Ty.row, hk]) _ _ e1 e2
       obtain ⟨x, q1, q2⟩ := G2 (P := P) (w := w) (E := E) (g := g) (dead := dead) hT hte ds us hu.1 hu.2 off _ p1
       obtain ⟨y, q3, q4⟩ := G2 (P := P) (w := w) (E := E) (g := g) (dead := dead) hT hte es vs hv.1 hv.2 off _ p2
       obtain ⟨rfl, _⟩ := q2.str_inv
       obtain ⟨rfl, _⟩ := q4.str_inv
       injection h with h
       refine ⟨_, _, q1, q3, ?_⟩
       rw [run_equalIn_string w d t _ _ (by rw [o7, hk]), ← h, KC, KC]
       congr 1
       rw [Lp, beq_iff_eq, decide_eq_true_eq]
     . cases h
   . rename_i fs hk
     rcases g5 h with ⟨hc, h⟩ | ⟨_, h⟩
     case inr => cases h
     simp only [GP] at hc
     obtain ⟨hc1, hc2, hc3, hc4, hc5⟩ := hc
     have hc5 := Ha hc5
     have hc3 := GE hc3
     have hc4 := GE hc4
     obtain ⟨o1, o2, o3, o4⟩ := c4x hok hc1 hk
     have J7 : te.row = true := by simp [Ty.row, hk]
     have hl1 : off + te.size <= ds.length := by rw [HN, Ih] at hc3; omega
     have hl2 : off + te.size <= es.length := by rw [HN, Ih] at hc4; omega
     have p1 : a4k te.row ds off te.size = some (.agg ((ds.drop off).take te.size)) := by
      unfold a4k; rw [J7]; simp only; rw [Lu hl1]; rfl
     have p2 : a4k te.row es off te.size = some (.agg ((es.drop off).take te.size)) := by
      unfold a4k; rw [J7]; simp only; rw [Lu hl2]; rfl
     obtain ⟨x, q1, q2⟩ := G2 (P := P) (w := w) (E := E) (g := g) (dead := dead) hT hte ds us hu.1 hu.2 off _ p1
     obtain ⟨y, q3, q4⟩ := G2 (P := P) (w := w) (E := E) (g := g) (dead := dead) hT hte es vs hv.1 hv.2 off _ p2
     generalize (ds.drop off).take te.size = as1 at *
     generalize (es.drop off).take te.size = bs1 at *
     cases q2 with
     | agg _ us' hn1 hr1 =>
     cases q4 with
     | agg _ vs' hn2 hr2 =>
     refine ⟨_, _, q1, q3, ?_⟩
     rw [run_equalIn_struct w d t us' vs' (by rw [o7, hk, o3]) o1, o3]
     have main : ∀ (l : List LU) (o : Nat) (b : Bool), a0v T te.size o l = true -> (∀ f ∈ l, f.name ≠ "_") -> c0b (eqK T n) T l (as1.drop o) (bs1.drop o) = some b -> (ME d us' vs' l).run P w = .ok b w := by
      intro l
      induction l with
      | nil => intro o b _ _ h; simp [c0b] at h; subst h; simp [ME]
      | cons f l ih =>
        intro o b d6H hnm h
        simp only [a0v, GP] at d6H
        obtain ⟨d0K, d4b⟩ := d6H
        have d0K := GE d0K
        unfold c0b at h
        split at h
        . rename_i r hr
          split at h
          . rename_i q hq
            injection h with h
            cases hTf : T f.type with
            | none => cases n <;> simp [eqK, hTf] at hr
            | some tf =>
              rw [c8Q hTf] at hr hq d4b
              obtain ⟨a, c, s1, s2, s3⟩ := b5F hT n f.type tf hTf as1 bs1 us' vs' o d r ⟨hn1, hr1⟩ ⟨hn2, hr2⟩ (by omega) hr
              rw [LG, LG] at hq
              have ih := ih (o + tf.size) q d4b (fun f hf => hnm f (Hv _ hf)) hq
              unfold ME
              rw [if_pos (hnm f (by simp)), d0K]
              simp only [GY, s1, s2, s3, GT]
              subst h
              cases r with
              | true => simpa using ih
              | false => simp
          . cases h
        . cases h
     exact main fs.toList 0 b hc2 o4 (by simpa using h)
   . cases h
theorem a7m (hT : p7 P T) {α : Type} {t : GF} {ds es : List D} {K : Bool -> Option α} {r : α} (h : a8X T t ds es K = some r) {us vs : Array GK} (hu : d2u E g w dead ds us) (hv : d2u E g w dead es vs) :
 ∃ b, K b = some r /\ P.eqGuardType P.depth t = false /\ (JF 10000 t (.agg us) (.agg vs)).run P w = .ok b w := by
 unfold a8X at h
 split at h
 . rename_i ty hty
   rcases g5 h with ⟨J7, h⟩ | ⟨_, h⟩
   case inr => cases h
   split at h
   . rename_i b hb
     have hok := hT _ _ hty
     have hs : ds.length = ty.size /\ es.length = ty.size /\ P.eqGuardType P.depth t = false := by
      unfold eqK at hb
      rw [hty] at hb
      simp only at hb
      split at hb
      . rename_i k hk; rw [Ty.row, hk] at J7; cases J7
      . rename_i hk; rw [Ty.row, hk] at J7; cases J7
      . rename_i hk; rw [Ty.row, hk] at J7; cases J7
      . rename_i fs hk
        rcases g5 hb with ⟨hc, _⟩ | ⟨_, hb⟩
        . simp only [GP] at hc
          obtain ⟨hc1, hc2, hc3, hc4, hc5⟩ := hc
          exact ⟨GE hc3, GE hc4, (c4x hok hc1 hk).2.1⟩
        . cases hb
      . cases hb
     obtain ⟨s1, s2, s3⟩ := hs
     have hb' : eqK T 9 t ((ds.drop 0).take ty.size) ((es.drop 0).take ty.size) = some b := by
      rw [JG, JG, ← s1, IU, s1, ← s2, IU]; exact hb
     obtain ⟨a, c, q1, q2, q3⟩ := b5F hT 9 t ty hty ds es us vs 0 10000 b hu hv (by omega) hb'
     have pa : ∀ (us : Array GK), us.size = ty.size -> (part t us 0).run P w = .ok (.agg us) w := by
      intro us hus
      unfold part
      rw [GY, hok.isAgg]
      simp [hok.size (w := w), J7, ← hus]
     rw [pa us (by rw [hu.1, s1])] at q1
     rw [pa vs (by rw [hv.1, s2])] at q2
     injection q1 with q1
     injection q2 with q2
     subst q1 q2
     exact ⟨b, h, s3, q3⟩
   . cases h
 . cases h
end
end En
namespace En
open Go
section
variable {P : Hb} {T : GF -> Option Ty} {E : Env} {g : G} {w : GG} {dead : List Pos}
theorem X5 (op : LS) (t : GF) (x y : Hy) (a b : GK) (h1 : ∀ cs, a ≠ .agg cs) (h2 : a = .nilIface -> b = .nilIface -> a6s y = true) : (eqGuard op t x y a b).run P w = .ok () w := by
 unfold eqGuard
 cases op
 case eql | neq =>
  cases a <;> cases b <;> simp
  case agg.agg cs _ => exact absurd rfl (h1 cs)
  case nilIface.nilIface =>
   have := h2 rfl rfl
   cases y <;> simp [a6s] at this
   simp
 all_goals simp
theorem L8 {xt : GF} {v u : GK} {b : Bool} (h1 : ∀ k n, v ≠ .int k n) (h2 : ∀ f n, v ≠ .float f n) (h3 : ∀ f n m, v ≠ .complex f n m) (h4 : ∀ s, v ≠ .string s)
 (h0 : ∀ cs, v ≠ .agg cs) (h5 : ∀ d, (JF (d + 1) xt v u).run P w = .ok b w) : (binOp .eql xt v u).run P w = .ok (.bool b) w /\ (binOp .neq xt v u).run P w = .ok (.bool !b) w /\ (∀ cs, v ≠ .agg cs) := by
 have h6 : (Oi xt v u).run P w = .ok b w := h5 9999
 have e1 : binOp .eql xt v u = (do pure (.bool (← Oi xt v u)) : Sem GK) := by
  cases v <;> first
   | rfl
   | exact absurd rfl (h1 _ _)
   | exact absurd rfl (h2 _ _)
   | exact absurd rfl (h3 _ _ _)
   | exact absurd rfl (h4 _)
   | (cases u <;> rfl)
 have e2 : binOp .neq xt v u = (do pure (.bool (!(← Oi xt v u))) : Sem GK) := by
  cases v <;> first
   | rfl
   | exact absurd rfl (h1 _ _)
   | exact absurd rfl (h2 _ _)
   | exact absurd rfl (h3 _ _ _)
   | exact absurd rfl (h4 _)
   | (cases u <;> rfl)
 rw [e1, e2]
 exact ⟨by simp [h6], by simp [h6], h0⟩
theorem c1j {ty : Ty} {xt : GF} (hd : P.underlying xt = some ty.desc) {x y : D} {vx vy : GK} (hx : RepD E g w dead x vx) (hy : RepD E g w dead y vy) {b : Bool} (h : c9U ty.desc x y = some b) :
 (binOp .eql xt vx vy).run P w = .ok (.bool b) w /\ (binOp .neq xt vx vy).run P w = .ok (.bool !b) w /\ (∀ cs, vx ≠ .agg cs) := by
 unfold c9U at h
 split at h
 . rename_i e o7
   rw [o7] at hd
   split at h
   . cases hy
     cases x <;> simp only [d0o, reduceCtorEq, Hf] at h
     all_goals
      subst h
      cases hx
      refine L8 (by simp) (by simp) (by simp) (by simp) (by simp) (fun d => ?_)
      simp only [JF, GY, Hc hd, GT]
      rfl
   . cases h
 . rename_i ms o7
   rw [o7] at hd
   split at h
   . cases hy with | v x a v hv ha =>
     cases hv
     cases x <;> simp only [c4f, reduceCtorEq] at h
     rename_i z az
     cases z <;> simp only [c4f, reduceCtorEq, Hf] at h
     all_goals
      subst h
      cases hx with | v x a v hv ha =>
      cases hv
      refine L8 (by simp) (by simp) (by simp) (by simp) (by simp) (fun d => ?_)
      simp only [JF, GY, Hc hd, GT]
      rfl
   . cases h
 . rename_i ps rs vr o7
   rw [o7] at hd
   split at h
   . cases hy
     cases x <;> simp only [d3t, reduceCtorEq, Hf] at h
     case fn n fs k s =>
      subst h
      cases hx with
      | fn _ _ _ _ _ hv =>
        rcases hv with ⟨h0, e⟩ | ⟨i, f, _, h0, _, e⟩
        . rw [e, decide_eq_true h0]
          refine L8 (by simp) (by simp) (by simp) (by simp) (by simp) (fun d => ?_)
          simp only [JF, GY, Hc hd, GT]
          rfl
        . rw [e, decide_eq_false (by omega)]
          refine L8 (by simp) (by simp) (by simp) (by simp) (by simp) (fun d => ?_)
          simp only [JF, GY, Hc hd, GT]
          rfl
     all_goals
      subst h
      cases hx
      refine L8 (by simp) (by simp) (by simp) (by simp) (by simp) (fun d => ?_)
      simp only [JF, GY, Hc hd, GT]
      rfl
   . cases h
 . rename_i kt et o7
   rw [o7] at hd
   split at h
   . cases hy with | v x a v hv ha =>
     cases hv
     cases x <;> simp only [c3R, reduceCtorEq] at h
     rename_i z az
     cases z <;> simp only [c3R, reduceCtorEq, Hf] at h
     all_goals
      subst h
      cases hx with | v x a v hv ha =>
      cases hv
      refine L8 (by simp) (by simp) (by simp) (by simp) (by simp) (fun d => ?_)
      simp only [JF, GY, Hc hd, GT]
      rfl
   . cases h
 . cases h
theorem c4b (hT : p7 P T) (op : LS) (xt : GF) (ox oy : Hy) (x y : D) (vx vy : GK) (hx : RepD E g w dead x vx) (hy : RepD E g w dead y vy) (d : D)
 (h : c6r T op xt (a6s oy) x y some = some d) :
 ∃ v, (do eqGuard op xt ox oy vx vy; binOp op xt vx vy : Sem GK).run P w = .ok v w /\ RepD E g w dead d v := by
 unfold c6r at h
 split at h
 . rename_i k a _ k' b _
   obtain ⟨rfl, ha⟩ := hx.int_inv
   obtain ⟨rfl, hb⟩ := hy.int_inv
   have hg : (eqGuard op xt ox oy (.int k a) (.int k' b)).run P w = .ok () w := X5 _ _ _ _ _ _ (by simp) (by simp)
   simp only [GY, hg, GT]
   split at h
   . exact c6A xt k k' a b d h
   . exact c6G xt k k' a b d h ha
   . rename_i h1 h2
     split at h
     . rename_i hk
       subst hk
       exact c2Y op ⟨h1, h2⟩ xt k a b d h ha hb
     . cases h
 . obtain ⟨rfl, ha⟩ := hx.str_inv
   obtain ⟨rfl, hb⟩ := hy.str_inv
   rename_i a _ b _
   have hg : (eqGuard op xt ox oy (.string ⟨a.toArray⟩) (.string ⟨b.toArray⟩)).run P w = .ok () w := X5 _ _ _ _ _ _ (by simp) (by simp)
   simp only [GY, hg, GT]
   exact c2Z op xt _ _ d h ha
 . have e1 := hx.bool_inv
   have e2 := hy.bool_inv
   subst e1 e2
   rename_i a _ b _
   have hg : (eqGuard op xt ox oy (.bool a) (.bool b)).run P w = .ok () w := X5 _ _ _ _ _ _ (by simp) (by simp)
   simp only [GY, hg, GT]
   split at h
   . rename_i ty hty
     split at h
     . rename_i hd
       injection h with h; subst h
       exact ⟨_, run_eql_bool w xt a b (by rw [(hT _ _ hty).desc, hd]), RepD.bool_ _⟩
     . rename_i hd
       injection h with h; subst h
       refine ⟨_, run_neq_bool w xt a b (by rw [(hT _ _ hty).desc, hd]), ?_⟩
       exact RepD.bool_ _
     . cases h
   . cases h
 . rename_i ds es
   cases hx with
   | agg _ us hn1 hr1 =>
   cases hy with
   | agg _ vs hn2 hr2 =>
   split at h
   . obtain ⟨b, h1, h2, h3⟩ := a7m hT h ⟨hn1, hr1⟩ ⟨hn2, hr2⟩
     injection h1 with h1
     subst h1
     refine ⟨_, ?_, RepD.bool_ b⟩
     simp only [GY, MN w _ xt ox oy us vs h2, GT, run_eql_struct, h3]
   . obtain ⟨b, h1, h2, h3⟩ := a7m hT h ⟨hn1, hr1⟩ ⟨hn2, hr2⟩
     injection h1 with h1
     subst h1
     refine ⟨_, ?_, RepD.bool_ (!b)⟩
     simp only [GY, MN w _ xt ox oy us vs h2, GT, run_neq_struct, h3]
   . cases h
 . split at h
   . rename_i ty hyc hty
     split at h
     . rename_i b hb
       obtain ⟨h1, h2, h3⟩ := c1j (hT _ _ hty).desc hx hy hb
       have hg : (eqGuard op xt ox oy vx vy).run P w = .ok () w := X5 _ _ _ _ _ _ h3 (fun _ _ => hyc)
       simp only [GY, hg, GT]
       split at h
       . injection h with h; subst h; exact ⟨_, h1, RepD.bool_ _⟩
       . injection h with h; subst h; exact ⟨_, h2, RepD.bool_ _⟩
       . cases h
     . cases h
   . cases h
theorem c6E (op : UnOp) (xt : GF) (x : D) (vx : GK) (hx : RepD E g w dead x vx) (d : D) (h : unK op x some = some d) : ∃ v, (Na op vx).run P w = .ok v w /\ RepD E g w dead d v := by
 unfold unK at h
 split at h
 . obtain ⟨rfl, ha⟩ := hx.int_inv
   injection h with h; subst h
   exact ⟨_, by simp [Na, LF], RepD.int_ (F1 _ _)⟩
 . obtain ⟨rfl, ha⟩ := hx.int_inv
   injection h with h; subst h
   exact ⟨_, by simp [Na, Lk, A7], RepD.int_ (F1 _ _)⟩
 . have e1 := hx.bool_inv
   subst e1
   injection h with h; subst h
   exact ⟨_, by simp [Na], RepD.bool_ _⟩
 . cases h
end
end En
namespace En
open Go
section
variable {P : Hb} {T : GF -> Option Ty} {E : Env} {g : G} {w : GG} {dead : List Pos}
theorem RepD.bytes_inv {s : List UInt8} {a : Att} {v : GK} (h : RepD E g w dead (.v (.bytes s) a) v) : RepV g w (.bytes s) v /\ AttOK E g w dead a v /\ ∃ A n c, v = .slice A n c /\ s.length = n /\ n <= c /\ c <= maxLen := by
 cases h with | v x a v h ha => exact ⟨h, ha, by cases h with | bytes xs A n c hn hc hm h => exact ⟨A, n, c, rfl, hn, hc, hm⟩⟩
theorem RepD.sl_inv {e : GF} {s : List V} {a : Att} {v : GK} (h : RepD E g w dead (.v (.sl e s) a) v) : RepV g w (.sl e s) v /\ AttOK E g w dead a v /\ ∃ A n c, v = .slice A n c /\ s.length = n /\ n <= c /\ c <= maxLen := by
 cases h with | v x a v h ha => exact ⟨h, ha, by cases h with | sl e xs A n c us hn hc hm hs h hr => exact ⟨A, n, c, rfl, hn, hc, hm⟩⟩
theorem TyOK.elem {t e : GF} {ty : Ty} (h : TyOK P t ty) (hd : ty.desc = .slice e) : P.underlying t = some (.slice (P.elem t)) /\ P.elem t = e := by
 have := h.desc
 rw [hd] at this
 have he : P.elem t = e := by simp [Program.elem, this]
 exact ⟨by rw [he]; exact this, he⟩
theorem b0G (n : Nat) (h : n <= maxLen) : GA.min <= (n : Int) /\ (n : Int) <= GA.max := by
 have e1 : JY .i64 = -9223372036854775808 := by decide
 have e2 : JZ .i64 = 9223372036854775807 := by decide
 unfold maxLen at h
 rw [e1, e2]; omega
theorem c3c (hT : p7 P T) (t oty : GF) (x : D) (vx : GK) (hx : RepD E g w dead x vx) (d : D) (h : c6S T t x some = some d) :
 ∃ v, (NQ #[t] oty #[vx]).run P w = .ok v w /\ RepD E g w dead d v := by
 unfold c6S at h
 split at h
 . rename_i ty hty
   have hd := (hT _ _ hty).desc
   split at h
   . rename_i e s a o7
     injection h with h; subst h
     obtain ⟨_, _, A, n, c, rfl, hn, hc, hm⟩ := hx.bytes_inv
     subst hn
     exact ⟨_, Nv w t oty A _ c ((hT _ _ hty).elem o7).1, RepD.int_ (b0G _ (by omega))⟩
   . rename_i e e' s a o7
     injection h with h; subst h
     obtain ⟨_, _, A, n, c, rfl, hn, hc, hm⟩ := hx.sl_inv
     subst hn
     exact ⟨_, Nv w t oty A _ c ((hT _ _ hty).elem o7).1, RepD.int_ (b0G _ (by omega))⟩
   . rename_i s a o7
     injection h with h; subst h
     obtain ⟨rfl, hl⟩ := hx.str_inv
     exact ⟨_, run_len_string w t oty _ (by rw [hd, o7]), RepD.int_ (b0G _ (by unfold maxLen; omega))⟩
   . rename_i n e o7
     obtain ⟨h1, h2⟩ := B7 h
     injection h2 with h2; subst h2
     simp at h1
     rw [o7] at hd
     exact ⟨goInt n, by cases vx <;> simp [NQ, Hc hd], RepD.int_ (b0G _ (by unfold maxLen; omega))⟩
   . cases h
 . cases h
theorem a1L {α : Type} {x : Option D} {df hi : Nat} {K : Nat -> Option α} {r : α} (h : a3e x df hi K = some r) :
 ∃ n, K n = some r /\ ((x = none /\ n = df) ∨ ∃ k i a, x = some (.v (.int k i) a) /\ 0 <= i /\ i <= (hi : Int) /\ n = i.toNat) := by
 unfold a3e at h
 split at h
 . exact ⟨_, h, .inl ⟨rfl, rfl⟩⟩
 . rename_i k i a
   obtain ⟨h1, h2⟩ := B7 h
   simp at h1
   exact ⟨_, h2, .inr ⟨k, i, a, rfl, h1.1, h1.2, rfl⟩⟩
 . cases h
def RepO (E : Env) (g : G) (w : GG) (dead : List Pos) : Option D -> Option GK -> Prop
 | none, none => True
 | some d, some v => RepD E g w dead d v
 | _, _ => False
theorem RepO.int {k : IS} {i : Int} {a : Att} {v : Option GK} (h : RepO E g w dead (some (.v (.int k i) a)) v) : v = some (.int k i) := by
 cases v with
 | none => exact h.elim
 | some v => rw [(RepD.int_inv h).1]
theorem RepO.none_ {v : Option GK} (h : RepO E g w dead none v) : v = none := by
 cases v with
 | none => rfl
 | some v => exact h.elim
theorem a5T (isSlice : Bool) (len cap : Nat) {lo hi : Option D} {vlo vhi : Option GK} (hlo : RepO E g w dead lo vlo) (hhi : RepO E g w dead hi vhi) (hc : len <= cap) {α β : Type} (xs : List α) (hx : xs.length = len) {K : List α -> Option β} {r : β}
 (h : b4l xs lo hi K = some r) : ∃ l h', l <= h' /\ h' <= len /\ (Jc isSlice len cap vlo vhi none).run P w = .ok (l, h', cap) w /\ K ((xs.take h').drop l) = some r := by
 unfold b4l at h
 subst hx
 rcases lo with _ | lo <;> rcases hi with _ | hi <;> simp only at h
 . obtain rfl := hlo.none_
   obtain rfl := hhi.none_
   exact ⟨0, _, Hl _, GB _, by simp [Jc], by simpa using h⟩
 . obtain rfl := hlo.none_
   obtain ⟨hv, hq, hh⟩ := a1L h
   clear h
   rcases hh with ⟨h0, _⟩ | ⟨k, i, a, h0, i0, i1, rfl⟩
   . cases h0
   . injection h0 with h0; subst h0
     obtain rfl := hhi.int
     refine ⟨0, i.toNat, Hl _, by omega, ?_, by simpa using hq⟩
     simp [Jc, KM, i0, (by omega : i <= (cap : Int))]
 . obtain rfl := hhi.none_
   obtain ⟨lv, hq, hl⟩ := a1L h
   clear h
   rcases hl with ⟨h0, _⟩ | ⟨k', j, a', h0, j0, j1, rfl⟩
   . cases h0
   . injection h0 with h0; subst h0
     obtain rfl := hlo.int
     refine ⟨j.toNat, _, by omega, GB _, ?_, by simpa using hq⟩
     simp [Jc, KM, j0, j1]
 . obtain ⟨hv, hp, hh⟩ := a1L h
   obtain ⟨lv, hq, hl⟩ := a1L hp
   clear h hp
   rcases hh with ⟨h0, _⟩ | ⟨k, i, a, h0, i0, i1, rfl⟩
   . cases h0
   rcases hl with ⟨h1, _⟩ | ⟨k', j, a', h1, j0, j1, rfl⟩
   . cases h1
   injection h0 with h0; subst h0
   injection h1 with h1; subst h1
   obtain rfl := hlo.int
   obtain rfl := hhi.int
   refine ⟨j.toNat, i.toNat, by omega, by omega, ?_, hq⟩
   have e : ((i.toNat : Nat) : Int) = i := by omega
   rw [e] at j1
   simp [Jc, KM, i0, (by omega : i <= (cap : Int)), j0, e, j1]
theorem W5 {n : Nat} {x : V} (h : b4s n x = true) : x.cells.length = n /\ ∀ y ∈ x.cells, y.one = true := by
 simp only [b4s, GP, beq_iff_eq, Ib] at h; exact h
theorem flat_get {xs : List V} {sz : Nat} (hs : ∀ x ∈ xs, x.cells.length = sz) : ∀ (l k : Nat), l <= xs.length -> ((xs.drop l).flatMap V.cells)[k]? = (xs.flatMap V.cells)[l * sz + k]? := by
 induction xs with
 | nil => intro l k h; simp
 | cons x xs ih =>
   intro l k h
   rcases l with _ | l
   . simp
   . have hx := hs x (by simp)
     have := ih (fun y hy => hs y (by simp [hy])) l k (by simpa using h)
     simp only [List.drop_succ_cons, Jn]
     rw [this, GV (by rw [hx]; rw [Il]; omega), hx]
     congr 1
     rw [Il]; omega
theorem c7R {xs : List V} (h k : Nat) {y : V} (hk : ((xs.take h).flatMap V.cells)[k]? = some y) : (xs.flatMap V.cells)[k]? = some y := by
 have e : xs.flatMap V.cells = (xs.take h).flatMap V.cells ++ (xs.drop h).flatMap V.cells := by rw [← KD, List.take_append_drop]
 rw [e, GS (GD.1 hk).1]
 exact hk
theorem c4p {s : List UInt8} {A : Option Addr} {n c l h c' : Nat} (hr : RepV g w (.bytes s) (.slice A n c)) (hl : l <= h) (hh : h <= n) (hc1 : h <= c') (hc2 : c' <= c) :
 RepV g w (.bytes ((s.take h).drop l)) (.slice (if c' = l then A else A.map (·.add (l * 1))) (h - l) (c' - l)) := by
 cases hr with
 | bytes xs A n c hn hc hm hx =>
   refine .bytes _ _ _ _ (by simp; omega) (by omega) (by omega) fun k x hk => ?_
   rw [IB, Iw] at hk
   split at hk
   . rename_i hlt
     obtain ⟨b, off, rfl, h1, h2⟩ := hx _ x hk
     have hkn : l + k < n := by have := (GD.1 hk).1; omega
     rw [if_neg (by omega)]
     refine ⟨b, off + l, by simp [IF], ?_, ?_⟩
     . rw [ID]; exact h1
     . rw [ID]; exact h2
   . cases hk
theorem c7T {s : List UInt8} {A : Option Addr} {n c l h : Nat} (hr : RepV g w (.bytes s) (.slice A n c)) (hl : l <= h) (hh : h <= n) :
 RepV g w (.bytes ((s.take h).drop l)) (.slice (if c = l then A else A.map (·.add (l * 1))) (h - l) (c - l)) := by
 cases hr with
 | bytes xs A n c hn hc hm hx =>
   refine .bytes _ _ _ _ (by simp; omega) (by omega) (by omega) fun k x hk => ?_
   rw [IB, Iw] at hk
   split at hk
   . rename_i hlt
     obtain ⟨b, off, rfl, h1, h2⟩ := hx _ x hk
     have hkn : l + k < n := by have := (GD.1 hk).1; omega
     rw [if_neg (by omega)]
     refine ⟨b, off + l, by simp [IF], ?_, ?_⟩
     . rw [ID]; exact h1
     . rw [ID]; exact h2
   . cases hk
theorem d4I {e : GF} {s : List V} {A : Option Addr} {n c l h : Nat} (hr : RepV g w (.sl e s) (.slice A n c)) (hl : l <= h) (hh : h <= n) :
 RepV g w (.sl e ((s.take h).drop l)) (.slice (if c = l then A else A.map (·.add (l * g.sz e))) (h - l) (c - l)) := by
 cases hr with
 | sl e xs A n c us hn hc hm hs hx hr =>
   have d3n : ∀ x ∈ (s.take h).drop l, x ∈ s := fun x hx => LH (List.mem_of_mem_drop hx)
   have hsz : ∀ x ∈ s, x.cells.length = g.sz e := fun x hx => (W5 (hs x hx)).1
   have key : ∀ (k : Nat) y, (((s.take h).drop l).flatMap V.cells)[k]? = some y -> (s.flatMap V.cells)[l * g.sz e + k]? = some y := by
    intro k y hk
    rw [flat_get (fun x hx => hsz x (LH hx)) l k (by simp; omega)] at hk
    exact c7R h _ hk
   refine .sl e _ _ _ _ (fun k => us (l * g.sz e + k)) (by simp; omega) (by omega) (by omega) (fun x hx => hs x (d3n x hx)) (fun k y hk => ?_) (fun k y hk => hr _ y (key k y hk))
   obtain ⟨b, off, rfl, h1, h2⟩ := hx _ y (key k y hk)
   have hlt : l < h := by
    rcases Ir l h with h' | h'
    . exact h'
    . have : (s.take h).drop l = [] := List.drop_eq_nil_of_le (by simp; omega)
      rw [this] at hk; simp at hk
   rw [if_neg (by omega)]
   refine ⟨b, off + l * g.sz e, by simp [IF], ?_, ?_⟩
   . rw [ID]; exact h1
   . rw [ID]; exact h2
end
end En
namespace En
open Go
section
variable {P : Hb} {T : GF -> Option Ty} {E : Env} {g : G} {w : GG} {dead : List Pos}
theorem b4r (s : List UInt8) (l h : Nat) : (⟨s.toArray⟩ : ByteArray).extract l h = ⟨((s.take h).drop l).toArray⟩ := by
 rw [ByteArray.ext_iff]
 simp [ByteArray.extract, ByteArray.copySlice, List.extract_eq_take_drop, List.drop_take]
theorem b8o (hgs : g.sz = T4 T) (hT : p7 P T) (t : GF) (x : D) (lo hi mx : Option D) (vx : GK) (vlo vhi vmx : Option GK) (hx : RepD E g w dead x vx) (hlo : RepO E g w dead lo vlo) (hhi : RepO E g w dead hi vhi) (hmx : RepO E g w dead mx vmx)
 (d : D) (h : a8w T t x lo hi mx some = some d) : ∃ v, (Instr.sliceAt t vx vlo vhi vmx).run P w = .ok v w /\ RepD E g w dead d v := by
 unfold a8w at h
 cases hnn : mx.isNone with
 | false =>
   rw [hnn] at h
   simp only at h
   obtain ⟨hmo, h9⟩ := c6N h
   clear h
   unfold c9T at hmo
   split at hmo
   . cases hnn
   . rename_i z1 k j z2
     split at hmo
     . rename_i z3 z4 k' i z6
       have hij : i = j := by simpa using hmo
       subst hij
       obtain rfl := hmx.int
       obtain rfl := hhi.int
       obtain rfl := hlo.none_
       split at h9
       . rename_i ty hty
         have hok := hT _ _ hty
         split at h9
         . rename_i e s a o7
           obtain ⟨hr, _, A, n, c, rfl, hn, hc, hm⟩ := hx.bytes_inv
           split at h9
           . rename_i te hte
             rcases g5 h9 with ⟨hsz, h9⟩ | ⟨_, h9⟩
             . have hsz := GE hsz
               unfold b4l at h9
               simp only at h9
               obtain ⟨h1, h2⟩ := B7 h9
               injection h2 with h2; subst h2
               simp only [GP, decide_eq_true_eq] at h1
               have he := hok.elem o7
               refine ⟨_, ?_, .v _ _ _ (c4p (c' := i.toNat) hr (Hl i.toNat) (by omega) (GB _) (by omega)) trivial⟩
               rw [KT w t _ _ _ _ he.1, LV w t A n c he.1]
               have hb : (Jc true n c none (some (.int k' i)) (some (.int k i))).run P w = .ok (0, i.toNat, i.toNat) w := by
                have hb2 : (Mu (.int k' i) i.toNat .slice3B).run P w = .ok i.toNat w := by
                 simp [Mu, asIntOf, h1.1, (by omega : i <= max i 0)]
                simp [Jc, KM, h1.1, (by omega : i <= (c : Int)), hb2]
               rw [hb]
               simp only [GT]
               rw [he.2, (hT _ _ hte).size (w := w), hsz]
               simp [sliced]
             . cases h9
           . cases h9
         . cases h9
       . cases h9
     . cases hmo
   . cases hmo
 | true =>
   rw [hnn] at h
   simp only at h
   have hnn : mx = none := by cases mx with | none => rfl | some _ => cases hnn
   subst hnn
   obtain rfl := hmx.none_
   split at h
   . rename_i ty hty
     have hok := hT _ _ hty
     split at h
     . rename_i e s a o7
       obtain ⟨hr, _, A, n, c, rfl, hn, hc, hm⟩ := hx.bytes_inv
       split at h
       . rename_i te hte
         rcases g5 h with ⟨hsz, h⟩ | ⟨_, h⟩
         . have hsz := GE hsz
           obtain ⟨l, h', h1, h2, h3, h4⟩ := a5T (P := P) true n c hlo hhi hc s hn h
           injection h4 with h4; subst h4
           have he := hok.elem o7
           refine ⟨_, ?_, .v _ _ _ (c7T hr h1 h2) trivial⟩
           rw [KT w t _ vlo vhi none he.1, LV w t A n c he.1, h3]
           simp only [GT]
           rw [he.2, (hT _ _ hte).size (w := w), hsz]
           rfl
         . cases h
       . cases h
     . rename_i e e' s a o7
       obtain ⟨hr, _, A, n, c, rfl, hn, hc, hm⟩ := hx.sl_inv
       split at h
       . rename_i te hte
         rcases g5 h with ⟨hee, h⟩ | ⟨_, h⟩
         . obtain rfl := GE hee
           obtain ⟨l, h', h1, h2, h3, h4⟩ := a5T (P := P) true n c hlo hhi hc s hn h
           injection h4 with h4; subst h4
           have he := hok.elem o7
           refine ⟨_, ?_, .v _ _ _ (d4I hr h1 h2) trivial⟩
           rw [KT w t _ vlo vhi none he.1, LV w t A n c he.1, h3]
           simp only [GT]
           rw [he.2, (hT _ _ hte).size (w := w)]
           have : g.sz e' = te.size := by rw [hgs]; simp [T4, hte]
           rw [this]
           rfl
         . cases h
       . cases h
     . rename_i s a o7
       obtain ⟨rfl, hl⟩ := hx.str_inv
       have hd := hok.desc
       rw [o7] at hd
       obtain ⟨l, h', h1, h2, h3, h4⟩ := a5T (P := P) false s.length s.length hlo hhi (GB _) s rfl h
       injection h4 with h4; subst h4
       refine ⟨.string ⟨((s.take h').drop l).toArray⟩, ?_, RepD.str_ (by simp; omega)⟩
       rw [run_sliceAt_string w t _ vlo vhi none hd]
       have hs : (⟨s.toArray⟩ : ByteArray).size = s.length := by simp [Kh]
       simp only [Instr.slice, GY, Hc hd, GT]
       simp [hs, h3, b4r]
     . cases h
   . cases h
theorem b2c {α : Type} {i : Int} {n : Nat} {K : Nat -> Option α} {r : α} (h : inK i n K = some r) : 0 <= i /\ i < (n : Int) /\ K i.toNat = some r := by
 obtain ⟨h1, h2⟩ := B7 h
 simp at h1
 exact ⟨h1.1, h1.2, h2⟩
theorem b7G {α β : Type} {xs : List α} {i : Nat} {K : α -> Option β} {r : β} (h : at? xs i K = some r) : ∃ x, xs[i]? = some x /\ K x = some r := by
 unfold at? at h
 split at h
 . rename_i x hx; exact ⟨x, hx, h⟩
 . cases h
theorem a4K {α : Type} {i : Int} {K : Nat -> Option α} {r : α} : ∀ {n j : Nat}, a0g i j n K = some r -> ∃ m : Nat, i = (m : Int) /\ j <= m /\ m < j + n /\ K m = some r
 | 0, j, h => by cases h
 | n + 1, j, h => by
   rcases g5 h with ⟨h1, h2⟩ | ⟨h1, h2⟩
   . exact ⟨j, by simpa using h1, GB _, by omega, h2⟩
   . obtain ⟨m, h3, h4, h5, h6⟩ := a4K h2
     exact ⟨m, h3, by omega, by omega, h6⟩
theorem b6f {α : Type} {ck : CK} {x : V} {K : V -> Option α} {r : α} (h : c3O ck x K = some r) : K x = some r /\ x.one = true := by
 cases ck <;> cases x <;> simp only [c3O, V.unInt, V.unBool, V.unStr, V.unBytes, V.unSl, V.unI, reduceCtorEq] at h <;> first
  | exact ⟨h, rfl⟩
  | (split at h
     . rename_i hk; subst hk; exact ⟨h, rfl⟩
     . cases h)
  | (rcases g5 h with ⟨hk, h'⟩ | ⟨_, h'⟩
     . have := GE hk; subst this; exact ⟨h', rfl⟩
     . cases h')
theorem b2A {α : Type} : ∀ {cks : List CK} {xs : List V} {K : List V -> Option α} {r : α}, b1h cks xs K = some r -> K xs = some r /\ xs.length = cks.length /\ ∀ x ∈ xs, x.one = true
 | [], xs, K, r, h => by
   cases xs with
   | nil => exact ⟨h, rfl, by simp⟩
   | cons x xs => cases h
 | ck :: cks, xs, K, r, h => by
   cases xs with
   | nil => cases h
   | cons x xs =>
     simp only [b1h, c3F] at h
     obtain ⟨h1, h2⟩ := b6f h
     obtain ⟨h3, h4, h5⟩ := b2A h1
     refine ⟨h3, by simp [h4], fun y hy => ?_⟩
     rcases Ku.1 hy with rfl | hy
     . exact h2
     . exact h5 y hy
theorem c8A {α : Type} {t : GF} {ty : Ty} (hok : TyOK P t ty) {x : V} {K : List V -> Option α} {r : α} (h : fit ty x K = some r) : K x.cells = some r /\ x.cells.length = ty.size /\ ∀ y ∈ x.cells, y.one = true := by
 unfold fit at h
 split at h
 . cases x <;> simp only [V.unAgg, reduceCtorEq] at h
   exact b2A h
 . rename_i J7
   obtain ⟨h1, h2⟩ := b6f h
   have e : x.cells = [x] := by cases x <;> first | rfl | (simp [V.one] at h2)
   rw [e]
   exact ⟨h1, (hok.one J7).symm, by simpa using h2⟩
theorem a8j {xs : List V} {sz : Nat} (hs : ∀ x ∈ xs, x.cells.length = sz) {i k : Nat} {x y : V} (hx : xs[i]? = some x) (hk : x.cells[k]? = some y) : (xs.flatMap V.cells)[i * sz + k]? = some y := by
 have hi : i < xs.length := (GD.1 hx).1
 rw [← flat_get hs i k (by omega)]
 have : xs.drop i = x :: xs.drop (i + 1) := by
  rw [List.drop_eq_getElem_cons hi]
  congr 1
  have := GH hi
  rw [this] at hx
  injection hx
 rw [this, Jn, GS (GD.1 hk).1]
 exact hk
theorem a9g (hgs : g.sz = T4 T) (hT : p7 P T) (t : GF) (x i : D) (vx vi : GK) (hx : RepD E g w dead x vx) (hi : RepD E g w dead i vi) (d : D) (h : V8 T t x i some = some d) :
 ∃ v, (LW t vx vi).run P w = .ok v w /\ RepD E g w dead d v := by
 unfold V8 at h
 split at h
 . rename_i ty k i a hty
   have hok := hT _ _ hty
   obtain ⟨rfl, hib⟩ := hi.int_inv
   split at h
   . rename_i e s a' o7
     obtain ⟨hr, _, A, n, c, rfl, hn, hc, hm⟩ := hx.bytes_inv
     split at h
     . rename_i te hte
       rcases g5 h with ⟨hsz, h⟩ | ⟨_, h⟩
       . have hsz := GE hsz
         obtain ⟨i0, i1, h⟩ := b2c h
         obtain ⟨b, hb, h⟩ := b7G h
         injection h with h; subst h
         have he := hok.elem o7
         cases hr with
         | bytes xs A n c hn' hc hm hxx =>
           obtain ⟨bb, off, rfl, hst, m0⟩ := hxx _ _ hb
           refine ⟨.pointer (some ⟨bb, off + i.toNat, none⟩), ?_, ?_⟩
           . rw [Mj w t _ n c k i he.1, if_pos ⟨i0, by omega⟩, he.2, (hT _ _ hte).size (w := w), hsz]
             simp [IF]
           . refine RepD.eptr [.int .u8 b.toNat] 0 bb (off + i.toNat) (fun _ => .int .u8 (b.toNat : Int)) (fun k y hk => ?_) (fun k y hk => ?_)
             . have : k = 0 := by have := (GD.1 hk).1; simp at this; omega
               subst this
               exact ⟨hst, m0⟩
             . have : k = 0 := by have := (GD.1 hk).1; simp at this; omega
               subst this
               simp at hk
               subst hk
               exact .int _ _ (by have := He b; simp [JY, JZ, KI, Kg]; omega)
       . cases h
     . cases h
   . rename_i e e' s a' o7
     obtain ⟨hr, _, A, n, c, rfl, hn, hc, hm⟩ := hx.sl_inv
     split at h
     . rename_i te hte
       rcases g5 h with ⟨_, hk⟩ | ⟨hnz, hk⟩
       . cases hk
       clear h
       simp only [Hw, JT] at hnz
       obtain rfl := GE hnz.2
       have hnz : te.size ≠ 0 := fun e0 => by rw [e0] at hnz; simp at hnz
       obtain ⟨i0, i1, h⟩ := b2c hk
       obtain ⟨y, hy, h⟩ := b7G h
       obtain ⟨h, hys, hyo⟩ := c8A (hT _ _ hte) h
       injection h with h; subst h
       have he := hok.elem o7
       cases hr with
       | sl e xs A n c us hn' hc hm hs0 hxx hrr =>
         have d3n : y ∈ s := IC hy
         have hse : g.sz e' = te.size := by rw [hgs]; simp [T4, hte]
         have hs : ∀ x ∈ s, x.cells.length = te.size := fun x hx => by rw [← hse]; exact (W5 (hs0 x hx)).1
         have c2i : ∃ bb off, A = some ⟨bb, off, none⟩ := by
          have hlt : 0 < y.cells.length := by omega
          obtain ⟨bb, off, e1, _⟩ := hxx _ _ (a8j hs hy (GH hlt))
          exact ⟨bb, off, e1⟩
         obtain ⟨bb, off, rfl⟩ := c2i
         refine ⟨.pointer (some ⟨bb, off + i.toNat * te.size, none⟩), ?_, ?_⟩
         . rw [Mj w t _ n c k i he.1, if_pos ⟨i0, by omega⟩, he.2, (hT _ _ hte).size (w := w)]
           simp [IF]
         . refine RepD.eptr y.cells 0 bb (off + i.toNat * te.size) (fun k => us (i.toNat * te.size + k)) (fun k z hk => ?_) (fun k z hk => hrr _ z (a8j hs hy hk))
           obtain ⟨b2, off2, e1, h1, h2⟩ := hxx _ z (a8j hs hy hk)
           injection e1 with e1; injection e1 with e1 e2; subst e1 e2
           exact ⟨by rw [ID]; exact h1, by rw [ID]; exact h2⟩
     . cases h
   . rename_i n e k' s' o' o7
     have hd := hok.desc
     rw [o7] at hd
     split at h
     . rename_i te hte
       obtain ⟨m, rfl, _, hm, h⟩ := a4K h
       injection h with h; subst h
       cases hx with
       | ptr k s o h1 h2 =>
         have hn : ((m : Int) < n) := by omega
         have he : P.elem t = e := by simp [Program.elem, hd]
         refine ⟨.pointer (some ⟨g.J (E.d - k') s', o' + m * te.size, none⟩), ?_, .ptr _ _ _ h1 h2⟩
         simp only [LW, asIntOf, GY, IG, GT, Hc hd, Jl]
         rw [if_pos ⟨by omega, hn⟩]
         simp only [GY, (hT _ _ hte).size (w := w), GT, IG, Im, IF]
     . cases h
   . rename_i n e cs o' o7
     have hd := hok.desc
     rw [o7] at hd
     split at h
     . rename_i te hte
       obtain ⟨m, rfl, _, hm, h⟩ := a4K h
       injection h with h; subst h
       cases hx with
       | eptr cs o b off us h1 h2 =>
         have hn : ((m : Int) < n) := by omega
         refine ⟨.pointer (some ⟨b, off + o' + m * te.size, none⟩), ?_, ?_⟩
         . simp only [LW, asIntOf, GY, IG, GT, Hc hd, Jl]
           rw [if_pos ⟨by omega, hn⟩]
           simp only [GY, (hT _ _ hte).size (w := w), GT, IG, Im, IF]
         . have := RepD.eptr (E := E) (dead := dead) cs (o' + m * te.size) b off us h1 h2
           rwa [← ID] at this
     . cases h
   . cases h
 . cases h
end
end En
namespace En
open Go
section
variable {P : Hb} {T : GF -> Option Ty} {E : Env} {g : G} {w : GG} {dead : List Pos}
theorem TyOK.infoSize {t : GF} {ty : Ty} (h : TyOK P t ty) : (P.info? t).map (·.size) = some ty.size := by
 obtain ⟨i, hi, _, hs, _⟩ := h.info
 simp [hi, hs]
theorem b7P (hT : p7 P T) (t : GF) (x : D) (f : Nat) (vx : GK) (hx : RepD E g w dead x vx) (d : D) (h : a8I T t x f some = some d) :
 ∃ v, (Ol t vx f).run P w = .ok v w /\ RepD E g w dead d v := by
 unfold a8I at h
 simp only [forceD_eq, Hk] at h
 split at h
 . rename_i ty ds hty
   have hd := (hT _ _ hty).desc
   split at h
   . rename_i fs o7
     rw [o7] at hd
     split at h
     . rename_i fl hfl
       split at h
       . rename_i te hte
         split at h
         . rename_i d' hd'
           injection h with h; subst h
           cases hx with
           | agg ds us hn hr =>
             obtain ⟨v, h1, h2⟩ := G2 (P := P) hT hte ds us hn hr fl.offset d' hd'
             exact ⟨v, by simp [Ol, Hc hd, hfl, asAgg, h1], h2.plain_⟩
         . cases h
       . cases h
     . cases h
   . cases h
 . cases h
theorem b7C (hT : p7 P T) (t : GF) (x i : D) (vx vi : GK) (hx : RepD E g w dead x vx) (hi : RepD E g w dead i vi) (d : D) (h : a8P T t x i some = some d) :
 ∃ v, (Om t vx vi).run P w = .ok v w /\ RepD E g w dead d v := by
 unfold a8P at h
 simp only [forceD_eq, Hk] at h
 split at h
 . rename_i ty k i a hty
   have hd := (hT _ _ hty).desc
   obtain ⟨rfl, hib⟩ := hi.int_inv
   split at h
   . rename_i s a' o7
     rw [o7] at hd
     obtain ⟨rfl, hl⟩ := hx.str_inv
     obtain ⟨i0, i1, h⟩ := b2c h
     obtain ⟨b, hb, h⟩ := b7G h
     injection h with h; subst h
     have hs : (⟨s.toArray⟩ : ByteArray).size = s.length := by simp [Kh]
     refine ⟨.int .u8 (b.toNat : Int), ?_, RepD.int_ (by have := He b; simp [JY, JZ, KI, Kg]; omega)⟩
     rw [run_index_string w t _ k i hd, dif_pos ⟨i0, by rw [hs]; exact i1⟩]
     congr 3
     obtain ⟨h1, h2⟩ := GD.1 hb
     subst h2
     rfl
   . rename_i n e ds o7
     rw [o7] at hd
     split at h
     . rename_i te hte
       obtain ⟨m, rfl, _, hm, h⟩ := a4K h
       split at h
       . rename_i d' hd'
         injection h with h; subst h
         cases hx with
         | agg ds us hn hr =>
           obtain ⟨v, h1, h2⟩ := G2 (P := P) hT hte ds us hn hr _ d' hd'
           refine ⟨v, ?_, h2.plain_⟩
           simp only [Om, asIntOf, GY, IG, GT, Hc hd]
           rw [if_pos ⟨by omega, by omega⟩]
           simp only [GY, (hT _ _ hte).size (w := w), GT, Im, h1]
       . cases h
     . cases h
   . cases h
 . cases h
theorem a8V (hT : p7 P T) (t : GF) (x : D) (f : Nat) (vx : GK) (hx : RepD E g w dead x vx) (d : D) (h : W1 T t x f some = some d) :
 ∃ v, (LX t vx f).run P w = .ok v w /\ RepD E g w dead d v := by
 unfold W1 at h
 simp only [forceD_eq, Hk] at h
 split at h
 . rename_i ty hty
   have hd := (hT _ _ hty).desc
   split at h
   . rename_i fs o7
     rw [o7] at hd
     split at h
     . rename_i fl hfl
       split at h
       . rename_i te hte
         split at h
         . cases h
         . rename_i hnz
           have hnz : ¬ te.size = 0 := fun e0 => hnz (by rw [e0]; rfl)
           have d0L : ∀ b o, (fieldPlace ⟨b, o, none⟩ fl).run P w = .ok ⟨b, o + fl.offset, none⟩ w := by
            intro b o
            unfold fieldPlace
            simp only [GY, (hT _ _ hte).size (w := w), GT]
            rw [if_neg hnz, IG, IF]
           split at h
           . injection h with h; subst h
             cases hx with
             | ptr k s o h1 h2 =>
               exact ⟨_, by simp [LX, Hc hd, hfl, Jl, d0L], .ptr _ _ _ h1 h2⟩
           . rename_i cs o
             injection h with h; subst h
             cases hx with
             | eptr _ _ b off us h1 h2 =>
               refine ⟨.pointer (some ⟨b, off + o + fl.offset, none⟩), by simp [LX, Hc hd, hfl, Jl, d0L], ?_⟩
               have := RepD.eptr (E := E) (dead := dead) cs (o + fl.offset) b off us h1 h2
               rwa [← ID] at this
           . cases h
       . cases h
     . cases h
   . cases h
 . cases h
theorem MemRep.get {m : Mem} (hm : MemRep E g w m) {k s : Nat} {b : Bx} (h : Mem.box? m k s = some b) : ∃ us, w.heap[g.J (E.d - k) s]? = some (.cells us b.ty (0, 0)) /\ us.size = b.cells.length /\
 (∀ (i : Nat) c, b.cells[i]? = some c -> w.cell? ⟨g.J (E.d - k) s, i, none⟩ = some (us.getD i undef) /\ RepD E g w [] (w4 k s i c) (us.getD i undef)) := by
 obtain ⟨us, h1, h2, h3⟩ := (hm k s b h).heap
 refine ⟨us, h1, h2, fun i c hc => ⟨?_, (h3 i c hc).2.2.2⟩⟩
 rw [HY w _ i us _ _ h1]
 have := (GD.1 hc).1
 simp [(by omega : i < us.size)]
theorem RepD.weaken {x : D} {v : GK} (h : RepD E g w [] x v) : RepD E g w dead x v :=
 h.keep ⟨Later.refl g w, rfl, fun _ _ h => h, fun _ _ _ _ => rfl, fun p hp => by simp at hp, fun _ _ _ _ _ h => h⟩
theorem a4p (k s : Nat) : ∀ (ds : List D) (i j : Nat) y, (N2 k s i ds)[j]? = some y -> ∃ c, ds[j]? = some c /\ y = (w4 k s (i + j) c).plain
 | [], i, j, y, h => by simp [N2] at h
 | d :: ds, i, 0, y, h => by
   simp [N2] at h
   exact ⟨d, by simp, h.symm⟩
 | d :: ds, i, j + 1, y, h => by
   simp [N2] at h
   obtain ⟨c, h1, h2⟩ := a4p k s ds (i + 1) j y h
   exact ⟨c, by simpa using h1, by rw [h2]; congr 2; omega⟩
theorem a1B (k s : Nat) : ∀ (ds : List D) (i : Nat), (N2 k s i ds).length = ds.length
 | [], _ => rfl
 | d :: ds, i => by simp [N2, a1B k s ds]
theorem a7A {t : GF} {ty : Ty} (hok : TyOK P t ty) (J7 : ty.row = true) {b o : Nat} {us : Nat -> GK} (hc : ∀ j, j < ty.size -> w.cell? ⟨b, o + j, none⟩ = some (us j)) :
 (Ki t (.pointer (some ⟨b, o, none⟩))).run P w = .ok (.agg ((Mb ty.size).map us).toArray) w := by
 refine run_loadAt_mid w b o t _ ty.desc (fun j v hj => ?_) hok.desc ?_ (by rw [hok.infoSize]; simp)
 . rw [Hz, Hd] at hj
   obtain ⟨z, hz, rfl⟩ := hj
   obtain ⟨h1, h2⟩ := GD.1 hz
   simp at h1 h2
   subst h2
   exact hc _ h1
 . unfold Ty.row at J7
   cases hd : ty.desc <;> simp_all
theorem a6J {t : GF} {ty : Ty} (hok : TyOK P t ty) (J7 : ty.row = false) {b o : Nat} {u : GK} (hc : w.cell? ⟨b, o, none⟩ = some u) :
 (Ki t (.pointer (some ⟨b, o, none⟩))).run P w = .ok u w := by
 simp [Ki, Jl, loadVar, hok.isAgg (w := w), J7, hc]
theorem a9R (hT : p7 P T) (t : GF) (a : D) (va : GK) (ha : RepD E g w dead a va) {m : Mem} (hm : MemRep E g w m) (d : D) (h : a0m T t a m some = some d) :
 ∃ v, (Ki t va).run P w = .ok v w /\ RepD E g w dead d v := by
 unfold a0m at h
 simp only [forceD_eq, Hk] at h
 split at h
 . rename_i ty hty
   have hok := hT _ _ hty
   split at h
   . rename_i k s o
     cases ha with
     | ptr k s o h1 h2 =>
       split at h
       . rename_i b hb
         obtain ⟨us, g1, g2, g3⟩ := hm.get hb
         split at h
         . rename_i J7
           split at h
           . rename_i hle
             have hle := Ha hle
             injection h with h; subst h
             refine ⟨_, a7A (us := fun j => us.getD (o + j) undef) hok J7 (fun j hj => ?_), ?_⟩
             . have : o + j < b.cells.length := by omega
               exact (g3 (o + j) _ (GH this)).1
             . refine .agg _ _ (by rw [a1B]; simp; omega) fun j y hj => ?_
               obtain ⟨c, hc, rfl⟩ := a4p k s _ o j y hj
               rw [Iw] at hc
               split at hc
               . rename_i hlt
                 rw [IB] at hc
                 have := (g3 (o + j) c hc).2.plain_.weaken (dead := dead)
                 simpa [hlt] using this
               . cases hc
           . cases h
         . rename_i J7
           split at h
           . split at h
             . rename_i c hc
               injection h with h; subst h
               exact ⟨_, a6J hok J7 (g3 o c hc).1, (g3 o c hc).2.weaken⟩
             . cases h
           . cases h
       . cases h
   . rename_i cs o
     cases ha with
     | eptr cs o b off us h1 h2 =>
       split at h
       . rename_i J7
         split at h
         . rename_i hle
           have hle := Ha hle
           injection h with h; subst h
           refine ⟨_, a7A (us := fun j => us (o + j)) hok J7 (fun j hj => ?_), ?_⟩
           . have : o + j < cs.length := by omega
             have := (h1 (o + j) _ (GH this)).2
             rwa [← ID] at this
           . refine .agg _ _ (by simp; omega) fun j y hj => ?_
             rw [Hz, Hd] at hj
             obtain ⟨z, hz, rfl⟩ := hj
             rw [Iw] at hz
             split at hz
             . rename_i hlt
               rw [IB] at hz
               have := RepD.v (E := E) (dead := dead) z .no _ (h2 (o + j) z hz) trivial
               simpa [hlt, vD] using this
             . cases hz
         . cases h
       . rename_i J7
         split at h
         . split at h
           . rename_i y hy
             injection h with h; subst h
             exact ⟨_, a6J hok J7 (h1 o y hy).2, .v _ _ _ (h2 o y hy) trivial⟩
           . cases h
         . cases h
   . cases h
 . cases h
end
end En
namespace En
open Go
section
variable {P : Hb} {T : GF -> Option Ty} {E : Env} {g : G} {w : GG} {dead : List Pos}
theorem RepD.one_ {d : D} {v : GK} (h : RepD E g w dead d v) (h1 : d.one = true) : v.oneCell' = true := by
 cases h with
 | v x a v h ha =>
   refine h.one ?_
   cases x <;> first | rfl | (simp [D.one] at h1)
 | ptr k s o _ _ => rfl
 | nilp => rfl
 | eptr cs o b off us _ _ => rfl
 | clos f caps us _ _ => rfl
 | nilF => rfl
 | fn n fs k s v h =>
   rcases h with ⟨_, e⟩ | ⟨_, _, _, _, _, e⟩ <;> rw [e] <;> rfl
 | bld => rfl
 | agg ds us _ _ => simp [D.one] at h1
 | tup ds us _ _ => simp [D.one] at h1
 | any v => simp [D.one] at h1
theorem c7d {v : GK} (h : v.oneCell' = true) : v.cells = #[v] := by cases v <;> first | rfl | cases h
def RepL (E : Env) (g : G) (w : GG) (dead : List Pos) (ds : List D) (us : Array GK) : Prop :=
 us.size = ds.length /\ ∀ (k : Nat) y, ds[k]? = some y -> RepD E g w dead y (us.getD k undef)
theorem a8u {d : D} {v : GK} (h : RepD E g w dead d v) (h1 : (cellsOf d).all D.one = true) : RepL E g w dead (cellsOf d) v.cells := by
 have single : ∀ {d : D} {v : GK}, RepD E g w dead d v -> d.one = true -> RepL E g w dead [d] v.cells := by
  intro d v h h1
  rw [c7d (h.one_ h1)]
  refine ⟨rfl, fun k y hk => ?_⟩
  have : k = 0 := by have := (GD.1 hk).1; simp at this; omega
  subst this
  simp at hk; subst hk
  exact h
 cases d with
 | agg ds => cases h with | agg ds us hn hr => exact ⟨hn, hr⟩
 | v x a =>
   cases x with
   | agg cs =>
     cases h with | v x a v h ha =>
     cases h with
     | agg cs us hn hr =>
       refine ⟨by simpa [cellsOf, JX] using hn, fun k y hk => ?_⟩
       simp only [cellsOf, Hz, Hd] at hk
       obtain ⟨z, hz, rfl⟩ := hk
       exact .v _ _ _ (hr k z hz) trivial
   | _ => exact single h rfl
 | tup ds => simp [cellsOf, D.one] at h1
 | any => simp [cellsOf, D.one] at h1
 | _ => exact single h rfl
theorem b1t : ∀ (xs : List D) (off : Nat) (cs : List D) (k : Nat), (b3I cs off xs)[k]? = if off <= k /\ k < off + xs.length /\ k < cs.length then xs[k - off]? else cs[k]?
 | [], off, cs, k => by simp [b3I]; intro h1 h2; omega
 | x :: xs, off, cs, k => by
   simp only [b3I]
   rw [b1t xs (off + 1) (cs.set off x) k]
   simp only [List.length_set, Hu]
   by_cases h1 : off + 1 <= k /\ k < off + 1 + xs.length /\ k < cs.length
   . rw [if_pos h1, if_pos ⟨by omega, by omega, h1.2.2⟩]
     have : k - off = (k - (off + 1)) + 1 := by omega
     rw [this, Jd]
   . rw [if_neg h1]
     by_cases hk : k = off
     . subst hk
       by_cases hl : k < cs.length
       . rw [if_pos ⟨GB _, by omega, hl⟩]; simp [hl]
       . rw [if_neg (by omega)]; simp [hl]
     . rw [List.getElem?_set_ne (fun e => hk e.symm), if_neg (by omega)]
theorem a1D : ∀ (xs : List D) (off : Nat) (cs : List D), (b3I cs off xs).length = cs.length
 | [], _, _ => rfl
 | x :: xs, off, cs => by simp [b3I, a1D xs]
theorem a5x : ∀ (xs : List GK) (i off : Nat) (us : Array GK) (k : Nat),
 ((xs.zipIdx i).foldl (fun cs p => cs.setIfInBounds (off + p.2) p.1) us)[k]? = if off + i <= k /\ k < off + i + xs.length /\ k < us.size then xs[k - (off + i)]? else us[k]?
 | [], i, off, us, k => by simp; intro h1 h2; omega
 | x :: xs, i, off, us, k => by
   simp only [List.zipIdx_cons, MO]
   rw [a5x xs (i + 1) off _ k]
   simp only [Array.size_setIfInBounds, Hu]
   by_cases h1 : off + (i + 1) <= k /\ k < off + (i + 1) + xs.length /\ k < us.size
   . rw [if_pos h1, if_pos ⟨by omega, by omega, h1.2.2⟩]
     have : k - (off + i) = (k - (off + (i + 1))) + 1 := by omega
     rw [this, Jd]
   . rw [if_neg h1]
     by_cases hk : k = off + i
     . subst hk
       by_cases hl : off + i < us.size
       . rw [if_pos ⟨GB _, by omega, hl⟩]; simp [hl]
       . rw [if_neg (by omega)]; simp [hl]
     . rw [Array.getElem?_setIfInBounds_ne (fun e => hk e.symm), if_neg (by omega)]
theorem a4g : ∀ (xs : List (GK × Nat)) (off : Nat) (us : Array GK), (xs.foldl (fun cs p => cs.setIfInBounds (off + p.2) p.1) us).size = us.size
 | [], _, _ => rfl
 | x :: xs, off, us => by rw [MO, a4g xs]; simp
theorem RepL.set_ {ds xs : List D} {us vs : Array GK} {off : Nat} (h : RepL E g w dead ds us) (hx : RepL E g w dead xs vs) :
 RepL E g w dead (b3I ds off xs) (vs.zipIdx.foldl (fun cs (c, j) => cs.setIfInBounds (off + j) c) us) := by
 have e1 : vs.zipIdx.foldl (fun cs (c, j) => cs.setIfInBounds (off + j) c) us = (vs.toList.zipIdx 0).foldl (fun cs p => cs.setIfInBounds (off + p.2) p.1) us := by
  rw [← Array.foldl_toList]; simp [Array.toList_zipIdx]
 rw [e1]
 refine ⟨by rw [a4g, a1D]; exact h.1, fun k y hk => ?_⟩
 rw [b1t] at hk
 rw [GL, a5x]
 have hl : vs.toList.length = xs.length := by simpa using hx.1
 have hu := h.1
 by_cases hc : off <= k /\ k < off + xs.length /\ k < ds.length
 . rw [if_pos hc] at hk
   rw [if_pos ⟨by omega, by omega, by omega⟩]
   have := hx.2 _ y hk
   simpa [GL] using this
 . rw [if_neg hc] at hk
   rw [if_neg (by omega)]
   have := h.2 k y hk
   simpa [GL] using this
def RepP (E : Env) (g : G) (w : GG) (dead : List Pos) : List (Nat × D) -> List (Nat × GK) -> Prop
 | [], [] => True
 | (i, d) :: r, (j, v) :: s => i = j /\ RepD E g w dead d v /\ RepP E g w dead r s
 | _, _ => False
theorem a1z (place : Nat -> Option (Nat × Nat)) : ∀ (ps : List (Nat × D)) (vs : List (Nat × GK)) (ds : List D) (us : Array GK) (ds' : List D), RepP E g w dead ps vs -> RepL E g w dead ds us -> a5H place ds ps = some ds' ->
 ∃ us', Ll place us vs = some us' /\ RepL E g w dead ds' us'
 | [], [], ds, us, ds', _, h, hf => by
   simp only [a5H, Hf] at hf
   subst hf
   exact ⟨us, rfl, h⟩
 | [], _ :: _, _, _, _, hp, _, _ => hp.elim
 | _ :: _, [], _, _, _, hp, _, _ => hp.elim
 | (i, d) :: r, (j, v) :: s, ds, us, ds', ⟨hij, hd, hp⟩, h, hf => by
   subst hij
   unfold a5H at hf
   unfold Ll
   cases hpl : place i with
   | none => rw [hpl] at hf; cases hf
   | some q =>
     obtain ⟨off, size⟩ := q
     rw [hpl] at hf
     simp only [Hk] at hf
     split at hf
     case isFalse => cases hf
     . rename_i hn
       simp only [GP] at hn
       obtain ⟨Q4, hn1, hn2⟩ := hn
       have hn1 := GE hn1
       have hn2 := Ha hn2
       have hc := a8u hd Q4
       have h1 : v.cells.size = size := by
        rw [hc.1, hn1]
       have h2 : ¬ (off + v.cells.size > us.size) := by
        have := hc.1
        rw [h.1]; omega
       obtain ⟨us', e1, e2⟩ := a1z place r s _ _ ds' hp (h.set_ (off := off) hc) hf
       refine ⟨us', ?_, e2⟩
       simp only [h1] at h2 ⊢
       rw [if_neg (by simp; omega)]
       exact e1
theorem b6p (ck : CK) : RepD E g w dead (c9t ck) (zeroV ck) := by
 cases ck with
 | int k => exact RepD.int_ (a6j k)
 | bool => exact RepD.bool_ _
 | str => exact RepD.str_ (s := []) (by simp)
 | bytes e => exact .v _ _ _ (.bytes [] none 0 0 rfl (GB _) (Hl _) fun k x h => by simp at h) rfl
 | slc e => exact .v _ _ _ (.sl _ [] none 0 0 (fun _ => undef) rfl (GB _) (Hl _) (fun x h => by simp at h) (fun k x h => by simp at h) (fun k x h => by simp at h)) rfl
 | ptr => exact .nilp
 | iface => exact .v _ _ _ .nilI trivial
 | func => exact .nilF
 | map => exact .v _ _ _ .nilM trivial
 | bld => exact .bld
theorem a9C (ck : CK) : (zeroV ck).cells = #[zeroV ck] := by cases ck <;> rfl
theorem a7N {t : GF} {ty : Ty} (hok : TyOK P t ty) : RepL E g w dead ty.zeroDs ty.zero.cells := by
 unfold Ty.zero
 cases hr : ty.row with
 | true =>
   refine ⟨by simp [Ty.zeroDs, JX], fun k y hk => ?_⟩
   simp only [Ty.zeroDs, Hz, Hd] at hk
   obtain ⟨ck, hck, rfl⟩ := hk
   have := b6p (E := E) (g := g) (w := w) (dead := dead) ck
   simpa [JX, hck] using this
 | false =>
   have h1 := hok.one hr
   unfold Ty.size at h1
   match c4v : ty.cks, h1 with
   | [ck], _ =>
     simp only [Bool.false_eq_true, if_false]
     refine ⟨by simp [Ty.zeroDs, c4v, a9C], fun k y hk => ?_⟩
     have : k = 0 := by have := (GD.1 hk).1; simp [Ty.zeroDs, c4v] at this; omega
     subst this
     simp [Ty.zeroDs, c4v] at hk
     subst hk
     simpa [a9C] using b6p (E := E) (g := g) (w := w) (dead := dead) ck
theorem RepP.map_ {f : D -> D} (hf : ∀ {d v}, RepD E g w dead d v -> RepD E g w dead (f d) v) : ∀ {ps : List (Nat × D)} {vs : List (Nat × GK)}, RepP E g w dead ps vs -> RepP E g w dead (ps.map fun p => (p.1, f p.2)) vs
 | [], [], _ => trivial
 | [], _ :: _, h => h.elim
 | _ :: _, [], h => h.elim
 | (i, d) :: r, (j, v) :: s, ⟨h1, h2, h3⟩ => ⟨h1, hf h2, RepP.map_ hf h3⟩
theorem a4f (hT : p7 P T) : ∀ (fs : List LU) (places : List (Nat × Nat)), placesOf T fs = some places -> fs.mapM (fun f => (P.info? f.type).map fun i => (f.offset, i.size)) = some places
 | [], places, h => by simp only [placesOf, Hf] at h; subst h; rfl
 | f :: fs, places, h => by
   unfold placesOf at h
   split at h
   . rename_i te hte
     split at h
     . rename_i r hr
       injection h with h; subst h
       have ih := a4f hT fs r hr
       obtain ⟨i, hi, _, hs, _⟩ := (hT _ _ hte).info
       simp [List.mapM_cons, hi, hs, ih]
     . cases h
   . cases h
theorem b7i (hT : p7 P T) (t : GF) (parts : List (Nat × D)) (vparts : Array (Nat × GK)) (hp : RepP E g w dead parts vparts.toList) (d : D) (h : a8O T t parts some = some d) :
 ∃ v, (Instr.build t vparts).run P w = .ok v w /\ RepD E g w dead d v := by
 unfold a8O at h
 simp only [forceD_eq] at h
 split at h
 . rename_i ty hty
   have hok := hT _ _ hty
   obtain ⟨i, hi, hz, hs, _⟩ := hok.info
   have hd := hok.desc
   have hzr := a7N (E := E) (g := g) (w := w) (dead := dead) hok
   have hpp := RepP.map_ (f := D.plain) (fun h => h.plain_) hp
   split at h
   . rename_i fs o7
     rw [o7] at hd
     split at h
     . rename_i places hpl
       split at h
       . rename_i cs hcs
         injection h with h; subst h
         obtain ⟨us, h1, h2⟩ := a1z _ _ _ _ _ cs hpp hzr hcs
         refine ⟨.agg us, run_build w t vparts us ?_, .agg _ _ h2.1 h2.2⟩
         simp only [Program.built, hi, hd, hz, a4f hT _ _ hpl]
         simpa using h1
       . cases h
     . cases h
   . rename_i n e o7
     rw [o7] at hd
     split at h
     . rename_i te hte
       split at h
       . rename_i cs hcs
         injection h with h; subst h
         obtain ⟨us, h1, h2⟩ := a1z _ _ _ _ _ cs hpp hzr hcs
         obtain ⟨ie, hie, _, hse, _⟩ := (hT _ _ hte).info
         refine ⟨.agg us, run_build w t vparts us ?_, .agg _ _ h2.1 h2.2⟩
         simp only [Program.built, hi, hd, hz, hie, hse]
         exact h1
       . cases h
     . cases h
   . cases h
 . cases h
end
end En
namespace En
open Go
structure Grows (w w' : GG) : Prop where
 os : w'.os = w.os
 tape : w'.tape = w.tape
 output : w'.output = w.output
 size : w.heap.size <= w'.heap.size
 old : ∀ b, b < w.heap.size -> w'.heap[b]? = w.heap[b]?
theorem Grows.refl (w : GG) : Grows w w := ⟨rfl, rfl, rfl, GB _, fun _ _ => rfl⟩
theorem Grows.trans {a b c : GG} (h : Grows a b) (k : Grows b c) : Grows a c :=
 ⟨k.os.trans h.os, k.tape.trans h.tape, k.output.trans h.output, KH h.size k.size, fun x hx => (k.old x (Jj hx h.size)).trans (h.old x hx)⟩
theorem Grows.alloc (w : GG) (o : Obj) : Grows w (w.alloc o) :=
 ⟨rfl, rfl, rfl, by simp, fun b hb => by
  show (w.heap.push o)[b]? = _
  rw [Array.getElem?_push]; rw [if_neg (by omega)]⟩
theorem Grows.drew (w : GG) : Grows w w.drew := ⟨rfl, rfl, rfl, GB _, fun _ _ => rfl⟩
def G.at_ (g : G) (b : Nat) (p : Perm) : G := { g with Γ := fun x => if x = b then p else g.Γ x }
theorem G.at_ne (g : G) (b : Nat) (p : Perm) {x : Nat} (h : x ≠ b) : (g.at_ b p).Γ x = g.Γ x := by simp [G.at_, h]
theorem G.at_eq (g : G) (b : Nat) (p : Perm) : (g.at_ b p).Γ b = p := by simp [G.at_]
theorem a8m {g : G} {b : Nat} {p : Perm} {x o : Nat} (h : x ≠ b) : j9 (g.at_ b p) x o ↔ j9 g x o := by
 unfold j9; rw [G.at_ne g b p h]
theorem b8h {w : GG} {b o : Nat} {v : GK} (h : w.cell? ⟨b, o, none⟩ = some v) : b < w.heap.size := by
 unfold World.cell? at h
 rcases Ir b w.heap.size with h' | h'
 . exact h'
 . rw [Array.getElem?_eq_none h'] at h; cases h
theorem J0 {w : GG} {b : Nat} {o : Obj} (h : w.heap[b]? = some o) : b < w.heap.size := (Array.getElem?_eq_some_iff.1 h).1
theorem cell_of_heap {w w' : GG} {b o : Nat} (h : w'.heap[b]? = w.heap[b]?) : w'.cell? ⟨b, o, none⟩ = w.cell? ⟨b, o, none⟩ := World.cell?_of_block (a := ⟨b, o, none⟩) h
section
variable {P : Hb} {T : GF -> Option Ty} {E : Env} {g : G} {w w' : GG} {dead : List Pos}
theorem a3f (h : Grows w w') {b : Nat} (hb : w.heap.size <= b) (p : Perm) : Later g w (g.at_ b p) w' :=
 ⟨rfl, fun x o v h1 h2 => by
  have hx := b8h h2
  exact ⟨(a8m (by omega)).2 h1, by rw [cell_of_heap (h.old x hx)]; exact h2⟩, fun x o h1 h2 => by
  have hx := J0 h2
  exact ⟨by rw [G.at_ne _ _ _ (by omega)]; exact h1, by rw [h.old x hx]; exact h2⟩⟩
theorem c1z (h : Grows w w') {b : Nat} (hb : w.heap.size <= b) (p : Perm) {q : APos} {e : GF} {v : GK} (ho : p8 g w q e v) : p8 (g.at_ b p) w' q e v := by
 rcases ho with h0 | ⟨x, n, cap, cur, h1, h2, h3, h4⟩
 . exact .inl h0
 . have hx := J0 h3
   exact .inr ⟨x, n, cap, cur, h1, by rw [G.at_ne _ _ _ (by omega)]; exact h2, by rw [h.old x hx]; exact h3, h4⟩
theorem a1d (h : Grows w w') {b : Nat} (hb : w.heap.size <= b) (p : Perm) : Keeps E g w dead E (g.at_ b p) w' dead :=
 ⟨a3f h hb p, rfl, fun _ _ h => h, fun _ _ _ _ => rfl, fun _ h => h, fun _ _ _ _ _ ho => c1z h hb p ho⟩
theorem c4Q (h : Grows w w') {b : Nat} (hb : w.heap.size <= b) (p : Perm) (d : Nat) : Tr d g w (g.at_ b p) w' :=
 ⟨h.os, h.tape, h.output, h.size, a3f h hb p, fun x hx hi => ⟨by rw [G.at_ne _ _ _ (by omega)], h.old x hx⟩, fun _ _ _ => rfl⟩
theorem c9A (h : Grows w w') {b : Nat} (hb : w.heap.size <= b) (p : Perm) {k s : Nat} {bx : Bx} (hr : BoxRep E g w k s bx) : BoxRep E (g.at_ b p) w' k s bx := by
 obtain ⟨us, h1, h2, h3⟩ := hr.heap
 have hx := J0 h1
 refine ⟨hr.le, ?_, us, ?_, h2, fun i c hc => ⟨(h3 i c hc).1, (h3 i c hc).2.1, (h3 i c hc).2.2.1, (h3 i c hc).2.2.2.keep (a1d h hb p)⟩⟩
 . rw [G.at_ne _ _ _ (by show g.J (E.d - k) s ≠ b; omega)]; exact hr.perm
 . show w'.heap[g.J (E.d - k) s]? = _
   rw [h.old _ hx]; exact h1
theorem b5S {m : Mem} (h : Grows w w') {b : Nat} (hb : w.heap.size <= b) (p : Perm) (hh : Here T E g w m) : Here T E (g.at_ b p) w' m :=
 ⟨fun k s bx hbx => c9A h hb p (hh.mem k s bx hbx), hh.dom, hh.sk.later (a3f h hb p), hh.len⟩
theorem Res.grow {m : Mem} {o : Oper} {a : Act} {x : D} (hh : Here T E g w m) (h : Grows w w') {b : Nat} (hb : w.heap.size <= b) (p : Perm) {v : GK}
 (hr : (execOp a.eval o).run P w = .ok (.value v) w') (hx : RepD E (g.at_ b p) w' dead x v) : Res P T E g w m dead o a x m dead :=
 ⟨v, w', g.at_ b p, E, .inl hr, a1d h hb p, b5S h hb p hh, hx, c4Q h hb p _⟩
theorem c1u (s : List UInt8) (cap k : Nat) (x : UInt8) (h : s[k]? = some x) : (bytesRow ⟨s.toArray⟩ cap)[k]? = some (.int .u8 (x.toNat : Int)) := by
 unfold bytesRow
 have hk := (GD.1 h).1
 rw [HF (by simpa using hk)]
 simp [h]
theorem b9B (hT : p7 P T) (src dst : GF) (x : D) (vx : GK) (hx : RepD E g w dead x vx) (d : D) (h : b5n T src dst x some = some d) :
 ∃ v w', (convert src dst vx).run P w = .ok v w' /\ Grows w w' /\ RepD E (g.at_ w.heap.size .imm) w' dead d v := by
 unfold b5n at h
 split at h
 . rename_i ts td hts htd
   have hs := (hT _ _ hts).desc
   have hd := (hT _ _ htd).desc
   have same : ∀ {d : D} {v : GK}, RepD E g w dead d v -> RepD E (g.at_ w.heap.size .imm) w dead d v := fun h => h.keep (a1d (Grows.refl w) (GB _) _)
   split at h
   . rename_i k0 k k1 n a h1 h2
     injection h with h; subst h
     obtain ⟨rfl, hb⟩ := hx.int_inv
     have hk : P.intKind dst = k := by simp [Program.intKind, hd, h2]
     refine ⟨_, w, run_convert_int w src dst k1 n (by rw [hs]; rfl) (by rw [hd, h2, hk]), Grows.refl w, ?_⟩
     rw [hk]
     exact same (RepD.int_ (F1 _ _))
   . rename_i e s a h1 h2
     split at h
     . rename_i te hte
       split at h
       . rename_i hu8
         obtain ⟨h3, h⟩ := B7 h
         injection h with h; subst h
         simp at h3
         obtain ⟨hr, _, A, n, c, rfl, hn, hc, hm⟩ := hx.bytes_inv
         rw [h1] at hs
         rw [h2] at hd
         have hed := (hT _ _ hte).desc
         rw [hu8] at hed
         cases hr with
         | bytes xs A n c hn' hc' hm' hxx =>
           refine ⟨.string ⟨s.toArray⟩, w, ?_, Grows.refl w, same (RepD.str_ h3)⟩
           cases s with
           | nil =>
             simp at hn'
             subst hn'
             have := run_convert_bytes_string (P := P) w src dst e A 0 c hs hed hd
             rw [this]
             cases A <;> simp [Conv.bytesToString, loadCells, loadCellsFrom] <;> rfl
           | cons y ys =>
             obtain ⟨b, off, rfl, _, _⟩ := hxx 0 y rfl
             have hl := run_convert_bytes_back (P := P) w src dst e ⟨b, off, none⟩ c (y :: ys) hs hed hd (fun j hj => by
              obtain ⟨b2, off2, e1, _, h5⟩ := hxx j _ (GH hj)
              injection e1 with e1; injection e1 with e1 e2; subst e1 e2
              simpa [IF] using h5)
             rw [← hn']
             exact hl
       . cases h
     . cases h
   . rename_i e s a h1 h2
     split at h
     . rename_i te hte
       split at h
       . rename_i hu8
         obtain ⟨h3, h⟩ := B7 h
         injection h with h; subst h
         simp at h3
         obtain ⟨rfl, hl⟩ := hx.str_inv
         rw [h1] at hs
         rw [h2] at hd
         have hed := (hT _ _ hte).desc
         rw [hu8] at hed
         have hsz : (⟨s.toArray⟩ : ByteArray).size = s.length := by simp [Kh]
         refine ⟨_, _, run_bytes_of_string w src dst e ⟨s.toArray⟩ hs hd hed, (Grows.drew w).trans (Grows.alloc w.drew _), .v _ _ _ (.bytes _ _ _ _ hsz.symm (IL w _ _ _) (Ix w _ _ _ (by rw [hsz]; unfold maxLen; omega)) fun k x hk => ?_) trivial⟩
         refine ⟨w.heap.size, 0, rfl, ?_, ?_⟩
         . unfold j9; rw [G.at_eq]; trivial
         . have := c1u s (grownCap w (⟨s.toArray⟩ : ByteArray).size 0 e) k x hk
           have h9 := HY _ w.heap.size (0 + k) _ _ _ (Ht w.drew (.cells (bytesRow ⟨s.toArray⟩ (grownCap w (⟨s.toArray⟩ : ByteArray).size 0 e)) e ((bytesRow ⟨s.toArray⟩ (grownCap w (⟨s.toArray⟩ : ByteArray).size 0 e)).size, (bytesRow ⟨s.toArray⟩ (grownCap w (⟨s.toArray⟩ : ByteArray).size 0 e)).size + 1)))
           exact h9.trans (by rw [HE]; exact this)
       . cases h
     . cases h
   . rename_i s a h1 h2
     injection h with h; subst h
     obtain ⟨rfl, hl⟩ := hx.str_inv
     rw [h1] at hs
     rw [h2] at hd
     refine ⟨_, w, ?_, Grows.refl w, same hx⟩
     simp [convert, Hc hs, Hc hd]
   . cases h
 . cases h
end
end En
namespace En
open Go
section
variable {R : Type} {P : Hb} {T : GF -> Option Ty} {E : Env} {g : G} {w w' : GG} {dead : List Pos}
theorem a6u : ∀ (r cs : List D) (off : Nat) (K : List D -> Option R), c5A cs off r K = K (b3I cs off r)
 | [], _, _, _ => rfl
 | d :: r, cs, off, K => by simp only [c5A, a3z, a6u r]; rfl
theorem a4Q {k : Nat} {x : D} {v : GK} (h : RepD E g w dead x v) : ∀ {x' : D}, x.low k = some x' -> RepD E g w [] (x'.shift k) v /\ x'.noOwn = true /\ (x.one = true -> x'.one = true) := by
 have hl : ∀ (ds ds' : List D), lows k ds = some ds' -> ds'.length = ds.length /\ ∀ (i : Nat) y, ds'[i]? = some y -> ∃ z, ds[i]? = some z /\ z.low k = some y := by
  intro ds
  induction ds with
  | nil => intro ds' h; simp only [lows, Hf] at h; subst h; exact ⟨rfl, fun i y h => by simp at h⟩
  | cons d ds ih =>
    intro ds' h
    unfold lows at h
    split at h
    . rename_i x hx
      split at h
      . rename_i r hr
        injection h with h; subst h
        obtain ⟨h1, h2⟩ := ih r hr
        refine ⟨by simp [h1], fun i y hy => ?_⟩
        rcases i with _ | i
        . simp at hy; subst hy; exact ⟨d, by simp, hx⟩
        . obtain ⟨z, a, b⟩ := h2 i y (by simpa using hy); exact ⟨z, by simpa using a, b⟩
      . cases h
    . cases h
 have hs : ∀ (ds : List D) (i : Nat) y, (D.shifts k ds)[i]? = some y -> ∃ z, ds[i]? = some z /\ y = z.shift k := by
  intro ds
  induction ds with
  | nil => intro i y h; simp [D.shifts] at h
  | cons d ds ih =>
    intro i y h
    rcases i with _ | i
    . simp [D.shifts] at h; exact ⟨d, by simp, h.symm⟩
    . simp [D.shifts] at h; obtain ⟨z, a, b⟩ := ih i y h; exact ⟨z, by simpa using a, b⟩
 have hn : ∀ ds : List D, (D.shifts k ds).length = ds.length := by
  intro ds; induction ds with | nil => rfl | cons d ds ih => simp [D.shifts, ih]
 have ho : ∀ ds : List D, (∀ (i : Nat) y, ds[i]? = some y -> y.noOwn = true) -> noOwns ds = true := by
  intro ds
  induction ds with
  | nil => intro _; rfl
  | cons d ds ih =>
    intro h
    simp only [noOwns, GP]
    exact ⟨h 0 d (by simp), ih fun i y hy => h (i + 1) y (by simpa using hy)⟩
 induction h with
 | v x a v h ha =>
   intro x' hx
   simp only [D.low, Hf] at hx
   subst hx
   cases a with
   | nil e => exact ⟨.v _ _ _ h ha, rfl, fun h => h⟩
   | no => exact ⟨.v _ _ _ h trivial, rfl, fun h => h⟩
   | own p e => exact ⟨.v _ _ _ h trivial, rfl, fun h => h⟩
 | ptr k' s o h1 h2 =>
   intro x' hx
   simp only [D.low, Hk] at hx
   split at hx
   . rename_i hle
     have hle := Ha hle
     injection hx with hx; subst hx
     refine ⟨?_, rfl, fun _ => rfl⟩
     simp only [D.shift]
     rw [show k' - k + k = k' by omega]
     exact .ptr _ _ _ h1 h2
   . cases hx
 | nilp => intro x' hx; simp only [D.low, Hf] at hx; subst hx; exact ⟨.nilp, rfl, fun _ => rfl⟩
 | eptr cs o b off us h hr => intro x' hx; simp only [D.low, Hf] at hx; subst hx; exact ⟨.eptr _ _ _ _ _ h hr, rfl, fun _ => rfl⟩
 | clos f caps us hn' hr ih =>
   intro x' hx
   simp only [D.low, Hd] at hx
   obtain ⟨cs, h1, rfl⟩ := hx
   obtain ⟨h2, h3⟩ := hl _ _ h1
   refine ⟨.clos f _ us (by rw [hn, h2]; exact hn') fun i y hy => ?_, ho _ fun i y hy => ?_, fun _ => rfl⟩
   . obtain ⟨z, a, rfl⟩ := hs _ i y hy
     obtain ⟨q, b, c⟩ := h3 i z a
     exact (ih i q b c).1
   . obtain ⟨q, b, c⟩ := h3 i y hy
     exact (ih i q b c).2.1
 | nilF => intro x' hx; simp only [D.low, Hf] at hx; subst hx; exact ⟨.nilF, rfl, fun _ => rfl⟩
 | fn n fs k' s v h =>
   intro x' hx
   simp only [D.low, Hk] at hx
   split at hx
   . rename_i hle
     have hle := Ha hle
     injection hx with hx; subst hx
     refine ⟨?_, rfl, fun _ => rfl⟩
     simp only [D.shift]
     rw [show k' - k + k = k' by omega]
     exact .fn _ _ _ _ _ h
   . cases hx
 | bld => intro x' hx; simp only [D.low, Hf] at hx; subst hx; exact ⟨.bld, rfl, fun _ => rfl⟩
 | agg ds us hn' hr ih =>
   intro x' hx
   simp only [D.low, Hd] at hx
   obtain ⟨cs, h1, rfl⟩ := hx
   obtain ⟨h2, h3⟩ := hl _ _ h1
   refine ⟨.agg _ us (by rw [hn, h2]; exact hn') fun i y hy => ?_, ho _ fun i y hy => ?_, fun h => by simp [D.one] at h⟩
   . obtain ⟨z, a, rfl⟩ := hs _ i y hy
     obtain ⟨q, b, c⟩ := h3 i z a
     exact (ih i q b c).1
   . obtain ⟨q, b, c⟩ := h3 i y hy
     exact (ih i q b c).2.1
 | tup ds us hn' hr ih =>
   intro x' hx
   simp only [D.low, Hd] at hx
   obtain ⟨cs, h1, rfl⟩ := hx
   obtain ⟨h2, h3⟩ := hl _ _ h1
   refine ⟨.tup _ us (by rw [hn, h2]; exact hn') fun i y hy => ?_, ho _ fun i y hy => ?_, fun h => by simp [D.one] at h⟩
   . obtain ⟨z, a, rfl⟩ := hs _ i y hy
     obtain ⟨q, b, c⟩ := h3 i z a
     exact (ih i q b c).1
   . obtain ⟨q, b, c⟩ := h3 i y hy
     exact (ih i q b c).2.1
 | any v => intro x' hx; simp [D.low] at hx
theorem a2e {d : D} (h : d.noOwn = true) : d.flat = true := by cases d <;> first | rfl | exact h
mutual
theorem noOwn_shift (k : Nat) : ∀ d : D, d.noOwn = true -> (d.shift k).noOwn = true
 | .v x a, h => by cases a with
   | own p e => simp [D.noOwn] at h
   | _ => rfl
 | .clos f caps, h => noOwns_shift k caps h
 | .agg ds, h => noOwns_shift k ds h
 | .tup ds, h => noOwns_shift k ds h
 | .ptr _ _ _, _ => rfl
 | .nilp, _ => rfl
 | .eptr _ _, _ => rfl
 | .nilF, _ => rfl
 | .fn _ _ _ _, _ => rfl
 | .bld, _ => rfl
 | .any, _ => rfl
theorem noOwns_shift (k : Nat) : ∀ ds : List D, noOwns ds = true -> noOwns (D.shifts k ds) = true
 | [], _ => rfl
 | d :: ds, h => by
   simp only [noOwns, GP] at h
   simp only [D.shifts, noOwns, GP]
   exact ⟨noOwn_shift k d h.1, noOwns_shift k ds h.2⟩
end
theorem I4 : ∀ (ds : List D), noOwns ds = true -> ∀ (i : Nat) y, ds[i]? = some y -> y.noOwn = true
 | [], _, i, y, hy => by simp at hy
 | d :: ds, h, 0, y, hy => by simp only [noOwns, GP] at h; simp at hy; subst hy; exact h.1
 | d :: ds, h, i + 1, y, hy => by simp only [noOwns, GP] at h; exact I4 ds h.2 i y (by simpa using hy)
theorem a4u {x : D} {u : GK} (hx : RepD E g w dead x u) : x.noOwn = true -> RepD E g w [] x u := by
 induction hx with
 | v x a v h ha =>
   intro hn
   cases a with
   | own p e => simp [D.noOwn] at hn
   | no => exact .v _ _ _ h trivial
   | nil e => exact .v _ _ _ h ha
 | ptr k s o h1 h2 => intro _; exact .ptr k s o h1 h2
 | nilp => intro _; exact .nilp
 | eptr cs o b off us h hr => intro _; exact .eptr cs o b off us h hr
 | clos f caps us hn' hr ih => intro hn; exact .clos f caps us hn' fun i y hy => ih i y hy (I4 _ hn i y hy)
 | nilF => intro _; exact .nilF
 | fn n fs k s v h => intro _; exact .fn n fs k s v h
 | bld => intro _; exact .bld
 | agg ds us hn' hr ih => intro hn; exact .agg ds us hn' fun i y hy => ih i y hy (I4 _ hn i y hy)
 | tup ds us hn' hr ih => intro hn; exact .tup ds us hn' fun i y hy => ih i y hy (I4 _ hn i y hy)
 | any v => intro _; exact .any v
theorem a1g {k s i : Nat} {c : D} {u : GK} (hf : c.flat = true) (h : RepD E g w dead (w4 k s i c) u) (hn : Pos.cell k s i ∉ dead) : RepD E g w [] (w4 k s i c) u := by
 cases c with
 | v x a =>
   cases a with
   | own p e =>
     cases h with
     | v x a v h ha =>
       refine .v _ _ _ h ?_
       rcases ha with ha | ha
       . exact absurd ha hn
       . exact .inr ha
   | no => exact a4u h rfl
   | nil e => exact a4u h rfl
 | bld => exact .any _
 | _ => exact a4u h (noOwn_shift k _ hf)
theorem relabel {e : GF} {v : GK} {q : Nat} {p' : APos} (ho : p8 g w (.slot E.d q) e v) :
 ∃ g1, (∀ dd, Keeps E g w dd E g1 w (.slot q :: dd)) /\ (∀ d, Tr d g w g1 w) /\ (∀ m, MemRep E g w m -> MemRep E g1 w m) /\ p8 g1 w p' e v /\ g1.J = g.J /\ g1.sz = g.sz /\
  (∀ b, (∀ n, g.Γ b ≠ .own (.slot E.d q) n) -> g1.Γ b = g.Γ b) /\ (∀ (r : APos) e' v', r ≠ .slot E.d q -> p8 g w r e' v' -> p8 g1 w r e' v') := by
 rcases ho with rfl | ⟨b, n, cap, cur, rfl, h2, h3, h4⟩
 . exact ⟨g, fun dd => ⟨Later.refl g w, rfl, fun _ _ h => h, fun _ _ _ _ => rfl, fun _ h => Hv _ h, fun _ _ _ _ _ h => h⟩, fun d => Tr.refl d g w, fun _ h => h, .inl rfl, rfl, rfl, fun _ _ => rfl, fun _ _ _ _ h => h⟩
 . have hst : Later g w (g.at_ b (.own p' (n * g.sz e))) w := ⟨rfl, fun x o v hs hc => ⟨by
    by_cases hx : x = b
    . subst hx
      unfold j9 at hs ⊢
      rw [h2] at hs
      rw [G.at_eq]; exact hs
    . exact (a8m hx).2 hs, hc⟩, fun x o k1 k2 => ⟨by rw [G.at_ne _ _ _ (fun e0 => by subst e0; rw [h2] at k1; cases k1)]; exact k1, k2⟩⟩
   have hown : ∀ (r : APos) e' v', r ≠ .slot E.d q -> p8 g w r e' v' -> p8 (g.at_ b (.own p' (n * g.sz e))) w r e' v' := by
    intro r e' v' hne ho
    rcases ho with h0 | ⟨x, n', cap', cur', k1, k2, k3, k4⟩
    . exact .inl h0
    . have hx : x ≠ b := fun e0 => by subst e0; rw [h2] at k2; injection k2 with k2 _; exact hne k2.symm
      exact .inr ⟨x, n', cap', cur', k1, by rw [G.at_ne _ _ _ hx]; exact k2, k3, k4⟩
   have b0f : ∀ dd : List Pos, Keeps E g w dd E (g.at_ b (.own p' (n * g.sz e))) w (.slot q :: dd) := fun dd =>
    ⟨hst, rfl, fun _ _ h => h, fun _ _ _ _ => rfl, fun _ h => Hv _ h, fun p e' v' hp hn ho => hown _ _ _ (fun e0 => by
     cases p with
     | slot s =>
       simp only [a8s, APos.slot.injEq, true_and] at e0
       exact hn (by rw [e0]; simp)
     | cell k s i => simp [a8s] at e0) ho⟩
   refine ⟨g.at_ b (.own p' (n * g.sz e)), b0f, fun d => ⟨rfl, rfl, rfl, GB _, hst, fun x hx hi => ⟨G.at_ne _ _ _ (fun e0 => by subst e0; rw [h2] at hi; rcases hi with hi | ⟨_, hi⟩ <;> cases hi), rfl⟩, fun _ _ _ => rfl⟩, fun m hm k s bx hb => ?_,
    .inr ⟨b, n, cap, cur, rfl, G.at_eq _ _ _, h3, h4⟩, rfl, rfl, fun x hx => G.at_ne _ _ _ (fun e0 => by subst e0; exact hx _ h2), hown⟩
   have hr := hm k s bx hb
   obtain ⟨us, a1, a2, a3⟩ := hr.heap
   refine ⟨hr.le, ?_, us, a1, a2, fun i c hc => ⟨(a3 i c hc).1, (a3 i c hc).2.1, (a3 i c hc).2.2.1, ?_⟩⟩
   . show (g.at_ b _).Γ (g.J (E.d - k) s) = _
     rw [G.at_ne _ _ _ (fun e0 => by have := hr.perm; rw [e0, h2] at this; cases this)]; exact hr.perm
   . have h9 := (a3 i c hc).2.2.2
     have hf := (a3 i c hc).2.1
     have h10 := h9.keep (b0f [])
     exact a1g hf h10 (by simp)
theorem c4e (q : Pos) : Keeps E g w dead E g w (q :: dead) :=
 ⟨Later.refl g w, rfl, fun _ _ h => h, fun _ _ _ _ => rfl, fun _ h => Hv _ h, fun _ _ _ _ _ h => h⟩
structure CellsOut (E : Env) (g : G) (w : GG) (m : Mem) (dead : List Pos) (k s i : Nat) (us : List GK) (cs : List D) (dead' : List Pos) (g1 : G) : Prop where
 keeps : Keeps E g w dead E g1 w dead'
 soft : ∃ dd, (∀ p ∈ dd, ∃ q, p = .slot q) /\ Keeps E g w [] E g1 w dd
 tr : ∀ d, Tr d g w g1 w
 mem : MemRep E g1 w m
 J : g1.J = g.J
 sz : g1.sz = g.sz
 box : ∀ b d' s', g.Γ b = .box d' s' -> g1.Γ b = .box d' s'
 len : cs.length = us.length
 rep : ∀ (j : Nat) c, cs[j]? = some c -> c.one = true /\ c.flat = true /\ (c = .bld -> us.getD j undef = .pointer none) /\ RepD E g1 w [] (w4 k s (i + j) c) (us.getD j undef)
theorem a0s {m : Mem} (k s : Nat) (hk : k <= E.d) : ∀ (ds : List D) (us : List GK) (i : Nat) (g : G) (dead : List Pos) (K : List D -> List Pos -> Option R) (r : R),
 us.length = ds.length -> (∀ (j : Nat) y, ds[j]? = some y -> RepD E g w dead y (us.getD j undef)) -> MemRep E g w m -> N5 k ds dead K = some r ->
 ∃ cs dead' g1, K cs dead' = some r /\ CellsOut E g w m dead k s i us cs dead' g1
 | [], us, i, g, dead, K, r, hl, hr, hm, h => by
   refine ⟨[], dead, g, h, Keeps.refl _ _ _ _, ⟨[], by simp, Keeps.refl _ _ _ _⟩, fun d => Tr.refl _ _ _, hm, rfl, rfl, fun _ _ _ h => h, by simpa using hl.symm, fun j c hc => by simp at hc⟩
 | d :: ds, us, i, g, dead, K, r, hl, hr, hm, h => by
   cases us with
   | nil => simp at hl
   | cons u us =>
   have hd : RepD E g w dead d u := by simpa using hr 0 d (by simp)
   unfold N5 at h
   rcases g5 h with ⟨Q4, h⟩ | ⟨_, h⟩
   case inr => cases h
   -- what remains after the first cell
   have rest : ∀ (c : D) (dead1 : List Pos) (g1 : G), Keeps E g w dead E g1 w dead1 -> (∃ dd, (∀ p ∈ dd, ∃ q, p = .slot q) /\ Keeps E g w [] E g1 w dd) -> (∀ d, Tr d g w g1 w) -> MemRep E g1 w m -> g1.J = g.J -> g1.sz = g.sz ->
    (∀ b d' s', g.Γ b = .box d' s' -> g1.Γ b = .box d' s') -> c.one = true -> c.flat = true -> (c = .bld -> u = .pointer none) -> RepD E g1 w [] (w4 k s i c) u ->
    N5 k ds dead1 (fun cs dead' => K (c :: cs) dead') = some r -> ∃ cs dead' g1, K cs dead' = some r /\ CellsOut E g w m dead k s i (u :: us) cs dead' g1 := by
    intro c dead1 g1 hk1 ⟨dd, hdd, hks⟩ ht1 hm1 hJ1 hz1 hb1 h1 h2 h3 h4 h5
    obtain ⟨cs, dead', g2, h6, ho⟩ := a0s k s hk ds us (i + 1) g1 dead1 _ r (by simpa using hl) (fun j y hy => by
     have := hr (j + 1) y (by simpa using hy)
     exact (by simpa using this : RepD E g w dead y (us.getD j undef)).keep hk1) hm1 h5
    obtain ⟨dd2, d6I, hks2⟩ := ho.soft
    refine ⟨c :: cs, dead', g2, h6, hk1.trans ho.keeps, ?_, fun d => (ht1 d).trans (ho.tr d), ho.mem, ho.J.trans hJ1, ho.sz.trans hz1, fun b d' s' hb => ho.box b d' s' (hb1 b d' s' hb), by simp [ho.len], fun j c' hc => ?_⟩
    . refine ⟨dd ++ dd2, fun p hp => ?_, ?_⟩
      . rcases Jz.1 hp with hp | hp
        . exact hdd p hp
        . exact d6I p hp
      . refine ⟨hks.later.trans ho.keeps.later, rfl, fun _ _ h => h, fun a b c d => by rw [ho.J, hJ1], fun _ h => by simp at h, fun p e v hp hn ho1 => ?_⟩
        have hn1 : p ∉ dd := fun hh => hn (Jz.2 (.inl hh))
        have hn2 : p ∉ dd2 := fun hh => hn (Jz.2 (.inr hh))
        exact hks2.own p e v hp hn2 (hks.own p e v hp hn1 ho1)
    . rcases j with _ | j
      . simp at hc; subst hc
        refine ⟨h1, h2, by simpa using h3, ?_⟩
        have := h4.keep hks2
        exact a1g h2 (by simpa using this) (fun hh => by obtain ⟨q, hq⟩ := d6I _ hh; cases hq)
      . obtain ⟨a1, a2, a3, a4⟩ := ho.rep j c' (by simpa using hc)
        refine ⟨a1, a2, by simpa using a3, ?_⟩
        have : i + 1 + j = i + (j + 1) := by omega
        rw [this] at a4
        simpa using a4
   have plainRest : ∀ (c : D) (dead1 : List Pos), Keeps E g w dead E g w dead1 -> c.one = true -> c.flat = true -> (c = .bld -> u = .pointer none) -> RepD E g w [] (w4 k s i c) u ->
    N5 k ds dead1 (fun cs dead' => K (c :: cs) dead') = some r -> ∃ cs dead' g1, K cs dead' = some r /\ CellsOut E g w m dead k s i (u :: us) cs dead' g1 := fun c dead1 h0 h1 h2 h3 h4 h5 =>
    rest c dead1 g h0 ⟨[], by simp, Keeps.refl _ _ _ _⟩ (fun d => Tr.refl _ _ _) hm rfl rfl (fun _ _ _ h => h) h1 h2 h3 h4 h5
   cases d with
   | v x a =>
     simp only [W4] at h
     have hx1 : ∀ a' : Att, (D.v x a').one = true := fun a' => Q4
     cases hd with
     | v x a v hv ha =>
       cases a with
       | no => exact plainRest (.v x .no) _ (Keeps.refl _ _ _ _) (hx1 _) rfl (fun h => by cases h) (.v _ _ _ hv trivial) h
       | nil e => exact plainRest (.v x (.own (.slot 0) e)) _ (Keeps.refl _ _ _ _) (hx1 _) rfl (fun h => by cases h) (.v _ _ _ hv (.inr ⟨hk, .inl ha⟩)) h
       | own p e =>
         cases p with
         | cell k' s' i' => exact plainRest (.v x .no) _ (Keeps.refl _ _ _ _) (hx1 _) rfl (fun h => by cases h) (.v _ _ _ hv trivial) h
         | slot q =>
           simp only [d3N, c0E] at h
           cases hp : P7 (.slot q) dead with
           | true =>
             rw [hp] at h
             exact plainRest (.v x .no) _ (c4e _) (hx1 _) rfl (fun h => by cases h) (.v _ _ _ hv trivial) h
           | false =>
             rw [hp] at h
             have hq : Pos.slot q ∉ dead := fun hh => by rw [(a2N _ _).2 hh] at hp; cases hp
             rcases ha with ha | ⟨_, ha⟩
             . exact absurd ha hq
             . obtain ⟨g1, k1, k2, k3, k4, k5, k6, k7, k8⟩ := relabel (p' := .cell (E.d - k) s i) ha
               refine rest (.v x (.own (.slot 0) e)) _ g1 (k1 dead) ⟨[.slot q], by simp, k1 []⟩ k2 (k3 m hm) k5 k6 (fun b d' s' hb => ?_) (hx1 _) rfl (fun h => by cases h) (.v _ _ _ (hv.later (k1 []).later) (.inr ⟨hk, k4⟩)) h
               rw [k7 b (fun n hn => by rw [hb] at hn; cases hn)]; exact hb
   | bld =>
     simp only [D.low, forceD_eq] at h
     cases hd
     exact plainRest .bld _ (Keeps.refl _ _ _ _) rfl rfl (fun _ => rfl) (.any _) h
   | any => simp [D.one] at Q4
   | agg ds' => simp [D.one] at Q4
   | tup ds' => simp [D.one] at Q4
   | ptr k' s' o =>
     simp only at h
     split at h
     . rename_i d' hd'
       simp only [forceD_eq] at h
       obtain ⟨b1, b2, b3⟩ := a4Q hd hd'
       have hne : ∃ a b c, d' = .ptr a b c := by
        simp only [D.low, Hk] at hd'
        split at hd'
        . injection hd' with hd'; exact ⟨_, _, _, hd'.symm⟩
        . cases hd'
       obtain ⟨a, b, c, rfl⟩ := hne
       exact plainRest (.ptr a b c) _ (Keeps.refl _ _ _ _) (b3 rfl) (a2e b2) (fun h => by cases h) b1 h
     . cases h
   | nilp =>
     simp only [D.low, forceD_eq] at h
     exact plainRest .nilp _ (Keeps.refl _ _ _ _) rfl rfl (fun h => by cases h) (a4Q (k := k) hd rfl).1 h
   | nilF =>
     simp only [D.low, forceD_eq] at h
     exact plainRest .nilF _ (Keeps.refl _ _ _ _) rfl rfl (fun h => by cases h) (a4Q (k := k) hd rfl).1 h
   | eptr cs o =>
     simp only [D.low, forceD_eq] at h
     exact plainRest (.eptr cs o) _ (Keeps.refl _ _ _ _) rfl rfl (fun h => by cases h) (a4Q (k := k) hd rfl).1 h
   | fn n fs k' s' =>
     simp only at h
     split at h
     . rename_i d' hd'
       simp only [forceD_eq] at h
       obtain ⟨b1, b2, b3⟩ := a4Q hd hd'
       have hne : ∃ a b c e, d' = .fn a b c e := by
        simp only [D.low, Hk] at hd'
        split at hd'
        . injection hd' with hd'; exact ⟨_, _, _, _, hd'.symm⟩
        . cases hd'
       obtain ⟨a, b, c, e, rfl⟩ := hne
       exact plainRest (.fn a b c e) _ (Keeps.refl _ _ _ _) (b3 rfl) (a2e b2) (fun h => by cases h) b1 h
     . cases h
   | clos f caps =>
     simp only at h
     split at h
     . rename_i d' hd'
       simp only [forceD_eq] at h
       obtain ⟨b1, b2, b3⟩ := a4Q hd hd'
       have hne : ∃ a b, d' = .clos a b := by
        simp only [D.low, Hd] at hd'
        obtain ⟨z, _, hz⟩ := hd'
        exact ⟨_, _, hz.symm⟩
       obtain ⟨a, b, rfl⟩ := hne
       exact plainRest (.clos a b) _ (Keeps.refl _ _ _ _) rfl (a2e b2) (fun h => by cases h) b1 h
     . cases h
end
end En
namespace En
open Go
section
variable {R : Type} {P : Hb} {T : GF -> Option Ty} {E : Env} {g : G} {w w' : GG} {dead : List Pos}
theorem Here.keeps_dom {m : Mem} (hh : Here T E g w m) {k s : Nat} (h : E.dom k s) : ∃ b, m.box? k s = some b := by rw [hh.dom] at h; exact h
theorem a6C {fr : Fr} {out : Mem} (hh : Here T E g w (fr :: out)) (s : Nat) (hs : D7 s fr = none) (t : GF) (us : Array GK) {cs : List D} {dead' : List Pos} {g1 : G}
 (ho : CellsOut E g w (fr :: out) dead 0 s 0 us.toList cs dead' g1) :
 ∃ g' E', Keeps E g w dead E' g' (w.alloc (.cells us t)) dead' /\ Here T E' g' (w.alloc (.cells us t)) (Mem.setBox (fr :: out) 0 s ⟨t, cs⟩) /\
  RepD E' g' (w.alloc (.cells us t)) dead' (.ptr 0 s 0) (.pointer (some ⟨w.heap.size, 0, none⟩)) /\ Tr E.d g w g' (w.alloc (.cells us t)) /\ E'.d = E.d := by
 have hgr : Grows w (w.alloc (.cells us t)) := Grows.alloc w _
 have b8D : (w.alloc (.cells us t)).heap[w.heap.size]? = some (.cells us t (0, 0)) := Ht w _
 -- the ghost behind it
 let g' : G := { Γ := fun x => if x = w.heap.size then .box E.d s else g1.Γ x, J := fun d s' => if d = E.d /\ s' = s then w.heap.size else g1.J d s', sz := g1.sz }
 let E' : Env := { d := E.d, dom := t9 (Mem.setBox (fr :: out) 0 s ⟨t, cs⟩) }
 have hΓne : ∀ x, x ≠ w.heap.size -> g'.Γ x = g1.Γ x := fun x hx => if_neg hx
 have hΓeq : g'.Γ w.heap.size = .box E.d s := if_pos rfl
 have hJeq : g'.J E.d s = w.heap.size := if_pos ⟨rfl, rfl⟩
 have hJne : ∀ d s', ¬ (d = E.d /\ s' = s) -> g'.J d s' = g1.J d s' := fun d s' h => if_neg h
 have hlat : Later g1 w g' (w.alloc (.cells us t)) := ⟨rfl, fun x o v h1 h2 => by
  have hx := b8h h2
  refine ⟨?_, by rw [cell_of_heap (hgr.old x hx)]; exact h2⟩
  unfold j9 at h1 ⊢
  rw [hΓne x (by omega)]; exact h1, fun x o h1 h2 => by
  have hx := J0 h2
  exact ⟨by rw [hΓne x (by omega)]; exact h1, by rw [hgr.old x hx]; exact h2⟩⟩
 have hown : ∀ (p : APos) e v, p8 g1 w p e v -> p8 g' (w.alloc (.cells us t)) p e v := by
  intro p e v h
  rcases h with h0 | ⟨x, n, cap, cur, h1, h2, h3, h4⟩
  . exact .inl h0
  . have hx := J0 h3
    exact .inr ⟨x, n, cap, cur, h1, by rw [hΓne x (by omega)]; exact h2, by rw [hgr.old x hx]; exact h3, h4⟩
 have a0l : ∀ k s', E.dom k s' -> ¬ (k = 0 /\ s' = s) := by
  rintro k s' hd ⟨rfl, rfl⟩
  obtain ⟨b, hb⟩ := hh.keeps_dom hd
  simp [Mem.box?, hs] at hb
 have hdom' : ∀ k s', E.dom k s' -> E'.dom k s' := by
  intro k s' hd
  obtain ⟨b, hb⟩ := hh.keeps_dom hd
  refine ⟨b, ?_⟩
  rw [C5, if_neg (fun h => a0l k s' hd ⟨h.1, h.2.1⟩)]
  exact hb
 have hle : ∀ k s', E.dom k s' -> k <= E.d := by
  intro k s' hd
  obtain ⟨b, hb⟩ := hh.keeps_dom hd
  have := a4a _ _ _ _ hb
  rw [hh.len] at this; omega
 have hk2 : ∀ dd, Keeps E g1 w dd E' g' (w.alloc (.cells us t)) dd := fun dd =>
  ⟨hlat, rfl, hdom', fun k s' hk hd => hJne _ _ (fun h => a0l k s' hd ⟨by omega, h.2⟩), fun _ h => h, fun p e v _ _ h => hown _ e v h⟩
 refine ⟨g', E', ho.keeps.trans (hk2 dead'), ?_, ?_, ?_, rfl⟩
 . refine ⟨?_, rfl, hh.sk.later (ho.keeps.trans (hk2 dead')).later, by rw [D0]; exact hh.len⟩
   intro k s' b hb
   rw [C5] at hb
   split at hb
   . rename_i hc
     obtain ⟨rfl, rfl, _⟩ := hc
     injection hb with hb; subst hb
     refine ⟨Hl _, by show g'.Γ (g'.J (E.d - 0) s') = _; rw [Kj, hJeq, hΓeq], us, by show (w.alloc (.cells us t)).heap[g'.J (E.d - 0) s']? = _; rw [Kj, hJeq]; exact b8D, by simpa using ho.len.symm, fun i c hc => ?_⟩
     obtain ⟨a1, a2, a3, a4⟩ := ho.rep i c hc
     refine ⟨a1, a2, fun h => .inl (by have := a3 h; simpa using this), ?_⟩
     have := a4.keep (hk2 [])
     simpa using this
   . rename_i hc
     have hr := ho.mem k s' b hb
     obtain ⟨vs, b1, b2, b3⟩ := hr.heap
     have hx := J0 b1
     have hJ : g'.J (E.d - k) s' = g1.J (E.d - k) s' := by
      refine hJne _ _ (fun h => ?_)
      have h9 := hr.le
      have : k = 0 := by
       rcases HU k with h8 | h8
       . exact h8
       . have hl := a4a _ _ _ _ hb
         rw [hh.len] at hl
         omega
      exact hc ⟨this, h.2, by simp⟩
     refine ⟨hr.le, ?_, vs, ?_, b2, fun i c hc' => ⟨(b3 i c hc').1, (b3 i c hc').2.1, ?_, (b3 i c hc').2.2.2.keep (hk2 [])⟩⟩
     . show g'.Γ (g'.J (E.d - k) s') = _
       rw [hJ, hΓne _ (by omega)]; exact hr.perm
     . show (w.alloc (.cells us t)).heap[g'.J (E.d - k) s']? = _
       rw [hJ, hgr.old _ hx]; exact b1
     . show c = .bld -> b5X (g'.J (E.d - k) s') _
       rw [hJ]; exact (b3 i c hc').2.2.1
 . have := RepD.ptr (E := E') (g := g') (w := w.alloc (.cells us t)) (dead := dead') 0 s 0 (Hl _) ⟨⟨t, cs⟩, by rw [C5, if_pos ⟨rfl, rfl, by simp⟩]⟩
   rw [show g'.J (E'.d - 0) s = w.heap.size from by rw [Kj]; exact hJeq] at this
   exact this
 . refine (ho.tr E.d).trans ⟨rfl, rfl, rfl, hgr.size, hlat, fun x hx hi => ⟨hΓne x (by omega), hgr.old x hx⟩, fun d s' hd => hJne _ _ (fun h => by omega)⟩
theorem a8Z {B : Nat} {cur : Array GK} {t : GF} {cs : Array GK} (hB : w.heap[B]? = some (.cells cur t (0, 0))) (p : Perm) (hni : g.Γ B ≠ .imm) (hst : ∀ o, j9 g B o -> j9 (g.at_ B p) B o /\ cs[o]? = cur[o]?) :
 Later g w (g.at_ B p) (w.setRow B cs) :=
 ⟨rfl, fun x o v h1 h2 => by
  by_cases hx : x = B
  . subst hx
    obtain ⟨a1, a2⟩ := hst o h1
    refine ⟨a1, ?_⟩
    rw [HY w x o _ _ _ hB] at h2
    rw [HY _ x o _ _ _ (LI w x _ cs _ _ hB), a2]
    exact h2
  . exact ⟨(a8m hx).2 h1, by rw [cell_of_heap (JJ w B x cs hx)]; exact h2⟩, fun x o h1 h2 => by
  have hx : x ≠ B := fun e => by subst e; exact hni h1
  exact ⟨by rw [G.at_ne _ _ _ hx]; exact h1, by rw [JJ w B x cs hx]; exact h2⟩⟩
theorem setRow_size (w : GG) (B : Nat) (cs : Array GK) : (w.setRow B cs).heap.size = w.heap.size := by simp [World.setRow]
theorem b7l {B : Nat} {cs : Array GK} (p : Perm) {q : APos} {e : GF} {v : GK} (hq : ∀ n, g.Γ B ≠ .own q n) (h : p8 g w q e v) : p8 (g.at_ B p) (w.setRow B cs) q e v := by
 rcases h with h0 | ⟨x, n, cap, cur, h1, h2, h3, h4⟩
 . exact .inl h0
 . have hx : x ≠ B := fun e0 => by subst e0; exact hq _ h2
   exact .inr ⟨x, n, cap, cur, h1, by rw [G.at_ne _ _ _ hx]; exact h2, by rw [JJ w B x cs hx]; exact h3, h4⟩
theorem c5B {B : Nat} {p : Perm} (h : g.Γ B = p) : g.at_ B p = g := by
 unfold G.at_
 congr 1
 funext x
 by_cases hx : x = B
 . subst hx; simp [h]
 . simp [hx]
theorem c1p {m : Mem} (hh : Here T E g w m) {k s o : Nat} {b : Bx} (hb : m.box? k s = some b) (us : List GK) {cs : List D} {dead' : List Pos} {g1 : G}
 (ho : CellsOut E g w m dead k s o us cs dead' g1) (hfit : o + us.length <= b.cells.length) (h1 : ∀ u ∈ us, u.oneCell' = true) :
 ∃ w' g' E', (storeCells ⟨g.J (E.d - k) s, o, none⟩ us).run P w = .ok () w' /\ Keeps E g w dead E' g' w' dead' /\ Here T E' g' w' (m.setBox k s ⟨b.ty, b3I b.cells o cs⟩) /\ Tr E.d g w g' w' /\ E'.d = E.d := by
 have hr := ho.mem k s b hb
 obtain ⟨vs, b1, b2, b3⟩ := hr.heap
 rw [ho.J] at b1 b3
 have a8a := hr.perm
 rw [ho.J] at a8a
 have G5 := run_storeCells_at (P := P) (g.J (E.d - k) s) o b.ty us 0 vs w b1 (by rw [b2]; exact hfit) h1
 simp only [Nat.add_zero] at G5
 generalize hB : g.J (E.d - k) s = B at *
 generalize hcs : (vs.toList.take o ++ us ++ vs.toList.drop (o + us.length)).toArray = cs' at *
 have hlat : Later g1 w g1 (w.setRow B cs') := by
  have := a8Z (g := g1) (cs := cs') b1 (.box (E.d - k) s) (fun e => by rw [a8a] at e; cases e) (fun o hs => by unfold j9 at hs; rw [a8a] at hs; exact hs.elim)
  rwa [c5B a8a] at this
 have hown : ∀ (p : APos) e v, p8 g1 w p e v -> p8 g1 (w.setRow B cs') p e v := fun p e v h => by
  have := b7l (cs := cs') (.box (E.d - k) s) (fun n hn => by rw [a8a] at hn; cases hn) h
  rwa [c5B a8a] at this
 let E' : Env := { d := E.d, dom := t9 (m.setBox k s ⟨b.ty, b3I b.cells o cs⟩) }
 have d7g := a4a _ _ _ _ hb
 have hdom' : ∀ k' s', E.dom k' s' -> E'.dom k' s' := by
  intro k' s' hd
  obtain ⟨b', hb'⟩ := hh.keeps_dom hd
  by_cases hc : k' = k /\ s' = s /\ k < m.length
  . exact ⟨_, by rw [C5, if_pos hc]⟩
  . exact ⟨b', by rw [C5, if_neg hc]; exact hb'⟩
 have hk2 : ∀ dd, Keeps E g1 w dd E' g1 (w.setRow B cs') dd := fun dd =>
  ⟨hlat, rfl, hdom', fun _ _ _ _ => rfl, fun _ h => h, fun p e v _ _ h => hown _ e v h⟩
 refine ⟨_, g1, E', G5, ho.keeps.trans (hk2 dead'), ?_, ?_, rfl⟩
 . refine ⟨?_, rfl, hh.sk.later (ho.keeps.trans (hk2 dead')).later, by rw [D0]; exact hh.len⟩
   intro k' s' b' hb'
   rw [C5] at hb'
   split at hb'
   . rename_i hc
     obtain ⟨rfl, rfl, _⟩ := hc
     injection hb' with hb'; subst hb'
     refine ⟨hr.le, by show g1.Γ (g1.J (E.d - k') s') = _; rw [ho.J, hB]; exact a8a, cs', ?_, ?_, fun i c hc => ?_⟩
     . show (w.setRow B cs').heap[g1.J (E.d - k') s']? = _
       rw [ho.J, hB]; exact LI w B _ cs' _ _ b1
     . rw [a1D, ← hcs, ← b2]
       simp only [IH, GW, HN, Ih, HZ]
       omega
     . have d3o := ho.len
       rw [b1t] at hc
       have a0y : ∀ i, cs'.getD i undef = if o <= i /\ i < o + us.length then us.getD (i - o) undef else vs.getD i undef := by
        intro i
        rw [← hcs]
        simp only [GL, Iq]
        have hvl : vs.toList.length = b.cells.length := by simpa using b2
        by_cases h : o <= i /\ i < o + us.length
        . rw [if_pos h, Ic, GV (by simp; omega), GS (by simp; omega)]
          have : i - (vs.toList.take o).length = i - o := by simp; omega
          rw [this, GJ]
        . rw [if_neg h]
          rcases Ir i o with h' | h'
          . rw [Ic, GS (by simp; omega), Iw, if_pos h']; simp
          . rw [Ic, GV (by simp; omega), GV (by simp; omega), IB]
            have : o + us.length + (i - (vs.toList.take o).length - us.length) = i := by simp; omega
            rw [this]; simp
       rw [a0y]
       by_cases h : o <= i /\ i < o + cs.length /\ i < b.cells.length
       . rw [if_pos h] at hc
         rw [if_pos ⟨h.1, by omega⟩]
         obtain ⟨a1, a2, a3, a4⟩ := ho.rep _ c hc
         refine ⟨a1, a2, fun hh => .inl (a3 hh), ?_⟩
         have := a4.keep (hk2 [])
         rwa [show o + (i - o) = i by omega] at this
       . rw [if_neg h] at hc
         have hi := (GD.1 hc).1
         rw [if_neg (by omega)]
         obtain ⟨a1, a2, a3, a4⟩ := b3 i c hc
         refine ⟨a1, a2, ?_, a4.keep (hk2 [])⟩
         show c = .bld -> b5X (g1.J (E.d - k') s') _
         rw [ho.J, hB]; exact a3
   . rename_i hc
     have hr' := ho.mem k' s' b' hb'
     obtain ⟨vs', c1, c2, c3⟩ := hr'.heap
     refine ⟨hr'.le, hr'.perm, vs', ?_, c2, fun i c hci => ⟨(c3 i c hci).1, (c3 i c hci).2.1, (c3 i c hci).2.2.1, (c3 i c hci).2.2.2.keep (hk2 [])⟩⟩
     show (w.setRow B cs').heap[g1.J (E.d - k') s']? = _
     have hne : g1.J (E.d - k') s' ≠ B := by
      intro e0
      have h7 := hr'.perm
      rw [e0, a8a] at h7
      injection h7 with h7 h8
      have := hr.le
      have := hr'.le
      exact hc ⟨by omega, h8.symm, d7g⟩
     rw [JJ w B _ cs' hne]; exact c1
 . refine (ho.tr E.d).trans ⟨rfl, rfl, rfl, by rw [setRow_size]; exact GB _, hlat, fun x hx hi => ⟨rfl, JJ w B x cs' (fun e0 => by subst e0; rw [a8a] at hi; rcases hi with hi | ⟨_, hi⟩ <;> cases hi)⟩, fun _ _ _ => rfl⟩
end
end En
namespace En
open Go
section
variable {R : Type} {P : Hb} {T : GF -> Option Ty} {E : Env} {g : G} {w w' : GG} {dead : List Pos}
def a1U (g : G) (w : GG) (A : Option Addr) (N : Nat) (us : Nat -> GK) : Prop :=
 ∀ k, k < N -> ∃ b off, A = some ⟨b, off, none⟩ /\ j9 g b (off + k) /\ w.cell? ⟨b, off + k, none⟩ = some (us k)
structure RowOut (g : G) (w : GG) (g' : G) (w' : GG) (q : APos) (free : Bool) : Prop where
 os : w'.os = w.os
 tape : w'.tape = w.tape
 output : w'.output = w.output
 size : w.heap.size <= w'.heap.size
 later : Later g w g' w'
 hid : ∀ b, b < w.heap.size -> (∀ n, g.Γ b ≠ .own q n) -> g'.Γ b = g.Γ b /\ w'.heap[b]? = w.heap[b]?
 own : ∀ r e v, (r ≠ q ∨ free = true) -> p8 g w r e v -> p8 g' w' r e v
 J : g'.J = g.J
theorem RowOut.tr {q : APos} {free : Bool} {g' : G} (h : RowOut g w g' w' q free) (d : Nat) : Tr d g w g' w' :=
 ⟨h.os, h.tape, h.output, h.size, h.later, fun b hb hi => h.hid b hb (fun n hn => by rw [hn] at hi; rcases hi with hi | ⟨_, hi⟩ <;> cases hi), fun _ _ _ => by rw [h.J]⟩
theorem RowOut.keeps {q : APos} {free : Bool} {g' : G} (h : RowOut g w g' w' q free) {dead' : List Pos} (hd : ∀ p ∈ dead, p ∈ dead') (hq : ∀ p, b3n E.d p -> p ∉ dead' -> a8s E.d p ≠ q ∨ free = true) : Keeps E g w dead E g' w' dead' :=
 ⟨h.later, rfl, fun _ _ h => h, fun _ _ _ _ => by rw [h.J], hd, fun p e v hp hn ho => h.own _ e v (hq p hp hn) ho⟩
theorem RowOut.of_grow (h : Grows w w') (p : Perm) (q : APos) : RowOut g w (g.at_ w.heap.size p) w' q true :=
 ⟨h.os, h.tape, h.output, h.size, a3f h (GB _) p, fun b hb _ => ⟨G.at_ne _ _ _ (by omega), h.old b hb⟩, fun r e v _ ho => c1z h (GB _) p ho, rfl⟩
theorem RowOut.mono {q : APos} {free : Bool} {g' : G} (h : RowOut g w g' w' q true) : RowOut g w g' w' q free :=
 ⟨h.os, h.tape, h.output, h.size, h.later, h.hid, fun r e v _ ho => h.own r e v (.inr rfl) ho, h.J⟩
theorem RowOut.refl (g : G) (w : GG) (q : APos) (free : Bool) : RowOut g w g w q free :=
 ⟨rfl, rfl, rfl, GB _, Later.refl _ _, fun _ _ _ => ⟨rfl, rfl⟩, fun _ _ _ _ h => h, rfl⟩
def news (M : Nat) (us : Nat -> GK) : List GK := (Mb M).map us
theorem a2L (M : Nat) (us : Nat -> GK) (j : Nat) (u : GK) (h : (news M us)[j]? = some u) : j < M /\ u = us j := by
 unfold news at h
 rw [Hz, Hd] at h
 obtain ⟨z, hz, rfl⟩ := h
 obtain ⟨h1, h2⟩ := GD.1 hz
 simp at h1 h2
 subst h2
 exact ⟨h1, rfl⟩
theorem a0q (M : Nat) (us : Nat -> GK) {j : Nat} (h : j < M) : (news M us)[j]? = some (us j) := by simp [news, h]
theorem g9 (M : Nat) (us : Nat -> GK) : (news M us).length = M := by simp [news]
theorem a6D (w : GG) (t t2 ty e e2 : GF) (h1 : P.underlying t = some (.slice e)) (h2 : P.underlying t2 = some (.slice e2)) {i : LJ} (hi : P.info? e = some i) (A : Option Addr) (n c : Nat) (b : GK) :
 (Is #[t, t2] ty #[.slice A n c, b]).run P w = (Is #[t, t] ty #[.slice A n c, b]).run P w := by
 simp [Is, Hc h1, Hc h2, sizeOf, typeInfo, hi]
theorem a9m (t e : GF) (ty : GF) (i : LJ) (z : GK) (ht : P.underlying t = some (.slice e)) (hi : P.info? e = some i) (hz : i.zero = some z) (hzs : z.cells.size = i.size) (hsz : 0 < i.size) (hg : g.sz e = i.size)
 (q dst : APos) (A : Option Addr) (n c : Nat) (us : Nat -> GK) (ho : p8 g w q e (.slice A n c)) (hr : a1U g w A (n * i.size) us)
 (A' : Option Addr) (m c' : Nat) (us' : Nat -> GK) (hr' : a1U g w A' (m * i.size) us') (h1 : ∀ k, k < m * i.size -> (us' k).oneCell' = true)
 (hb : (n + m) * i.bytes <= 140737488355328) (hb0 : 0 < i.bytes) :
 ∃ A2 c2 w' g', (Is #[t, t] ty #[.slice A n c, .slice A' m c']).run P w = .ok (.slice A2 (n + m) c2) w' /\ RowOut g w g' w' q (A.isNone) /\ p8 g' w' dst e (.slice A2 (n + m) c2) /\ n + m <= c2 /\ c2 <= maxLen /\
  a1U g' w' A2 ((n + m) * i.size) (fun k => if k < n * i.size then us k else us' (k - n * i.size)) := by
 have d0M : n + m <= 140737488355328 := KH (Kb _ hb0) hb
 have hA' : 0 < m -> ∃ b off, A' = some ⟨b, off, none⟩ := fun hm => by
  obtain ⟨b, off, h, _⟩ := hr' 0 (On hm hsz)
  exact ⟨b, off, h⟩
 have b8D : ∀ b off, A' = some ⟨b, off, none⟩ -> ∀ j u, (news (m * i.size) us')[j]? = some u -> w.cell? ((⟨b, off, none⟩ : Addr).add j) = some u := by
  intro b off hA j u hj
  obtain ⟨h2, rfl⟩ := a2L _ _ _ _ hj
  obtain ⟨b2, off2, h3, _, h4⟩ := hr' j h2
  rw [hA] at h3
  injection h3 with h3; injection h3 with h3 h5; subst h3 h5
  simpa [IF] using h4
 have Q4 : ∀ u ∈ news (m * i.size) us', u.oneCell' = true := by
  intro u hu
  obtain ⟨j, hj⟩ := JC.1 hu
  obtain ⟨h2, rfl⟩ := a2L _ _ _ _ hj
  exact h1 j h2
 -- a new row
 have fresh : ∀ (row : Array GK) (cap : Nat) (free : Bool), n + m <= cap -> cap <= maxLen -> row.size = cap * i.size -> (∀ k, k < (n + m) * i.size -> row[k]? = some (if k < n * i.size then us k else us' (k - n * i.size))) ->
  RowOut g w (g.at_ w.heap.size (.own dst ((n + m) * i.size))) (w.drew.alloc (.cells row e)) q free /\ p8 (g.at_ w.heap.size (.own dst ((n + m) * i.size))) (w.drew.alloc (.cells row e)) dst e (.slice (some ⟨w.heap.size, 0, none⟩) (n + m) cap) /\
  a1U (g.at_ w.heap.size (.own dst ((n + m) * i.size))) (w.drew.alloc (.cells row e)) (some ⟨w.heap.size, 0, none⟩) ((n + m) * i.size) (fun k => if k < n * i.size then us k else us' (k - n * i.size)) := by
  intro row cap free h2 h3 h4 h5
  have hh : (w.drew.alloc (.cells row e)).heap[w.heap.size]? = some (.cells row e (0, 0)) := Ht w.drew _
  refine ⟨(RowOut.of_grow ((Grows.drew w).trans (Grows.alloc w.drew _)) _ q).mono, .inr ⟨w.heap.size, n + m, cap, row, rfl, ?_, hh, h2, h3, ?_⟩, fun k hk => ⟨w.heap.size, 0, rfl, ?_, ?_⟩⟩
  . rw [G.at_eq]; show _ = Perm.own dst ((n + m) * g.sz e); rw [hg]
  . show row.size = cap * g.sz e; rw [hg]; exact h4
  . unfold j9; rw [G.at_eq]; simpa using hk
  . rw [HY _ _ _ _ _ _ hh]; simpa using h5 k hk
 rcases ho with h0 | ⟨b, n', cap, cur, h0, hΓ, a3L, hnc, hcm, hcs⟩
 . injection h0 with hA hn hc
   subst hA hn hc
   rcases HU m with hm | hm
   . subst hm
     refine ⟨none, 0, w, g, ?_, RowOut.refl _ _ _ _, .inl rfl, GB _, Hl _, fun k hk => by simp at hk⟩
     cases A' <;> simp [Is, Hc ht, sizeOf, typeInfo, hi, Kv, JU, loadCells, loadCellsFrom]
   . obtain ⟨b, off, hA⟩ := hA' hm
     have G5 := run_append_nil (P := P) w t ty e i z ht hi hz ⟨b, off, none⟩ m c' (news (m * i.size) us') (g9 _ _) (b8D b off hA) hm (by omega) (by
      have : (0 + m) * i.bytes = m * i.bytes := by rw [HE]
      omega)
     obtain ⟨f1, f2, f3⟩ := fresh ((news (m * i.size) us').toArray ++ Kk z.cells (grownCap w m 0 e - m)) (grownCap w m 0 e) true (by have := IL w m 0 e; omega)
      (Ix w _ _ _ (by unfold maxLen; omega)) (by
       have := IL w m 0 e
       rw [Je, Kl, hzs]
       simp only [IH, g9]
       rw [← Il]; congr 1; omega) (fun k hk => by
       have hk' : k < m * i.size := by simpa using hk
       rw [HF (by simpa [g9] using hk')]
       simp only [Lm, MP, if_false, Kj]
       rw [Iq, a0q _ _ hk'])
     refine ⟨some ⟨w.heap.size, 0, none⟩, grownCap w m 0 e, _, _, ?_, f1, f2, by have := IL w m 0 e; omega, Ix w _ _ _ (by unfold maxLen; omega), f3⟩
     rw [hA, HE]; exact G5
 . injection h0 with hA hn hc
   subst hA hn hc
   rw [hg] at hΓ hcs
   have m0 : ∀ k, k < n * i.size -> cur[k]? = some (us k) := fun k hk => by
    obtain ⟨b2, off2, h3, _, h4⟩ := hr k hk
    injection h3 with h3; injection h3 with h3 h5; subst h3 h5
    rw [HY w _ _ _ _ _ a3L] at h4
    simpa using h4
   -- the row itself, longer
   have same : ∀ (row : Array GK), row.size = cur.size -> n + m <= c -> (∀ k, k < (n + m) * i.size -> row[k]? = some (if k < n * i.size then us k else us' (k - n * i.size))) ->
    RowOut g w (g.at_ b (.own dst ((n + m) * i.size))) (w.setRow b row) q false /\ p8 (g.at_ b (.own dst ((n + m) * i.size))) (w.setRow b row) dst e (.slice (some ⟨b, 0, none⟩) (n + m) c) /\
    a1U (g.at_ b (.own dst ((n + m) * i.size))) (w.setRow b row) (some ⟨b, 0, none⟩) ((n + m) * i.size) (fun k => if k < n * i.size then us k else us' (k - n * i.size)) := by
    intro row h2 a1X h5
    have hh := LI w b cur row e (0, 0) a3L
    refine ⟨⟨rfl, rfl, rfl, by rw [setRow_size]; exact GB _, a8Z a3L _ (fun e => by rw [hΓ] at e; cases e) fun o hs => ?_, fun x hx hn => ?_, fun r e' v hq ho => ?_, rfl⟩, .inr ⟨b, n + m, c, row, rfl, ?_, hh, a1X, hcm, ?_⟩, fun k hk => ⟨b, 0, rfl, ?_, ?_⟩⟩
    . unfold j9 at hs ⊢
      rw [hΓ] at hs
      simp only at hs
      rw [G.at_eq]
      have hle : n * i.size <= (n + m) * i.size := IY _ (by omega)
      refine ⟨by show o < (n + m) * i.size; omega, ?_⟩
      rw [h5 o (by omega), if_pos hs, m0 o hs]
    . have hxb : x ≠ b := fun e0 => by subst e0; exact hn _ hΓ
      exact ⟨G.at_ne _ _ _ hxb, JJ w b x row hxb⟩
    . rcases hq with hq | hq
      . exact b7l _ (fun n' hn' => by rw [hΓ] at hn'; injection hn' with hn' _; exact hq hn'.symm) ho
      . cases hq
    . rw [G.at_eq]; show _ = Perm.own dst ((n + m) * g.sz e); rw [hg]
    . show row.size = c * g.sz e; rw [hg, h2]; exact hcs
    . unfold j9; rw [G.at_eq]; simpa using hk
    . rw [HY _ _ _ _ _ _ hh]; simpa using h5 k hk
   rcases Ir c (n + m) with c2j | a1X
   . have hm : 0 < m := by omega
     obtain ⟨b', off', hA⟩ := hA' hm
     have G5 := run_append_grow (P := P) w t ty e i z ht hi hz ⟨b, 0, none⟩ n c (news (n * i.size) us) (g9 _ _) (fun j u hj => by
      obtain ⟨h2, rfl⟩ := a2L _ _ _ _ hj
      rw [IF, HY w _ _ _ _ _ a3L]
      simpa using m0 j h2) ⟨b', off', none⟩ m c' (news (m * i.size) us') (g9 _ _) (b8D b' off' hA) c2j (by omega) (Nc c2j hb)
     obtain ⟨f1, f2, f3⟩ := fresh ((news (n * i.size) us).toArray ++ (news (m * i.size) us').toArray ++ Kk z.cells (grownCap w (n + m) c e - (n + m))) (grownCap w (n + m) c e) false (IL w (n + m) c e)
      (Ix w _ _ _ (by unfold maxLen; omega)) (by
       have := IL w (n + m) c e
       rw [Je, Je, Kl, hzs]
       simp only [IH, g9]
       rw [← Il, ← Il]; congr 1; omega) (fun k hk => by
       rw [Il] at hk
       rw [HF (by simpa [g9] using hk)]
       by_cases hlt : k < n * i.size
       . rw [HF (by simpa [g9] using hlt), Iq, a0q _ _ hlt, if_pos hlt]
       . rw [KJ (by simp [g9]; omega), Iq, if_neg hlt]
         simp only [IH, g9]
         exact a0q _ _ (by omega))
     refine ⟨some ⟨w.heap.size, 0, none⟩, grownCap w (n + m) c e, _, _, ?_, f1, f2, IL w (n + m) c e, Ix w _ _ _ (by unfold maxLen; omega), f3⟩
     rw [hA]; exact G5
   . have hfit : n * i.size + (news (m * i.size) us').length <= cur.size := by rw [g9, hcs, ← Il]; exact IY _ a1X
     cases A' with
     | none =>
       have hm : m = 0 := by
        rcases HU m with h | h
        . exact h
        . obtain ⟨_, _, h⟩ := hA' h; cases h
       subst hm
       obtain ⟨f1, f2, f3⟩ := same cur rfl a1X (fun k hk => by
        have hk : k < n * i.size := by simpa using hk
        rw [if_pos hk]; exact m0 k hk)
       rw [setRow_self w b cur e (0, 0) a3L] at f1 f2 f3
       exact ⟨some ⟨b, 0, none⟩, c, w, _, by simp [Is, Hc ht, sizeOf, typeInfo, hi, Kv, JU, hnc, storeCells], f1, f2, by omega, hcm, f3⟩
     | some a' =>
       have G5 : ∀ (a : Addr), (∀ j u, (news (m * i.size) us')[j]? = some u -> w.cell? (a.add j) = some u) -> _ := fun a ha => run_append_room (P := P) w t ty e i ht hi b n c cur a3L a m c' (news (m * i.size) us') (g9 _ _) ha Q4 a1X hfit
       have ha : ∀ j u, (news (m * i.size) us')[j]? = some u -> w.cell? (a'.add j) = some u := by
        intro j u hj
        obtain ⟨h2, rfl⟩ := a2L _ _ _ _ hj
        obtain ⟨b2, off2, h3, _, h4⟩ := hr' j h2
        injection h3 with h3; subst h3
        simpa [IF] using h4
       obtain ⟨f1, f2, f3⟩ := same (cur.toList.take (n * i.size) ++ news (m * i.size) us' ++ cur.toList.drop (n * i.size + (news (m * i.size) us').length)).toArray (by
        simp only [IH, GW, HN, Ih, HZ]
        omega) a1X (fun k hk => by
        rw [Il] at hk
        rw [g9] at hfit
        have hl : (cur.toList.take (n * i.size)).length = n * i.size := by simp; omega
        simp only [Iq]
        by_cases hlt : k < n * i.size
        . rw [Ic, GS (by omega), if_pos hlt, Iw, if_pos hlt]
          simpa using m0 k hlt
        . rw [Ic, GV (by omega), GS (by rw [g9]; omega), if_neg hlt, hl]
          exact a0q _ _ (by omega))
       exact ⟨some ⟨b, 0, none⟩, c, _, _, G5 a' ha, f1, f2, a1X, hcm, f3⟩
theorem b0i (t t2 e : GF) (ty : GF) (i : LJ) (z : GK) (ht : P.underlying t = some (.slice e)) (hu : P.underlying t2 = some .string) (hi : P.info? e = some i) (hz : i.zero = some z) (hzs : z.cells.size = i.size) (hs1 : i.size = 1) (hg : g.sz e = i.size)
 (q dst : APos) (A : Option Addr) (n c : Nat) (us : Nat -> GK) (ho : p8 g w q e (.slice A n c)) (hr : a1U g w A (n * i.size) us)
 (m : Nat) (us' : Nat -> GK) (str : List UInt8) (hm' : str.length = m) (d0N : KK ⟨str.toArray⟩ = news (m * i.size) us') (h1 : ∀ k, k < m * i.size -> (us' k).oneCell' = true)
 (hb : (n + m) * i.bytes <= 140737488355328) (hb0 : 0 < i.bytes) :
 ∃ A2 c2 w' g', (Is #[t, t2] ty #[.slice A n c, .string ⟨str.toArray⟩]).run P w = .ok (.slice A2 (n + m) c2) w' /\ RowOut g w g' w' q (A.isNone) /\ p8 g' w' dst e (.slice A2 (n + m) c2) /\ n + m <= c2 /\ c2 <= maxLen /\
  a1U g' w' A2 ((n + m) * i.size) (fun k => if k < n * i.size then us k else us' (k - n * i.size)) := by
 have d0M : n + m <= 140737488355328 := KH (Kb _ hb0) hb
 have hsz : 0 < i.size := by omega
 have hss : (⟨str.toArray⟩ : ByteArray).size = m := by rw [← hm']; simp [Kh]
 have Q4 : ∀ u ∈ news (m * i.size) us', u.oneCell' = true := by
  intro u hu
  obtain ⟨j, hj⟩ := JC.1 hu
  obtain ⟨h2, rfl⟩ := a2L _ _ _ _ hj
  exact h1 j h2
 -- a new row
 have fresh : ∀ (row : Array GK) (cap : Nat) (free : Bool), n + m <= cap -> cap <= maxLen -> row.size = cap * i.size -> (∀ k, k < (n + m) * i.size -> row[k]? = some (if k < n * i.size then us k else us' (k - n * i.size))) ->
  RowOut g w (g.at_ w.heap.size (.own dst ((n + m) * i.size))) (w.drew.alloc (.cells row e)) q free /\ p8 (g.at_ w.heap.size (.own dst ((n + m) * i.size))) (w.drew.alloc (.cells row e)) dst e (.slice (some ⟨w.heap.size, 0, none⟩) (n + m) cap) /\
  a1U (g.at_ w.heap.size (.own dst ((n + m) * i.size))) (w.drew.alloc (.cells row e)) (some ⟨w.heap.size, 0, none⟩) ((n + m) * i.size) (fun k => if k < n * i.size then us k else us' (k - n * i.size)) := by
  intro row cap free h2 h3 h4 h5
  have hh : (w.drew.alloc (.cells row e)).heap[w.heap.size]? = some (.cells row e (0, 0)) := Ht w.drew _
  refine ⟨(RowOut.of_grow ((Grows.drew w).trans (Grows.alloc w.drew _)) _ q).mono, .inr ⟨w.heap.size, n + m, cap, row, rfl, ?_, hh, h2, h3, ?_⟩, fun k hk => ⟨w.heap.size, 0, rfl, ?_, ?_⟩⟩
  . rw [G.at_eq]; show _ = Perm.own dst ((n + m) * g.sz e); rw [hg]
  . show row.size = cap * g.sz e; rw [hg]; exact h4
  . unfold j9; rw [G.at_eq]; simpa using hk
  . rw [HY _ _ _ _ _ _ hh]; simpa using h5 k hk
 rcases ho with h0 | ⟨b, n', cap, cur, h0, hΓ, a3L, hnc, hcm, hcs⟩
 . injection h0 with hA hn hc
   subst hA hn hc
   rcases HU m with hm | hm
   . subst hm
     refine ⟨none, 0, w, g, ?_, RowOut.refl _ _ _ _, .inl rfl, GB _, Hl _, fun k hk => by simp at hk⟩
     have hl0 : str = [] := List.length_eq_zero_iff.1 hm'
     subst hl0
     have hf := Lib.run_firstCells_string (P := P) w i.size ⟨(#[] : Array UInt8)⟩
     have hz0 : (⟨(#[] : Array UInt8)⟩ : ByteArray).size = 0 := rfl
     rw [hz0] at hf
     simp [Is, Hc ht, Hc hu, sizeOf, typeInfo, hi, Kv, hz0, hf]
   . have G5 := run_append_nil_string (P := P) w t t2 ty e i z ht hu hi hz ⟨str.toArray⟩ (by omega) (by omega) (by
      have : (0 + m) * i.bytes = m * i.bytes := by rw [HE]
      rw [hss]; omega)
     have e1 : ((⟨str.toArray⟩ : ByteArray).data.map fun b => JW .u8 b.toNat) = (news (m * i.size) us').toArray := by
      rw [← d0N]
      apply Nd
      simp [KK]
     rw [e1, hss] at G5
     obtain ⟨f1, f2, f3⟩ := fresh ((news (m * i.size) us').toArray ++ Kk z.cells (grownCap w m 0 e - m)) (grownCap w m 0 e) true (by have := IL w m 0 e; omega)
      (Ix w _ _ _ (by unfold maxLen; omega)) (by
       have := IL w m 0 e
       rw [Je, Kl, hzs]
       simp only [IH, g9]
       rw [← Il]; congr 1; omega) (fun k hk => by
       have hk' : k < m * i.size := by simpa using hk
       rw [HF (by simpa [g9] using hk')]
       simp only [Lm, MP, if_false, Kj]
       rw [Iq, a0q _ _ hk'])
     refine ⟨some ⟨w.heap.size, 0, none⟩, grownCap w m 0 e, _, _, ?_, f1, f2, by have := IL w m 0 e; omega, Ix w _ _ _ (by unfold maxLen; omega), f3⟩
     rw [HE]; exact G5
 . injection h0 with hA hn hc
   subst hA hn hc
   rw [hg] at hΓ hcs
   have m0 : ∀ k, k < n * i.size -> cur[k]? = some (us k) := fun k hk => by
    obtain ⟨b2, off2, h3, _, h4⟩ := hr k hk
    injection h3 with h3; injection h3 with h3 h5; subst h3 h5
    rw [HY w _ _ _ _ _ a3L] at h4
    simpa using h4
   -- the row itself, longer
   have same : ∀ (row : Array GK), row.size = cur.size -> n + m <= c -> (∀ k, k < (n + m) * i.size -> row[k]? = some (if k < n * i.size then us k else us' (k - n * i.size))) ->
    RowOut g w (g.at_ b (.own dst ((n + m) * i.size))) (w.setRow b row) q false /\ p8 (g.at_ b (.own dst ((n + m) * i.size))) (w.setRow b row) dst e (.slice (some ⟨b, 0, none⟩) (n + m) c) /\
    a1U (g.at_ b (.own dst ((n + m) * i.size))) (w.setRow b row) (some ⟨b, 0, none⟩) ((n + m) * i.size) (fun k => if k < n * i.size then us k else us' (k - n * i.size)) := by
    intro row h2 a1X h5
    have hh := LI w b cur row e (0, 0) a3L
    refine ⟨⟨rfl, rfl, rfl, by rw [setRow_size]; exact GB _, a8Z a3L _ (fun e => by rw [hΓ] at e; cases e) fun o hs => ?_, fun x hx hn => ?_, fun r e' v hq ho => ?_, rfl⟩, .inr ⟨b, n + m, c, row, rfl, ?_, hh, a1X, hcm, ?_⟩, fun k hk => ⟨b, 0, rfl, ?_, ?_⟩⟩
    . unfold j9 at hs ⊢
      rw [hΓ] at hs
      simp only at hs
      rw [G.at_eq]
      have hle : n * i.size <= (n + m) * i.size := IY _ (by omega)
      refine ⟨by show o < (n + m) * i.size; omega, ?_⟩
      rw [h5 o (by omega), if_pos hs, m0 o hs]
    . have hxb : x ≠ b := fun e0 => by subst e0; exact hn _ hΓ
      exact ⟨G.at_ne _ _ _ hxb, JJ w b x row hxb⟩
    . rcases hq with hq | hq
      . exact b7l _ (fun n' hn' => by rw [hΓ] at hn'; injection hn' with hn' _; exact hq hn'.symm) ho
      . cases hq
    . rw [G.at_eq]; show _ = Perm.own dst ((n + m) * g.sz e); rw [hg]
    . show row.size = c * g.sz e; rw [hg, h2]; exact hcs
    . unfold j9; rw [G.at_eq]; simpa using hk
    . rw [HY _ _ _ _ _ _ hh]; simpa using h5 k hk
   rcases Ir c (n + m) with c2j | a1X
   . have hm : 0 < m := by omega
     have G5 := Lib.run_append_grow_string (P := P) w t t2 ty e i z ht hu hi hz ⟨b, 0, none⟩ n c (news (n * i.size) us) (g9 _ _) (fun j u hj => by
      obtain ⟨h2, rfl⟩ := a2L _ _ _ _ hj
      rw [IF, HY w _ _ _ _ _ a3L]
      simpa using m0 j h2) ⟨str.toArray⟩ (by rw [hss]; exact c2j) (by rw [hss]; omega) (by rw [hss]; exact Nc c2j hb)
     rw [hss, d0N] at G5
     obtain ⟨f1, f2, f3⟩ := fresh ((news (n * i.size) us).toArray ++ (news (m * i.size) us').toArray ++ Kk z.cells (grownCap w (n + m) c e - (n + m))) (grownCap w (n + m) c e) false (IL w (n + m) c e)
      (Ix w _ _ _ (by unfold maxLen; omega)) (by
       have := IL w (n + m) c e
       rw [Je, Je, Kl, hzs]
       simp only [IH, g9]
       rw [← Il, ← Il]; congr 1; omega) (fun k hk => by
       rw [Il] at hk
       rw [HF (by simpa [g9] using hk)]
       by_cases hlt : k < n * i.size
       . rw [HF (by simpa [g9] using hlt), Iq, a0q _ _ hlt, if_pos hlt]
       . rw [KJ (by simp [g9]; omega), Iq, if_neg hlt]
         simp only [IH, g9]
         exact a0q _ _ (by omega))
     refine ⟨some ⟨w.heap.size, 0, none⟩, grownCap w (n + m) c e, _, _, ?_, f1, f2, IL w (n + m) c e, Ix w _ _ _ (by unfold maxLen; omega), f3⟩
     exact G5
   . have hfit : n * i.size + (news (m * i.size) us').length <= cur.size := by rw [g9, hcs, ← Il]; exact IY _ a1X
     have G5 := Lib.run_append_room_string (P := P) w t t2 ty e i ht hu hi hs1 b n c cur a3L ⟨str.toArray⟩ (by rw [hss]; exact a1X) (by rw [hss]; rw [g9, hs1] at hfit; omega)
     rw [hss, d0N] at G5
     obtain ⟨f1, f2, f3⟩ := same (cur.toList.take (n * i.size) ++ news (m * i.size) us' ++ cur.toList.drop (n * i.size + (news (m * i.size) us').length)).toArray (by
      simp only [IH, GW, HN, Ih, HZ]
      omega) a1X (fun k hk => by
      rw [Il] at hk
      rw [g9] at hfit
      have hl : (cur.toList.take (n * i.size)).length = n * i.size := by simp; omega
      simp only [Iq]
      by_cases hlt : k < n * i.size
      . rw [Ic, GS (by omega), if_pos hlt, Iw, if_pos hlt]
        simpa using m0 k hlt
      . rw [Ic, GV (by omega), GS (by rw [g9]; omega), if_neg hlt, hl]
        exact a0q _ _ (by omega))
     have el : (news (m * i.size) us').length = m := by rw [g9, hs1, IZ]
     have en : n * i.size = n := by rw [hs1, IZ]
     refine ⟨some ⟨b, 0, none⟩, c, _, _, ?_, f1, f2, a1X, hcm, f3⟩
     rw [el, en]; exact G5
end
end En
namespace En
open Go
section
variable {R : Type} {P : Hb} {T : GF -> Option Ty} {E : Env} {g : G} {w w' : GG} {dead : List Pos}
theorem TyOK.zero_size {t : GF} {ty : Ty} (hok : TyOK P t ty) : ty.zero.cells.size = ty.size := by
 have := (a7N (E := ⟨0, fun _ _ => False⟩) (g := ⟨fun _ => .imm, fun _ _ => 0, fun _ => 0⟩) (w := default) (dead := []) hok).1
 rw [this]; simp [Ty.zeroDs, Ty.size]
theorem a8C {q : APos} {free : Bool} {g' : G} (ho : RowOut g w g' w' q free) (hq : ∀ d s, q ≠ .cell d s 0 ∨ True) {E' : Env} (hE : E'.d = E.d) (a0l : ∀ k s, E.dom k s -> E'.dom k s) {k s : Nat} {b : Bx} (hr : BoxRep E g w k s b)
 {dd : List Pos} (hk : Keeps E g w [] E' g' w' dd) (b' : Bx) (hty : b'.ty = b.ty) (hlen : b'.cells.length = b.cells.length)
 (hc : ∀ (i : Nat) c', b'.cells[i]? = some c' -> (∃ c, b.cells[i]? = some c /\ c' = c /\ .cell k s i ∉ dd) ∨ (∃ x a, b.cells[i]? = some (.v x a) /\ c' = .v x .no)) : BoxRep E' g' w' k s b' := by
 obtain ⟨us, h1, h2, h3⟩ := hr.heap
 have hx := J0 h1
 obtain ⟨e1, e2⟩ := ho.hid _ hx (fun n hn => by rw [hr.perm] at hn; cases hn)
 refine ⟨by rw [hE]; exact hr.le, ?_, us, ?_, by rw [hlen]; exact h2, fun i c' hc' => ?_⟩
 . rw [hE, ho.J, e1]; exact hr.perm
 . rw [hE, ho.J, hty, e2]; exact h1
 . rcases hc i c' hc' with ⟨c, b1, rfl, b2⟩ | ⟨x, a, b1, rfl⟩
   . obtain ⟨a1, a2, a3, a4⟩ := h3 i c' b1
     refine ⟨a1, a2, by rw [hE, ho.J]; exact a3, ?_⟩
     exact a1g a2 (a4.keep hk) b2
   . obtain ⟨a1, a2, a3, a4⟩ := h3 i _ b1
     refine ⟨a1, rfl, fun h => (by cases h), ?_⟩
     have hv : RepV g w x (us.getD i undef) := by
      cases a with
      | own p e => cases a4 with | v x a v h ha => exact h
      | no => cases a4 with | v x a v h ha => exact h
      | nil e => cases a4 with | v x a v h ha => exact h
     exact .v _ _ _ (hv.later ho.later) trivial
theorem a3x {a : Att} {e : GF} {m : Mem} {K : Mem -> List Pos -> Option R} {r : R} {A : Option Addr} {n c : Nat} (hh : Here T E g w m) (ha : AttOK E g w dead a (.slice A n c)) (h : a1l a e m dead K = some r) (dst : Nat) :
 ∃ q m' dead', K m' dead' = some r /\ p8 g w q e (.slice A n c) /\ ∀ g' w', RowOut g w g' w' q A.isNone -> ∃ E', E'.d = E.d /\ Keeps E g w dead E' g' w' dead' /\ Here T E' g' w' m' := by
 -- where memory stays as it is
 have stay : ∀ (q : APos) (dead' dd : List Pos), (∀ p ∈ dead, p ∈ dead') -> (∀ g' w', RowOut g w g' w' q A.isNone -> (∀ p, b3n E.d p -> p ∉ dead' -> a8s E.d p ≠ q ∨ A.isNone = true) /\ (∀ p, b3n E.d p -> p ∉ dd -> a8s E.d p ≠ q ∨ A.isNone = true)) -> (∀ k s i, Pos.cell k s i ∉ dd) ->
  ∀ g' w', RowOut g w g' w' q A.isNone -> ∃ E', E'.d = E.d /\ Keeps E g w dead E' g' w' dead' /\ Here T E' g' w' m := by
  intro q dead' dd h1 h2 h3 g' w' ho
  obtain ⟨h4, h5⟩ := h2 g' w' ho
  refine ⟨E, rfl, ho.keeps h1 h4, fun k s b hb => ?_, hh.dom, hh.sk.later ho.later, hh.len⟩
  exact a8C ho (fun _ _ => .inr trivial) rfl (fun _ _ h => h) (hh.mem k s b hb) (ho.keeps (dead := []) (dead' := dd) (by simp) h5) b rfl rfl (fun i c' hc => .inl ⟨c', hc, rfl, h3 k s i⟩)
 unfold a1l at h
 cases a with
 | no => cases h
 | nil e' =>
   rcases g5 h with ⟨he, h⟩ | ⟨_, h⟩
   . have hv : (Value.slice A n c) = .slice none 0 0 := ha
     injection hv with hA hn hc
     subst hA hn hc
     refine ⟨.slot E.d dst, m, dead, h, .inl rfl, stay _ dead [] (fun _ h => h) (fun _ _ _ => ⟨fun _ _ _ => .inr rfl, fun _ _ _ => .inr rfl⟩) (by simp)⟩
   . cases h
 | own p e' =>
   rcases g5 h with ⟨he, hk⟩ | ⟨_, hk⟩
   case inr => cases hk
   clear h
   simp only [GP, Ik] at he
   obtain ⟨he, hp⟩ := he
   obtain rfl := GE he
   have hpd : p ∉ dead := fun hh => by rw [(a2N _ _).2 hh] at hp; cases hp
   rcases ha with ha | ⟨hok, ha⟩
   . exact absurd ha hpd
   have d5h : ∀ p', b3n E.d p' -> p' ≠ p -> a8s E.d p' ≠ a8s E.d p := by
    intro p' h1 h2 h3
    refine h2 ?_
    cases p' <;> cases p <;> simp only [a8s, APos.slot.injEq, APos.cell.injEq, reduceCtorEq, true_and] at h3 ⊢
    . rw [h3]
    . obtain ⟨h3, h4, h5⟩ := h3
      simp only [b3n] at h1 hok
      subst h4 h5
      congr 1; omega
   cases p with
   | slot s0 =>
     refine ⟨a8s E.d (.slot s0), m, .slot s0 :: dead, hk, ha, stay _ _ [.slot s0] (fun _ h => Hv _ h) (fun _ _ _ => ⟨fun p' h1 h2 => .inl (d5h p' h1 (fun e0 => h2 (by rw [e0]; simp))), fun p' h1 h2 => .inl (d5h p' h1 (fun e0 => h2 (by rw [e0]; simp)))⟩) (by simp)⟩
   | cell k s i =>
     simp only at hk
     split at hk
     . rename_i b hb
       split at hk
       . rename_i x _ _ hc
         simp only [a3z, B9] at hk
         refine ⟨a8s E.d (.cell k s i), _, _, hk, ha, fun g' w' ho => ?_⟩
         have hkp : ∀ (dd : List Pos) (E' : Env), E'.d = E.d -> (∀ k s, E.dom k s -> E'.dom k s) -> Keeps E g w dd E' g' w' (.cell k s i :: dd) := fun dd E' hE a0l =>
          ⟨ho.later, hE, a0l, fun _ _ _ _ => by rw [ho.J], fun _ h => Hv _ h, fun p' e v hp hn ho' => ho.own _ e v (.inl (d5h p' hp (fun e0 => hn (by rw [e0]; simp)))) ho'⟩
         have a0l : ∀ k' s', E.dom k' s' -> t9 (m.setBox k s ⟨b.ty, b.cells.set i (.v x .no)⟩) k' s' := by
          intro k' s' hd
          obtain ⟨b', hb'⟩ := hh.keeps_dom hd
          unfold t9
          rw [C5]
          split
          . exact ⟨_, rfl⟩
          . exact ⟨b', hb'⟩
         let E2 : Env := ⟨E.d, t9 (m.setBox k s ⟨b.ty, b.cells.set i (.v x .no)⟩)⟩
         refine ⟨E2, rfl, hkp dead E2 rfl a0l, fun k' s' b' hb' => ?_, rfl, hh.sk.later ho.later, by rw [D0]; exact hh.len⟩
         rw [C5] at hb'
         split at hb'
         . rename_i hcd
           obtain ⟨rfl, rfl, _⟩ := hcd
           injection hb' with hb'; subst hb'
           refine a8C (E := E) (E' := E2) ho (fun _ _ => .inr trivial) rfl a0l (hh.mem _ _ _ hb) (hkp [] E2 rfl a0l) _ rfl (by simp) (fun j c' hj => ?_)
           rw [List.getElem?_set] at hj
           split at hj
           . rename_i hij
             subst hij
             split at hj
             . injection hj with hj; subst hj
               exact .inr ⟨x, _, hc, rfl⟩
             . cases hj
           . rename_i hij
             exact .inl ⟨c', hj, rfl, by simp; exact fun h => hij h.symm⟩
         . rename_i hcd
           refine a8C (E := E) (E' := E2) ho (fun _ _ => .inr trivial) rfl a0l (hh.mem _ _ _ hb') (hkp [] E2 rfl a0l) _ rfl rfl (fun j c' hj => .inl ⟨c', hj, rfl, ?_⟩)
           simp only [List.mem_singleton, Pos.cell.injEq]
           rintro ⟨rfl, rfl, _⟩
           exact hcd ⟨rfl, rfl, a4a _ _ _ _ hb⟩
       . cases hk
     . cases hk
theorem b1y {xs : List V} {sz : Nat} (hs : ∀ x ∈ xs, x.cells.length = sz) : (xs.flatMap V.cells).length = xs.length * sz := by
 induction xs with
 | nil => simp
 | cons x xs ih =>
   rw [Jn, GW, hs x (by simp), ih (fun y hy => hs y (by simp [hy])), Hu, Il]; omega
theorem d0G {xs : List V} {n : Nat} (hs : ∀ x ∈ xs, b4s n x = true) {k : Nat} {y : V} (h : (xs.flatMap V.cells)[k]? = some y) : y.one = true := by
 obtain ⟨x, hx, hy⟩ := List.mem_flatMap.1 (IC h)
 exact (W5 (hs x hx)).2 y hy
set_option maxHeartbeats 1000000 in
theorem b4d (hT : p7 P T) {m : Mem} (hh : Here T E g w m) (dst : Nat) (t t2 ty : GF) (s x : D) (vs vx : GK) (hs : RepD E g w dead s vs) (hx : RepD E g w dead x vx) {K : D -> Mem -> List Pos -> Option R} {r : R}
 (h : a3d T dst t t2 s x m dead K = some r) :
 ∃ v w' g' E' d m' dead', (Is #[t, t2] ty #[vs, vx]).run P w = .ok v w' /\ E'.d = E.d /\ Keeps E g w dead E' g' w' dead' /\ Here T E' g' w' m' /\ RepD E' g' w' dead' d v /\ Tr E.d g w g' w' /\ K d m' dead' = some r := by
 unfold a3d at h
 split at h
 case h_2 => cases h
 rename_i tyS tyX htS htX
 have hokS := hT _ _ htS
 have hdX := (hT _ _ htX).desc
 split at h
 case h_2 => cases h
 rename_i e o7
 split at h
 case h_2 => cases h
 rename_i te hte
 have hok := hT _ _ hte
 obtain ⟨i, hi, hz, hsi, hby⟩ := hok.info
 have hzs := hok.zero_size
 have hdS := hokS.desc
 rw [o7] at hdS
 have hge : g.sz e = i.size := by rw [hh.sz, hsi]; simp [T4, hte]
 split at h
 . cases h
 rename_i hnz
 simp only [Hw] at hnz
 have hs0 : 0 < i.size := by
  rw [hsi]
  rcases HU te.size with h0 | h0
  . rw [h0] at hnz; simp at hnz
  . exact h0
 have hb0 : 0 < i.bytes := by
  rw [hby]
  rcases HU te.nbytes with h0 | h0
  . rw [h0] at hnz; simp at hnz
  . exact h0
 split at h
 . rename_i xs a ys a'
   split at h
   case h_2 => cases h
   rename_i e2 b3M
   rw [b3M] at hdX
   rcases g5 h with ⟨hc, h⟩ | ⟨_, h⟩
   case inr => cases h
   simp only [GP] at hc
   obtain ⟨hc1, hc2⟩ := hc
   have a8b : i.size = 1 := by rw [hsi]; exact GE hc2
   obtain ⟨hrs, has, A, n, c, rfl, hn, hnc, hcm⟩ := hs.bytes_inv
   obtain ⟨hrx, _, A', mm, c', rfl, hm, hmc, hcm'⟩ := hx.bytes_inv
   obtain ⟨q, m', dead', hk, ho, d0O⟩ := a3x hh has h dst
   obtain ⟨hb, hk⟩ := B7 hk
   simp only [decide_eq_true_eq] at hb
   rw [hn, hm] at hb
   have b0g : a1U g w A (n * i.size) (fun k => .int .u8 ((xs.getD k 0).toNat : Int)) := by
    intro k hk
    rw [a8b, IZ] at hk
    cases hrs with
    | bytes _ _ _ _ _ _ _ hxx =>
      obtain ⟨b, off, h1, h2, h3⟩ := hxx k _ (GH (by omega))
      exact ⟨b, off, h1, h2, by rw [h3]; simp [GJ, (by omega : k < xs.length)]⟩
   have d0P : a1U g w A' (mm * i.size) (fun k => .int .u8 ((ys.getD k 0).toNat : Int)) := by
    intro k hk
    rw [a8b, IZ] at hk
    cases hrx with
    | bytes _ _ _ _ _ _ _ hxx =>
      obtain ⟨b, off, h1, h2, h3⟩ := hxx k _ (GH (by omega))
      exact ⟨b, off, h1, h2, by rw [h3]; simp [GJ, (by omega : k < ys.length)]⟩
   obtain ⟨A2, c2, w', g', G5, hro, hown, d0Q, d0R, J7⟩ := a9m (P := P) t e ty i te.zero hdS hi hz (by rw [hzs, hsi]) hs0 hge q (.slot E.d dst) A n c _ ho b0g A' mm c' _ d0P (fun _ _ => rfl) (by rw [hby]; exact hb) hb0
   obtain ⟨E', hE, b0f, c2k⟩ := d0O g' w' hro
   refine ⟨_, w', g', E', _, m', dead', (a6D w t t2 ty e e2 hdS hdX hi A n c _).trans G5, hE, b0f, c2k, .v _ _ _ (.bytes _ A2 _ c2 (by simp; omega) d0Q d0R fun k z hk => ?_) ?_, hro.tr _, hk⟩
   . have hlt : k < (n + mm) * i.size := by
      rw [a8b, IZ]
      have := (GD.1 hk).1
      simp at this; omega
     obtain ⟨b, off, h1, h2, h3⟩ := J7 k hlt
     refine ⟨b, off, h1, h2, ?_⟩
     rw [h3]
     simp only [a8b, IZ]
     congr 1
     by_cases d0S : k < n
     . rw [if_pos d0S]
       rw [GS (by omega)] at hk
       simp [GJ, hk]
     . rw [if_neg d0S]
       rw [GV (by omega), hn] at hk
       simp [GJ, hk]
   . exact .inr ⟨trivial, by rw [hE]; exact hown⟩
 . rename_i e1 xs a e1' ys a'
   split at h
   case h_2 => cases h
   rename_i e2 b3M
   rw [b3M] at hdX
   rcases g5 h with ⟨hc, hkk⟩ | ⟨_, hkk⟩
   case inr => cases hkk
   clear h
   simp only [GP] at hc
   obtain ⟨hc1, hc2, hc3⟩ := hc
   obtain rfl := GE hc2
   obtain rfl := GE hc3
   obtain ⟨hrs, has, A, n, c, rfl, hn, hnc, hcm⟩ := hs.sl_inv
   obtain ⟨hrx, _, A', mm, c', rfl, hm, hmc, hcm'⟩ := hx.sl_inv
   obtain ⟨q, m', dead', hk, ho, d0O⟩ := a3x hh has hkk dst
   obtain ⟨hb, hk⟩ := B7 hk
   simp only [decide_eq_true_eq] at hb
   rw [hn, hm] at hb
   cases hrs with
   | sl _ _ _ _ _ us hn1 _ _ hs1 hx1 hr1 =>
   cases hrx with
   | sl _ _ _ _ _ us2 hn2 _ _ hs2 hx2 hr2 =>
   rw [hge] at hs1 hs2
   have l1 := b1y (fun x hx => (W5 (hs1 x hx)).1)
   have l2 := b1y (fun x hx => (W5 (hs2 x hx)).1)
   have b0g : a1U g w A (n * i.size) us := fun k hk => hx1 k _ (GH (by rw [l1]; rw [hn]; exact hk))
   have d0P : a1U g w A' (mm * i.size) us2 := fun k hk => hx2 k _ (GH (by rw [l2]; rw [hm]; exact hk))
   obtain ⟨A2, c2, w', g', G5, hro, hown, d0Q, d0R, J7⟩ := a9m (P := P) t e1' ty i te.zero hdS hi hz (by rw [hzs, hsi]) hs0 hge q (.slot E.d dst) A n c _ ho b0g A' mm c' _ d0P (fun k hk => by
    have := GH (l := ys.flatMap V.cells) (i := k) (by rw [l2, hm]; exact hk)
    exact (hr2 k _ this).one (d0G hs2 this)) (by rw [hby]; exact hb) hb0
   obtain ⟨E', hE, b0f, c2k⟩ := d0O g' w' hro
   refine ⟨_, w', g', E', _, m', dead', (a6D w t t2 ty e1' e2 hdS hdX hi A n c _).trans G5, hE, b0f, c2k, .v _ _ _ (.sl e1' _ A2 _ c2 (fun k => if k < n * i.size then us k else us2 (k - n * i.size)) (by simp; omega) d0Q d0R (fun x hx => ?_) (fun k z hk => ?_) (fun k z hk => ?_)) ?_, hro.tr _, hk⟩
   . rw [hro.later.sz, hge]
     rcases Jz.1 hx with hx | hx
     . exact hs1 x hx
     . exact hs2 x hx
   . have hlt := (GD.1 hk).1
     rw [KD, GW, l1, l2, hn, hm, ← Il] at hlt
     exact J7 k hlt
   . rw [KD] at hk
     by_cases hlt : k < n * i.size
     . rw [GS (by rw [l1, hn]; exact hlt)] at hk
       simp only [hlt, if_true]
       exact (hr1 k z hk).later hro.later
     . rw [GV (by rw [l1, hn]; omega), l1, hn] at hk
       simp only [hlt, if_false]
       exact (hr2 _ z hk).later hro.later
   . exact .inr ⟨trivial, by rw [hE]; exact hown⟩
 . rename_i xs a ys a'
   split at h
   case h_2 => cases h
   rename_i b3M
   rw [b3M] at hdX
   rcases g5 h with ⟨hc2, h⟩ | ⟨_, h⟩
   case inr => cases h
   have a8b : i.size = 1 := by rw [hsi]; exact GE hc2
   obtain ⟨hrs, has, A, n, c, rfl, hn, hnc, hcm⟩ := hs.bytes_inv
   obtain ⟨rfl, h63⟩ := hx.str_inv
   obtain ⟨q, m', dead', hk, ho, d0O⟩ := a3x hh has h dst
   obtain ⟨hb, hk⟩ := B7 hk
   simp only [decide_eq_true_eq] at hb
   rw [hn] at hb
   have b0g : a1U g w A (n * i.size) (fun k => .int .u8 ((xs.getD k 0).toNat : Int)) := by
    intro k hk
    rw [a8b, IZ] at hk
    cases hrs with
    | bytes _ _ _ _ _ _ _ hxx =>
      obtain ⟨b, off, h1, h2, h3⟩ := hxx k _ (GH (by omega))
      exact ⟨b, off, h1, h2, by rw [h3]; simp [GJ, (by omega : k < xs.length)]⟩
   have d0N : KK ⟨ys.toArray⟩ = news (ys.length * i.size) (fun k => .int .u8 ((ys.getD k 0).toNat : Int)) := by
    rw [a8b, IZ]
    apply List.ext_getElem?
    intro k
    by_cases hk : k < ys.length
    . rw [a0q _ _ hk]
      simp [KK, GJ, hk]
    . rw [JD (by simp [KK]; omega), JD (by rw [g9]; omega)]
   obtain ⟨A2, c2, w', g', G5, hro, hown, d0Q, d0R, J7⟩ := b0i (P := P) t t2 e ty i te.zero hdS hdX hi hz (by rw [hzs, hsi]) a8b hge q (.slot E.d dst) A n c _ ho b0g ys.length _ ys rfl d0N (fun _ _ => rfl) (by rw [hby]; exact hb) hb0
   obtain ⟨E', hE, b0f, c2k⟩ := d0O g' w' hro
   refine ⟨_, w', g', E', _, m', dead', G5, hE, b0f, c2k, .v _ _ _ (.bytes _ A2 _ c2 (by simp; omega) d0Q d0R fun k z hk => ?_) ?_, hro.tr _, hk⟩
   . have hlt : k < (n + ys.length) * i.size := by
      rw [a8b, IZ]
      have := (GD.1 hk).1
      simp at this; omega
     obtain ⟨b, off, h1, h2, h3⟩ := J7 k hlt
     refine ⟨b, off, h1, h2, ?_⟩
     rw [h3]
     simp only [a8b, IZ]
     congr 1
     by_cases d0S : k < n
     . rw [if_pos d0S]
       rw [GS (by omega)] at hk
       simp [GJ, hk]
     . rw [if_neg d0S]
       rw [GV (by omega), hn] at hk
       simp [GJ, hk]
   . exact .inr ⟨trivial, by rw [hE]; exact hown⟩
 . cases h
end
end En
namespace En
open Go
section
variable {R : Type} {P : Hb} {T : GF -> Option Ty} {E : Env} {g : G} {w w' : GG} {dead : List Pos}
theorem b2l : ∀ (ds : List D) (xs : List V), c3T ds = some xs -> xs.length = ds.length /\ ∀ (k : Nat) y, xs[k]? = some y -> y.one = true /\ ∃ a, ds[k]? = some (.v y a)
 | [], xs, h => by simp only [c3T, Hf] at h; subst h; exact ⟨rfl, fun k y h => by simp at h⟩
 | d :: ds, xs, h => by
   cases d with
   | v x a =>
     have hx : ∀ xs, (c3T ds).map (x :: ·) = some xs -> x.one = true -> xs.length = (D.v x a :: ds).length /\ ∀ (k : Nat) y, xs[k]? = some y -> y.one = true /\ ∃ a', (D.v x a :: ds)[k]? = some (.v y a') := by
      intro xs h h1
      rw [Hd] at h
      obtain ⟨r, hr, rfl⟩ := h
      obtain ⟨h2, h3⟩ := b2l ds r hr
      refine ⟨by simp [h2], fun k y hk => ?_⟩
      rcases k with _ | k
      . simp at hk; subst hk; exact ⟨h1, a, by simp⟩
      . obtain ⟨h4, a', h5⟩ := h3 k y (by simpa using hk); exact ⟨h4, a', by simpa using h5⟩
     cases x <;> simp only [c3T] at h <;> first
      | exact hx xs h rfl
      | cases h
   | _ => simp only [c3T, reduceCtorEq] at h
theorem a5b (row : Bool) (size : Nat) (hsz : row = false -> size = 1) : ∀ (n : Nat) (cs : List D) (xs : List V), cs.length = n * size -> chunk row size cs n = some xs ->
 xs.length = n /\ (∀ x ∈ xs, b4s size x = true) /\ ∀ (k : Nat) y, (xs.flatMap V.cells)[k]? = some y -> ∃ a, cs[k]? = some (.v y a)
 | 0, cs, xs, hl, h => by simp only [chunk, Hf] at h; subst h; exact ⟨rfl, fun x h => by simp at h, fun k y h => by simp at h⟩
 | n + 1, cs, xs, hl, h => by
   unfold chunk at h
   split at h
   case h_2 => cases h
   rename_i d hd
   split at h
   case h_2 => cases h
   rename_i x hx
   split at h
   case h_2 => cases h
   rename_i r hr
   injection h with h; subst h
   rw [Il, Oo] at hl
   obtain ⟨h1, h2, h3⟩ := a5b row size hsz n (cs.drop size) r (by simp; omega) hr
   -- the first value
   have d5i : x.cells.length = size /\ (∀ y ∈ x.cells, y.one = true) /\ ∀ (k : Nat) y, x.cells[k]? = some y -> ∃ a, cs[k]? = some (.v y a) := by
    unfold c4F at hd
    split at hd
    . injection hd with hd; subst hd
      simp only [toV, Hd] at hx
      obtain ⟨ys, hys, rfl⟩ := hx
      obtain ⟨h4, h5⟩ := b2l _ _ hys
      refine ⟨by show ys.length = _; rw [h4]; simp; omega, fun y hy => ?_, fun k y hk => ?_⟩
      . obtain ⟨k, hk⟩ := JC.1 hy; exact (h5 k y hk).1
      . obtain ⟨_, a, h6⟩ := h5 k y hk
        rw [Iw] at h6
        split at h6
        . exact ⟨a, h6⟩
        . cases h6
    . have hs1 := hsz rfl
      split at hd
      . rename_i d' hd'
        rcases g5 hd with ⟨Q4, hd⟩ | ⟨_, hd⟩
        case inr => cases hd
        injection hd with hd; subst hd
        have hc0 : cs[0]? = some d' := by
         have h9 : (cs.take size)[0]? = some d' := by rw [hd']; rfl
         rw [Iw] at h9
         split at h9
         . exact h9
         . cases h9
        cases d' with
        | v z a =>
          have hz : z.one = true /\ x = z := by
           cases z <;> simp only [toV, Hf, reduceCtorEq] at hx <;> first | exact ⟨rfl, hx.symm⟩
          obtain ⟨hz1, rfl⟩ := hz
          have b3N : x.cells = [x] := by cases x <;> first | rfl | cases hz1
          refine ⟨by rw [b3N]; exact hs1.symm, fun y hy => by rw [b3N] at hy; simp at hy; subst hy; exact hz1, fun k y hk => ?_⟩
          rw [b3N] at hk
          have : k = 0 := by have := (GD.1 hk).1; simp at this; omega
          subst this
          simp at hk; subst hk
          exact ⟨a, hc0⟩
        | agg ds =>
          simp [D.one] at Q4
        | _ => simp [toV] at hx
      . cases hd
   obtain ⟨e1, e2, e3⟩ := d5i
   refine ⟨by simp [h1], fun y hy => ?_, fun k y hk => ?_⟩
   . rcases Ku.1 hy with rfl | hy
     . simp only [b4s, GP, beq_iff_eq, Ib]; exact ⟨e1, e2⟩
     . exact h2 y hy
   . rw [Jn] at hk
     by_cases hlt : k < size
     . rw [GS (by omega)] at hk
       exact e3 k y hk
     . rw [GV (by omega), e1] at hk
       obtain ⟨a, h6⟩ := h3 _ y hk
       rw [IB, show size + (k - size) = k by omega] at h6
       exact ⟨a, h6⟩
theorem O0 {y : V} {a : Att} {v : GK} (h : RepD E g w dead (.v y a) v) : RepV g w y v := by cases h with | v x a v h ha => exact h
theorem a7r {α : Type} (xs : List α) : ∀ (n k : Nat), (a6q xs n)[k]? = if k < n * xs.length then xs[k % xs.length]? else none
 | 0, k => by simp [a6q]
 | n + 1, k => by
   rw [a6q]
   by_cases h : k < xs.length
   . rw [GS h, if_pos (by rw [Il]; omega), Nat.mod_eq_of_lt h]
   . rw [GV (by omega), a7r xs n]
     rw [Il, Oo]
     have hm : (k - xs.length) % xs.length = k % xs.length := (Nat.mod_eq_sub_mod (by omega)).symm
     rw [hm]
     by_cases h2 : k - xs.length < n * xs.length
     . rw [if_pos h2, if_pos (by omega)]
     . rw [if_neg h2, if_neg (by omega)]
theorem Y1 {α : Type} (xs : List α) : ∀ n, (a6q xs n).length = n * xs.length
 | 0 => by simp [a6q]
 | n + 1 => by rw [a6q, GW, Y1 xs n, Il]; omega
theorem b2b (z : Array GK) (n k : Nat) (h : k < n) (hz : 0 < z.size) : (madeCells z n).getD k undef = z.getD (k % z.size) undef := by
 have hm := Nat.mod_lt k hz
 simp [madeCells, GL, h, hm]
theorem b9p {e : GF} {te : Ty} (hok : TyOK P e te) (hs : 0 < te.size) (n : Nat) : RepL E g w dead (a6q te.zeroDs n) (madeCells te.zero.cells (n * te.size)) := by
 obtain ⟨h1, h2⟩ := a7N (E := E) (g := g) (w := w) (dead := dead) hok
 have hl : te.zeroDs.length = te.size := by simp [Ty.zeroDs, Ty.size]
 refine ⟨by rw [Y1, JI, hl], fun k y hk => ?_⟩
 rw [a7r, hl] at hk
 split at hk
 . rename_i hlt
   rw [b2b _ _ _ hlt (by rw [h1, hl]; exact hs), h1, hl]
   exact h2 _ y hk
 . cases hk
theorem b5L : ∀ (cs : List D) (l : List UInt8), a7D cs = some l -> l.length = cs.length /\ ∀ (k : Nat) x, l[k]? = some x -> ∃ n a, cs[k]? = some (.v (.int .u8 n) a) /\ x = Gz n.toNat
 | [], l, h => by simp only [a7D, Hf] at h; subst h; exact ⟨rfl, fun k x h => by simp at h⟩
 | d :: cs, l, h => by
   unfold a7D at h
   split at h
   . cases ‹_ = ([] : List D)›
   . rename_i n a r heq
     injection heq with e1 e2; subst e1 e2
     split at h
     . rename_i l' hl'
       injection h with h; subst h
       obtain ⟨h1, h2⟩ := b5L cs l' hl'
       refine ⟨by simp [h1], fun k x hk => ?_⟩
       rcases k with _ | k
       . simp at hk; subst hk; exact ⟨n, a, by simp, rfl⟩
       . obtain ⟨n', a', h3, h4⟩ := h2 k x (by simpa using hk); exact ⟨n', a', by simpa using h3, h4⟩
     . cases h
   . cases h
theorem d2G {n : Int} (h : GI.min <= n /\ n <= GI.max) : ((Gz n.toNat).toNat : Int) = n := by
 have e1 : JY .u8 = 0 := by decide
 have e2 : JZ .u8 = 255 := by decide
 rw [e1, e2] at h
 simp [UInt8.toNat_ofNat']
 omega
theorem b2f {m : Mem} (hh : Here T E g w m) (dst : Nat) (t e : GF) {te : Ty} (hte : T e = some te) (len cap : Nat) (row : Array GK) (J7 : row.size = cap * te.size) (hlc : len <= cap) (hcm : cap <= maxLen) (cs : List D) (hcs : cs.length = len * te.size)
 (d3p : ∀ (k : Nat) y, cs[k]? = some y -> RepD E g w dead y (row.getD k undef)) :
 (∀ l : List UInt8, te.size = 1 -> a7D cs = some l -> RepD E (g.at_ w.heap.size (.own (.slot E.d dst) (len * te.size))) (w.alloc (.cells row e)) dead (.v (.bytes l) (.own (.slot dst) e)) (.slice (some ⟨w.heap.size, 0, none⟩) len cap)) /\
 (∀ l : List V, l.length = len -> (∀ x ∈ l, b4s te.size x = true) -> (∀ (k : Nat) y, (l.flatMap V.cells)[k]? = some y -> ∃ a, cs[k]? = some (.v y a)) -> RepD E (g.at_ w.heap.size (.own (.slot E.d dst) (len * te.size))) (w.alloc (.cells row e)) dead (.v (.sl e l) (.own (.slot dst) e)) (.slice (some ⟨w.heap.size, 0, none⟩) len cap)) := by
 have hge : g.sz e = te.size := by rw [hh.sz]; simp [T4, hte]
 have b8D : (w.alloc (.cells row e)).heap[w.heap.size]? = some (.cells row e (0, 0)) := Ht w _
 have hown : AttOK E (g.at_ w.heap.size (.own (.slot E.d dst) (len * te.size))) (w.alloc (.cells row e)) dead (.own (.slot dst) e) (.slice (some ⟨w.heap.size, 0, none⟩) len cap) :=
  .inr ⟨trivial, .inr ⟨w.heap.size, len, cap, row, rfl, by rw [G.at_eq]; show _ = Perm.own (.slot E.d dst) (len * g.sz e); rw [hge], b8D, hlc, hcm, by show row.size = cap * g.sz e; rw [hge]; exact J7⟩⟩
 have hle : len * te.size <= cap * te.size := IY _ hlc
 have m0 : ∀ k, k < len * te.size -> j9 (g.at_ w.heap.size (.own (.slot E.d dst) (len * te.size))) w.heap.size (0 + k) /\ (w.alloc (.cells row e)).cell? ⟨w.heap.size, 0 + k, none⟩ = some (row.getD k undef) := fun k hk => by
  refine ⟨by unfold j9; rw [G.at_eq]; simpa using hk, ?_⟩
  rw [HY _ _ _ _ _ _ b8D]
  simp [GL, (by omega : k < row.size)]
 have hk := a1d (E := E) (g := g) (dead := dead) (Grows.alloc w (.cells row e)) (GB _) (.own (.slot E.d dst) (len * te.size))
 refine ⟨fun l h1 h2 => ?_, fun l h1 h2 h3 => ?_⟩
 . obtain ⟨h4, h5⟩ := b5L cs l h2
   refine .v _ _ _ (.bytes l _ _ _ (by rw [h4, hcs, h1, IZ]) hlc hcm fun k x hkx => ?_) hown
   obtain ⟨n, a, h6, rfl⟩ := h5 k x hkx
   have hlt := (GD.1 h6).1
   obtain ⟨b1, b2⟩ := m0 k (by omega)
   refine ⟨w.heap.size, 0, rfl, b1, ?_⟩
   rw [b2]
   obtain ⟨h8, h9⟩ := (d3p k _ h6).int_inv
   rw [h8, d2G h9]
 . refine .v _ _ _ (.sl e l _ _ _ (fun k => row.getD k undef) h1 hlc hcm (fun x hx => by show b4s (g.sz e) x = true; rw [hge]; exact h2 x hx) (fun k y hky => ?_) (fun k y hky => ?_)) hown
   . have hlt := (GD.1 hky).1
     rw [b1y (fun x hx => (W5 (h2 x hx)).1), h1] at hlt
     obtain ⟨b1, b2⟩ := m0 k hlt
     exact ⟨w.heap.size, 0, rfl, b1, b2⟩
   . obtain ⟨a, h6⟩ := h3 k y hky
     exact (O0 (d3p k _ h6)).later hk.later
theorem a9e (hT : p7 P T) {m : Mem} (hh : Here T E g w m) (dst : Nat) (t : GF) (len cap : D) (vl vc : GK) (hl : RepD E g w dead len vl) (hc : RepD E g w dead cap vc) {K : D -> Option R} {r : R} (h : V2 T dst t len cap K = some r) :
 ∃ v w' p d, (Instr.makeSlice t vl vc).run P w = .ok v w' /\ Grows w w' /\ RepD E (g.at_ w.heap.size p) w' dead d v /\ K d = some r := by
 unfold V2 at h
 split at h
 case h_2 => cases h
 rename_i ty kl l al kc c ac hty
 have hokS := hT _ _ hty
 split at h
 case h_2 => cases h
 rename_i e o7
 have hdS := hokS.desc
 rw [o7] at hdS
 split at h
 case h_2 => cases h
 rename_i te hte
 have hok := hT _ _ hte
 obtain ⟨i, hi, hz, hsi, hby⟩ := hok.info
 rcases g5 h with ⟨_, h⟩ | ⟨hnz, h⟩
 . cases h
 simp only [Hw] at hnz
 have hs0 : 0 < te.size := by
  rcases HU te.size with h0 | h0
  . rw [h0] at hnz; simp at hnz
  . exact h0
 have hb0 : 0 < te.nbytes := by
  rcases HU te.nbytes with h0 | h0
  . rw [h0] at hnz; simp at hnz
  . exact h0
 obtain ⟨hb, h⟩ := B7 h
 simp only [GP, decide_eq_true_eq] at hb
 obtain ⟨b1, b2, b3⟩ := hb
 obtain ⟨rfl, _⟩ := hl.int_inv
 obtain ⟨rfl, _⟩ := hc.int_inv
 have b4 : c <= 140737488355328 := by
  have hm : c * 1 <= c * te.nbytes := Int.mul_le_mul_of_nonneg_left (by omega) (by omega)
  omega
 have G5 := run_make (P := P) w t e i te.zero hdS hi hz kl kc l c b1 b2 (by rw [hby, Int.mul_comm]; omega) (by omega)
 rw [hsi] at G5
 have hmr := b9p (E := E) (g := g) (w := w) (dead := dead) hok hs0 l.toNat
 have d7h : ∀ (k : Nat) y, (a6q te.zeroDs l.toNat)[k]? = some y -> RepD E g w dead y ((madeCells te.zero.cells (c.toNat * te.size)).getD k undef) := fun k y hk => by
  have hlt := (GD.1 hk).1
  rw [Y1] at hlt
  have hl' : te.zeroDs.length = te.size := by simp [Ty.zeroDs, Ty.size]
  rw [hl'] at hlt
  have hle : l.toNat * te.size <= c.toNat * te.size := IY _ (by omega)
  have := hmr.2 k y hk
  have d6J : 0 < te.zero.cells.size := by rw [hok.zero_size]; exact hs0
  rw [b2b _ _ _ hlt d6J] at this
  rw [b2b _ _ _ (by omega) d6J]
  exact this
 have hlr : (a6q te.zeroDs l.toNat).length = l.toNat * te.size := by rw [Y1]; simp [Ty.zeroDs, Ty.size]
 obtain ⟨f1, f2⟩ := b2f (dead := dead) hh dst t e hte l.toNat c.toNat (madeCells te.zero.cells (c.toNat * te.size)) (JI _ _) (by omega) (by unfold maxLen; omega) (a6q te.zeroDs l.toNat) hlr d7h
 split at h
 . rename_i e' c4v
   split at h
   . rename_i d6K
     have a8b : te.size = 1 := by simp [Ty.size, d6K]
     refine ⟨_, _, _, _, G5, Grows.alloc w _, f1 (IX l.toNat 0) a8b ?_, h⟩
     have hz8 : te.zeroDs = [.v (.int .u8 0) .no] := by simp [Ty.zeroDs, d6K, c9t]
     rw [hz8]
     have : ∀ n, a7D (a6q [.v (.int .u8 0) .no] n) = some (IX n 0) := by
      intro n
      induction n with
      | zero => rfl
      | succ n ih =>
        show a7D (.v (.int .u8 0) .no :: a6q [.v (.int .u8 0) .no] n) = _
        simp only [a7D, ih, KE]
        rfl
     exact this _
   . cases h
 . rename_i e' c4v
   split at h
   . rename_i z hz1
     refine ⟨_, _, _, _, G5, Grows.alloc w _, f2 (IX l.toNat z) (by simp) ?_ ?_, h⟩
     . intro x hx
       have := List.eq_of_mem_replicate hx
       subst this
       obtain ⟨_, h2, _⟩ := a5b te.row te.size hok.one 1 te.zeroDs [x] (by simp [Ty.zeroDs, Ty.size]) hz1
       exact h2 x (by simp)
     . intro k y hk
       obtain ⟨_, h2, h3⟩ := a5b te.row te.size hok.one 1 te.zeroDs [z] (by simp [Ty.zeroDs, Ty.size]) hz1
       have hzl := (W5 (h2 z (by simp))).1
       have hfl : ∀ n, (IX n z).flatMap V.cells = a6q z.cells n := by
        intro n
        induction n with
        | zero => rfl
        | succ n ih => rw [KE, Jn, ih]; rfl
       rw [hfl, a7r, hzl] at hk
       split at hk
       . rename_i hlt
         obtain ⟨a, h4⟩ := h3 (k % te.size) y (by simpa using hk)
         refine ⟨a, ?_⟩
         have hl' : te.zeroDs.length = te.size := by simp [Ty.zeroDs, Ty.size]
         rw [a7r, hl', if_pos hlt]; exact h4
       . cases hk
   . cases h
 . cases h
theorem a7h (hT : p7 P T) {m : Mem} (hh : Here T E g w m) (dst : Nat) (t : GF) (len : Nat) (parts : List (Nat × D)) (vparts : Array (Nat × GK)) (hp : RepP E g w dead parts vparts.toList) {K : D -> Option R} {r : R}
 (h : R9 T dst t len parts K = some r) :
 ∃ v w' p d, (Ld t len vparts).run P w = .ok v w' /\ Grows w w' /\ RepD E (g.at_ w.heap.size p) w' dead d v /\ K d = some r := by
 unfold R9 at h
 split at h
 case h_2 => cases h
 rename_i ty hty
 have hokS := hT _ _ hty
 split at h
 case h_2 => cases h
 rename_i e o7
 have hdS := hokS.desc
 rw [o7] at hdS
 split at h
 case h_2 => cases h
 rename_i te hte
 have hok := hT _ _ hte
 obtain ⟨i, hi, hz, hsi, hby⟩ := hok.info
 rcases g5 h with ⟨_, h⟩ | ⟨hnz, h⟩
 . cases h
 simp only [Hw, JT] at hnz
 have hs0 : 0 < te.size := by
  rcases HU te.size with h0 | h0
  . rw [h0] at hnz; simp at hnz
  . exact h0
 have hlen := Ha hnz.2
 have hl1 : len <= len * te.size := Kb _ hs0
 split at h
 case h_2 => cases h
 rename_i cs hcs
 have hpp := RepP.map_ (f := D.bare) (fun h => h.bare_) hp
 have hmr := b9p (E := E) (g := g) (w := w) (dead := dead) hok hs0 len
 obtain ⟨us, h1, h2⟩ := a1z _ _ _ _ _ cs hpp hmr hcs
 -- what the model does
 have d3o : cs.length = len * te.size := by
  have := h2.1
  have hfs : ∀ (ps : List (Nat × D)) (ds ds' : List D), a5H (fun i => some (i * te.size, te.size)) ds ps = some ds' -> ds'.length = ds.length := by
   intro ps
   induction ps with
   | nil => intro ds ds' h; simp only [a5H, Hf] at h; subst h; rfl
   | cons p ps ih =>
     intro ds ds' h
     obtain ⟨i, d⟩ := p
     simp only [a5H] at h
     rcases g5 h with ⟨_, h⟩ | ⟨_, h⟩
     . rw [ih _ _ h, a1D]
     . cases h
  rw [hfs _ _ _ hcs, Y1]; simp [Ty.zeroDs, Ty.size]
 have G5 : (Ld t len vparts).run P w = .ok (.slice (some ⟨w.heap.size, 0, none⟩) len len) (w.alloc (.cells us e)) := by
  rcases HU len with h0 | h0
  . subst h0
    have hv : vparts = #[] := by
     have hp0 : vparts.toList = [] := by
      cases hvl : vparts.toList with
      | nil => rfl
      | cons q qs =>
        exfalso
        rw [hvl] at h1
        obtain ⟨j, v⟩ := q
        simp only [Ll] at h1
        split at h1
        . cases h1
        . rename_i hn
          simp only [JI, Lm] at hn
          have : v.cells.size = te.size := by
           by_cases hc : v.cells.size = te.size
           . exact hc
           . exact absurd (by simp [hc]) hn
          exact hn (by simp [this]; omega)
     exact Kd.1 hp0
    subst hv
    have hus : us = #[] := by
     simp only [Ll, Hf] at h1
     rw [← h1]
     apply Kq
     rw [JI]; simp
    subst hus
    have h00 : ∀ f : Nat -> GK, (Array.range 0).map f = #[] := fun f => by apply Kq; simp
    simp [Ld, Hc hdS, sizeOf, typeInfo, hi, newRow, Ll]
    rw [h00]
  . refine run_buildSlice (P := P) w t e len vparts us i te.zero hdS hi hz (by rw [hsi]; omega) (by rw [hsi]; have := On h0 hs0; omega) ?_
    rw [hsi]
    exact h1
 obtain ⟨f1, f2⟩ := b2f (dead := dead) hh dst t e hte len len us (by rw [h2.1, d3o]) (GB _) (by unfold maxLen; omega) cs d3o h2.2
 split at h
 . split at h
   . rename_i l hl
     rcases g5 h with ⟨a8b, h⟩ | ⟨_, h⟩
     . exact ⟨_, _, _, _, G5, Grows.alloc w _, f1 l (GE a8b) hl, h⟩
     . cases h
   . cases h
 . split at h
   . rename_i l hl
     obtain ⟨g1, g2, g3⟩ := a5b te.row te.size hok.one len cs l d3o hl
     exact ⟨_, _, _, _, G5, Grows.alloc w _, f2 l g1 g2 g3, h⟩
   . cases h
 . cases h
end
end En
namespace En
open Go
section
variable {R : Type} {T : GF -> Option Ty}
theorem d7b {α : Type} (c : Bool) (X : Option α) (K : α -> Option R) : (br c X none).bind K = br c (X.bind K) none := by cases c <;> rfl
theorem Q7 {α : Type} (c : Bool) (X : Option α) (K : α -> Option R) : (check c X).bind K = check c (X.bind K) := d7b c X K
theorem F0 {α : Type} (c : Bool) (X Y : Option α) (K : α -> Option R) : (cond c X Y).bind K = cond c (X.bind K) (Y.bind K) := by cases c <;> rfl
theorem c2F (op : LS) (k : IS) (a b : Int) (K : D -> Option R) : (b4c op k a b some).bind K = b4c op k a b K := by
 cases op <;> simp only [b4c, Q7, Ij]
theorem d4v (op : LS) (a b : List UInt8) (K : D -> Option R) : (c6h op a b some).bind K = c6h op a b K := by
 cases op <;> simp only [c6h, Q7, Ij] <;> rfl
theorem d0g (op : LS) (xt : GF) (yc : Bool) (x y : D) (K : D -> Option R) : (c6r T op xt yc x y some).bind K = c6r T op xt yc x y K := by
 unfold c6r
 split
 . split
   . exact c2F _ _ _ _ _
   . exact c2F _ _ _ _ _
   . split
     . exact c2F _ _ _ _ _
     . rfl
 . exact d4v _ _ _ _
 . split
   . split <;> rfl
   . rfl
 . split
   . unfold a8X
     split
     . rw [F0]; congr 1; split <;> rfl
     . rfl
   . unfold a8X
     split
     . rw [F0]; congr 1; split <;> rfl
     . rfl
   . rfl
 . split
   . split
     . split <;> rfl
     . rfl
   . rfl
theorem d3C (op : UnOp) (x : D) (K : D -> Option R) : (unK op x some).bind K = unK op x K := by
 unfold unK
 split <;> rfl
theorem c5p (src dst : GF) (x : D) (K : D -> Option R) : (b5n T src dst x some).bind K = b5n T src dst x K := by
 unfold b5n
 split
 . split
   . rfl
   . split
     . split
       . rw [Q7]; rfl
       . rfl
     . rfl
   . split
     . split
       . rw [Q7]; rfl
       . rfl
     . rfl
   . rfl
   . rfl
 . rfl
theorem d0s {α : Type} (x : Option D) (d hi : Nat) (F : Nat -> Option α) (K : α -> Option R) : (a3e x d hi F).bind K = a3e x d hi fun n => (F n).bind K := by
 unfold a3e
 split
 . rfl
 . rw [Q7]
 . rfl
theorem b6T {α β : Type} (xs : List α) (lo hi : Option D) (F : List α -> Option β) (K : β -> Option R) : (b4l xs lo hi F).bind K = b4l xs lo hi fun l => (F l).bind K := by
 unfold b4l
 split <;> simp only [d0s]
theorem d4o {R' : Type} (lo hi mx : Option D) (K : Option R) (F : R -> Option R') : (c6g lo hi mx K).bind F = c6g lo hi mx (K.bind F) := by
 unfold c6g
 split
 . rfl
 . split
   . rw [Q7]
   . rfl
 . rfl
theorem b9v (t : GF) (x : D) (lo hi mx : Option D) (K : D -> Option R) : (a8w T t x lo hi mx some).bind K = a8w T t x lo hi mx K := by
 unfold a8w
 split
 . rw [d4o]
   congr 1
   split
   . split
     . split
       . rw [F0, b6T]; rfl
       . rfl
     . rfl
   . rfl
 . split
   . split
     . split
       . rw [F0, b6T]; rfl
       . rfl
     . split
       . rw [F0, b6T]; rfl
       . rfl
     . rw [b6T]; rfl
     . rfl
   . rfl
theorem b5f (t : GF) (x i : D) (K : D -> Option R) : (a5a T t x i some).bind K = a5a T t x i K := by
 unfold a5a
 split
 . split
   . split
     . split
       . rw [F0]; rfl
       . rfl
     . rfl
   . rfl
 . rfl
theorem c9w (t : GF) (x : D) (K : D -> Option R) : (c6S T t x some).bind K = c6S T t x K := by
 unfold c6S
 split
 . split
   . rfl
   . rfl
   . rfl
   . rw [Q7]; rfl
   . rfl
 . rfl
theorem d0B {α : Type} (i : Int) (n : Nat) (F : Nat -> Option α) (K : α -> Option R) : (inK i n F).bind K = inK i n fun j => (F j).bind K := by
 unfold inK; rw [Q7]
theorem d4t {α β : Type} (xs : List α) (i : Nat) (F : α -> Option β) (K : β -> Option R) : (at? xs i F).bind K = at? xs i fun x => (F x).bind K := by
 unfold at?; split <;> rfl
theorem b8v {α : Type} (i : Int) (F : Nat -> Option α) (K : α -> Option R) : ∀ (n j : Nat), (a0g i j n F).bind K = a0g i j n fun j => (F j).bind K
 | 0, j => rfl
 | n + 1, j => by
   simp only [a0g]
   rw [← b8v i F K n (j + 1)]
   cases decide (i = (j : Int)) <;> rfl
theorem d0A {α : Type} (ck : CK) (x : V) (F : V -> Option α) (K : α -> Option R) : (c3O ck x F).bind K = c3O ck x fun y => (F y).bind K := by
 cases ck <;> cases x <;> simp only [c3O, V.unInt, V.unBool, V.unStr, V.unBytes, V.unSl, V.unI, Ji] <;> first
  | rfl
  | (split <;> rfl)
  | (rw [F0]; rfl)
theorem c5F {α : Type} : ∀ (cks : List CK) (xs : List V) (F : List V -> Option α) (K : α -> Option R), (b1h cks xs F).bind K = b1h cks xs fun y => (F y).bind K
 | [], xs, F, K => by cases xs <;> rfl
 | ck :: cks, xs, F, K => by
   cases xs with
   | nil => rfl
   | cons x r =>
     simp only [b1h, c3F]
     rw [d0A]
     congr 1
     funext y
     exact c5F cks r _ K
theorem d5Q {α : Type} (ty : Ty) (x : V) (F : List V -> Option α) (K : α -> Option R) : (fit ty x F).bind K = fit ty x fun y => (F y).bind K := by
 unfold fit
 split
 . cases x <;> simp only [V.unAgg, Ji]
   exact c5F _ _ _ _
 . exact d0A _ _ _ _
theorem a6M (t : GF) (x i : D) (K : D -> Option R) : (V8 T t x i some).bind K = V8 T t x i K := by
 unfold V8
 split
 . split
   . split
     . rw [F0, d0B]; simp only [d4t]; rfl
     . rfl
   . split
     . rw [F0, d0B]; simp only [d4t, d5Q]; rfl
     . rfl
   . split
     . rw [b8v]; rfl
     . rfl
   . split
     . rw [b8v]; rfl
     . rfl
   . rfl
 . rfl
theorem c1C (t : GF) (x i : D) (K : D -> Option R) : (a8P T t x i some).bind K = a8P T t x i K := by
 unfold a8P
 simp only [forceD_eq]
 split
 . split
   . rw [d0B]; simp only [d4t]; rfl
   . split
     . rw [b8v]
       congr 1
       funext j
       split <;> rfl
     . rfl
   . rfl
 . rfl
theorem b9f (t : GF) (x : D) (f : Nat) (K : D -> Option R) : (a8I T t x f some).bind K = a8I T t x f K := by
 unfold a8I
 simp only [forceD_eq]
 split
 . split
   . split
     . split
       . split <;> rfl
       . rfl
     . rfl
   . rfl
 . rfl
theorem a6z (t : GF) (x : D) (f : Nat) (K : D -> Option R) : (W1 T t x f some).bind K = W1 T t x f K := by
 unfold W1
 split
 . split
   . split
     . split
       . rw [F0]
         congr 1
         split <;> rfl
       . rfl
     . rfl
   . rfl
 . rfl
theorem b8p (t : GF) (a : D) (m : Mem) (K : D -> Option R) : (a0m T t a m some).bind K = a0m T t a m K := by
 unfold a0m
 simp only [forceD_eq]
 split
 . split
   . split
     . split
       . rw [F0]; rfl
       . rw [F0]
         congr 1
         split <;> rfl
     . rfl
   . split
     . rw [F0]; rfl
     . rw [F0]
       congr 1
       split <;> rfl
   . rfl
 . rfl
theorem c0c (t : GF) (ps : List (Nat × D)) (K : D -> Option R) : (a8O T t ps some).bind K = a8O T t ps K := by
 unfold a8O
 simp only [forceD_eq]
 split
 . split
   . split
     . split <;> rfl
     . rfl
   . split
     . split <;> rfl
     . rfl
   . rfl
 . rfl
theorem a5c (mx : Bool) (args : List D) (K : D -> Option R) : (a3A mx args some).bind K = a3A mx args K := by
 unfold a3A
 split
 . split <;> rfl
 . rfl
theorem bind_some {α : Type} {X : Option α} {K : α -> Option R} {r : R} (h : X.bind K = some r) : ∃ d, X = some d /\ K d = some r := by
 cases X with
 | none => cases h
 | some d => exact ⟨d, rfl, h⟩
end
end En
namespace En
open Go
section
variable {R : Type} {P : Hb} {T : GF -> Option Ty} {E : Env} {g : G} {w w' : GG} {dead : List Pos}
def RepS (E : Env) (g : G) (w : GG) (dead : List Pos) (slots : List D) (a : Act) : Prop := ∀ (s : Nat) x, slots[s]? = some x -> RepD E g w dead x (a.tmps.getD s undef)
theorem RepS.ev {slots : List D} {a : Act} (hs : RepS E g w dead slots a) (h : GF) (z : Hy) : RepD E g w dead (C9 T slots h z) (a.eval z) := c7j hs h z
theorem a3a {h0 : GF} {slots : List D} {a : Act} (hs : RepS E g w dead slots a) : ∀ (ps : List (Nat × Hy)) (K : List (Nat × D) -> Option R) (r : R), a0P h0 T slots ps K = some r ->
 ∃ ds, RepP E g w dead ds (ps.map fun p => (p.1, a.eval p.2)) /\ K ds = some r
 | [], K, r, h => ⟨[], trivial, h⟩
 | (i, x) :: ps, K, r, h => by
   unfold a0P at h
   rw [E7] at h
   obtain ⟨ds, h1, h2⟩ := a3a hs ps _ r h
   exact ⟨(i, C9 T slots h0 x) :: ds, ⟨rfl, hs.ev h0 x, h1⟩, h2⟩
theorem a8J {slots : List D} {a : Act} (hs : RepS E g w dead slots a) (x : Option Hy) (K : Option D -> Option R) (r : R) (h : evO T slots x K = some r) : ∃ d, RepO E g w dead d (x.map a.eval) /\ K d = some r := by
 unfold evO at h
 split at h
 . exact ⟨none, trivial, h⟩
 . rename_i x
   rw [E7] at h
   exact ⟨some (C9 T slots 0 x), hs.ev 0 x, h⟩
theorem a9Z {slots : List D} {a : Act} (hs : RepS E g w dead slots a) : ∀ (xs : List Hy) (K : List D -> Option R) (r : R), a5C T slots xs K = some r ->
 ∃ ds, ds.length = xs.length /\ (∀ (k : Nat) y, ds[k]? = some y -> RepD E g w dead y ((xs.map a.eval).getD k undef)) /\ K ds = some r
 | [], K, r, h => ⟨[], rfl, fun k y h => by simp at h, h⟩
 | x :: xs, K, r, h => by
   unfold a5C at h
   simp only [E7, forceD_eq] at h
   obtain ⟨ds, h1, h2, h3⟩ := a9Z hs xs _ r h
   refine ⟨(C9 T slots 0 x).plain :: ds, by simp [h1], fun k y hk => ?_, h3⟩
   rcases k with _ | k
   . simp at hk; subst hk; simpa using (hs.ev 0 x).plain_
   . simpa using h2 k y (by simpa using hk)
theorem d1S {d : D} {v : GK} (h : RepD E g w dead d v) {x : V} (hx : toV d = some x) : RepV g w x v := by
 cases d with
 | v y a =>
   have : y = x := by cases y <;> simp only [toV, Hf, reduceCtorEq] at hx <;> exact hx
   subst this
   exact O0 h
 | agg ds =>
   simp only [toV, Hd] at hx
   obtain ⟨ys, hys, rfl⟩ := hx
   obtain ⟨h1, h2⟩ := b2l _ _ hys
   cases h with
   | agg ds us hn hr =>
     refine .agg _ us (by rw [h1]; exact hn) fun k y hk => ?_
     obtain ⟨_, a, h3⟩ := h2 k y hk
     exact O0 (hr k _ h3)
 | _ => simp [toV] at hx
theorem Res.value {m : Mem} {o : Oper} {a : Act} (hh : Here T E g w m) {d : D} {v : GK} (hr : (execOp a.eval o).run P w = .ok (.value v) w) (hx : RepD E g w dead d v) : Res P T E g w m dead o a d m dead := Res.pure hh hr hx
theorem b6k {f : Hg} : ∀ {fs : List Hg} {j i : Nat}, d2D f j fs = some i -> ∃ m, i = j + m /\ fs[m]? = some f
 | [], j, i, h => by cases h
 | g :: r, j, i, h => by
   unfold d2D at h
   cases hb : GR f g with
   | true =>
     rw [hb, cond_true] at h
     injection h with h
     exact ⟨0, h.symm, by simp [GE hb]⟩
   | false =>
     rw [hb, cond_false] at h
     obtain ⟨m, h1, h2⟩ := b6k h
     exact ⟨m + 1, by omega, by simpa using h2⟩
theorem c4L {k : Nat} {old x : D} {v : GK} (hx : RepD E g w dead x v) : RepD E g w dead (fnC k old x) v := by
 unfold fnC
 split
 . split
   . cases hx; exact .fn _ _ _ _ _ (.inl ⟨rfl, rfl⟩)
   . rename_i i gs k1 s1
     split
     . rename_i f
       split
       . rename_i j hj
         rw [Hk]
         split
         . rename_i hi
           have hi : i = 1 := by simpa using hi
           subst hi
           obtain ⟨m, h1, h2⟩ := b6k hj
           cases hx with
           | fn _ _ _ _ _ h =>
             rcases h with ⟨h0, _⟩ | ⟨a, f', h3, h4, h5, h6⟩
             . cases h0
             . have : a = 0 := by omega
               subst this
               simp at h3
               subst h3
               exact .fn _ _ _ _ _ (.inr ⟨j, f, by rw [h1, HE]; exact h2, rfl, h5, h6⟩)
         . exact hx
       . exact hx
     . exact hx
   . exact hx
 . split
   . split
     . split
       . cases hx with | v x a v h ha => exact .v _ _ _ h trivial
       . exact hx
     . exact hx
   . exact hx
 . exact hx
theorem a9S (k : Nat) : ∀ (os ds : List D), (c2e k os ds).length = ds.length
 | [], ds => by cases ds <;> rfl
 | _ :: _, [] => rfl
 | o :: os, d :: ds => by simp [c2e, a9S k os ds]
theorem c0C (k : Nat) : ∀ (os ds : List D) (us : Nat -> GK), (∀ (i : Nat) y, ds[i]? = some y -> RepD E g w dead y (us i)) -> ∀ (i : Nat) y, (c2e k os ds)[i]? = some y -> RepD E g w dead y (us i)
 | [], ds, us, h, i, y, hy => h i y (by cases ds <;> exact hy)
 | _ :: _, [], us, h, i, y, hy => by simp [c2e] at hy
 | o :: os, d :: ds, us, h, 0, y, hy => by simp [c2e] at hy; subst hy; exact c4L (h 0 d rfl)
 | o :: os, d :: ds, us, h, i + 1, y, hy => c0C k os ds (fun j => us (j + 1)) (fun j z hz => h (j + 1) z (by simpa using hz)) i y (by simpa [c2e] using hy)
theorem c3K {m : Mem} {a x : D} {v : GK} (hx : RepD E g w dead x v) : RepD E g w dead (b3D m a x) v := by
 unfold b3D
 split
 . split
   . rw [Hk]
     split
     . split
       . cases hx with
         | agg ds us hn hr => exact .agg _ us (by rw [a9S]; exact hn) (c0C _ _ _ _ hr)
       . exact c4L hx
     . exact hx
   . exact hx
 . exact hx
theorem b6j {n : Int} : ∀ {es : List Mg} {ks : List Int}, es.map (fun e => (e.key, e.val)) = ks.map (fun k => (JW .i64 k, OJ true)) -> ∀ i, (∃ j, La (.int .i64) (.int .i64 n) es i = some (some (j, .bool true)) /\ a5v n ks = true) ∨ (La (.int .i64) (.int .i64 n) es i = some none /\ a5v n ks = false)
 | [], [], _, i => .inr ⟨rfl, rfl⟩
 | [], _ :: _, h, i => by simp at h
 | _ :: _, [], h, i => by simp at h
 | e :: es, k :: ks, h, i => by
   simp only [List.map_cons, List.cons.injEq, Prod.mk.injEq] at h
   obtain ⟨⟨h1, h2⟩, h3⟩ := h
   unfold La a5v
   rw [h1, h2]
   by_cases he : n = k
   . subst he
     exact .inl ⟨i, by simp [LY], by simp⟩
   . have e1 : (n == k) = false := by simpa using he
     rcases b6j (n := n) h3 (i + 1) with ⟨j, h4, h5⟩ | ⟨h4, h5⟩
     . exact .inl ⟨j, by simp [LY, e1, h4], by simp [h5]⟩
     . exact .inr ⟨by simp [LY, e1, h4], by simp [he, h5]⟩
theorem b4B (hT : p7 P T) (t : GF) (x i : D) (vx vi : GK) (hx : RepD E g w dead x vx) (hi : RepD E g w dead i vi) (d : D) (h : a5a T t x i some = some d) :
 ∃ v, (Mm t vx vi false).run P w = .ok v w /\ RepD E g w dead d v := by
 unfold a5a at h
 split at h
 . rename_i ty ks a n a' hty
   split at h
   . rename_i kt et o7
     split at h
     . rename_i tk te htk hte
       split at h
       . rename_i hk hv
         rcases g5 h with ⟨_, h⟩ | ⟨J7, h⟩
         . cases h
         . injection h with h; subst h
           obtain ⟨rfl, _⟩ := hi.int_inv
           cases hx with
           | v _ _ _ hxx _ =>
             cases hxx with
             | mset _ b es clock hb hw hm =>
               have hd := (hT _ _ hty).desc
               rw [o7] at hd
               have hkd := (hT _ _ htk).desc
               rw [hk] at hkd
               obtain ⟨ii, hi1, hi2, _⟩ := (hT _ _ hte).info
               have hz : te.zero = .bool false := by simp [Ty.zero, J7, hv, zeroV]
               have hzv : (zeroValue et).run P w = .ok (.bool false) w := by simp [zeroValue, typeInfo, hi1, hi2, hz]
               refine ⟨.bool (a5v n ks), ?_, RepD.bool_ _⟩
               rcases b6j (n := n) hm 0 with ⟨j, h4, h5⟩ | ⟨h4, h5⟩
               . simp [Mm, Hc hd, Km hw, Kx hkd (show JP (.int .i64) (.int .i64 n) from by simp [JP]), KF hkd h4, h5, LK]
               . simp [Mm, Hc hd, Km hw, Kx hkd (show JP (.int .i64) (.int .i64 n) from by simp [JP]), KF hkd h4, h5, hzv, LK]
       . cases h
     . cases h
   . cases h
 . cases h
theorem c7c (hT : p7 P T) {m : Mem} (hh : Here T E g w m) {slots : List D} {a : Act} (hs : RepS E g w dead slots a) (o : Oper) {K : D -> Mem -> List Pos -> Option R} {r : R}
 (h : opK T (o.dst.getD 0) o.type slots o.op m dead K = some r) : ∃ d m' dead', Res P T E g w m dead o a d m' dead' /\ K d m' dead' = some r := by
 generalize hop : o.op = op at h
 cases op <;> simp only [opK, E7, reduceCtorEq] at h
 case move x => exact ⟨_, _, _, .pure hh (by simp [execOp, hop]) (hs.ev _ _), h⟩
 case assign x => exact ⟨_, _, _, .pure hh (by simp [execOp, hop]) (hs.ev _ _), h⟩
 case pick c x y =>
  have hc := hs.ev (T := T) 0 c
  generalize hd : C9 T slots 0 c = dc at h hc
  cases dc <;> simp only [reduceCtorEq] at h
  rename_i x0 a0
  cases x0 <;> simp only [V.unBool, reduceCtorEq] at h
  rename_i t
  have hb := hc.bool_inv
  cases t
  . exact ⟨_, _, _, .pure hh (by simp [execOp, hop, hb, asBool]) (hs.ev _ _), h⟩
  . exact ⟨_, _, _, .pure hh (by simp [execOp, hop, hb, asBool]) (hs.ev _ _), h⟩
 case alloc t =>
  split at h
  case h_2 => cases h
  rename_i ty hty
  have hok := hT _ _ hty
  obtain ⟨i, hi, hz, hsi, hby⟩ := hok.info
  unfold a1C at h
  split at h
  case h_2 => cases h
  rename_i fr out
  split at h
  case h_2 => cases h
  rename_i hfr
  have hzr := a7N (E := E) (g := g) (w := w) (dead := dead) hok
  obtain ⟨cs, dead', g1, h1, ho⟩ := a0s (E := E) 0 (o.dst.getD 0) (Hl _) ty.zeroDs ty.zero.cells.toList 0 g dead _ r (by rw [HZ]; exact hzr.1) (fun j y hj => by simpa using hzr.2 j y hj) hh.mem h
  rw [B9] at h1
  obtain ⟨g', E', k1, k2, k3, k4, k5⟩ := a6C hh (o.dst.getD 0) hfr t ty.zero.cells ho
  exact ⟨_, _, _, ⟨_, _, g', E', .inl (by simp [execOp, hop, Instr.alloc, zeroValue, typeInfo, hi, hz, newVar, newRow]), k1, k2, k3, k4⟩, h1⟩
 case box t x =>
  split at h
  case h_2 => cases h
  rename_i ty hty
  unfold a1C at h
  split at h
  case h_2 => cases h
  rename_i fr out
  split at h
  case h_2 => cases h
  rename_i hfr
  have hx := hs.ev (T := T) t x
  -- every cell is one cell
  have Q4 : ∀ (ds : List D) (k : Nat) (dead : List Pos) (K : List D -> List Pos -> Option R) (r : R), N5 k ds dead K = some r -> ds.all D.one = true := by
   intro ds
   induction ds with
   | nil => intro _ _ _ _ _; rfl
   | cons d ds ih =>
     intro k dead K r h
     unfold N5 at h
     rcases g5 h with ⟨h1, h⟩ | ⟨_, h⟩
     . have d0T : ds.all D.one = true := by
        split at h
        . simp only [W4] at h; exact ih _ _ _ _ h
        . split at h
          . simp only [forceD_eq] at h; exact ih _ _ _ _ h
          . cases h
       rw [Nz, h1, d0T]; rfl
     . cases h
  have hcr := a8u hx (Q4 _ _ _ _ _ h)
  obtain ⟨cs, dead', g1, h1, ho⟩ := a0s (E := E) 0 (o.dst.getD 0) (Hl _) _ (a.eval x).cells.toList 0 g dead _ r (by rw [HZ]; exact hcr.1) (fun j y hj => by simpa using hcr.2 j y hj) hh.mem h
  rw [B9] at h1
  obtain ⟨g', E', k1, k2, k3, k4, k5⟩ := a6C hh (o.dst.getD 0) hfr t (a.eval x).cells ho
  exact ⟨_, _, _, ⟨_, _, g', E', .inl (by simp [execOp, hop, Instr.box, newVar, newRow]), k1, k2, k3, k4⟩, h1⟩
 case build t parts =>
  obtain ⟨ds, h1, h2⟩ := a3a hs _ _ _ h
  rw [← c0c] at h2
  obtain ⟨d, h3, h4⟩ := bind_some h2
  obtain ⟨v, h5, h6⟩ := b7i (P := P) hT t ds (parts.map fun p => (p.1, a.eval p.2)) (by simpa using h1) d h3
  exact ⟨_, _, _, .pure hh (by simp [execOp, hop, h5]) h6, h4⟩
 case buildSlice t len parts =>
  obtain ⟨ds, h1, h2⟩ := a3a hs _ _ _ h
  obtain ⟨v, w', p, d, h5, h6, h7, h8⟩ := a7h (P := P) hT hh (o.dst.getD 0) t len ds (parts.map fun p => (p.1, a.eval p.2)) (by simpa using h1) h2
  exact ⟨_, _, _, Res.grow hh h6 (GB _) p (by simp [execOp, hop, h5]) h7, h8⟩
 case load t x =>
  rw [← b8p] at h
  obtain ⟨d, h3, h4⟩ := bind_some h
  obtain ⟨v, h5, h6⟩ := a9R (P := P) hT t _ _ (hs.ev 0 x) hh.mem d h3
  exact ⟨_, _, _, .pure hh (by simp [execOp, hop, h5]) h6, h4⟩
 case store t x y =>
  have hx := hs.ev (T := T) 0 x
  have hy := c3K (m := m) (a := C9 T slots 0 x) (hs.ev (T := T) t y)
  simp only [forceD_eq] at h
  generalize b3D m (C9 T slots 0 x) (C9 T slots t y) = dy at h hy
  unfold b6H at h
  split at h
  case h_2 => cases h
  rename_i ty hty
  have hok := hT _ _ hty
  obtain ⟨i, hi, hz, hsi, hby⟩ := hok.info
  split at h
  case h_2 => cases h
  rename_i k s off heq
  rw [heq] at hx
  split at h
  case h_2 => cases h
  rename_i b hb
  rcases g5 h with ⟨hc, h⟩ | ⟨_, h⟩
  case inr => cases h
  simp only [GP] at hc
  have hc1 := GE hc.1
  have hc2 := Ha hc.2
  have Q4 : ∀ (ds : List D) (k : Nat) (dead : List Pos) (K : List D -> List Pos -> Option R) (r : R), N5 k ds dead K = some r -> ds.all D.one = true := by
   intro ds
   induction ds with
   | nil => intro _ _ _ _ _; rfl
   | cons d ds ih =>
     intro k dead K r h
     unfold N5 at h
     rcases g5 h with ⟨h1, h⟩ | ⟨_, h⟩
     . have d0T : ds.all D.one = true := by
        split at h
        . simp only [W4] at h; exact ih _ _ _ _ h
        . split at h
          . simp only [forceD_eq] at h; exact ih _ _ _ _ h
          . cases h
       rw [Nz, h1, d0T]; rfl
     . cases h
  have a0z := Q4 _ _ _ _ _ h
  have hcr := a8u hy a0z
  generalize hev : a.eval x = vx at hx
  cases hx with
  | ptr k s off g1 g2 =>
    obtain ⟨cs, dead', g1', h1, ho⟩ := a0s (E := E) k s g1 _ (a.eval y).cells.toList off g dead _ r (by rw [HZ]; exact hcr.1) (fun j z hj => by simpa using hcr.2 j z hj) hh.mem h
    simp only [a6u, B9] at h1
    have hul : (a.eval y).cells.toList.length = ty.size := by rw [HZ, hcr.1, hc1]
    obtain ⟨w', g', E', k0, k1, k2, k3, k4⟩ := c1p (P := P) hh hb (a.eval y).cells.toList ho (by rw [hul]; exact hc2) (fun u hu => by
     obtain ⟨j, hj⟩ := JC.1 hu
     have hjl := (GD.1 hj).1
     rw [HZ, hcr.1] at hjl
     have hd := GH hjl
     have h9 := hcr.2 j _ hd
     have : (a.eval y).cells.getD j undef = u := by
      rw [GL, ← Array.getElem?_toList, hj]; rfl
     rw [this] at h9
     exact h9.one_ (Ib.1 a0z _ (IC hd)))
    refine ⟨.any, _, _, ⟨undef, w', g', E', .inr ⟨?_, rfl⟩, k1, k2, .any _, k3⟩, h1⟩
    simp only [execOp, hop, Instr.storeAt, GY, hev, Jl, IG, GT, storeVar, hok.size (w := w)]
    rw [if_neg (by rw [← hc1, ← hcr.1]; simp)]
    simp [k0]
 case nilCheck x =>
  have hx := hs.ev (T := T) o.type x
  generalize hd : C9 T slots o.type x = dx at h hx
  cases dx <;> simp only [reduceCtorEq] at h
  all_goals
   refine ⟨_, _, _, .pure hh (v := a.eval x) ?_ hx, h⟩
   generalize hv : a.eval x = v at hx
   cases hx
   simp [execOp, hop, hv]
 case binOp op xt x y yt =>
  rw [← d0g] at h
  obtain ⟨d, h3, h4⟩ := bind_some h
  obtain ⟨v, h5, h6⟩ := c4b (P := P) hT op xt x y _ _ _ _ (hs.ev xt x) (hs.ev yt y) d h3
  exact ⟨_, _, _, .pure hh (by simp only [execOp, hop]; rw [GY, h5]; rfl) h6, h4⟩
 case unOp op xt x =>
  rw [← d3C] at h
  obtain ⟨d, h3, h4⟩ := bind_some h
  obtain ⟨v, h5, h6⟩ := c6E (P := P) op xt _ _ (hs.ev xt x) d h3
  exact ⟨_, _, _, .pure hh (by simp [execOp, hop, h5]) h6, h4⟩
 case convert src t x =>
  rw [← c5p] at h
  obtain ⟨d, h3, h4⟩ := bind_some h
  obtain ⟨v, w', h5, h6, h7⟩ := b9B (P := P) hT src t _ _ (hs.ev src x) d h3
  exact ⟨_, _, _, Res.grow hh h6 (GB _) _ (by simp [execOp, hop, h5]) h7, h4⟩
 case makeInterface t x =>
  have hx := hs.ev (T := T) t x
  split at h
  case h_2 => cases h
  rename_i ty y hty hy
  have hv := d1S hx hy
  have hd := (hT _ _ hty).desc
  split at h
  . cases h
  . rename_i hni
    refine ⟨_, _, _, .pure hh (v := .iface t (a.eval x)) ?_ (.v (.iface t y) .no _ (.iface t y _ hv) trivial), h⟩
    simp only [execOp, hop, Instr.makeInterface, GY, Hc hd, GT]
    cases hdd : ty.desc <;> simp_all
 case makeFunc fn first caps =>
  cases fn <;> simp only [reduceCtorEq] at h
  rename_i f
  split at h
  case h_3 => cases h
  case h_2 z hf =>
   split at h
   case h_2 => cases h
   rename_i hcp
   have hcp' : caps = #[] := Kd.1 hcp
   have hf' : first = #[z] := by apply Nd; rw [hf]
   subst hcp' hf'
   have hz := hs.ev (T := T) 0 z
   generalize hd : C9 T slots 0 z = dz at h hz
   cases dz <;> simp only [reduceCtorEq] at h
   rename_i k s off
   rcases g5 h with ⟨h0, h⟩ | ⟨_, h⟩
   case inr => cases h
   have h0 := GE h0
   subst h0
   generalize hv : a.eval z = vz at hz
   cases hz with
   | ptr k s o g1 g2 =>
     exact ⟨_, _, _, .pure hh (v := .func (.func f) #[.pointer (some ⟨g.J (E.d - k) s, 0, Option.none⟩)] #[]) (by simp [execOp, hop, Nh, hv]) (.fn _ _ _ _ _ (.inr ⟨0, f, rfl, rfl, ⟨g1, g2⟩, rfl⟩)), h⟩
  rename_i hf
  have hf' : first = #[] := Kd.1 hf
  subst hf'
  obtain ⟨ds, h1, h2, h3⟩ := a9Z hs _ _ _ h
  exact ⟨_, _, _, .pure hh (v := .func (.func f) #[] (caps.map a.eval)) (by simp [execOp, hop, Nh]) (.clos f ds _ (by simpa using h1.symm) fun k y hk => by simpa using h2 k y hk), h3⟩
 case makeSlice t l c =>
  obtain ⟨v, w', p, d, h5, h6, h7, h8⟩ := a9e (P := P) hT hh (o.dst.getD 0) t _ _ _ _ (hs.ev 0 l) (hs.ev 0 c) h
  exact ⟨_, _, _, Res.grow hh h6 (GB _) p (by simp [execOp, hop, h5]) h7, h8⟩
 case lookup t x i ok =>
  cases ok <;> simp only [reduceCtorEq] at h
  rw [← b5f] at h
  obtain ⟨d, h3, h4⟩ := bind_some h
  obtain ⟨v, h5, h6⟩ := b4B (P := P) hT t _ _ _ _ (hs.ev t x) (hs.ev 0 i) d h3
  exact ⟨_, _, _, .pure hh (by simp [execOp, hop, h5]) h6, h4⟩
 case slice t x lo hi mx =>
  obtain ⟨dlo, h1, h⟩ := a8J hs lo _ _ h
  obtain ⟨dhi, h2, h⟩ := a8J hs hi _ _ h
  obtain ⟨dmx, h3, h⟩ := a8J hs mx _ _ h
  rw [← b9v] at h
  obtain ⟨d, h4, h5⟩ := bind_some h
  obtain ⟨v, h6, h7⟩ := b8o (P := P) hh.sz hT t _ _ _ _ _ _ _ _ (hs.ev t x) h1 h2 h3 d h4
  exact ⟨_, _, _, .pure hh (by simp [execOp, hop, h6]) h7, h5⟩
 case fieldAddr t x f =>
  rw [← a6z] at h
  obtain ⟨d, h3, h4⟩ := bind_some h
  obtain ⟨v, h5, h6⟩ := a8V (P := P) hT t _ f _ (hs.ev 0 x) d h3
  exact ⟨_, _, _, .pure hh (by simp [execOp, hop, h5]) h6, h4⟩
 case field t x f =>
  rw [← b9f] at h
  obtain ⟨d, h3, h4⟩ := bind_some h
  obtain ⟨v, h5, h6⟩ := b7P (P := P) hT t _ f _ (hs.ev t x) d h3
  exact ⟨_, _, _, .pure hh (by simp [execOp, hop, h5]) h6, h4⟩
 case indexAddr t x i =>
  rw [← a6M] at h
  obtain ⟨d, h3, h4⟩ := bind_some h
  obtain ⟨v, h5, h6⟩ := a9g (P := P) hh.sz hT t _ _ _ _ (hs.ev t x) (hs.ev 0 i) d h3
  exact ⟨_, _, _, .pure hh (by simp [execOp, hop, h5]) h6, h4⟩
 case index t x i =>
  rw [← c1C] at h
  obtain ⟨d, h3, h4⟩ := bind_some h
  obtain ⟨v, h5, h6⟩ := b7C (P := P) hT t _ _ _ _ (hs.ev t x) (hs.ev 0 i) d h3
  exact ⟨_, _, _, .pure hh (by simp [execOp, hop, h5]) h6, h4⟩
 case extract x i =>
  have hx := hs.ev (T := T) 0 x
  generalize hd : C9 T slots 0 x = dx at h hx
  cases dx <;> simp only [reduceCtorEq] at h
  rename_i ds
  split at h
  case h_2 => cases h
  rename_i d hdi
  rw [forceD_eq] at h
  generalize hv : a.eval x = v at hx
  cases hx with
  | tup ds us hn hr =>
    have hi := (GD.1 hdi).1
    refine ⟨_, _, _, .pure hh (v := us.getD i undef) ?_ (hr i d hdi).plain_, h⟩
    have hu : us[i]? = some (us.getD i undef) := by simp [GL, (by omega : i < us.size)]
    simp only [execOp, hop, hv, Instr.extract, GY, hu]
    rfl
 case call c =>
  obtain ⟨callee, args, ats⟩ := c
  obtain ⟨args⟩ := args
  obtain ⟨ats⟩ := ats
  simp only at h
  split at h
  . rename_i x t
    rw [← c9w] at h
    obtain ⟨d, h3, h4⟩ := bind_some h
    obtain ⟨v, h5, h6⟩ := c3c (P := P) hT t o.type _ _ (hs.ev t x) d h3
    exact ⟨_, _, _, .pure hh (by simp [execOp, hop, resolve, invoke, builtin, h5]) h6, h4⟩
  . rename_i s x t t2
    obtain ⟨v, w', g', E', d, m', dead', h5, h6, h7, h8, h9, h10, h11⟩ := b4d (P := P) hT hh (o.dst.getD 0) t t2 o.type _ _ _ _ (hs.ev t s) (hs.ev t2 x) h
    exact ⟨_, _, _, ⟨v, w', g', E', .inl (by simp [execOp, hop, resolve, invoke, builtin, h5]), h7, h8, h9, h10⟩, h11⟩
  . rename_i x y t u
    rw [← a5c] at h
    obtain ⟨d, h3, h4⟩ := bind_some h
    have hx := hs.ev (T := T) t x
    have hy := hs.ev (T := T) u y
    unfold a3A at h3
    split at h3
    case h_2 => cases h3
    rename_i k n a1 k' n' a2 heq
    injection heq with e1 heq
    injection heq with e2 _
    rw [e1] at hx
    rw [e2] at hy
    split at h3
    case isFalse => cases h3
    rename_i hk
    subst hk
    injection h3 with h3; subst h3
    obtain ⟨hx1, hx2⟩ := hx.int_inv
    obtain ⟨hy1, hy2⟩ := hy.int_inv
    refine ⟨_, _, _, .pure hh (v := .int k (max n n')) ?_ (RepD.int_ (by show k.min <= max n n' /\ max n n' <= k.max; omega)), h4⟩
    simp [execOp, hop, resolve, invoke, builtin, hx1, hy1, run_max_int2]
    split <;> omega
  . rename_i x y t u
    rw [← a5c] at h
    obtain ⟨d, h3, h4⟩ := bind_some h
    have hx := hs.ev (T := T) t x
    have hy := hs.ev (T := T) u y
    unfold a3A at h3
    split at h3
    case h_2 => cases h3
    rename_i k n a1 k' n' a2 heq
    injection heq with e1 heq
    injection heq with e2 _
    rw [e1] at hx
    rw [e2] at hy
    split at h3
    case isFalse => cases h3
    rename_i hk
    subst hk
    injection h3 with h3; subst h3
    obtain ⟨hx1, hx2⟩ := hx.int_inv
    obtain ⟨hy1, hy2⟩ := hy.int_inv
    refine ⟨_, _, _, .pure hh (v := .int k (min n n')) ?_ (RepD.int_ (by show k.min <= min n n' /\ min n n' <= k.max; omega)), h4⟩
    simp [execOp, hop, resolve, invoke, builtin, hx1, hy1, run_min_int2]
    split <;> omega
  . cases h
end
end En
end Go.Proofs.YtfafflepalgcnaaGreat
