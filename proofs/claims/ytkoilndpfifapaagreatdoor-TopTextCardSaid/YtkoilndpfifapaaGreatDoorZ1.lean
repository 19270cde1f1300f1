/- Texts. -/
import Derived.WalkKit
import Derived.Below
import Derived.Laws.OwnMore
import Derived.Deep.Draws
import Derived.Maps.AppendAt
import Derived.Deep.MidRow
import Derived.WalkSpells
import Derived.WalkLawsBesides
import Derived.Lib.Space
import Derived.Lib.ItoaNum
import Derived.Laws.StructEq
import Derived.Laws.Tables
import Derived.Laws.IdiomStrings
import Derived.Laws.CopyRow
import Derived.Lib.AppendStr
import Derived.Great.BuildSlice
import Derived.Laws.MakeOwn

set_option linter.unusedSimpArgs false
set_option linter.unusedVariables false
set_option linter.unusedSectionVars false
open Array renaming getD_eq_getD_getElem? → Ge, getElem?_append_left → GD, length_toList → Hl, size_append → Iy, getElem?_append_right → JQ, eq_empty_of_size_eq_zero → IE
open BitVec renaming ofInt → GT
open Bool renaming cond_eq_ite → GF, eq_iff_iff → JI, and_eq_true → FT, not_eq_true' → Ha, or_eq_false_iff → GI, not_eq_false' → Jj
open ByteArray renaming size → Hx
open Go renaming IntKind → HN, TypeId → FP, FuncId → Gv, Value → FX, Operand → GK, BinOp → Ln, Field → Kt, World → Gc, Program → Gu, run_underlying → Gp, run_eqGuard_agg → Mn, run_len_slice → MQ, run_sliceBound → JX, run_sliceAt_slice → Kg, run_slice_any → Lr, run_indexAt_slice → LK, cell_of_row → GA, grownCap_ge → HV, grownCap_le_maxLen → HG, heap_alloc_new → Hf, setRow_heap → Kh, setRow_other → Ix, setRow_size → Ki, TypeInfo → La, size_zeroCells → JY, growslice_fits → MA, size_madeCells → IZ
open Go.Addr renaming add_mid → HU
open Go.Builtin renaming len_ → Np, append_ → GM, lenOf → IT, firstCells → IN, zeroCells → Ig
open Go.ByteArray renaming toList_eq → JK
open Go.Instr renaming sliceBounds → If, sliceBound → LW, indexAt → Ls, sureAddr → Io, field → NP, index → NQ, fieldAt → Lt, loadAt → Ju, fill → KI, buildSlice → Ky
open Go.IntKind renaming min → Jm, max → Jn, bits → JO, signed → IX, i64 → FK, u8 → FY
open Go.Lib renaming strCells → Jc
open Go.Op renaming bytesLess → IK, intArith → KY, intBits → KG, intCmp → Ku, stringOp → Jo, equalIn → IM, eqFields → Mf, equal → NN, unary → My
open Go.Result renaming andThen_ok → Gg
open Go.Sem renaming run_bind → Gq, run_pure → Hj
open Go.Value renaming int → Ib, cells → Iv
open Int renaming le_of_lt → KF, ediv_nonneg → Ml, le_total → Nk, tmod_nonneg → Mm, lt_or_gt_of_ne → Lz, tmod_neg → Nl, neg_neg → NM, tmod_eq_emod_of_nonneg → Hw, not_lt → Oy, toNat_natCast → GE
open List renaming replicate → GX, getD_eq_getElem?_getD → FV, getElem?_take → He, getElem?_drop → Hy, getElem?_eq_some_iff → FN, all_eq_true → Hg, getElem?_take_of_lt → Jf, length_take → GU, length_drop → GZ, drop_drop → IC, mem_cons_of_mem → GQ, drop_zero → KZ, take_length → Kv, flatMap_cons → Hb, getElem?_append_right → Gk, flatMap_append → JL, getElem?_append_left → Gh, mem_of_mem_take → Iw, mem_cons → GH, getElem?_eq_getElem → FQ, mem_of_getElem? → Gb, range → OD, getElem?_map → Gn, length_cons → FO, getElem?_cons_succ → Hv, foldl_cons → Mo, mem_append → Hc, size_toArray → HS, length_append → FU, getElem?_toArray → Hk, append_assoc → Gr, mem_iff_getElem? → IV, getElem?_eq_none → Iq, replicate_succ → JM
open Nat renaming beq → FZ, blt → GS, ble → GY, le_of_ble_eq_true → Gm, ble_eq_true_of_le → Ia, le_refl → FW, le_trans → IL, lt_of_lt_of_le → Ji, eq_of_beq_eq_true → FM, zero_le → Hq, zero_add → GL, add_mul → Hh, add_assoc → Hu, lt_or_ge → Hi, sub_zero → JP, eq_zero_or_pos → GJ, le_mul_of_pos_right → ID, mul_pos → NS, zero_mul → KJ, not_lt_zero → Is, mul_le_mul_right → Ic, mul_one → HW, one_mul → NT
open Option renaming map_eq_some_iff → Gl, bind_some → GV, bind_none → Hm
open Option.some renaming injEq → Gy
open UInt8 renaming ofNat → FR, toNat_lt → Jt
namespace Go.Proofs.YtkoilndpfifapaaGreatDoor
noncomputable section
namespace En
open Go
inductive CK where
 | int (k : HN)
 | bool
 | str
 | bytes (e : FP)
 | slc (e : FP)
 | ptr
 | iface
 | func
 | bld
 | map
structure Ty where
 desc : TypeDesc
 cks : List CK
 nbytes : Nat
 eqb : Bool := false
def Ty.row (t : Ty) : Bool := match t.desc with | .struct _ => true | .array _ _ => true | _ => false
def Ty.size (t : Ty) : Nat := t.cks.length
inductive V where
 | bool (b : Bool)
 | int (k : HN) (n : Int)
 | str (s : List UInt8)
 | bytes (s : List UInt8)
 | sl (e : FP) (xs : List V)
 | agg (cs : List V)
 | iface (t : FP) (v : V)
 | nilI
 | mset (ks : List Int)
 | rowI (e : FP) (xs : List V)
 | nilM
 deriving Inhabited
inductive Pos where
 | slot (s : Nat)
 | cell (k s i : Nat)
 deriving DecidableEq
def Pos.eqb : Pos -> Pos -> Bool
 | .slot a, .slot b => FZ a b
 | .cell a b c, .cell d e f => FZ a d && (FZ b e && FZ c f)
 | _, _ => false
def O0 (p : Pos) : List Pos -> Bool
 | [] => false
 | q :: r => cond (p.eqb q) true (O0 p r)
inductive Att where
 | no
 | nil (e : FP)
 | own (p : Pos) (e : FP)
inductive D where
 | v (x : V) (a : Att)
 | ptr (k s o : Nat)
 | nilp
 | eptr (cs : List V) (o : Nat)
 | clos (f : Gv) (caps : List D)
 | nilF
 | fn (n : Int) (fs : List Gv) (k s : Nat)
 | agg (ds : List D)
 | tup (ds : List D)
 | bld
 | any
 deriving Inhabited
structure Bx where
 ty : FP
 cells : List D
abbrev Fr := List (Nat × Bx)
abbrev Mem := List Fr
structure St where
 slots : List D
 mem : Mem
 dead : List Pos
def G2 (s : Nat) : Fr -> Option Bx
 | [] => none
 | (s', b) :: r => cond (FZ s s') (some b) (G2 s r)
def P2 (s : Nat) (b : Bx) : Fr -> Fr
 | [] => [(s, b)]
 | (s', b') :: r => cond (FZ s s') ((s, b) :: r) (cond (GS s s') ((s, b) :: (s', b') :: r) ((s', b') :: P2 s b r))
def Mem.box? : Mem -> Nat -> Nat -> Option Bx
 | [], _, _ => none
 | fr :: _, 0, s => G2 s fr
 | _ :: m, k + 1, s => Mem.box? m k s
def Mem.setBox : Mem -> Nat -> Nat -> Bx -> Mem
 | [], _, _, _ => []
 | fr :: m, 0, s, b => P2 s b fr :: m
 | fr :: m, k + 1, s, b => fr :: Mem.setBox m k s b
def b6v : CK -> D
 | .int k => .v (.int k 0) .no
 | .bool => .v (.bool false) .no
 | .str => .v (.str []) .no
 | .bytes e => .v (.bytes []) (.nil e)
 | .slc e => .v (.sl e []) (.nil e)
 | .ptr => .nilp
 | .iface => .v .nilI .no
 | .func => .nilF
 | .bld => .bld
 | .map => .v .nilM .no
def zeroV : CK -> FX
 | .int k => .int k 0
 | .bool => .bool false
 | .str => .string ⟨#[]⟩
 | .bytes _ => .slice none 0 0
 | .slc _ => .slice none 0 0
 | .ptr => .pointer none
 | .iface => .nilIface
 | .func => .nilFunc
 | .bld => .pointer none
 | .map => .map none
def Ty.zero (t : Ty) : FX := if t.row then .agg (t.cks.map zeroV).toArray else zeroV (t.cks.headD .bool)
def Ty.zeroDs (t : Ty) : List D := t.cks.map b6v
def Att.shift (k : Nat) : Att -> Att
 | .own (.cell k' s i) e => .own (.cell (k' + k) s i) e
 | .own (.slot _) _ => .no
 | a => a
mutual
def D.shift (k : Nat) : D -> D
 | .v x a => .v x (a.shift k)
 | .ptr k' s o => .ptr (k' + k) s o
 | .clos f caps => .clos f (D.shifts k caps)
 | .agg ds => .agg (D.shifts k ds)
 | .tup ds => .tup (D.shifts k ds)
 | .nilp => .nilp
 | .eptr cs o => .eptr cs o
 | .nilF => .nilF
 | .fn n fs k' s => .fn n fs (k' + k) s
 | .bld => .bld
 | .any => .any
def D.shifts (k : Nat) : List D -> List D
 | [] => []
 | d :: ds => d.shift k :: D.shifts k ds
end
abbrev dI (n : Int) : D := .v (.int .i64 n) .no
abbrev dB (b : Bool) : D := .v (.bool b) .no
abbrev dY (b : List UInt8) : D := .v (.bytes b) .no
abbrev LB := List UInt8
end En
namespace En
open Go
variable {R : Type}
def br (c : Bool) (x y : Option R) : Option R := cond c x y
def V.unInt (k : HN) (x : V) (K : Int -> Option R) : Option R := match x with | .int k' n => if k' = k then K n else none | _ => none
def V.unBool (x : V) (K : Bool -> Option R) : Option R := match x with | .bool b => K b | _ => none
def V.unStr (x : V) (K : List UInt8 -> Option R) : Option R := match x with | .str b => K b | _ => none
def V.unBytes (x : V) (K : List UInt8 -> Option R) : Option R := match x with | .bytes b => K b | _ => none
def V.unSl (e : FP) (x : V) (K : List V -> Option R) : Option R := match x with | .sl e' b => cond (FZ e' e) (K b) none | _ => none
def V.unAgg (x : V) (K : List V -> Option R) : Option R := match x with | .agg b => K b | _ => none
def V.unI (x : V) (K : V -> Option R) : Option R := match x with | .iface t v => K (.iface t v) | .nilI => K .nilI | _ => none
def e9 (xs : List V) (K : V -> List V -> Option R) : Option R := match xs with | x :: r => K x r | [] => none
def D2 (xs : List V) (K : Option R) : Option R := match xs with | [] => K | _ :: _ => none
def c4o : CK -> V -> (V -> Option R) -> Option R
 | .int k, x, K => x.unInt k fun n => K (.int k n)
 | .bool, x, K => x.unBool fun b => K (.bool b)
 | .str, x, K => x.unStr fun b => K (.str b)
 | .bytes _, x, K => x.unBytes fun b => K (.bytes b)
 | .slc e, x, K => x.unSl e fun b => K (.sl e b)
 | .iface, x, K => x.unI fun b => K b
 | _, _, _ => none
def b3y : List CK -> List V -> (List V -> Option R) -> Option R
 | [], xs, K => D2 xs (K [])
 | ck :: cks, xs, K => e9 xs fun x r => c4o ck x fun y => b3y cks r fun ys => K (y :: ys)
def fit (ty : Ty) (x : V) (K : List V -> Option R) : Option R :=
 match ty.row with
 | true => x.unAgg fun cs => b3y ty.cks cs K
 | false => c4o (ty.cks.headD .ptr) x fun y => K [y]
def at? {α : Type} (xs : List α) (i : Nat) (K : α -> Option R) : Option R := match xs[i]? with | some x => K x | none => none
def a0p (i : Int) (j : Nat) : Nat -> (Nat -> Option R) -> Option R
 | 0, _ => none
 | m + 1, K => br (decide (i = (j : Int))) (K j) (a0p i (j + 1) m K)
def check (b : Bool) (K : Option R) : Option R := br b K none
def V.cells : V -> List V
 | .agg cs => cs
 | x => [x]
def V.one : V -> Bool
 | .agg _ => false
 | _ => true
def b4a (n : Nat) (x : V) : Bool := x.cells.length == n && x.cells.all V.one
def b8A (a : Att) (K : Att -> Option R) : Option R := match a with | .no => K .no | .nil e => K (.nil e) | .own p e => K (.own p e)
mutual
def forceD (d : D) (K : D -> Option R) : Option R :=
 match d with
 | .v x a => b8A a fun a => K (.v x a)
 | .ptr k s o => K (.ptr k s o)
 | .nilp => K .nilp
 | .eptr cs o => K (.eptr cs o)
 | .clos f caps => forceL caps fun caps => K (.clos f caps)
 | .nilF => K .nilF
 | .fn n fs k s => K (.fn n fs k s)
 | .bld => K .bld
 | .agg ds => forceL ds fun ds => K (.agg ds)
 | .tup ds => forceL ds fun ds => K (.tup ds)
 | .any => K .any
def forceL (ds : List D) (K : List D -> Option R) : Option R :=
 match ds with
 | [] => K []
 | d :: r => forceD d fun d => forceL r fun r => K (d :: r)
end
theorem U6 (a : Att) (K : Att -> Option R) : b8A a K = K a := by cases a <;> rfl
mutual
theorem forceD_eq (d : D) (K : D -> Option R) : forceD d K = K d := by
 cases d <;> simp only [forceD, U6, forceL_eq]
theorem forceL_eq (ds : List D) (K : List D -> Option R) : forceL ds K = K ds := by
 cases ds <;> simp only [forceL, forceD_eq, forceL_eq]
end
mutual
def D.noOwn : D -> Bool
 | .v _ a => (match a with | .own _ _ => false | _ => true)
 | .clos _ caps => noOwns caps
 | .agg ds => noOwns ds
 | .tup ds => noOwns ds
 | _ => true
def noOwns : List D -> Bool
 | [] => true
 | d :: ds => d.noOwn && noOwns ds
end
def a5M : List D -> Nat -> (D -> Option R) -> Option R
 | [], _, K => K .any
 | x :: _, 0, K => K x
 | _ :: r, n + 1, K => a5M r n K
theorem N8 : ∀ (l : List D) (n : Nat) (K : D -> Option R), a5M l n K = K (l.getD n .any)
 | [], n, K => by simp [a5M]
 | x :: _, 0, K => rfl
 | x :: r, n + 1, K => by simp only [a5M, N8 r n K]; rfl
def b2m : List D -> Nat -> D -> (List D -> Option R) -> Option R
 | [], _, _, K => K []
 | _ :: r, 0, d, K => K (d :: r)
 | x :: r, n + 1, d, K => b2m r n d fun r' => K (x :: r')
theorem a2c : ∀ (l : List D) (n : Nat) (d : D) (K : List D -> Option R), b2m l n d K = K (l.set n d)
 | [], n, d, K => rfl
 | x :: _, 0, d, K => rfl
 | x :: r, n + 1, d, K => by simp only [b2m, a2c r n d]; rfl
def b9X (s : Nat) (b : Bx) : Fr -> (Fr -> Option R) -> Option R
 | [], K => K [(s, b)]
 | (s', b') :: r, K => cond (FZ s s') (K ((s, b) :: r)) (cond (GS s s') (K ((s, b) :: (s', b') :: r)) (b9X s b r fun r' => K ((s', b') :: r')))
theorem b6r (s : Nat) (b : Bx) : ∀ (fr : Fr) (K : Fr -> Option R), b9X s b fr K = K (P2 s b fr)
 | [], K => rfl
 | (s', b') :: r, K => by
   unfold b9X P2
   cases FZ s s' <;> cases GS s s' <;> simp [b6r s b r]
def a1P : Mem -> Nat -> Nat -> Bx -> (Mem -> Option R) -> Option R
 | [], _, _, _, K => K []
 | fr :: m, 0, s, b, K => b9X s b fr fun fr => K (fr :: m)
 | fr :: m, k + 1, s, b, K => a1P m k s b fun m => K (fr :: m)
theorem I7 : ∀ (m : Mem) (k s : Nat) (b : Bx) (K : Mem -> Option R), a1P m k s b K = K (m.setBox k s b)
 | [], k, s, b, K => rfl
 | fr :: m, 0, s, b, K => by simp only [a1P, b6r]; rfl
 | fr :: m, k + 1, s, b, K => by simp only [a1P, I7 m k s b]; rfl
def D.one : D -> Bool
 | .v x _ => (match x with | .agg _ => false | _ => true)
 | .ptr _ _ _ => true
 | .nilp => true
 | .eptr _ _ => true
 | .clos _ _ => true
 | .nilF => true
 | .fn _ _ _ _ => true
 | .bld => true
 | _ => false
def vD (x : V) : D := .v x .no
def cellsOf : D -> List D
 | .agg ds => ds
 | .v x a => (match x with | .agg cs => cs.map vD | _ => [.v x a])
 | d => [d]
def c4O : List D -> Option (List V)
 | [] => some []
 | .v x _ :: r => (match x with | .agg _ => none | _ => (c4O r).map (x :: ·))
 | _ :: _ => none
def toV : D -> Option V
 | .v x _ => (match x with | .agg _ => none | _ => some x)
 | .agg ds => (c4O ds).map .agg
 | _ => none
def c8g (row : Bool) (cs : List D) : Option D := match row with | true => some (.agg cs) | false => (match cs with | [d] => cond d.one (some d) none | _ => none)
def b3T (cs : List D) (off : Nat) : List D -> List D
 | [] => cs
 | d :: r => b3T (cs.set off d) (off + 1) r
def a6Y (place : Nat -> Option (Nat × Nat)) (cs : List D) : List (Nat × D) -> Option (List D)
 | [] => some cs
 | (i, d) :: r =>
   match place i with
   | none => none
   | some (off, size) => cond ((cellsOf d).all D.one && (FZ (cellsOf d).length size && GY (off + size) cs.length)) (a6Y place (b3T cs off (cellsOf d)) r) none
def Att.plain : Att -> Att
 | .own _ _ => .no
 | a => a
mutual
def D.plain : D -> D
 | .v x a => .v x a.plain
 | .agg ds => .agg (plains ds)
 | .clos f caps => .clos f (plains caps)
 | .tup ds => .tup (plains ds)
 | .ptr k s o => .ptr k s o
 | .nilp => .nilp
 | .eptr cs o => .eptr cs o
 | .nilF => .nilF
 | .fn n fs k s => .fn n fs k s
 | .bld => .bld
 | .any => .any
def plains : List D -> List D
 | [] => []
 | d :: ds => d.plain :: plains ds
end
mutual
def D.bare : D -> D
 | .v x _ => .v x .no
 | .agg ds => .agg (bares ds)
 | .clos f caps => .clos f (bares caps)
 | .tup ds => .tup (bares ds)
 | .ptr k s o => .ptr k s o
 | .nilp => .nilp
 | .eptr cs o => .eptr cs o
 | .nilF => .nilF
 | .fn n fs k s => .fn n fs k s
 | .bld => .bld
 | .any => .any
def bares : List D -> List D
 | [] => []
 | d :: ds => d.bare :: bares ds
end
mutual
def D.low (k : Nat) : D -> Option D
 | .v x a => some (.v x (match a with | .nil e => .nil e | _ => .no))
 | .ptr k' s o => cond (GY k k') (some (.ptr (k' - k) s o)) none
 | .clos f caps => (lows k caps).map (.clos f)
 | .agg ds => (lows k ds).map .agg
 | .tup ds => (lows k ds).map .tup
 | .nilp => some .nilp
 | .eptr cs o => some (.eptr cs o)
 | .nilF => some .nilF
 | .fn n fs k' s => cond (GY k k') (some (.fn n fs (k' - k) s)) none
 | .bld => some .bld
 | .any => none
def lows (k : Nat) : List D -> Option (List D)
 | [] => some []
 | d :: ds => match d.low k with
   | some x => (match lows k ds with | some r => some (x :: r) | none => none)
   | none => none
end
def b8X (ck : CK) (v : FX) : D :=
 match v with
 | .int k n => cond (decide (k.min <= n) && decide (n <= k.max)) (.v (.int k n) .no) .any
 | .bool b => .v (.bool b) .no
 | .string s => cond (GY s.data.toList.length 1000000) (.v (.str s.data.toList) .no) .any
 | .nilIface => .v .nilI .no
 | .nilFunc => .nilF
 | .map none => .v .nilM .no
 | .pointer none => .nilp
 | .slice none 0 0 => (match ck with | .bytes e => .v (.bytes []) (.nil e) | .slc e => .v (.sl e []) (.nil e) | _ => .any)
 | .func (.func f) first caps => (match first.toList, caps.toList with | [], [] => .clos f [] | _, _ => .any)
 | _ => .any
def a0N : List CK -> List FX -> List D
 | ck :: cks, v :: vs => b8X ck v :: a0N cks vs
 | _, _ => []
def b8y (ty : Option Ty) (v : FX) : D :=
 match v with
 | .agg cs => (match ty with | some ty => cond (FZ cs.toList.length ty.cks.length) (.agg (a0N ty.cks cs.toList)) .any | none => .any)
 | v => b8X (match ty with | some ty => ty.cks.headD .ptr | none => .ptr) v
def G5 (T : FP -> Option Ty) (slots : List D) (h : FP) : GK -> D
 | .tmp t => slots.getD t .any
 | .const v => b8y (T h) v
 | .func f => .clos f []
 | .global _ => .any
def evK (T : FP -> Option Ty) (slots : List D) (h : FP) (x : GK) (K : D -> Option R) : Option R :=
 match x with
 | .tmp t => a5M slots t K
 | .const v => forceD (b8y (T h) v) K
 | .func f => K (.clos f [])
 | .global _ => K .any
theorem J3 (T : FP -> Option Ty) (slots : List D) (h : FP) (x : GK) (K : D -> Option R) : evK T slots h x K = K (G5 T slots h x) := by
 cases x <;> simp only [evK, G5, N8, forceD_eq]
def d5Z (g : Nat) : D := cond (FZ g 1) (.eptr [.int .i64 255, .int .i64 0] 0) .any
def glob (z : GK) (d : D) : D := match z with | .global g => d5Z g | _ => d
def a2i (k : HN) (n : Int) : D := .v (.int k n) .no
def S8 (b : Bool) : D := .v (.bool b) .no
def j9 (op : Ln) (k : HN) (a b : Int) : Int :=
 match op with
 | .and => k.wrap (GT k.bits a &&& GT k.bits b).toNat
 | .or => k.wrap (GT k.bits a ||| GT k.bits b).toNat
 | .xor => k.wrap (GT k.bits a ^^^ GT k.bits b).toNat
 | _ => k.wrap (GT k.bits a &&& ~~~ (GT k.bits b)).toNat
def a0u (k : HN) (a b : Int) : Int := k.wrap (a * 2 ^ (min b.toNat k.bits))
def G8 (k : HN) (a b : Int) : Int := a.fdiv (2 ^ (min b.toNat k.bits))
def b5R (op : Ln) (k : HN) (a b : Int) (K : D -> Option R) : Option R :=
 match op with
 | .add => K (a2i k (k.wrap (a + b)))
 | .sub => K (a2i k (k.wrap (a - b)))
 | .mul => K (a2i k (k.wrap (a * b)))
 | .quo => check (decide (b ≠ 0)) (K (a2i k (k.wrap (a.tdiv b))))
 | .rem => check (decide (b ≠ 0)) (K (a2i k (a.tmod b)))
 | .and => K (a2i k (j9 .and k a b))
 | .or => K (a2i k (j9 .or k a b))
 | .xor => K (a2i k (j9 .xor k a b))
 | .andNot => K (a2i k (j9 .andNot k a b))
 | .eql => K (S8 (decide (a = b)))
 | .neq => K (S8 (!decide (a = b)))
 | .lss => K (S8 (decide (a < b)))
 | .leq => K (S8 (decide (a <= b)))
 | .gtr => K (S8 (decide (b < a)))
 | .geq => K (S8 (decide (b <= a)))
 | .shl => check (decide (0 <= b)) (K (a2i k (a0u k a b)))
 | .shr => check (decide (0 <= b)) (K (a2i k (G8 k a b)))
def d0c (op : Ln) (a b : List UInt8) (K : D -> Option R) : Option R :=
 match op with
 | .add => check (decide (a.length + b.length <= 9223372036854775807)) (K (.v (.str (a ++ b)) .no))
 | .eql => K (S8 (decide (a = b)))
 | .neq => K (S8 (!decide (a = b)))
 | .lss => K (S8 (IK a b))
 | .leq => K (S8 (IK a b || decide (a = b)))
 | .gtr => K (S8 (!(IK a b || decide (a = b))))
 | .geq => K (S8 (!IK a b))
 | _ => none
def d3q : D -> Option Bool
 | .ptr _ _ _ => some false
 | .eptr _ _ => some false
 | .nilp => some true
 | _ => none
def c3Y : D -> Option Bool
 | .v (.iface _ _) _ => some false
 | .v .nilI _ => some true
 | _ => none
def e0S : D -> Option Bool
 | .clos _ _ => some false
 | .nilF => some true
 | .fn n _ _ _ => some (decide (n = 0))
 | _ => none
def c5e : D -> Option Bool
 | .v (.mset _) _ => some false
 | .v .nilM _ => some true
 | _ => none
def d2f (desc : TypeDesc) (x y : D) : Option Bool :=
 match desc with
 | .pointer _ => (match y with | .nilp => d3q x | _ => none)
 | .interface _ => (match y with | .v .nilI _ => c3Y x | _ => none)
 | .func _ _ _ => (match y with | .nilF => e0S x | _ => none)
 | .map _ _ => (match y with | .v .nilM _ => c5e x | _ => none)
 | _ => none
def a8r : GK -> Bool
 | .const _ => true
 | _ => false
def U5 (T : FP -> Option Ty) (t : FP) : Nat := match T t with | some ty => ty.size | none => 0
def a0P (T : FP -> Option Ty) (n : Nat) : Nat -> List Kt -> Bool
 | off, [] => FZ off n
 | off, f :: fs => FZ f.offset off && a0P T n (off + U5 T f.type) fs
def c3I (F : FP -> List D -> List D -> Option Bool) (T : FP -> Option Ty) : List Kt -> List D -> List D -> Option Bool
 | [], _, _ => some true
 | f :: fs, ds, es => match F f.type (ds.take (U5 T f.type)) (es.take (U5 T f.type)) with
   | some r => (match c3I F T fs (ds.drop (U5 T f.type)) (es.drop (U5 T f.type)) with | some q => some (r && q) | none => none)
   | none => none
def eqK (T : FP -> Option Ty) : Nat -> FP -> List D -> List D -> Option Bool
 | 0, _, _, _ => none
 | n + 1, t, ds, es => match T t with
   | none => none
   | some ty => match ty.desc with
     | .int _ => (match ds, es with | [.v (.int k a) _], [.v (.int k' b) _] => if k = k' then some (decide (a = b)) else none | _, _ => none)
     | .bool => (match ds, es with | [.v (.bool a) _], [.v (.bool b) _] => some (a == b) | _, _ => none)
     | .string => (match ds, es with | [.v (.str a) _], [.v (.str b) _] => some (decide (a = b)) | _, _ => none)
     | .struct fs => cond (ty.eqb && (a0P T ty.size 0 fs.toList && (FZ ds.length ty.size && (FZ es.length ty.size && GY 1 ty.size)))) (c3I (eqK T n) T fs.toList ds es) none
     | _ => none
def b0q (T : FP -> Option Ty) (t : FP) (ds es : List D) (K : Bool -> Option R) : Option R :=
 match T t with
 | some ty => cond ty.row (match eqK T 9 t ds es with | some b => K b | none => none) none
 | none => none
def d1d (T : FP -> Option Ty) (op : Ln) (xt : FP) (yc : Bool) (x y : D) (K : D -> Option R) : Option R :=
 match x, y with
 | .v (.int k a) _, .v (.int k' b) _ =>
   (match op with
    | .shl => b5R .shl k a b K
    | .shr => b5R .shr k a b K
    | op => if k = k' then b5R op k a b K else none)
 | .v (.str a) _, .v (.str b) _ => d0c op a b K
 | .v (.bool a) _, .v (.bool b) _ =>
   (match T xt with
    | some ty => (match ty.desc, op with
      | .bool, .eql => K (S8 (a == b))
      | .bool, .neq => K (S8 (!(a == b)))
      | _, _ => none)
    | none => none)
 | .agg ds, .agg es => (match op with | .eql => b0q T xt ds es fun b => K (S8 b) | .neq => b0q T xt ds es fun b => K (S8 (!b)) | _ => none)
 | x, y =>
   (match yc, T xt with
    | true, some ty => (match d2f ty.desc x y with
      | some b => (match op with | .eql => K (S8 b) | .neq => K (S8 (!b)) | _ => none)
      | none => none)
    | _, _ => none)
def unK (op : UnOp) (x : D) (K : D -> Option R) : Option R :=
 match op, x with
 | .neg, .v (.int k n) _ => K (a2i k (k.wrap (0 - n)))
 | .xor, .v (.int k n) _ => K (a2i k (j9 .xor k (if k.signed then -1 else k.max) n))
 | .not, .v (.bool b) _ => K (S8 (!b))
 | _, _ => none
def b6i (T : FP -> Option Ty) (src dst : FP) (x : D) (K : D -> Option R) : Option R :=
 match T src, T dst with
 | some ts, some td =>
   (match ts.desc, td.desc, x with
    | .int _, .int k, .v (.int _ n) _ => K (a2i k (k.wrap n))
    | .slice e, .string, .v (.bytes s) _ => (match T e with | some te => (match te.desc with | .int .u8 => check (decide (s.length <= 9223372036854775807)) (K (.v (.str s) .no)) | _ => none) | none => none)
    | .string, .slice e, .v (.str s) _ => (match T e with | some te => (match te.desc with | .int .u8 => check (decide (s.length <= 1000000)) (K (.v (.bytes s) .no)) | _ => none) | none => none)
    | .string, .string, .v (.str s) a => K (.v (.str s) a)
    | _, _, _ => none)
 | _, _ => none
def a3T (x : Option D) (dflt hi : Nat) (K : Nat -> Option R) : Option R :=
 match x with
 | none => K dflt
 | some (.v (.int _ i) _) => check (decide (0 <= i) && decide (i <= (hi : Int))) (K i.toNat)
 | some _ => none
def b5M {α : Type} (xs : List α) (lo hi : Option D) (K : List α -> Option R) : Option R :=
 match lo, hi with
 | none, none => K xs
 | some lo, none => a3T (some lo) 0 xs.length fun l => K (xs.drop l)
 | none, some hi => a3T (some hi) 0 xs.length fun h => K (xs.take h)
 | some lo, some hi => a3T (some hi) 0 xs.length fun h => a3T (some lo) 0 h fun l => K ((xs.take h).drop l)
def d3d (lo hi mx : Option D) : Bool :=
 match mx with
 | none => true
 | some (.v (.int _ j) _) => (match lo, hi with | none, some (.v (.int _ i) _) => decide (i = j) | _, _ => false)
 | some _ => false
def d0z (lo hi mx : Option D) (K : Option R) : Option R :=
 match mx with
 | none => K
 | some (.v (.int _ j) _) => (match lo, hi with | none, some (.v (.int _ i) _) => check (decide (i = j)) K | _, _ => none)
 | some _ => none
theorem c9c {lo hi mx : Option D} {K : Option R} {r : R} (h : d0z lo hi mx K = some r) : d3d lo hi mx = true /\ K = some r := by
 unfold d0z at h
 unfold d3d
 split at h
 . exact ⟨rfl, h⟩
 . split at h
   . unfold check br at h
     rw [GF] at h
     split at h
     . rename_i hd; exact ⟨hd, h⟩
     . cases h
   . cases h
 . cases h
def a9E (T : FP -> Option Ty) (t : FP) (x : D) (lo hi mx : Option D) (K : D -> Option R) : Option R :=
 match mx.isNone with
 | false => d0z lo hi mx (match T t with
   | some ty =>
     (match ty.desc, x with
      | .slice e, .v (.bytes s) _ => (match T e with | some te => cond (FZ te.size 1) (b5M s lo hi fun r => K (.v (.bytes r) .no)) none | none => none)
      | _, _ => none)
   | none => none)
 | true =>
   match T t with
   | some ty =>
     (match ty.desc, x with
      | .slice e, .v (.bytes s) _ => (match T e with | some te => cond (FZ te.size 1) (b5M s lo hi fun r => K (.v (.bytes r) .no)) none | none => none)
      | .slice e, .v (.sl e' s) _ => (match T e with | some te => cond (FZ e' e) (b5M s lo hi fun r => K (.v (.sl e r) .no)) none | none => none)
      | .string, .v (.str s) _ => b5M s lo hi fun r => K (.v (.str r) .no)
      | _, _ => none)
   | none => none
def c9F (T : FP -> Option Ty) (t : FP) (x : D) (K : D -> Option R) : Option R :=
 match T t with
 | some ty =>
   (match ty.desc, x with
    | .slice _, .v (.bytes s) _ => K (a2i .i64 s.length)
    | .slice _, .v (.sl _ s) _ => K (a2i .i64 s.length)
    | .string, .v (.str s) _ => K (a2i .i64 s.length)
    | .array n _, _ => check (decide (n <= 1000000)) (K (a2i .i64 n))
    | _, _ => none)
 | none => none
def inK (i : Int) (n : Nat) (K : Nat -> Option R) : Option R := check (decide (0 <= i) && decide (i < (n : Int))) (K i.toNat)
def Z1 (T : FP -> Option Ty) (t : FP) (x i : D) (K : D -> Option R) : Option R :=
 match T t, i with
 | some ty, .v (.int _ i) _ =>
   (match ty.desc, x with
    | .slice e, .v (.bytes s) _ => (match T e with | some te => cond (FZ te.size 1) (inK i s.length fun j => at? s j fun b => K (.eptr [.int .u8 b.toNat] 0)) none | none => none)
    | .slice e, .v (.sl e' s) _ => (match T e with | some te => cond (FZ te.size 0 || !FZ e' e) none (inK i s.length fun j => at? s j fun y => fit te y fun cs => K (.eptr cs 0)) | none => none)
    | .array n e, .ptr k s o => (match T e with | some te => a0p i 0 n fun j => K (.ptr k s (o + j * te.size)) | none => none)
    | .array n e, .eptr cs o => (match T e with | some te => a0p i 0 n fun j => K (.eptr cs (o + j * te.size)) | none => none)
    | _, _ => none)
 | _, _ => none
def a5I (row : Bool) (ds : List D) (off size : Nat) : Option D :=
 match row with
 | true => cond (GY (off + size) ds.length) (some (.agg ((ds.drop off).take size))) none
 | false => ds[off]?
def b0l (T : FP -> Option Ty) (t : FP) (x i : D) (K : D -> Option R) : Option R :=
 match T t, i with
 | some ty, .v (.int _ i) _ =>
   (match ty.desc, x with
    | .string, .v (.str s) _ => inK i s.length fun j => at? s j fun b => K (a2i .u8 b.toNat)
    | .array n e, .agg ds => (match T e with | some te => a0p i 0 n fun j => (match a5I te.row ds (j * te.size) te.size with | some d => forceD d.plain K | none => none) | none => none)
    | _, _ => none)
 | _, _ => none
def a9I (T : FP -> Option Ty) (t : FP) (x : D) (f : Nat) (K : D -> Option R) : Option R :=
 match T t, x with
 | some ty, .agg ds =>
   (match ty.desc with
    | .struct fs => (match fs[f]? with
      | some fl => (match T fl.type with | some te => (match a5I te.row ds fl.offset te.size with | some d => forceD d.plain K | none => none) | none => none)
      | none => none)
    | _ => none)
 | _, _ => none
def Y7 (T : FP -> Option Ty) (t : FP) (x : D) (f : Nat) (K : D -> Option R) : Option R :=
 match T t with
 | some ty =>
   (match ty.desc with
    | .struct fs => (match fs[f]? with
      | some fl => (match T fl.type with
        | some te => cond (FZ te.size 0) none (match x with
          | .ptr k s o => K (.ptr k s (o + fl.offset))
          | .eptr cs o => K (.eptr cs (o + fl.offset))
          | _ => none)
        | none => none)
      | none => none)
    | _ => none)
 | none => none
def G6 (k s i : Nat) (d : D) : D :=
 match d with
 | .v x (.own _ e) => .v x (.own (.cell k s i) e)
 | .bld => .any
 | d => d.shift k
def Q0 (k s : Nat) : Nat -> List D -> List D
 | _, [] => []
 | i, d :: r => (G6 k s i d).plain :: Q0 k s (i + 1) r
def a0J (T : FP -> Option Ty) (t : FP) (a : D) (m : Mem) (K : D -> Option R) : Option R :=
 match T t with
 | some ty =>
   (match a with
    | .ptr k s o => (match m.box? k s with
      | some b =>
        (match ty.row with
         | true => cond (GY (o + ty.size) b.cells.length) (forceD (.agg (Q0 k s o ((b.cells.drop o).take ty.size))) K) none
         | false => cond (FZ ty.size 1) (match b.cells[o]? with | some d => forceD (G6 k s o d) K | none => none) none)
      | none => none)
    | .eptr cs o =>
      (match ty.row with
       | true => cond (GY (o + ty.size) cs.length) (forceD (.agg (((cs.drop o).take ty.size).map vD)) K) none
       | false => cond (FZ ty.size 1) (match cs[o]? with | some y => K (.v y .no) | none => none) none)
    | _ => none)
 | none => none
def d2k (dead : List Pos) (a : Att) : Att :=
 match a with
 | .nil e => .own (.slot 0) e
 | .own (.slot g) e => cond (O0 (.slot g) dead) .no (.own (.slot 0) e)
 | _ => .no
def b4c (dead : List Pos) (a : Att) : List Pos :=
 match a with
 | .own (.slot g) _ => .slot g :: dead
 | _ => dead
def N9 (k : Nat) : List D -> List Pos -> (List D -> List Pos -> Option R) -> Option R
 | [], dead, K => K [] dead
 | d :: r, dead, K =>
   cond d.one
    (match d with
     | .v x a => b8A (d2k dead a) fun a' => N9 k r (b4c dead a) fun cs dead' => K (.v x a' :: cs) dead'
     | d => (match d.low k with | some d' => forceD d' fun d' => N9 k r dead fun cs dead' => K (d' :: cs) dead' | none => none))
    none
def c7M (cs : List D) (off : Nat) : List D -> (List D -> Option R) -> Option R
 | [], K => K cs
 | d :: r, K => b2m cs off d fun cs => c7M cs (off + 1) r K
def b8W (T : FP -> Option Ty) (t : FP) (a v : D) (m : Mem) (dead : List Pos) (K : Mem -> List Pos -> Option R) : Option R :=
 match T t with
 | some ty =>
   (match a with
    | .ptr k s o => (match m.box? k s with
      | some b => cond (FZ (cellsOf v).length ty.size && GY (o + ty.size) b.cells.length)
       (N9 k (cellsOf v) dead fun cs dead' => c7M b.cells o cs fun cs' => a1P m k s ⟨b.ty, cs'⟩ fun m' => K m' dead') none
      | none => none)
    | _ => none)
 | none => none
def d8R (f : Gv) : Nat -> List Gv -> Option Nat
 | _, [] => none
 | j, g :: r => cond (FZ f g) (some j) (d8R f (j + 1) r)
def fnC (k : Nat) (old new : D) : D :=
 match old with
 | .fn _ fs k0 s0 => (match new with
   | .nilF => .fn 0 fs (k0 + k) s0
   | .fn i gs k1 s1 => (match gs with
     | [f] => (match d8R f 0 fs with | some j => cond (decide (i = 1)) (.fn ((j : Int) + 1) fs k1 s1) (.fn i gs k1 s1) | none => .fn i gs k1 s1)
     | _ => .fn i gs k1 s1)
   | d => d)
 | .v _ a => (match a with | .no => (match new with | .v x a' => (match a' with | .nil _ => .v x .no | a' => .v x a') | d => d) | _ => new)
 | _ => new
def c0B (k : Nat) : List D -> List D -> List D
 | o :: os, d :: ds => fnC k o d :: c0B k os ds
 | _, ds => ds
def e1j : List D -> Bool
 | [] => false
 | d :: r => (match d with | .fn _ _ _ _ => true | _ => e1j r)
def b2F (m : Mem) (a v : D) : D :=
 match a with
 | .ptr k s o => (match m.box? k s with
   | some b => cond (e1j b.cells) (match v with
     | .agg ds => .agg (c0B k (b.cells.drop o) ds)
     | d => fnC k ((b.cells.drop o).headD .any) d) v
   | none => v)
 | _ => v
def d2y (n : Int) : Nat -> List Gv -> (Gv -> Option R) -> Option R
 | _, [], _ => none
 | j, f :: r, K => br (decide (n = ((j : Int) + 1))) (K f) (d2y n (j + 1) r K)
def c9G (k : Int) : List Int -> Bool
 | [] => false
 | x :: r => decide (k = x) || c9G k r
def a6h (T : FP -> Option Ty) (t : FP) (x i : D) (K : D -> Option R) : Option R :=
 match T t, x, i with
 | some ty, .v (.mset ks) _, .v (.int .i64 n) _ =>
   (match ty.desc with
    | .map kt et => (match T kt, T et with
      | some tk, some te => (match tk.desc, te.cks with
        | .int .i64, [.bool] => cond te.row none (K (S8 (c9G n ks)))
        | _, _ => none)
      | _, _ => none)
    | _ => none)
 | _, _, _ => none
def T2 (s : Nat) (t : FP) (ds : List D) (m : Mem) (dead : List Pos) (K : Mem -> List Pos -> Option R) : Option R :=
 match m with
 | fr :: _ =>
   (match G2 s fr with
    | none => N9 0 ds dead fun cs dead' => a1P m 0 s ⟨t, cs⟩ fun m' => K m' dead'
    | some _ => none)
 | [] => none
def placesOf (T : FP -> Option Ty) : List Kt -> Option (List (Nat × Nat))
 | [] => some []
 | f :: fs => match T f.type with
   | some te => (match placesOf T fs with | some r => some ((f.offset, te.size) :: r) | none => none)
   | none => none
def a9Q (T : FP -> Option Ty) (t : FP) (parts : List (Nat × D)) (K : D -> Option R) : Option R :=
 match T t with
 | some ty =>
   (match ty.desc with
    | .struct fs => (match placesOf T fs.toList with
      | some places => (match a6Y (fun i => places[i]?) ty.zeroDs (parts.map fun p => (p.1, p.2.plain)) with | some cs => forceD (.agg cs) K | none => none)
      | none => none)
    | .array _ e => (match T e with
      | some te => (match a6Y (fun i => some (i * te.size, te.size)) ty.zeroDs (parts.map fun p => (p.1, p.2.plain)) with | some cs => forceD (.agg cs) K | none => none)
      | none => none)
    | _ => none)
 | none => none
def a7K {α : Type} (xs : List α) : Nat -> List α
 | 0 => []
 | n + 1 => xs ++ a7K xs n
def a8w : List D -> Option (List UInt8)
 | [] => some []
 | .v (.int .u8 n) _ :: r => (match a8w r with | some l => some (FR n.toNat :: l) | none => none)
 | _ :: _ => none
def chunk (row : Bool) (size : Nat) (cs : List D) : Nat -> Option (List V)
 | 0 => some []
 | n + 1 =>
   match c8g row (cs.take size) with
   | some d => (match toV d with
     | some x => (match chunk row size (cs.drop size) n with | some r => some (x :: r) | none => none)
     | none => none)
   | none => none
def U0 (T : FP -> Option Ty) (dst : Nat) (t : FP) (len : Nat) (parts : List (Nat × D)) (K : D -> Option R) : Option R :=
 match T t with
 | some ty =>
   (match ty.desc with
    | .slice e => (match T e with
      | some te =>
        cond (FZ te.size 0 || !GY (len * te.size) 1000) none
        (match a6Y (fun i => some (i * te.size, te.size)) (a7K te.zeroDs len) (parts.map fun p => (p.1, p.2.bare)) with
         | some cs =>
           (match ty.cks with
            | [.bytes _] => (match a8w cs with | some l => cond (FZ te.size 1) (K (.v (.bytes l) (.own (.slot dst) e))) none | none => none)
            | [.slc _] => (match chunk te.row te.size cs len with | some l => K (.v (.sl e l) (.own (.slot dst) e)) | none => none)
            | _ => none)
         | none => none)
      | none => none)
    | _ => none)
 | none => none
def a0f (T : FP -> Option Ty) (dst : Nat) (t : FP) (len cap : D) (K : D -> Option R) : Option R :=
 match T t, len, cap with
 | some ty, .v (.int _ l) _, .v (.int _ c) _ =>
   (match ty.desc with
    | .slice e => (match T e with
      | some te =>
        cond (FZ te.size 0 || FZ te.nbytes 0) none
        (check (decide (0 <= l) && (decide (l <= c) && decide (c * te.nbytes <= 140737488355328)))
         (match ty.cks with
          | [.bytes _] => (match te.cks with | [.int .u8] => K (.v (.bytes (GX l.toNat 0)) (.own (.slot dst) e)) | _ => none)
          | [.slc _] => (match chunk te.row te.size te.zeroDs 1 with
            | some [z] => K (.v (.sl e (GX l.toNat z)) (.own (.slot dst) e))
            | _ => none)
          | _ => none))
      | none => none)
    | _ => none)
 | _, _, _ => none
def a1D (a : Att) (e : FP) (m : Mem) (dead : List Pos) (K : Mem -> List Pos -> Option R) : Option R :=
 match a with
 | .nil e' => cond (FZ e' e) (K m dead) none
 | .own p e' => cond (FZ e' e && !O0 p dead)
  (match p with
   | .slot g => K m (.slot g :: dead)
   | .cell k s i => (match m.box? k s with
     | some b => (match b.cells[i]? with
       | some (.v x (.own _ _)) => b2m b.cells i (.v x .no) fun cs => a1P m k s ⟨b.ty, cs⟩ fun m' => K m' (.cell k s i :: dead)
       | _ => none)
     | none => none))
  none
 | .no => none
def a4b (T : FP -> Option Ty) (dst : Nat) (t t2 : FP) (s x : D) (m : Mem) (dead : List Pos) (K : D -> Mem -> List Pos -> Option R) : Option R :=
 match T t, T t2 with
 | some ty, some ty2 =>
   (match ty.desc with
    | .slice e => (match T e with
      | some te =>
        (match FZ te.size 0 || FZ te.nbytes 0 with
        | true => none
        | false => match s, x with
         | .v (.bytes xs) a, .v (.bytes ys) _ =>
           (match ty2.desc with
            | .slice e2 => cond (FZ e2 e && FZ te.size 1)
             (a1D a e m dead fun m' dead' => check (decide ((xs.length + ys.length) * te.nbytes <= 140737488355328)) (K (.v (.bytes (xs ++ ys)) (.own (.slot dst) e)) m' dead')) none
            | _ => none)
         | .v (.sl e1 xs) a, .v (.sl e1' ys) _ =>
           (match ty2.desc with
            | .slice e2 => cond (FZ e2 e && (FZ e1 e && FZ e1' e))
             (a1D a e m dead fun m' dead' => check (decide ((xs.length + ys.length) * te.nbytes <= 140737488355328)) (K (.v (.sl e (xs ++ ys)) (.own (.slot dst) e)) m' dead')) none
            | _ => none)
         | .v (.bytes xs) a, .v (.str ys) _ =>
           (match ty2.desc with
            | .string => cond (FZ te.size 1)
             (a1D a e m dead fun m' dead' => check (decide ((xs.length + ys.length) * te.nbytes <= 140737488355328)) (K (.v (.bytes (xs ++ ys)) (.own (.slot dst) e)) m' dead')) none
            | _ => none)
         | _, _ => none)
      | none => none)
    | _ => none)
 | _, _ => none
def a4a (mx : Bool) (args : List D) (K : D -> Option R) : Option R :=
 match args with
 | [.v (.int k a) _, .v (.int k' b) _] => if k = k' then K (a2i k (match mx with | true => max a b | false => min a b)) else none
 | _ => none
end En
namespace En
open Go
variable {R : Type}
inductive Ex where
 | normal | exit (id : Nat) | goto (l : Nat) | ret
structure Cx where
 T : FP -> Option Ty
 isPure : Gv -> Bool
 pureK : {R : Type} -> Gv -> List D -> (List D -> Option R) -> Option R
 memK : {R : Type} -> Gv -> Nat -> List D -> Mem -> (List D -> Mem -> Option R) -> Option R
 meth : FP -> String -> Option Gv
 keep : Nat -> List Nat
 keepX : Nat -> List Nat
 loopT : {R : Type} -> Nat -> List D -> Mem -> (Ex -> List D -> Mem -> Option R) -> Option R
 jumps : Nat
 dyn : Bool := false
 isStill : Gv -> Bool := fun _ => false
 stillK : {R : Type} -> Gv -> List D -> Mem -> (List D -> Option R) -> Option R := fun _ _ _ _ => none
def e1o (dst : Nat) (a : Att) : Att := match a with | .nil e => .own (.slot dst) e | a => a
def a8Z (dst : Nat) (d : D) : D := match d with | .v x a => .v x (e1o dst a) | d => d
def b8d (slots : List D) (dst : Option Nat) (d : D) (K : List D -> Option R) : Option R :=
 match dst with
 | some s => (match d with | .v x a => b8A (e1o s a) fun a => b2m slots s (.v x a) K | d => b2m slots s d K)
 | none => K slots
def c0P (ds : List D) : D :=
 match ds with
 | [d] => d
 | ds => .tup ds
def c2q (d : D) : D := d.bare.shift 1
def a0H (T : FP -> Option Ty) (slots : List D) : List FP -> List GK -> (List D -> Option R) -> Option R
 | t :: ts, x :: xs, K => evK T slots t x fun d => forceD (c2q d) fun d => a0H T slots ts xs fun r => K (d :: r)
 | [], x :: xs, K => evK T slots 0 x fun d => forceD (c2q d) fun d => a0H T slots [] xs fun r => K (d :: r)
 | _, [], K => K []
def e4O (T : FP -> Option Ty) (t : FP) : FP := match T t with | some ty => (match ty.desc with | .slice e => e | _ => 0) | none => 0
def a1I (h0 : FP) (T : FP -> Option Ty) (slots : List D) : List (Nat × GK) -> (List (Nat × D) -> Option R) -> Option R
 | [], K => K []
 | (i, x) :: r, K => evK T slots h0 x fun d => a1I h0 T slots r fun ps => K ((i, d) :: ps)
def evO (T : FP -> Option Ty) (slots : List D) (x : Option GK) (K : Option D -> Option R) : Option R :=
 match x with
 | none => K none
 | some x => evK T slots 0 x fun d => K (some d)
def a6Q (T : FP -> Option Ty) (slots : List D) : List GK -> (List D -> Option R) -> Option R
 | [], K => K []
 | x :: r, K => evK T slots 0 x fun d => forceD d.plain fun d => a6Q T slots r fun ds => K (d :: ds)
def opK (T : FP -> Option Ty) (dst : Nat) (oty : FP) (slots : List D) (op : Op) (m : Mem) (dead : List Pos) (K : D -> Mem -> List Pos -> Option R) : Option R :=
 match op with
 | .move x => evK T slots oty x fun d => K d m dead
 | .assign x => evK T slots oty x fun d => K d m dead
 | .pick c a b => evK T slots 0 c fun dc => (match dc with
   | .v x _ => x.unBool fun t => br t (evK T slots oty a fun d => K d m dead) (evK T slots oty b fun d => K d m dead)
   | _ => none)
 | .alloc t => (match T t with | some ty => T2 dst t ty.zeroDs m dead fun m' d' => K (.ptr 0 dst 0) m' d' | none => none)
 | .box t x => (match T t with | some ty => evK T slots t x fun d => T2 dst t (cellsOf d) m dead fun m' d' => K (.ptr 0 dst 0) m' d' | none => none)
 | .build t parts => a1I 0 T slots parts.toList fun ps => a9Q T t ps fun d => K d m dead
 | .buildSlice t len parts => a1I (e4O T t) T slots parts.toList fun ps => U0 T dst t len ps fun d => K d m dead
 | .load t a => evK T slots 0 a fun da => a0J T t (glob a da) m fun d => K d m dead
 | .store t a x => evK T slots 0 a fun da => evK T slots t x fun dx => forceD (b2F m da dx) fun dx => b8W T t da dx m dead fun m' d' => K .any m' d'
 | .lookup t x i ok => (match ok with | true => none | false => evK T slots t x fun dx => evK T slots 0 i fun di => a6h T t dx di fun d => K d m dead)
 | .nilCheck x => evK T slots oty x fun d => (match d with | .ptr k s o => K (.ptr k s o) m dead | .eptr cs o => K (.eptr cs o) m dead | .clos f caps => K (.clos f caps) m dead | _ => none)
 | .binOp op xt x y yt => evK T slots xt x fun dx => evK T slots yt y fun dy => d1d T op xt (a8r y) dx dy fun d => K d m dead
 | .unOp op xt x => evK T slots xt x fun dx => unK op dx fun d => K d m dead
 | .convert src t x => evK T slots src x fun dx => b6i T src t dx fun d => K d m dead
 | .makeInterface t x => evK T slots t x fun dx => (match T t, toV dx with | some ty, some y => (match ty.desc with | .interface _ => none | _ => K (.v (.iface t y) .no) m dead) | _, _ => none)
 | .makeFunc (.func f) first caps => (match first.toList with
   | [] => cond (GY 1000000 f) none (a6Q T slots caps.toList fun ds => K (.clos f ds) m dead)
   | [x] => (match caps.toList with
     | [] => evK T slots 0 x fun d => (match d with | .ptr k s o => cond (FZ o 0) (K (.fn 1 [f] k s) m dead) none | .agg ds => forceD (D.agg ds).plain fun d => K (.clos (f + 1000000) [d]) m dead | _ => none)
     | _ => none)
   | _ => none)
 | .makeSlice t l c => evK T slots 0 l fun dl => evK T slots 0 c fun dc => a0f T dst t dl dc fun d => K d m dead
 | .slice t x lo hi mx => evK T slots t x fun dx => evO T slots lo fun dlo => evO T slots hi fun dhi => evO T slots mx fun dmx => a9E T t dx dlo dhi dmx fun d => K d m dead
 | .fieldAddr t x f => evK T slots 0 x fun dx => Y7 T t dx f fun d => K d m dead
 | .field t x f => evK T slots t x fun dx => a9I T t dx f fun d => K d m dead
 | .indexAddr t x i => evK T slots t x fun dx => evK T slots 0 i fun di => Z1 T t dx di fun d => K d m dead
 | .index t x i => evK T slots t x fun dx => evK T slots 0 i fun di => b0l T t dx di fun d => K d m dead
 | .extract x i => evK T slots 0 x fun dx => (match dx with | .tup ds => (match ds[i]? with | some d => forceD d fun d => K d m dead | none => none) | _ => none)
 | .call c =>
   (match c.callee, c.args.toList, c.argTypes.toList with
    | .builtin .len, [x], [t] => evK T slots t x fun dx => c9F T t dx fun d => K d m dead
    | .builtin .append, [s, x], [t, t2] => evK T slots t s fun ds => evK T slots t2 x fun dx => a4b T dst t t2 ds dx m dead K
    | .builtin .max, [a, b], [t, u] => evK T slots t a fun da => evK T slots u b fun db => a4a true [da, db] fun d => K d m dead
    | .builtin .min, [a, b], [t, u] => evK T slots t a fun da => evK T slots u b fun db => a4a false [da, db] fun d => K d m dead
    | _, _, _ => none)
 | _ => none
def a4X (cx : Cx) (g : Gv) (dst : Nat) (args : List D) (m : Mem) (dead : List Pos) (K : Bool -> D -> Mem -> List Pos -> Option R) : Option R :=
 match cx.isPure g with
 | true => cx.pureK g args fun rs => K false (c0P rs) m dead
 | false => cond (cx.isStill g) (cx.stillK g args m fun rs => K false (c0P rs) m dead) (cx.memK g dst args m fun rs m' => K true (c0P rs) m' dead)
def b6g (cx : Cx) (g : Gv) (dst : Nat) (args caps : List D) (m : Mem) (dead : List Pos) (K : Bool -> D -> Mem -> List Pos -> Option R) : Option R :=
 match caps with
 | [] => a4X cx g dst (args ++ []) m dead K
 | c :: cs => cond (GY 1000000 g) (a4X cx (g - 1000000) dst (c :: cs ++ args) m dead K) (a4X cx g dst (args ++ c :: cs) m dead K)
def c8e (y : V) : D := match y with | .agg cs => .agg (cs.map vD) | y => vD y
def runK (cx : Cx) (o : Oper) (slots : List D) (mem : Mem) (dead : List Pos) (K : Bool -> D -> Mem -> List Pos -> Option R) : Option R :=
 match o.op with
 | .call c =>
   (match c.callee with
    | .builtin _ => opK cx.T (o.dst.getD 0) o.type slots o.op mem dead (K false)
    | .value f => evK cx.T slots 0 f fun df => (match df with
      | .clos g caps => a0H cx.T slots c.argTypes.toList c.args.toList fun args =>
       forceL (caps.map c2q) fun caps => b6g cx g (o.dst.getD 0) args caps mem dead K
      | .fn n fs k s => a0H cx.T slots c.argTypes.toList c.args.toList fun args =>
       d2y n 0 fs fun g => a4X cx g (o.dst.getD 0) (.ptr (k + 1) s 0 :: args) mem dead K
      | _ => none)
    | .invoke recv name => evK cx.T slots 0 recv fun dr => (match dr with
      | .v x _ => (match x with
        | .iface t y => (match cx.meth t name with
          | some g => a0H cx.T slots c.argTypes.toList c.args.toList fun args => a4X cx g (o.dst.getD 0) (c8e y :: args) mem dead K
          | none => none)
        | _ => none)
      | _ => none))
 | op => opK cx.T (o.dst.getD 0) o.type slots op mem dead (K false)
def a4w (ops : Array Oper) (j : Nat) : Option Nat := match ops[j]? with | some o => o.dst | none => none
def a8q : List D -> (List D -> Option R) -> Option R
 | [], K => K []
 | d :: r, K =>
   match d with
   | .v x a => (match a with
     | .own p e => (match p with
       | .slot g => a8q r fun r => K (.v x (.own (.slot g) e) :: r)
       | _ => a8q r fun r => K (.v x .no :: r))
     | a => a8q r fun r => K (.v x a :: r))
   | d => cond d.noOwn (a8q r fun r => K (d :: r)) (a8q r fun r => K (.any :: r))
def a6N (cx : Cx) (o : Oper) (st : St) (K : St -> Option R) : Option R :=
 match st with
 | ⟨slots, mem, dead⟩ => runK cx o slots mem dead fun c d m' dead' => cond c (a8q slots fun slots => b8d slots o.dst d fun slots => K ⟨slots, m', dead'⟩) (b8d slots o.dst d fun slots => K ⟨slots, m', dead'⟩)
def b6O (o : Oper) (st : St) (K : St -> Option R) : Option R :=
 match st with
 | ⟨slots, mem, dead⟩ => b8d slots o.dst (.tup []) fun slots => K ⟨slots, mem, dead⟩
def C6 (cx : Cx) (ops : Array Oper) (o : Oper) (st : St) (K : St -> Option R) : Option R :=
 match o.guard with
 | none => a6N cx o st K
 | some (j, want) =>
   (match a4w ops j, st with
    | some s, ⟨slots, mem, dead⟩ => a5M slots s fun d => (match d with
      | .v x a => x.unBool fun b =>
        br b (b2m slots s (.v (.bool true) a) fun slots => (match want with | true => a6N cx o ⟨slots, mem, dead⟩ K | false => b6O o ⟨slots, mem, dead⟩ K))
         (b2m slots s (.v (.bool false) a) fun slots => (match want with | false => a6N cx o ⟨slots, mem, dead⟩ K | true => b6O o ⟨slots, mem, dead⟩ K))
      | .tup _ => b6O o ⟨slots, mem, dead⟩ K
      | _ => none)
    | none, _ => none)
def findF : List Oper -> Nat -> Option Nat
 | [], _ => none
 | o :: r, j => (match o.dst with
   | some d => cond (FZ d j) (match o.op with | .fieldAddr _ (.tmp p) _ => some p | .indexAddr _ (.tmp p) _ => some p | .nilCheck _ => some 1000000 | _ => none) (findF r j)
   | none => findF r j)
def X1 (ops : Array Oper) : Nat -> Nat -> Nat
 | 0, j => j
 | n + 1, j => match findF ops.toList j with | some p => X1 ops n p | none => j
def O3 (l k q : Nat) : Bool := cond (FZ l 1000000) (GY 1 k) (FZ k 0 && FZ q l)
def b6p (ops : Array Oper) (slots : List D) (z : GK) (K : Option R) : Option R :=
 match z with
 | .tmp j => a5M slots j fun d => (match d with | .ptr k q _ => cond (O3 (X1 ops 20 j) k q) K none | _ => K)
 | _ => none
def d5V : List Oper -> Nat -> Option Nat
 | [], _ => none
 | o :: r, j => (match o.dst with
   | some d => cond (FZ d j) (match o.op with | .load _ (.tmp p) => some p | _ => none) (d5V r j)
   | none => d5V r j)
def c2Y (ops : Array Oper) (j : Nat) : Nat := match d5V ops.toList j with | some p => X1 ops 20 p | none => 2000000
def d2t (ops : Array Oper) (slots : List D) (args : List GK) (K : Option R) : Option R :=
 match args with
 | [x, _] => (match x with
   | .tmp j => a5M slots j fun d => (match d with
     | .v _ a => (match a with
       | .own p _ => (match p with | .cell k s _ => cond (O3 (c2Y ops j) k s) K none | _ => K)
       | _ => K)
     | _ => K)
   | _ => none)
 | _ => none
def isApp (op : Op) : Bool := match op with | .call c => (match c.callee with | .builtin .append => true | _ => false) | _ => false
def b3j (op : Op) : List GK := match op with | .call c => c.args.toList | _ => []
def c5r (ops : Array Oper) (op : Op) : Nat := match b3j op with | [.tmp j, _] => c2Y ops j | _ => 2000000
def b4b (cx : Cx) (ops : Array Oper) (op : Op) (slots : List D) (K : Option R) : Option R :=
 match cx.dyn with
 | false => K
 | true => cond (isApp op) (d2t ops slots (b3j op) K) (match op with
   | .load _ z => b6p ops slots z K
   | .store _ z _ => b6p ops slots z K
   | _ => K)
def a8V (cx : Cx) (ops : Array Oper) : List Oper -> St -> (St -> Option R) -> Option R
 | [], st, K => K st
 | o :: r, ⟨slots, mem, dead⟩, K => b4b cx ops o.op slots (C6 cx ops o ⟨slots, mem, dead⟩ fun st' => a8V cx ops r st' K)
inductive Cls where
 | n | r | a | w | c | s
def E8 (cx : Cx) (op : Op) : Cls :=
 match op with
 | .load _ _ => .r
 | .alloc _ => .a
 | .box _ _ => .w
 | .store _ _ _ => .w
 | .call c => (match c.callee with
   | .builtin .append => .w
   | .builtin _ => .n
   | .value (.func f) => (match cx.isPure f with | true => .n | false => cond (cx.isStill f) .s .c)
   | .value _ => .c
   | .invoke _ _ => .c)
 | _ => .n
def e4e : Cls -> Cls -> Bool
 | .c, _ => true
 | _, .c => true
 | .n, _ => false
 | _, .n => false
 | .r, .r => false
 | .r, .a => false
 | .a, .r => false
 | .a, .a => false
 | _, _ => true
def c7N (ops : Array Oper) (o : Oper) : List Nat :=
 (o.op.operands.toList.filterMap fun x => match x with | .tmp t => some t | _ => none) ++ (match o.guard with | some (j, _) => (a4w ops j).toList | none => [])
def apart (ops : Array Oper) (cx : Cx) (a b : Oper) : Bool :=
 !e4e (E8 cx a.op) (E8 cx b.op) &&
 (match a.dst with | some s => !(c7N ops b).contains s && b.dst != some s | none => true) &&
 (match b.dst with | some s => !(c7N ops a).contains s | none => true)
def a3C (dead : List Pos) : Nat -> List Pos -> List D -> (List D -> Option R) -> Option R
 | _, _, [], K => K []
 | s, seen, d :: r, K =>
   match d with
   | .v x a => (match a with
     | .own p e => (match p with
       | .slot g => cond (O0 (.slot g) dead || O0 (.slot g) seen) (a3C dead (s + 1) seen r fun r => K (.v x .no :: r)) (a3C dead (s + 1) (.slot g :: seen) r fun r => K (.v x (.own (.slot s) e) :: r))
       | _ => a3C dead (s + 1) seen r fun r => K (.v x .no :: r))
     | a => a3C dead (s + 1) seen r fun r => K (.v x a :: r))
   | d => cond d.noOwn (a3C dead (s + 1) seen r fun r => K (d :: r)) (a3C dead (s + 1) seen r fun r => K (.any :: r))
def b1L (st : St) (K : St -> Option R) : Option R :=
 match st with
 | ⟨slots, mem, dead⟩ => (match dead with
   | [] => K ⟨slots, mem, []⟩
   | p :: r => a3C (p :: r) 0 [] slots fun slots => K ⟨slots, mem, []⟩)
def b2g (s : Nat) : List Nat -> Bool
 | [] => false
 | t :: r => cond (FZ s t) true (b2g s r)
mutual
def D.hangs (ks : List Nat) (k : Nat) : D -> Bool
 | .ptr k' s _ => FZ k' k && !b2g s ks
 | .fn _ _ k' s => FZ k' k && !b2g s ks
 | .clos _ caps => hangsL ks k caps
 | .agg ds => hangsL ks k ds
 | .tup ds => hangsL ks k ds
 | _ => false
def hangsL (ks : List Nat) (k : Nat) : List D -> Bool
 | [] => false
 | d :: ds => d.hangs ks k || hangsL ks k ds
end
def c0t (ks : List Nat) : Fr -> (Fr -> Option R) -> Option R
 | [], K => K []
 | (s, b) :: r, K => cond (b2g s ks && !hangsL ks 0 b.cells) (c0t ks r fun r => K ((s, b) :: r)) (cond (b2g s ks) none (c0t ks r K))
def a8I (all : List Nat) (slots : List D) (dead : List Pos) : List Nat -> List Pos -> (List D -> Option R) -> Option R
 | [], _, K => K []
 | s :: ks, seen, K => a5M slots s fun d =>
   (match d with
   | .v x a => (match a with
     | .own p e => (match p with
       | .slot g => cond (O0 (.slot g) dead || O0 (.slot g) seen) (a8I all slots dead ks seen fun r => K (.v x .no :: r)) (a8I all slots dead ks (.slot g :: seen) fun r => K (.v x (.own (.slot s) e) :: r))
       | _ => a8I all slots dead ks seen fun r => K (.v x .no :: r))
     | a => a8I all slots dead ks seen fun r => K (.v x a :: r))
   | d => cond (d.noOwn && !d.hangs all 0) (a8I all slots dead ks seen fun r => K (d :: r)) (a8I all slots dead ks seen fun r => K (.any :: r)))
def a4Q (d : D) : D := match d with | .v x a => (match a with | .own _ _ => .v x .no | a => .v x a) | d => d
def c2u (ks : List Nat) : Fr -> (Fr -> Option R) -> Option R
 | [], K => K []
 | (s, b) :: r, K => cond (b2g (s + 100000) ks) (forceL (b.cells.map a4Q) fun cs => c2u ks r fun r => K ((s, ⟨b.ty, cs⟩) :: r)) (c2u ks r fun r => K ((s, b) :: r))
def a8x (slots : List D) : List Nat -> List Pos -> List Pos
 | [], dead => dead
 | k :: ks, dead => cond (GY 200000 k) (match slots.getD (k - 200000) .any with | .v _ (.own p _) => p :: a8x slots ks dead | _ => a8x slots ks dead) (a8x slots ks dead)
def a9U (slots : List D) : List Nat -> List Pos -> (List Pos -> Option R) -> Option R
 | [], dead, K => K dead
 | k :: ks, dead, K => cond (GY 200000 k) (a5M slots (k - 200000) fun d => match d with | .v _ (.own p _) => a9U slots ks dead fun r => K (p :: r) | _ => a9U slots ks dead K) (a9U slots ks dead K)
def b7e (ks : List Nat) (st : St) (K : List D -> Mem -> Option R) : Option R :=
 match st with
 | ⟨slots, fr :: out, dead⟩ => a9U slots ks dead fun dead => a8I ks slots dead ks [] fun ds => c0t ks fr fun fr => c2u ks fr fun fr => K ds (fr :: out)
 | _ => none
def a0k : Nat -> Nat -> List Nat -> List D -> (List D -> Option R) -> Option R
 | 0, _, _, _, K => K []
 | n + 1, s, k :: ks, d :: ds, K => cond (FZ s k) (a0k n (s + 1) ks ds fun r => K (d :: r)) (a0k n (s + 1) (k :: ks) (d :: ds) fun r => K (.any :: r))
 | n + 1, s, ks, ds, K => a0k n (s + 1) ks ds fun r => K (.any :: r)
def X3 : Code -> Nat
 | .region id _ _ => id
 | .seq a _ => X3 a
 | .block _ a => X3 a
 | .scope a => X3 a
 | .loop a => X3 a
 | .cond _ a _ => X3 a
 | _ => 0
def W3 (body : St -> (Ex -> St -> Option R) -> Option R) (n : Nat) (ks xs : List Nat) (L : List D -> Mem -> Option R) (ds : List D) (m : Mem) (K : Ex -> List D -> Mem -> Option R) : Option R :=
 a0k n 0 ks ds fun slots => body ⟨slots, m, []⟩ fun e st' =>
  (match e with
   | .normal => b7e ks st' L
   | e => b7e xs st' fun ds m => K e ds m)
def O9 (body : St -> (Ex -> St -> Option R) -> Option R) (n : Nat) (ks xs : List Nat) : Nat -> List D -> Mem -> (Ex -> List D -> Mem -> Option R) -> Option R
 | 0, _, _, _ => none
 | t + 1, ds, m, K => W3 body n ks xs (fun ds m => O9 body n ks xs t ds m K) ds m K
def F2 : Code -> List Code
 | .seq a b => F2 a ++ F2 b
 | .cond _ a b => F2 a ++ F2 b
 | .block _ a => F2 a
 | .loop a => a :: F2 a
 | .scope a => F2 a
 | _ => []
def drawnOf : Code -> List (Array Oper)
 | .region _ ops draw => (match draw with | true => [ops] | false => [])
 | .seq a b => drawnOf a ++ drawnOf b
 | .cond _ a b => drawnOf a ++ drawnOf b
 | .block _ a => drawnOf a
 | .loop a => drawnOf a
 | .scope a => drawnOf a
 | _ => []
def D3 (l : Nat) : Code -> Bool
 | .seq a b => D3 l a || D3 l b
 | .label l' => FZ l' l
 | _ => false
def c7h (from_ : Nat -> St -> (Ex -> St -> Option R) -> Option R) (has : Nat -> Bool) : Nat -> Nat -> St -> (Ex -> St -> Option R) -> Option R
 | 0, _, _, _ => none
 | n + 1, l, st, K => from_ l st fun e st' => match e with | .goto l' => cond (has l') (c7h from_ has n l' st' K) (K (.goto l') st') | e => K e st'
mutual
def codeK (cx : Cx) (c : Code) (st : St) (K : Ex -> St -> Option R) : Option R :=
 match c with
 | .skip => K .normal st
 | .region id ops draw =>
   a8V cx ops ops.toList st fun st' => b1L st' fun st' => K .normal st'
 | .seq a b => codeK cx a st fun e st' => match e with | .normal => codeK cx b st' K | e => K e st'
 | .cond c a b =>
   (match c, st with
    | .tmp t, ⟨slots, mem, dead⟩ => a5M slots t fun d => (match d with
      | .v x at_ => x.unBool fun v => br v (b2m slots t (.v (.bool true) at_) fun slots => codeK cx a ⟨slots, mem, dead⟩ K) (b2m slots t (.v (.bool false) at_) fun slots => codeK cx b ⟨slots, mem, dead⟩ K)
      | _ => none)
    | .const (.bool v), st => cond v (codeK cx a st K) (codeK cx b st K)
    | _, _ => none)
 | .block id a => codeK cx a st fun e st' => match e with | .exit i => cond (FZ i id) (K .normal st') (K (.exit i) st') | e => K e st'
 | .loop a =>
   (match st with
    | ⟨slots, mem, dead⟩ => b7e (cx.keep (X3 a)) ⟨slots, mem, dead⟩ fun ds m => cx.loopT (X3 a) ds m fun e ds m => a0k slots.length 0 (cx.keepX (X3 a)) ds fun slots => K e ⟨slots, m, []⟩)
 | .exit id => K (.exit id) st
 | .scope a => codeK cx a st fun e st' => (match e with
   | .goto l => cond (D3 l a) (c7h (fun l st K => fromK cx l a st K) (fun l => D3 l a) cx.jumps l st' K) (K (.goto l) st')
   | e => K e st')
 | .label _ => K .normal st
 | .goto l => K (.goto l) st
 | .ret => K .ret st
 | _ => none
def fromK (cx : Cx) (l : Nat) (c : Code) (st : St) (K : Ex -> St -> Option R) : Option R :=
 match c with
 | .seq a b => cond (D3 l a) (fromK cx l a st fun e st' => match e with | .normal => codeK cx b st' K | e => K e st') (fromK cx l b st K)
 | .label _ => K .normal st
 | _ => none
end
def e0d (cx : Cx) (rv : ResultVar) (st : St) (K : D -> Option R) : Option R :=
 match rv with
 | .tmp t => a5M st.slots t fun d => forceD d.bare K
 | .cell p ty => a5M st.slots p fun dp => a0J cx.T ty dp st.mem fun d => forceD d.bare K
def b4D (cx : Cx) : List ResultVar -> St -> (List D -> Option R) -> Option R
 | [], _, K => K []
 | r :: rs, st, K => e0d cx r st fun d => b4D cx rs st fun ds => K (d :: ds)
def b9g : Nat -> (List D -> Option R) -> Option R
 | 0, K => K []
 | n + 1, K => b9g n fun r => K (.any :: r)
def c5L (n : Nat) : List D -> (List D -> Option R) -> Option R
 | [], K => b9g n K
 | d :: ds, K => c5L (n - 1) ds fun r => K (d :: r)
def M4 (cx : Cx) (fn : Func) (args : List D) (m : Mem) (K : List D -> Mem -> Option R) : Option R :=
 match fn.body with
 | some c => c5L fn.ntmps args fun slots => codeK cx c ⟨slots, [] :: m, []⟩ fun e st' =>
   (match e with
    | .normal => b4D cx fn.results.toList st' fun rs => K rs st'.mem
    | .ret => b4D cx fn.results.toList st' fun rs => K rs st'.mem
    | _ => none)
 | none => none
def s4 (fn : Func) (i : Nat) : Code := (F2 (fn.body.getD .skip)).getD i .skip
def j3 {α : Type} (o : Option α) (K : α -> Option R) : Option R := match o with | some a => K a | none => none
def s7 {α β : Type} (o : Option (α × β)) (K : α -> β -> Option R) : Option R := match o with | some (a, b) => K a b | none => none
def T4 {α β γ : Type} (o : Option (α × β × γ)) (K : α -> β -> γ -> Option R) : Option R := match o with | some (a, b, c) => K a b c | none => none
def c5B {α β γ δ : Type} (o : Option (α × β × γ × δ)) (K : α -> β -> γ -> δ -> Option R) : Option R := match o with | some (a, b, c, d) => K a b c d | none => none
end En
namespace En
open Go
inductive APos where
 | slot (d s : Nat)
 | cell (d s i : Nat)
 deriving DecidableEq
inductive Perm where
 | imm
 | low (n : Nat)
 | own (p : APos) (n : Nat)
 | box (d s : Nat)
structure G where
 Γ : Nat -> Perm
 J : Nat -> Nat -> Nat
 sz : FP -> Nat
def s5 (g : G) (b o : Nat) : Prop := match g.Γ b with | .imm => True | .low n => o < n | .own _ n => o < n | .box _ _ => False
def a9t (d : Nat) : Pos -> APos
 | .slot s => .slot d s
 | .cell k s i => .cell (d - k) s i
def b3x (d : Nat) : Pos -> Prop
 | .slot _ => True
 | .cell k _ _ => k <= d
def e4E (es : Array MapEntry) (ks : List Int) : Prop := es.toList.map (fun e => (e.key, e.val)) = ks.map fun k => (Ib .i64 k, Value.bool true)
inductive RepV (g : G) (w : Gc) : V -> FX -> Prop
 | bool (b : Bool) : RepV g w (.bool b) (.bool b)
 | int (k : HN) (n : Int) (h : k.min <= n /\ n <= k.max) : RepV g w (.int k n) (.int k n)
 | str (s : List UInt8) (h : s.length <= 9223372036854775807) : RepV g w (.str s) (.string ⟨s.toArray⟩)
 | bytes (xs : List UInt8) (A : Option Addr) (n c : Nat) (hn : xs.length = n) (hc : n <= c) (hm : c <= maxLen)
  (h : ∀ (k : Nat) x, xs[k]? = some x -> ∃ b off, A = some ⟨b, off, none⟩ /\ s5 g b (off + k) /\ w.cell? ⟨b, off + k, none⟩ = some (.int .u8 (x.toNat : Int))) : RepV g w (.bytes xs) (.slice A n c)
 | sl (e : FP) (xs : List V) (A : Option Addr) (n c : Nat) (us : Nat -> FX) (hn : xs.length = n) (hc : n <= c) (hm : c <= maxLen) (hs : ∀ x ∈ xs, b4a (g.sz e) x = true)
  (h : ∀ (k : Nat) y, (xs.flatMap V.cells)[k]? = some y -> ∃ b off, A = some ⟨b, off, none⟩ /\ s5 g b (off + k) /\ w.cell? ⟨b, off + k, none⟩ = some (us k))
  (hr : ∀ (k : Nat) y, (xs.flatMap V.cells)[k]? = some y -> RepV g w y (us k)) : RepV g w (.sl e xs) (.slice A n c)
 | agg (cs : List V) (us : Array FX) (hn : us.size = cs.length) (hr : ∀ (k : Nat) y, cs[k]? = some y -> RepV g w y (us.getD k undef)) : RepV g w (.agg cs) (.agg us)
 | iface (t : FP) (x : V) (v : FX) (h : RepV g w x v) : RepV g w (.iface t x) (.iface t v)
 | nilI : RepV g w .nilI .nilIface
 | mset (ks : List Int) (b : Nat) (es : Array MapEntry) (clock : Nat) (hb : g.Γ b = .imm) (hw : w.heap[b]? = some (.map es clock)) (hm : e4E es ks) : RepV g w (.mset ks) (.map (some b))
 | nilM : RepV g w .nilM (.map none)
 | rowI (e : FP) (xs : List V) (A : Option Addr) (n c : Nat) (h : RepV g w (.sl e xs) (.slice A n c)) (hi : xs = [] ∨ ∃ b cur, A = some ⟨b, 0, none⟩ /\ g.Γ b = .imm /\ w.heap[b]? = some (.cells cur e (0, 0))) : RepV g w (.rowI e xs) (.slice A n c)
structure Later (g : G) (w : Gc) (g' : G) (w' : Gc) : Prop where
 sz : g'.sz = g.sz
 st : ∀ b o v, s5 g b o -> w.cell? ⟨b, o, none⟩ = some v -> s5 g' b o /\ w'.cell? ⟨b, o, none⟩ = some v
 im : ∀ b x, g.Γ b = .imm -> w.heap[b]? = some x -> g'.Γ b = .imm /\ w'.heap[b]? = some x
theorem Later.refl (g : G) (w : Gc) : Later g w g w := ⟨rfl, fun _ _ _ h h' => ⟨h, h'⟩, fun _ _ h h' => ⟨h, h'⟩⟩
theorem Later.trans {g g1 g2 : G} {w w1 w2 : Gc} (h : Later g w g1 w1) (k : Later g1 w1 g2 w2) : Later g w g2 w2 :=
 ⟨k.sz.trans h.sz, fun b o v h1 h2 => k.st b o v (h.st b o v h1 h2).1 (h.st b o v h1 h2).2, fun b x h1 h2 => k.im b x (h.im b x h1 h2).1 (h.im b x h1 h2).2⟩
theorem RepV.later {g g' : G} {w w' : Gc} (hl : Later g w g' w') {x : V} {v : FX} (h : RepV g w x v) : RepV g' w' x v := by
 induction h with
 | bool b => exact .bool b
 | int k n h => exact .int k n h
 | str s h => exact .str s h
 | bytes xs A n c hn hc hm h =>
   refine .bytes xs A n c hn hc hm fun k x hx => ?_
   obtain ⟨b, off, e, h1, h2⟩ := h k x hx
   exact ⟨b, off, e, hl.st _ _ _ h1 h2⟩
 | sl e xs A n c us hn hc hm hs h hr ih =>
   refine .sl e xs A n c us hn hc hm (by rw [hl.sz]; exact hs) (fun k x hx => ?_) ih
   obtain ⟨b, off, e, h1, h2⟩ := h k x hx
   exact ⟨b, off, e, hl.st _ _ _ h1 h2⟩
 | agg cs us hn hr ih => exact .agg cs us hn ih
 | iface t x v h ih => exact .iface t x v ih
 | nilI => exact .nilI
 | mset ks b es clock hb hw hm => exact .mset ks b es clock (hl.im _ _ hb hw).1 (hl.im _ _ hb hw).2 hm
 | nilM => exact .nilM
 | rowI e xs A n c h hi ih => exact .rowI e xs A n c ih (hi.imp id fun ⟨b, cur, h1, h2, h3⟩ => ⟨b, cur, h1, (hl.im _ _ h2 h3).1, (hl.im _ _ h2 h3).2⟩)
theorem RepV.one {g : G} {w : Gc} {x : V} {v : FX} (h : RepV g w x v) (h1 : x.one = true) : v.oneCell' = true := by
 cases h <;> first | rfl | cases h1
theorem RepV.cells {g : G} {w : Gc} {x : V} {v : FX} (h : RepV g w x v) : v.cells.size = x.cells.length /\ ∀ (k : Nat) y, x.cells[k]? = some y -> RepV g w y (v.cells.getD k undef) := by
 cases h with
 | agg cs us hn hr => exact ⟨hn, hr⟩
 | _ =>
   refine ⟨rfl, fun k y hk => ?_⟩
   rcases k with _ | k
   . simp [V.cells] at hk
     subst hk
     simp only [Iv]
     first
      | exact .bool _
      | exact .int _ _ (by assumption)
      | exact .str _ (by assumption)
      | exact .bytes _ _ _ _ (by assumption) (by assumption) (by assumption) (by assumption)
      | exact .sl _ _ _ _ _ _ (by assumption) (by assumption) (by assumption) (by assumption) (by assumption) (by assumption)
      | exact .iface _ _ _ (by assumption)
      | exact .nilI
      | exact .mset _ _ _ _ (by assumption) (by assumption) (by assumption)
      | exact .nilM
      | exact .rowI _ _ _ _ _ (by assumption) (by assumption)
   . simp [V.cells] at hk
def D1 (g : G) (w : Gc) (p : APos) (e : FP) (v : FX) : Prop :=
 v = .slice none 0 0 ∨ ∃ b n cap cur, v = .slice (some ⟨b, 0, none⟩) n cap /\ g.Γ b = .own p (n * g.sz e) /\ w.heap[b]? = some (.cells cur e (0, 0)) /\ n <= cap /\ cap <= maxLen /\ cur.size = cap * g.sz e
structure Env where
 d : Nat
 dom : Nat -> Nat -> Prop
def AttOK (E : Env) (g : G) (w : Gc) (dead : List Pos) : Att -> FX -> Prop
 | .no, _ => True
 | .nil _, v => v = .slice none 0 0
 | .own p e, v => p ∈ dead ∨ (b3x E.d p /\ D1 g w (a9t E.d p) e v)
def FnV (n : Int) (fs : List Gv) (C : Prop) (b : Nat) (v : FX) : Prop :=
 (n = 0 /\ v = .nilFunc) ∨ ∃ (i : Nat) (f : Gv), fs[i]? = some f /\ n = (i : Int) + 1 /\ C /\ v = .func (.func f) #[.pointer (some ⟨b, 0, none⟩)] #[]
theorem FnV.imp {n : Int} {fs : List Gv} {C C' : Prop} {b b' : Nat} {v : FX} (h : FnV n fs C b v) (hc : C -> C' /\ b' = b) : FnV n fs C' b' v := by
 rcases h with h | ⟨i, f, h1, h2, h3, h4⟩
 . exact .inl h
 . obtain ⟨a, rfl⟩ := hc h3
   exact .inr ⟨i, f, h1, h2, a, h4⟩
def a6W (f : Gv) (us : Array FX) : FX :=
 match us.size with
 | 0 => .func (.func f) #[] us
 | _ + 1 => cond (GY 1000000 f) (.func (.func (f - 1000000)) us #[]) (.func (.func f) #[] us)
theorem a8o (f : Gv) (us : Array FX) : a6W f us = .func (.func f) #[] us ∨ (1000000 <= f /\ a6W f us = .func (.func (f - 1000000)) us #[]) := by
 unfold a6W
 split
 . exact .inl rfl
 . cases h : GY 1000000 f with
   | true => exact .inr ⟨Gm h, rfl⟩
   | false => exact .inl rfl
theorem c2B (f : Gv) (us : Array FX) (h : 0 < us.size) : a6W (f + 1000000) us = .func (.func f) us #[] := by
 have hb : GY 1000000 (f + 1000000) = true := Ia (Nat.le_add_left _ _)
 have hs : f + 1000000 - 1000000 = f := Nat.add_sub_cancel _ _
 unfold a6W
 split
 . rename_i e; omega
 . rw [hb, hs]; rfl
theorem b6F {f : Gv} {us : Array FX} (h : ¬ 1000000 <= f) : a6W f us = .func (.func f) #[] us := by
 rcases a8o f us with e | ⟨e, _⟩
 . exact e
 . exact absurd e h
inductive RepD (E : Env) (g : G) (w : Gc) (dead : List Pos) : D -> FX -> Prop
 | v (x : V) (a : Att) (v : FX) (h : RepV g w x v) (ha : AttOK E g w dead a v) : RepD E g w dead (.v x a) v
 | ptr (k s o : Nat) (hk : k <= E.d) (hd : E.dom k s) : RepD E g w dead (.ptr k s o) (.pointer (some ⟨g.J (E.d - k) s, o, none⟩))
 | nilp : RepD E g w dead .nilp (.pointer none)
 | eptr (cs : List V) (o b off : Nat) (us : Nat -> FX) (h : ∀ (k : Nat) y, cs[k]? = some y -> s5 g b (off + k) /\ w.cell? ⟨b, off + k, none⟩ = some (us k))
  (hr : ∀ (k : Nat) y, cs[k]? = some y -> RepV g w y (us k)) : RepD E g w dead (.eptr cs o) (.pointer (some ⟨b, off + o, none⟩))
 | clos (f : Gv) (caps : List D) (us : Array FX) (hn : us.size = caps.length) (hr : ∀ (k : Nat) y, caps[k]? = some y -> RepD E g w dead y (us.getD k undef)) : RepD E g w dead (.clos f caps) (a6W f us)
 | nilF : RepD E g w dead .nilF .nilFunc
 | fn (n : Int) (fs : List Gv) (k s : Nat) (v : FX) (h : FnV n fs (k <= E.d /\ E.dom k s) (g.J (E.d - k) s) v) : RepD E g w dead (.fn n fs k s) v
 | bld : RepD E g w dead .bld (.pointer none)
 | agg (ds : List D) (us : Array FX) (hn : us.size = ds.length) (hr : ∀ (k : Nat) y, ds[k]? = some y -> RepD E g w dead y (us.getD k undef)) : RepD E g w dead (.agg ds) (.agg us)
 | tup (ds : List D) (us : Array FX) (hn : us.size = ds.length) (hr : ∀ (k : Nat) y, ds[k]? = some y -> RepD E g w dead y (us.getD k undef)) : RepD E g w dead (.tup ds) (.tuple us)
 | any (v : FX) : RepD E g w dead .any v
structure Keeps (E : Env) (g : G) (w : Gc) (dead : List Pos) (E' : Env) (g' : G) (w' : Gc) (dead' : List Pos) : Prop where
 later : Later g w g' w'
 d : E'.d = E.d
 dom : ∀ k s, E.dom k s -> E'.dom k s
 J : ∀ k s, k <= E.d -> E.dom k s -> g'.J (E.d - k) s = g.J (E.d - k) s
 dead : ∀ p, p ∈ dead -> p ∈ dead'
 own : ∀ p e v, b3x E.d p -> p ∉ dead' -> D1 g w (a9t E.d p) e v -> D1 g' w' (a9t E.d p) e v
theorem Keeps.refl (E : Env) (g : G) (w : Gc) (dead : List Pos) : Keeps E g w dead E g w dead :=
 ⟨Later.refl g w, rfl, fun _ _ h => h, fun _ _ _ _ => rfl, fun _ h => h, fun _ _ _ _ _ h => h⟩
theorem Keeps.trans {E E1 E2 : Env} {g g1 g2 : G} {w w1 w2 : Gc} {d d1 d2 : List Pos} (h : Keeps E g w d E1 g1 w1 d1) (k : Keeps E1 g1 w1 d1 E2 g2 w2 d2) : Keeps E g w d E2 g2 w2 d2 := by
 refine ⟨h.later.trans k.later, k.d.trans h.d, fun a s hh => k.dom a s (h.dom a s hh), fun a s ha hd => ?_, fun p hp => k.dead p (h.dead p hp), fun p e v hp hn ho => ?_⟩
 . have := k.J a s (by rw [h.d]; exact ha) (h.dom a s hd)
   rw [h.d] at this
   exact this.trans (h.J a s ha hd)
 . have h1 := h.own p e v hp (fun hh => hn (k.dead p hh)) ho
   have := k.own p e v (by rw [h.d]; exact hp) hn (by rw [h.d]; exact h1)
   rwa [h.d] at this
theorem AttOK.keep {E E' : Env} {g g' : G} {w w' : Gc} {dead dead' : List Pos} (hk : Keeps E g w dead E' g' w' dead') {a : Att} {v : FX} (h : AttOK E g w dead a v) : AttOK E' g' w' dead' a v := by
 cases a with
 | no => trivial
 | nil e => exact h
 | own p e =>
   by_cases hp : p ∈ dead'
   . exact .inl hp
   . rcases h with h | ⟨h1, h2⟩
     . exact absurd (hk.dead p h) hp
     . refine .inr ⟨by rw [hk.d]; exact h1, ?_⟩
       rw [hk.d]
       exact hk.own p e v h1 hp h2
theorem RepD.keep {E E' : Env} {g g' : G} {w w' : Gc} {dead dead' : List Pos} (hk : Keeps E g w dead E' g' w' dead') {x : D} {v : FX} (h : RepD E g w dead x v) : RepD E' g' w' dead' x v := by
 induction h with
 | v x a v h ha => exact .v x a v (h.later hk.later) (ha.keep hk)
 | ptr k s o h1 h2 =>
   have := hk.J k s h1 h2
   rw [← this, ← hk.d]
   exact .ptr k s o (by rw [hk.d]; exact h1) (hk.dom k s h2)
 | nilp => exact .nilp
 | eptr cs o b off us h hr => exact .eptr cs o b off us (fun k y hy => hk.later.st _ _ _ (h k y hy).1 (h k y hy).2) (fun k y hy => (hr k y hy).later hk.later)
 | clos f caps us hn hr ih => exact .clos f caps us hn ih
 | nilF => exact .nilF
 | fn n fs k s v h => exact .fn n fs k s v (h.imp fun ⟨h1, h2⟩ => ⟨⟨by rw [hk.d]; exact h1, hk.dom k s h2⟩, by rw [hk.d]; exact hk.J k s h1 h2⟩)
 | bld => exact .bld
 | agg ds us hn hr ih => exact .agg ds us hn ih
 | tup ds us hn hr ih => exact .tup ds us hn ih
 | any v => exact .any v
def D.flat : D -> Bool
 | .v _ _ => true
 | d => d.noOwn
def F4 (m : Mem) (k s : Nat) : Prop := ∃ b, m.box? k s = some b
def c2s (b : Nat) (v : FX) : Prop := v = .pointer none ∨ v = .pointer (some ⟨b, 0, none⟩)
structure BoxRep (E : Env) (g : G) (w : Gc) (k s : Nat) (b : Bx) : Prop where
 le : k <= E.d
 perm : g.Γ (g.J (E.d - k) s) = .box (E.d - k) s
 heap : ∃ us, w.heap[g.J (E.d - k) s]? = some (.cells us b.ty (0, 0)) /\ us.size = b.cells.length /\
  ∀ (i : Nat) c, b.cells[i]? = some c -> c.one = true /\ c.flat = true /\ (c = .bld -> c2s (g.J (E.d - k) s) (us.getD i undef)) /\ RepD E g w [] (G6 k s i c) (us.getD i undef)
def MemRep (E : Env) (g : G) (w : Gc) (m : Mem) : Prop := ∀ k s b, m.box? k s = some b -> BoxRep E g w k s b
structure Tr (d : Nat) (g : G) (w : Gc) (g' : G) (w' : Gc) : Prop where
 os : w'.os = w.os
 tape : w'.tape = w.tape
 output : w'.output = w.output
 size : w.heap.size <= w'.heap.size
 later : Later g w g' w'
 hid : ∀ b, b < w.heap.size -> (g.Γ b = .imm ∨ ∃ n, g.Γ b = .low n) -> g'.Γ b = g.Γ b /\ w'.heap[b]? = w.heap[b]?
 J : ∀ d' s, d' < d -> g'.J d' s = g.J d' s
theorem Tr.refl (d : Nat) (g : G) (w : Gc) : Tr d g w g w :=
 ⟨rfl, rfl, rfl, FW _, Later.refl g w, fun _ _ _ => ⟨rfl, rfl⟩, fun _ _ _ => rfl⟩
theorem Tr.trans {d : Nat} {g g1 g2 : G} {w w1 w2 : Gc} (h : Tr d g w g1 w1) (k : Tr d g1 w1 g2 w2) : Tr d g w g2 w2 := by
 refine ⟨k.os.trans h.os, k.tape.trans h.tape, k.output.trans h.output, IL h.size k.size, h.later.trans k.later, fun b hb hi => ?_, fun d' s hd => (k.J d' s hd).trans (h.J d' s hd)⟩
 obtain ⟨a1, a2⟩ := h.hid b hb hi
 obtain ⟨b1, b2⟩ := k.hid b (Ji hb h.size) (by rw [a1]; exact hi)
 exact ⟨b1.trans a1, b2.trans a2⟩
theorem Pos.eqb_iff (p q : Pos) : p.eqb q = true ↔ p = q := by
 cases p <;> cases q <;> simp [Pos.eqb]
theorem a1r (p : Pos) : ∀ l : List Pos, O0 p l = true ↔ p ∈ l
 | [] => by simp [O0]
 | q :: l => by
   unfold O0
   cases h : p.eqb q with
   | true => simp [(Pos.eqb_iff p q).1 h]
   | false =>
     have : p ≠ q := fun e => by rw [(Pos.eqb_iff p q).2 e] at h; cases h
     simp [a1r p l, this]
theorem a7L {s t : Nat} (h : s ≠ t) : FZ s t = false := by
 cases hb : FZ s t with
 | false => rfl
 | true => exact absurd (FM hb) h
theorem N0 (t s : Nat) (b : Bx) (r : Fr) : G2 t ((s, b) :: r) = if t = s then some b else G2 t r := by
 show (bif FZ t s then some b else G2 t r) = _
 by_cases h : t = s
 . subst h; simp
 . rw [a7L h, if_neg h]; rfl
theorem b6u (s t : Nat) (b : Bx) : ∀ fr : Fr, G2 t (P2 s b fr) = if t = s then some b else G2 t fr
 | [] => by rw [P2, N0]
 | (s', b') :: r => by
   unfold P2
   by_cases h1 : s = s'
   . subst h1
     simp only [Nat.beq_refl, cond_true, N0]
     by_cases h : t = s <;> simp [h]
   . rw [a7L h1]
     simp only [cond_false]
     cases hb : GS s s' with
     | true => simp only [cond_true, N0]
     | false =>
       simp only [cond_false, N0, b6u s t b r]
       by_cases h : t = s
       . subst h; simp [h1]
       . simp [h]
theorem I8 : ∀ (m : Mem) (k s : Nat) (b : Bx) (k' s' : Nat), (m.setBox k s b).box? k' s' = if k' = k /\ s' = s /\ k < m.length then some b else m.box? k' s'
 | [], k, s, b, k', s' => by simp [Mem.setBox, Mem.box?]
 | fr :: m, 0, s, b, 0, s' => by simp [Mem.setBox, Mem.box?, b6u]
 | fr :: m, 0, s, b, k' + 1, s' => by simp [Mem.setBox, Mem.box?]
 | fr :: m, k + 1, s, b, 0, s' => by simp [Mem.setBox, Mem.box?]
 | fr :: m, k + 1, s, b, k' + 1, s' => by simp [Mem.setBox, Mem.box?, I8 m k s b k' s']
theorem K7 : ∀ (m : Mem) (k s : Nat) (b : Bx), (m.setBox k s b).length = m.length
 | [], _, _, _ => rfl
 | _ :: _, 0, _, _ => rfl
 | _ :: m, k + 1, s, b => by simp [Mem.setBox, K7 m k s b]
theorem a2h : ∀ (m : Mem) (k s : Nat) (b : Bx), m.box? k s = some b -> k < m.length
 | [], _, _, _, h => by simp [Mem.box?] at h
 | _ :: _, 0, _, _, _ => by simp
 | _ :: m, k + 1, s, b, h => by have := a2h m k s b h; simp; omega
end En
namespace En
open Go
/-- A struct that is compared. -/
def eqOKB (P : Gu) (t : FP) (ty : Ty) : Bool := !ty.eqb || (!P.stoodInHeld t && (!P.eqGuardType P.depth t && (match ty.desc with | .struct fs => fs.toList.all fun f => !(f.name == "_") | _ => true)))
structure TyOK (P : Gu) (t : FP) (ty : Ty) : Prop where
 desc : P.underlying t = some ty.desc
 info : ∃ i, P.info? t = some i /\ i.zero = some ty.zero /\ i.size = ty.size /\ i.bytes = ty.nbytes
 one : ty.row = false -> ty.size = 1
 eq : eqOKB P t ty = true
def D7 (P : Gu) (T : FP -> Option Ty) : Prop := ∀ t ty, T t = some ty -> TyOK P t ty
def e5e (P : Gu) (o : Oper) (a : Act) (w : Gc) (v : FX) (w' : Gc) : Prop :=
 (execOp a.eval o).run P w = .ok (.value v) w' ∨ ((execOp a.eval o).run P w = .ok .skip w' /\ v = undef)
theorem c4C {P : Gu} {o : Oper} {a : Act} {w w' : Gc} {v : FX} (h : e5e P o a w v w') {next : Act -> Gc -> Prop} {Q : Exit -> Act -> Gc -> Prop} (hn : next (a.put o.dst v) w') : o.wp P a w next Q := by
 unfold Oper.wp
 rcases h with h | ⟨h, rfl⟩
 . rw [h]; exact hn
 . rw [h]; exact hn
def b1e (k : HN) (zs : List Int) : Array FX := (zs.map fun z => Ib k z).toArray
def a0I : List Nat := [0, 2, 4, 1]
def e0T (b : Nat) (x : Obj) : Prop := ∃ vs t f, x = .cells vs t f /\ (b = 0 -> vs = b1e .u8 Lib.asciiSpaceTab) /\ (b = 2 -> ∃ m, vs[0]? = some (.int .i64 m)) /\ (b = 4 -> vs = b1e .u64 Lib.pow10Tab) /\ (b = 1 -> vs = b1e .i64 [255, 0])
structure SzOK (T : FP -> Option Ty) (g : G) (w : Gc) : Prop where
 eq : g.sz = U5 T
 gl : ∀ b ∈ a0I, g.Γ b = .imm /\ ∃ x, w.heap[b]? = some x /\ e0T b x
theorem SzOK.later {T : FP -> Option Ty} {g g' : G} {w w' : Gc} (h : SzOK T g w) (hl : Later g w g' w') : SzOK T g' w' :=
 ⟨hl.sz.trans h.eq, fun b hb => by
  obtain ⟨h1, x, h2, h3⟩ := h.gl b hb
  obtain ⟨h4, h5⟩ := hl.im b x h1 h2
  exact ⟨h4, x, h5, h3⟩⟩
structure Here (T : FP -> Option Ty) (E : Env) (g : G) (w : Gc) (m : Mem) : Prop where
 mem : MemRep E g w m
 dom : E.dom = F4 m
 sk : SzOK T g w
 len : m.length = E.d + 1
theorem Here.sz {T : FP -> Option Ty} {E : Env} {g : G} {w : Gc} {m : Mem} (h : Here T E g w m) : g.sz = U5 T := h.sk.eq
def Res (P : Gu) (T : FP -> Option Ty) (E : Env) (g : G) (w : Gc) (m : Mem) (dead : List Pos) (o : Oper) (a : Act) (x : D) (m' : Mem) (dead' : List Pos) : Prop :=
 ∃ v w' g' E', e5e P o a w v w' /\ Keeps E g w dead E' g' w' dead' /\ Here T E' g' w' m' /\ RepD E' g' w' dead' x v /\ Tr E.d g w g' w'
theorem Res.pure {P : Gu} {T : FP -> Option Ty} {E : Env} {g : G} {w : Gc} {m : Mem} {dead : List Pos} {o : Oper} {a : Act} {x : D} (hh : Here T E g w m) {v : FX}
 (hr : (execOp a.eval o).run P w = .ok (.value v) w) (hx : RepD E g w dead x v) : Res P T E g w m dead o a x m dead :=
 ⟨v, w, g, E, .inl hr, Keeps.refl E g w dead, hh, hx, Tr.refl _ _ _⟩
section
variable {P : Gu} {T : FP -> Option Ty} {E : Env} {g : G} {w : Gc} {dead : List Pos}
theorem RepD.int_inv {k : HN} {n : Int} {a : Att} {v : FX} (h : RepD E g w dead (.v (.int k n) a) v) : v = .int k n /\ k.min <= n /\ n <= k.max := by
 cases h with | v x a v h ha => cases h with | int k n hh => exact ⟨rfl, hh⟩
theorem RepD.bool_inv {b : Bool} {a : Att} {v : FX} (h : RepD E g w dead (.v (.bool b) a) v) : v = .bool b := by
 cases h with | v x a v h ha => cases h; rfl
theorem RepD.str_inv {s : List UInt8} {a : Att} {v : FX} (h : RepD E g w dead (.v (.str s) a) v) : v = .string ⟨s.toArray⟩ /\ s.length <= 9223372036854775807 := by
 cases h with | v x a v h ha => cases h with | str s hh => exact ⟨rfl, hh⟩
theorem RepD.int_ {k : HN} {n : Int} (h : k.min <= n /\ n <= k.max) : RepD E g w dead (a2i k n) (.int k n) := .v _ _ _ (.int k n h) trivial
theorem RepD.bool_ (b : Bool) : RepD E g w dead (S8 b) (.bool b) := .v _ _ _ (.bool b) trivial
theorem RepD.str_ {s : List UInt8} (h : s.length <= 9223372036854775807) : RepD E g w dead (.v (.str s) .no) (.string ⟨s.toArray⟩) := .v _ _ _ (.str s h) trivial
theorem J9 (k : HN) (n : Int) : k.min <= k.wrap n /\ k.wrap n <= k.max := by
 cases k <;> simp only [IntKind.wrap, Jm, Jn, JO, IX] <;> simp <;> (try split) <;> omega
theorem RepD.plain_ {x : D} {v : FX} (h : RepD E g w dead x v) : RepD E g w dead x.plain v := by
 have hl : ∀ (ds : List D) (k : Nat) y, (plains ds)[k]? = some y -> ∃ z, ds[k]? = some z /\ y = z.plain := by
  intro ds
  induction ds with
  | nil => intro k y h; simp [plains] at h
  | cons d ds ih =>
    intro k y h
    rcases k with _ | k
    . simp [plains] at h; exact ⟨d, by simp, h.symm⟩
    . simp [plains] at h; obtain ⟨z, h1, h2⟩ := ih k y h; exact ⟨z, by simpa using h1, h2⟩
 have hn : ∀ ds : List D, (plains ds).length = ds.length := by
  intro ds; induction ds with | nil => rfl | cons d ds ih => simp [plains, ih]
 induction h with
 | v x a v h ha => cases a <;> simp only [D.plain, Att.plain] <;> first | exact .v _ _ _ h ha | exact .v _ _ _ h trivial
 | ptr k s o h1 h2 => exact .ptr k s o h1 h2
 | nilp => exact .nilp
 | eptr cs o b off us h hr => exact .eptr cs o b off us h hr
 | clos f caps us hn' hr ih =>
   refine .clos f _ us (by rw [hn]; exact hn') fun k y hy => ?_
   obtain ⟨z, hz, rfl⟩ := hl _ k y hy
   exact ih k z hz
 | nilF => exact .nilF
 | fn n fs k s v h => exact .fn n fs k s v h
 | bld => exact .bld
 | agg ds us hn' hr ih =>
   refine .agg _ us (by rw [hn]; exact hn') fun k y hy => ?_
   obtain ⟨z, hz, rfl⟩ := hl _ k y hy
   exact ih k z hz
 | tup ds us hn' hr ih =>
   refine .tup _ us (by rw [hn]; exact hn') fun k y hy => ?_
   obtain ⟨z, hz, rfl⟩ := hl _ k y hy
   exact ih k z hz
 | any v => exact .any v
theorem J8 : ∀ (ds : List D) (k : Nat) y, (bares ds)[k]? = some y -> ∃ z, ds[k]? = some z /\ y = z.bare
 | [], k, y, h => by simp [bares] at h
 | d :: ds, 0, y, h => by simp [bares] at h; exact ⟨d, by simp, h.symm⟩
 | d :: ds, k + 1, y, h => by
   simp [bares] at h; obtain ⟨z, h1, h2⟩ := J8 ds k y h; exact ⟨z, by simpa using h1, h2⟩
theorem E9 : ∀ ds : List D, (bares ds).length = ds.length
 | [] => rfl
 | d :: ds => by simp [bares, E9 ds]
theorem RepD.bare_ {x : D} {v : FX} (h : RepD E g w dead x v) : RepD E g w dead x.bare v := by
 induction h with
 | v x a v h ha => exact .v _ _ _ h trivial
 | ptr k s o h1 h2 => exact .ptr k s o h1 h2
 | nilp => exact .nilp
 | eptr cs o b off us h hr => exact .eptr cs o b off us h hr
 | clos f caps us hn' hr ih =>
   refine .clos f _ us (by rw [E9]; exact hn') fun k y hy => ?_
   obtain ⟨z, hz, rfl⟩ := J8 _ k y hy
   exact ih k z hz
 | nilF => exact .nilF
 | fn n fs k s v h => exact .fn n fs k s v h
 | bld => exact .bld
 | agg ds us hn' hr ih =>
   refine .agg _ us (by rw [E9]; exact hn') fun k y hy => ?_
   obtain ⟨z, hz, rfl⟩ := J8 _ k y hy
   exact ih k z hz
 | tup ds us hn' hr ih =>
   refine .tup _ us (by rw [E9]; exact hn') fun k y hy => ?_
   obtain ⟨z, hz, rfl⟩ := J8 _ k y hy
   exact ih k z hz
 | any v => exact .any v
theorem b3V (ck : CK) (v : FX) : RepD E g w dead (b8X ck v) v := by
 unfold b8X
 split
 . rw [GF]
   split
   . rename_i h; exact RepD.int_ (by simpa using h)
   . exact .any _
 . exact RepD.bool_ _
 . rename_i s
   rw [GF]
   split
   . rename_i h
     have h := Gm h
     exact RepD.str_ (by omega)
   . exact .any _
 . exact .v _ _ _ .nilI trivial
 . exact .nilF
 . exact .v _ _ _ .nilM trivial
 . exact .nilp
 . split
   . exact .v _ _ _ (.bytes [] none 0 0 rfl (FW _) (Hq _) fun k x h => by simp at h) rfl
   . exact .v _ _ _ (.sl _ [] none 0 0 (fun _ => undef) rfl (FW _) (Hq _) (fun x h => by simp at h) (fun k x h => by simp at h) (fun k x h => by simp at h)) rfl
   . exact .any _
 . rename_i f first caps
   obtain ⟨l1⟩ := first
   obtain ⟨l2⟩ := caps
   rcases l1 with _ | ⟨x, l1⟩ <;> rcases l2 with _ | ⟨y, l2⟩ <;> simp only []
   . exact .clos f [] #[] rfl fun k y h => by simp at h
   all_goals exact .any _
 . exact .any _
theorem b0T : ∀ (cks : List CK) (vs : List FX) (k : Nat) y, (a0N cks vs)[k]? = some y -> RepD E g w dead y (vs.getD k undef)
 | [], vs, k, y, h => by simp [a0N] at h
 | _ :: _, [], k, y, h => by simp [a0N] at h
 | ck :: cks, v :: vs, 0, y, h => by simp [a0N] at h; subst h; exact b3V ck v
 | ck :: cks, v :: vs, k + 1, y, h => by simp [a0N] at h; simpa using b0T cks vs k y h
theorem a5f : ∀ (cks : List CK) (vs : List FX), vs.length = cks.length -> (a0N cks vs).length = vs.length
 | [], [], _ => rfl
 | _ :: cks, _ :: vs, h => by simp [a0N, a5f cks vs (by simpa using h)]
 | [], _ :: _, h => by simp at h
 | _ :: _, [], h => by simp at h
theorem c6a (ty : Option Ty) (v : FX) : RepD E g w dead (b8y ty v) v := by
 unfold b8y
 split
 . rename_i cs
   split
   . rw [GF]
     split
     . rename_i h
       have h := FM h
       refine .agg _ cs (by rw [a5f _ _ h]; simp) fun k y hy => ?_
       have := b0T (E := E) (g := g) (w := w) (dead := dead) _ _ k y hy
       simpa using this
     . exact .any _
   . exact .any _
 . exact b3V _ _
theorem d0T {slots : List D} {a : Act} (hs : ∀ (s : Nat) x, slots[s]? = some x -> RepD E g w dead x (a.tmps.getD s undef)) (h : FP) (z : GK) : RepD E g w dead (G5 T slots h z) (a.eval z) := by
 cases z with
 | tmp t =>
   simp only [G5, Act.eval, FV]
   cases hx : slots[t]? with
   | none => exact .any _
   | some x => exact hs t x hx
 | const v => exact c6a _ _
 | global gg => exact .any _
 | func f => exact .clos f [] #[] rfl fun k y h => by simp at h
theorem c2A (hk : SzOK T g w) (z : GK) {d : D} {a : Act} (h : RepD E g w dead d (a.eval z)) : RepD E g w dead (glob z d) (a.eval z) := by
 cases z with
 | global gg =>
   unfold glob d5Z
   simp only
   cases e : FZ gg 1 with
   | false => exact .any _
   | true =>
     have e := FM e
     subst e
     obtain ⟨h1, x, h2, vs, t, f, rfl, _, _, _, h3⟩ := hk.gl 1 (by simp [a0I])
     have h3 := h3 rfl
     have hg : ∀ o, s5 g 1 o := fun o => by unfold s5; rw [h1]; trivial
     have hc : ∀ (k : Nat) u, vs[k]? = some u -> w.cell? ⟨1, 0 + k, none⟩ = some u := fun k u hu => by
      unfold World.cell?
      simp only [h2, GL]
      exact hu
     refine .eptr _ 0 1 0 (fun k => if k = 0 then .int .i64 255 else .int .i64 0) (fun k y hy => ?_) (fun k y hy => ?_)
     . rcases k with _ | _ | k
       . exact ⟨hg _, hc 0 _ (by rw [h3]; rfl)⟩
       . exact ⟨hg _, hc 1 _ (by rw [h3]; rfl)⟩
       . simp at hy
     . rcases k with _ | _ | k
       . simp at hy; subst hy; exact .int _ _ (by decide)
       . simp at hy; subst hy; exact .int _ _ (by decide)
       . simp at hy
 | _ => exact h
end
end En
namespace En
open Go
section
variable {P : Gu} {T : FP -> Option Ty} {E : Env} {g : G} {w : Gc} {dead : List Pos}
theorem F7 {α : Type} {b : Bool} {K : Option α} {r : α} (h : check b K = some r) : b = true /\ K = some r := by
 cases b
 . cases h
 . exact ⟨rfl, h⟩
theorem j8 {α : Type} {b : Bool} {K K' : Option α} {r : α} (h : cond b K K' = some r) : (b = true /\ K = some r) ∨ (b = false /\ K' = some r) := by
 cases b
 . exact .inr ⟨rfl, h⟩
 . exact .inl ⟨rfl, h⟩
theorem a7o (k : HN) : k.min <= 0 /\ 0 <= k.max := by
 cases k <;> simp [Jm, Jn, JO, IX]
theorem a8B (a b : Int) (h : 0 <= a) (hb : 0 < b) : a % b <= a := by
 have h1 := Int.mul_ediv_add_emod a b
 have h2 : 0 <= b * (a / b) := Int.mul_nonneg (KF hb) (Ml h (KF hb))
 omega
theorem c4V (k : HN) (a b : Int) (ha : k.min <= a /\ a <= k.max) : k.min <= a.tmod b /\ a.tmod b <= k.max := by
 have h0 := a7o k
 rcases Nk 0 a with h | h
 . have h1 : 0 <= a.tmod b := Mm b h
   have h2 : a.tmod b <= a := by
    by_cases hb : b = 0
    . subst hb; simp
    . rcases Lz hb with hb | hb
      . have := Nl a (-b); rw [NM] at this; rw [this, Hw h]
        exact a8B _ _ h (by omega)
      . rw [Hw h]; exact a8B _ _ h hb
   omega
 . have hn : 0 <= -a := by omega
   have h1 : 0 <= (-a).tmod b := Mm b hn
   have h3 : (-a).tmod b = -(a.tmod b) := Int.neg_tmod a b
   have h2 : (-a).tmod b <= -a := by
    by_cases hb : b = 0
    . subst hb; simp
    . rcases Lz hb with hb | hb
      . have := Nl (-a) (-b); rw [NM] at this; rw [this, Hw hn]
        exact a8B _ _ hn (by omega)
      . rw [Hw hn]; exact a8B _ _ hn hb
   omega
theorem c9V (k : HN) (a b : Int) (ha : k.min <= a /\ a <= k.max) : k.min <= G8 k a b /\ G8 k a b <= k.max := by
 have h0 := a7o k
 unfold G8
 generalize min b.toNat k.bits = n
 have hp : (0 : Int) < 2 ^ n := Int.pow_pos (by decide)
 rw [Int.fdiv_eq_ediv_of_nonneg _ (KF hp)]
 rcases Nk 0 a with h | h
 . have h1 : 0 <= a / 2 ^ n := Ml h (KF hp)
   have h2 : a / 2 ^ n <= a := Int.ediv_le_self _ h
   omega
 . have h1 : a <= a / 2 ^ n := by
    rw [Int.le_ediv_iff_mul_le hp]
    have : a * 2 ^ n <= a * 1 := Int.mul_le_mul_of_nonpos_left h (by omega)
    omega
   have h2 : a / 2 ^ n <= 0 := Int.ediv_nonpos_of_nonpos_of_neg h hp
   omega
theorem c6A (op : Ln) (hop : op ≠ .shl /\ op ≠ .shr) (xt : FP) (k : HN) (a b : Int) (d : D) (h : b5R op k a b some = some d) (ha : k.min <= a /\ a <= k.max) (hb : k.min <= b /\ b <= k.max) :
 ∃ v, (binOp op xt (.int k a) (.int k b)).run P w = .ok v w /\ RepD E g w dead d v := by
 cases op <;> simp only [b5R, Gy] at h
 case add => subst h; exact ⟨_, by simp [binOp, KY], RepD.int_ (J9 _ _)⟩
 case sub => subst h; exact ⟨_, by simp [binOp, KY], RepD.int_ (J9 _ _)⟩
 case mul => subst h; exact ⟨_, by simp [binOp, KY], RepD.int_ (J9 _ _)⟩
 case quo =>
  obtain ⟨h1, h2⟩ := F7 h
  injection h2 with h2; subst h2
  exact ⟨_, by simp at h1; simp [binOp, Op.intDiv, h1], RepD.int_ (J9 _ _)⟩
 case rem =>
  obtain ⟨h1, h2⟩ := F7 h
  injection h2 with h2; subst h2
  exact ⟨_, by simp at h1; simp [binOp, Op.intDiv, h1], RepD.int_ (c4V _ _ _ ha)⟩
 case and => subst h; exact ⟨_, by simp [binOp, KG, j9], RepD.int_ (J9 _ _)⟩
 case or => subst h; exact ⟨_, by simp [binOp, KG, j9], RepD.int_ (J9 _ _)⟩
 case xor => subst h; exact ⟨_, by simp [binOp, KG, j9], RepD.int_ (J9 _ _)⟩
 case andNot => subst h; exact ⟨_, by simp [binOp, KG, j9], RepD.int_ (J9 _ _)⟩
 case shl => exact absurd rfl hop.1
 case shr => exact absurd rfl hop.2
 case eql => subst h; exact ⟨.bool (decide (a = b)), by simp [binOp, Ku]; rfl, RepD.bool_ _⟩
 case neq => subst h; exact ⟨.bool (!decide (a = b)), by simp [binOp, Ku]; rfl, RepD.bool_ _⟩
 case lss => subst h; exact ⟨.bool (decide (a < b)), by simp [binOp, Ku], RepD.bool_ _⟩
 case leq => subst h; exact ⟨.bool (decide (a <= b)), by simp [binOp, Ku], RepD.bool_ _⟩
 case gtr => subst h; exact ⟨.bool (decide (b < a)), by simp [binOp, Ku], RepD.bool_ _⟩
 case geq => subst h; exact ⟨.bool (decide (b <= a)), by simp [binOp, Ku], RepD.bool_ _⟩
theorem d0O (xt : FP) (k k' : HN) (a b : Int) (d : D) (h : b5R .shl k a b some = some d) : ∃ v, (binOp .shl xt (.int k a) (.int k' b)).run P w = .ok v w /\ RepD E g w dead d v := by
 obtain ⟨h1, h2⟩ := F7 h
 injection h2 with h2; subst h2
 simp at h1
 exact ⟨_, by simp [binOp, Op.shift, Oy.2 h1, a0u], RepD.int_ (J9 _ _)⟩
theorem d0m (xt : FP) (k k' : HN) (a b : Int) (d : D) (h : b5R .shr k a b some = some d) (ha : k.min <= a /\ a <= k.max) : ∃ v, (binOp .shr xt (.int k a) (.int k' b)).run P w = .ok v w /\ RepD E g w dead d v := by
 obtain ⟨h1, h2⟩ := F7 h
 injection h2 with h2; subst h2
 simp at h1
 exact ⟨_, by simp [binOp, Op.shift, Oy.2 h1, G8], RepD.int_ (c9V _ _ _ ha)⟩
theorem a8e (s : List UInt8) : (⟨s.toArray⟩ : ByteArray).toList = s := by
 rw [JK]
theorem b1P (a b : List UInt8) : (a == b) = decide (a = b) := by rw [JI]; simp
theorem c6u (op : Ln) (xt : FP) (a b : List UInt8) (d : D) (h : d0c op a b some = some d) (ha : a.length <= 9223372036854775807) :
 ∃ v, (binOp op xt (.string ⟨a.toArray⟩) (.string ⟨b.toArray⟩)).run P w = .ok v w /\ RepD E g w dead d v := by
 have e1 := a8e a
 have e2 := a8e b
 cases op <;> simp only [d0c, Gy, reduceCtorEq] at h
 case add =>
  obtain ⟨h1, h2⟩ := F7 h
  injection h2 with h2; subst h2
  simp at h1
  refine ⟨.string ⟨(a ++ b).toArray⟩, ?_, RepD.str_ (by simpa using h1)⟩
  have hs : ((⟨a.toArray⟩ : ByteArray).size + (⟨b.toArray⟩ : ByteArray).size) <= 9223372036854775807 := by simpa [Hx] using h1
  show (Jo .add _ _).run P w = _
  rw [run_string_add_sum _ _ _ hs]
  congr 2
 case eql => subst h; exact ⟨.bool (decide (a = b)), by simp [binOp, Jo, e1, e2, b1P], RepD.bool_ _⟩
 case neq => subst h; exact ⟨.bool (!decide (a = b)), by simp [binOp, Jo, e1, e2, b1P], RepD.bool_ _⟩
 case lss => subst h; exact ⟨.bool (IK a b), by simp [binOp, Jo, e1, e2], RepD.bool_ _⟩
 case leq => subst h; exact ⟨.bool (IK a b || decide (a = b)), by simp [binOp, Jo, e1, e2, b1P], RepD.bool_ _⟩
 case gtr => subst h; exact ⟨.bool (!(IK a b || decide (a = b))), by simp [binOp, Jo, e1, e2, b1P], RepD.bool_ _⟩
 case geq => subst h; exact ⟨.bool (!IK a b), by simp [binOp, Jo, e1, e2], RepD.bool_ _⟩
end
end En
namespace En
open Go
section
variable {P : Gu} {T : FP -> Option Ty} {E : Env} {g : G} {w : Gc} {dead : List Pos}
theorem TyOK.size {t : FP} {ty : Ty} (h : TyOK P t ty) : (sizeOf t).run P w = .ok ty.size w := by
 obtain ⟨i, hi, _, hs, _⟩ := h.info
 simp [sizeOf, typeInfo, hi, hs]
theorem TyOK.isAgg {t : FP} {ty : Ty} (h : TyOK P t ty) : (isAgg t).run P w = .ok ty.row w := by
 unfold Go.isAgg
 rw [Gq, Gp h.desc w]
 unfold Ty.row
 cases ty.desc <;> simp
theorem K9 (hT : D7 P T) {e : FP} {te : Ty} (hte : T e = some te) (ds : List D) (us : Array FX) (hn : us.size = ds.length) (hr : ∀ (k : Nat) y, ds[k]? = some y -> RepD E g w dead y (us.getD k undef)) (off : Nat) (d : D)
 (h : a5I te.row ds off te.size = some d) : ∃ v, (part e us off).run P w = .ok v w /\ RepD E g w dead d v := by
 have hok := hT _ _ hte
 unfold a5I at h
 simp only [forceD_eq, GF] at h
 unfold part
 rw [Gq, hok.isAgg]
 simp only [Gg]
 split at h
 . rename_i N7
   split at h
   . rename_i hle
     have hle := Gm hle
     injection h with h; subst h
     refine ⟨.agg (us.extract off (off + te.size)), ?_, .agg _ _ (by simp; omega) fun k y hk => ?_⟩
     . simp [hok.size (w := w), N7]
     . rw [He] at hk
       split at hk
       . rename_i hlt
         rw [Hy] at hk
         have := hr _ y hk
         have hlen := (FN.1 hk).1
         have e1 : (us.extract off (off + te.size)).getD k undef = us.getD (off + k) undef := by
          simp [Ge, Array.getElem?_extract]
          rw [if_pos (by omega)]
         rw [e1]; exact this
       . cases hk
   . cases h
 . rename_i N7
   have hlt := (FN.1 h).1
   have hu : us[off]? = some us[off] := Array.getElem?_eq_getElem (by omega)
   refine ⟨us[off], by simp [hu, N7], ?_⟩
   have := hr off d h
   simpa [hu] using this
theorem c7u {t : FP} {ty : Ty} (h : TyOK P t ty) (he : ty.eqb = true) {fs : Array Kt} (hd : ty.desc = .struct fs) : P.stoodInHeld t = false /\ P.eqGuardType P.depth t = false /\ P.fieldsOf t = fs /\ ∀ f ∈ fs.toList, f.name ≠ "_" := by
 have h1 := h.eq
 unfold eqOKB at h1
 rw [he, hd] at h1
 simp only [Bool.not_true, Bool.false_or, FT, Ha, Hg, beq_eq_false_iff_ne] at h1
 obtain ⟨a, b, c⟩ := h1
 refine ⟨a, b, ?_, c⟩
 unfold Program.fieldsOf
 rw [h.desc, hd]
def d9S (E : Env) (g : G) (w : Gc) (dead : List Pos) (ds : List D) (us : Array FX) : Prop := us.size = ds.length /\ ∀ (k : Nat) y, ds[k]? = some y -> RepD E g w dead y (us.getD k undef)
theorem d3t {t : FP} {ty : Ty} (h : T t = some ty) : U5 T t = ty.size := by unfold U5; rw [h]
theorem b7s (hT : D7 P T) : ∀ (n : Nat) (t : FP) (te : Ty), T t = some te -> ∀ (ds es : List D) (us vs : Array FX) (off d : Nat) (b : Bool), d9S E g w dead ds us -> d9S E g w dead es vs -> n <= d ->
 eqK T n t ((ds.drop off).take te.size) ((es.drop off).take te.size) = some b ->
 ∃ a c, (part t us off).run P w = .ok a w /\ (part t vs off).run P w = .ok c w /\ (IM d t a c).run P w = .ok b w
 | 0, t, te, hte, ds, es, us, vs, off, d, b, _, _, _, h => by simp [eqK] at h
 | n + 1, t, te, hte, ds, es, us, vs, off, d, b, hu, hv, hd, h => by
   obtain ⟨d, rfl⟩ : ∃ d', d = d' + 1 := ⟨d - 1, by omega⟩
   have hok := hT _ _ hte
   have C9 := hok.desc
   unfold eqK at h
   rw [hte] at h
   simp only at h
   have one : te.row = false -> ∀ (x y : D), (ds.drop off).take te.size = [x] -> (es.drop off).take te.size = [y] -> a5I te.row ds off te.size = some x /\ a5I te.row es off te.size = some y := by
    intro hr x y hx hy
    have hs := hok.one hr
    rw [hs] at hx hy
    unfold a5I
    rw [hr]
    simp only
    have g1 : (ds.drop off)[0]? = some x := by
     have : ((ds.drop off).take 1)[0]? = some x := by rw [hx]; rfl
     rwa [Jf (by omega)] at this
    have g2 : (es.drop off)[0]? = some y := by
     have : ((es.drop off).take 1)[0]? = some y := by rw [hy]; rfl
     rwa [Jf (by omega)] at this
    rw [Hy] at g1 g2
    exact ⟨g1, g2⟩
   split at h
   . rename_i k hk
     split at h
     . rename_i k1 a1 _ k2 a2 _ e1 e2
       obtain ⟨p1, p2⟩ := one (by simp [Ty.row, hk]) _ _ e1 e2
       obtain ⟨x, q1, q2⟩ := K9 (P := P) (w := w) (E := E) (g := g) (dead := dead) hT hte ds us hu.1 hu.2 off _ p1
       obtain ⟨y, q3, q4⟩ := K9 (P := P) (w := w) (E := E) (g := g) (dead := dead) hT hte es vs hv.1 hv.2 off _ p2
       obtain ⟨rfl, _⟩ := q2.int_inv
       obtain ⟨rfl, _⟩ := q4.int_inv
       split at h
       . rename_i hkk
         subst hkk
         injection h with h
         refine ⟨_, _, q1, q3, ?_⟩
         rw [run_equalIn_int w d t k1 k a1 a2 (by rw [C9, hk]), ← h]
         rfl
       . cases h
     . cases h
   . rename_i hk
     split at h
     . rename_i a1 _ a2 _ e1 e2
       obtain ⟨p1, p2⟩ := one (by simp [Ty.row, hk]) _ _ e1 e2
       obtain ⟨x, q1, q2⟩ := K9 (P := P) (w := w) (E := E) (g := g) (dead := dead) hT hte ds us hu.1 hu.2 off _ p1
       obtain ⟨y, q3, q4⟩ := K9 (P := P) (w := w) (E := E) (g := g) (dead := dead) hT hte es vs hv.1 hv.2 off _ p2
       have r1 := q2.bool_inv
       have r2 := q4.bool_inv
       subst r1 r2
       injection h with h
       refine ⟨_, _, q1, q3, ?_⟩
       rw [run_equalIn_bool' w d t a1 a2 (by rw [C9, hk]), ← h]
     . cases h
   . rename_i hk
     split at h
     . rename_i a1 _ a2 _ e1 e2
       obtain ⟨p1, p2⟩ := one (by simp [Ty.row, hk]) _ _ e1 e2
       obtain ⟨x, q1, q2⟩ := K9 (P := P) (w := w) (E := E) (g := g) (dead := dead) hT hte ds us hu.1 hu.2 off _ p1
       obtain ⟨y, q3, q4⟩ := K9 (P := P) (w := w) (E := E) (g := g) (dead := dead) hT hte es vs hv.1 hv.2 off _ p2
       obtain ⟨rfl, _⟩ := q2.str_inv
       obtain ⟨rfl, _⟩ := q4.str_inv
       injection h with h
       refine ⟨_, _, q1, q3, ?_⟩
       rw [run_equalIn_string w d t _ _ (by rw [C9, hk]), ← h, JK, JK]
       congr 1
       rw [JI, beq_iff_eq, decide_eq_true_eq]
     . cases h
   . rename_i fs hk
     rcases j8 h with ⟨hc, h⟩ | ⟨_, h⟩
     case inr => cases h
     simp only [FT] at hc
     obtain ⟨hc1, hc2, hc3, hc4, hc5⟩ := hc
     have hc5 := Gm hc5
     have hc3 := FM hc3
     have hc4 := FM hc4
     obtain ⟨o1, o2, o3, o4⟩ := c7u hok hc1 hk
     have N7 : te.row = true := by simp [Ty.row, hk]
     have hl1 : off + te.size <= ds.length := by rw [GU, GZ] at hc3; omega
     have hl2 : off + te.size <= es.length := by rw [GU, GZ] at hc4; omega
     have p1 : a5I te.row ds off te.size = some (.agg ((ds.drop off).take te.size)) := by
      unfold a5I; rw [N7]; simp only; rw [Ia hl1]; rfl
     have p2 : a5I te.row es off te.size = some (.agg ((es.drop off).take te.size)) := by
      unfold a5I; rw [N7]; simp only; rw [Ia hl2]; rfl
     obtain ⟨x, q1, q2⟩ := K9 (P := P) (w := w) (E := E) (g := g) (dead := dead) hT hte ds us hu.1 hu.2 off _ p1
     obtain ⟨y, q3, q4⟩ := K9 (P := P) (w := w) (E := E) (g := g) (dead := dead) hT hte es vs hv.1 hv.2 off _ p2
     generalize (ds.drop off).take te.size = as1 at *
     generalize (es.drop off).take te.size = bs1 at *
     cases q2 with
     | agg _ us' hn1 hr1 =>
     cases q4 with
     | agg _ vs' hn2 hr2 =>
     refine ⟨_, _, q1, q3, ?_⟩
     rw [run_equalIn_struct w d t us' vs' (by rw [C9, hk, o3]) o1, o3]
     have main : ∀ (l : List Kt) (o : Nat) (b : Bool), a0P T te.size o l = true -> (∀ f ∈ l, f.name ≠ "_") -> c3I (eqK T n) T l (as1.drop o) (bs1.drop o) = some b -> (Mf d us' vs' l).run P w = .ok b w := by
      intro l
      induction l with
      | nil => intro o b _ _ h; simp [c3I] at h; subst h; simp [Mf]
      | cons f l ih =>
        intro o b e5J hnm h
        simp only [a0P, FT] at e5J
        obtain ⟨d6T, e1s⟩ := e5J
        have d6T := FM d6T
        unfold c3I at h
        split at h
        . rename_i r hr
          split at h
          . rename_i q hq
            injection h with h
            cases hTf : T f.type with
            | none => cases n <;> simp [eqK, hTf] at hr
            | some tf =>
              rw [d3t hTf] at hr hq e1s
              obtain ⟨a, c, s1, s2, s3⟩ := b7s hT n f.type tf hTf as1 bs1 us' vs' o d r ⟨hn1, hr1⟩ ⟨hn2, hr2⟩ (by omega) hr
              rw [IC, IC] at hq
              have ih := ih (o + tf.size) q e1s (fun f hf => hnm f (GQ _ hf)) hq
              unfold Mf
              rw [if_pos (hnm f (by simp)), d6T]
              simp only [Gq, s1, s2, s3, Gg]
              subst h
              cases r with
              | true => simpa using ih
              | false => simp
          . cases h
        . cases h
     exact main fs.toList 0 b hc2 o4 (by simpa using h)
   . cases h
theorem a8s (hT : D7 P T) {α : Type} {t : FP} {ds es : List D} {K : Bool -> Option α} {r : α} (h : b0q T t ds es K = some r) {us vs : Array FX} (hu : d9S E g w dead ds us) (hv : d9S E g w dead es vs) :
 ∃ b, K b = some r /\ P.eqGuardType P.depth t = false /\ (IM 10000 t (.agg us) (.agg vs)).run P w = .ok b w := by
 unfold b0q at h
 split at h
 . rename_i ty hty
   rcases j8 h with ⟨N7, h⟩ | ⟨_, h⟩
   case inr => cases h
   split at h
   . rename_i b hb
     have hok := hT _ _ hty
     have hs : ds.length = ty.size /\ es.length = ty.size /\ P.eqGuardType P.depth t = false := by
      unfold eqK at hb
      rw [hty] at hb
      simp only at hb
      split at hb
      . rename_i k hk; rw [Ty.row, hk] at N7; cases N7
      . rename_i hk; rw [Ty.row, hk] at N7; cases N7
      . rename_i hk; rw [Ty.row, hk] at N7; cases N7
      . rename_i fs hk
        rcases j8 hb with ⟨hc, _⟩ | ⟨_, hb⟩
        . simp only [FT] at hc
          obtain ⟨hc1, hc2, hc3, hc4, hc5⟩ := hc
          exact ⟨FM hc3, FM hc4, (c7u hok hc1 hk).2.1⟩
        . cases hb
      . cases hb
     obtain ⟨s1, s2, s3⟩ := hs
     have hb' : eqK T 9 t ((ds.drop 0).take ty.size) ((es.drop 0).take ty.size) = some b := by
      rw [KZ, KZ, ← s1, Kv, s1, ← s2, Kv]; exact hb
     obtain ⟨a, c, q1, q2, q3⟩ := b7s hT 9 t ty hty ds es us vs 0 10000 b hu hv (by omega) hb'
     have pa : ∀ (us : Array FX), us.size = ty.size -> (part t us 0).run P w = .ok (.agg us) w := by
      intro us hus
      unfold part
      rw [Gq, hok.isAgg]
      simp [hok.size (w := w), N7, ← hus]
     rw [pa us (by rw [hu.1, s1])] at q1
     rw [pa vs (by rw [hv.1, s2])] at q2
     injection q1 with q1
     injection q2 with q2
     subst q1 q2
     exact ⟨b, h, s3, q3⟩
   . cases h
 . cases h
end
end En
namespace En
open Go
section
variable {P : Gu} {T : FP -> Option Ty} {E : Env} {g : G} {w : Gc} {dead : List Pos}
theorem a0n (op : Ln) (t : FP) (x y : GK) (a b : FX) (h1 : ∀ cs, a ≠ .agg cs) (h2 : a = .nilIface -> b = .nilIface -> a8r y = true) : (eqGuard op t x y a b).run P w = .ok () w := by
 unfold eqGuard
 cases op
 case eql | neq =>
  cases a <;> cases b <;> simp
  case agg.agg cs _ => exact absurd rfl (h1 cs)
  case nilIface.nilIface =>
   have := h2 rfl rfl
   cases y <;> simp [a8r] at this
   simp
 all_goals simp
theorem N1 {xt : FP} {v u : FX} {b : Bool} (h1 : ∀ k n, v ≠ .int k n) (h2 : ∀ f n, v ≠ .float f n) (h3 : ∀ f n m, v ≠ .complex f n m) (h4 : ∀ s, v ≠ .string s)
 (h0 : ∀ cs, v ≠ .agg cs) (h5 : ∀ d, (IM (d + 1) xt v u).run P w = .ok b w) : (binOp .eql xt v u).run P w = .ok (.bool b) w /\ (binOp .neq xt v u).run P w = .ok (.bool !b) w /\ (∀ cs, v ≠ .agg cs) := by
 have h6 : (NN xt v u).run P w = .ok b w := h5 9999
 have e1 : binOp .eql xt v u = (do pure (.bool (← NN xt v u)) : Sem FX) := by
  cases v <;> first
   | rfl
   | exact absurd rfl (h1 _ _)
   | exact absurd rfl (h2 _ _)
   | exact absurd rfl (h3 _ _ _)
   | exact absurd rfl (h4 _)
   | (cases u <;> rfl)
 have e2 : binOp .neq xt v u = (do pure (.bool (!(← NN xt v u))) : Sem FX) := by
  cases v <;> first
   | rfl
   | exact absurd rfl (h1 _ _)
   | exact absurd rfl (h2 _ _)
   | exact absurd rfl (h3 _ _ _)
   | exact absurd rfl (h4 _)
   | (cases u <;> rfl)
 rw [e1, e2]
 exact ⟨by simp [h6], by simp [h6], h0⟩
theorem c2E {ty : Ty} {xt : FP} (hd : P.underlying xt = some ty.desc) {x y : D} {vx vy : FX} (hx : RepD E g w dead x vx) (hy : RepD E g w dead y vy) {b : Bool} (h : d2f ty.desc x y = some b) :
 (binOp .eql xt vx vy).run P w = .ok (.bool b) w /\ (binOp .neq xt vx vy).run P w = .ok (.bool !b) w /\ (∀ cs, vx ≠ .agg cs) := by
 unfold d2f at h
 split at h
 . rename_i e C9
   rw [C9] at hd
   split at h
   . cases hy
     cases x <;> simp only [d3q, reduceCtorEq, Gy] at h
     all_goals
      subst h
      cases hx
      refine N1 (by simp) (by simp) (by simp) (by simp) (by simp) (fun d => ?_)
      simp only [IM, Gq, Gp hd, Gg]
      rfl
   . cases h
 . rename_i ms C9
   rw [C9] at hd
   split at h
   . cases hy with | v x a v hv ha =>
     cases hv
     cases x <;> simp only [c3Y, reduceCtorEq] at h
     rename_i z az
     cases z <;> simp only [c3Y, reduceCtorEq, Gy] at h
     all_goals
      subst h
      cases hx with | v x a v hv ha =>
      cases hv
      refine N1 (by simp) (by simp) (by simp) (by simp) (by simp) (fun d => ?_)
      simp only [IM, Gq, Gp hd, Gg]
      rfl
   . cases h
 . rename_i ps rs vr C9
   rw [C9] at hd
   split at h
   . cases hy
     cases x <;> simp only [e0S, reduceCtorEq, Gy] at h
     case fn n fs k s =>
      subst h
      cases hx with
      | fn _ _ _ _ _ hv =>
        rcases hv with ⟨h0, e⟩ | ⟨i, f, _, h0, _, e⟩
        . rw [e, decide_eq_true h0]
          refine N1 (by simp) (by simp) (by simp) (by simp) (by simp) (fun d => ?_)
          simp only [IM, Gq, Gp hd, Gg]
          rfl
        . rw [e, decide_eq_false (by omega)]
          refine N1 (by simp) (by simp) (by simp) (by simp) (by simp) (fun d => ?_)
          simp only [IM, Gq, Gp hd, Gg]
          rfl
     case clos fc cp =>
      subst h
      cases hx with
      | clos _ _ us hn hr =>
        rcases a8o fc us with e | ⟨_, e⟩ <;> rw [e]
        all_goals
         refine N1 (by simp) (by simp) (by simp) (by simp) (by simp) (fun d => ?_)
         simp only [IM, Gq, Gp hd, Gg]
         rfl
     all_goals
      subst h
      cases hx
      refine N1 (by simp) (by simp) (by simp) (by simp) (by simp) (fun d => ?_)
      simp only [IM, Gq, Gp hd, Gg]
      rfl
   . cases h
 . rename_i kt et C9
   rw [C9] at hd
   split at h
   . cases hy with | v x a v hv ha =>
     cases hv
     cases x <;> simp only [c5e, reduceCtorEq] at h
     rename_i z az
     cases z <;> simp only [c5e, reduceCtorEq, Gy] at h
     all_goals
      subst h
      cases hx with | v x a v hv ha =>
      cases hv
      refine N1 (by simp) (by simp) (by simp) (by simp) (by simp) (fun d => ?_)
      simp only [IM, Gq, Gp hd, Gg]
      rfl
   . cases h
 . cases h
theorem c5Y (hT : D7 P T) (op : Ln) (xt : FP) (ox oy : GK) (x y : D) (vx vy : FX) (hx : RepD E g w dead x vx) (hy : RepD E g w dead y vy) (d : D)
 (h : d1d T op xt (a8r oy) x y some = some d) :
 ∃ v, (do eqGuard op xt ox oy vx vy; binOp op xt vx vy : Sem FX).run P w = .ok v w /\ RepD E g w dead d v := by
 unfold d1d at h
 split at h
 . rename_i k a _ k' b _
   obtain ⟨rfl, ha⟩ := hx.int_inv
   obtain ⟨rfl, hb⟩ := hy.int_inv
   have hg : (eqGuard op xt ox oy (.int k a) (.int k' b)).run P w = .ok () w := a0n _ _ _ _ _ _ (by simp) (by simp)
   simp only [Gq, hg, Gg]
   split at h
   . exact d0O xt k k' a b d h
   . exact d0m xt k k' a b d h ha
   . rename_i h1 h2
     split at h
     . rename_i hk
       subst hk
       exact c6A op ⟨h1, h2⟩ xt k a b d h ha hb
     . cases h
 . obtain ⟨rfl, ha⟩ := hx.str_inv
   obtain ⟨rfl, hb⟩ := hy.str_inv
   rename_i a _ b _
   have hg : (eqGuard op xt ox oy (.string ⟨a.toArray⟩) (.string ⟨b.toArray⟩)).run P w = .ok () w := a0n _ _ _ _ _ _ (by simp) (by simp)
   simp only [Gq, hg, Gg]
   exact c6u op xt _ _ d h ha
 . have e1 := hx.bool_inv
   have e2 := hy.bool_inv
   subst e1 e2
   rename_i a _ b _
   have hg : (eqGuard op xt ox oy (.bool a) (.bool b)).run P w = .ok () w := a0n _ _ _ _ _ _ (by simp) (by simp)
   simp only [Gq, hg, Gg]
   split at h
   . rename_i ty hty
     split at h
     . rename_i hd
       injection h with h; subst h
       exact ⟨_, run_eql_bool w xt a b (by rw [(hT _ _ hty).desc, hd]), RepD.bool_ _⟩
     . rename_i hd
       injection h with h; subst h
       refine ⟨_, run_neq_bool w xt a b (by rw [(hT _ _ hty).desc, hd]), ?_⟩
       exact RepD.bool_ _
     . cases h
   . cases h
 . rename_i ds es
   cases hx with
   | agg _ us hn1 hr1 =>
   cases hy with
   | agg _ vs hn2 hr2 =>
   split at h
   . obtain ⟨b, h1, h2, h3⟩ := a8s hT h ⟨hn1, hr1⟩ ⟨hn2, hr2⟩
     injection h1 with h1
     subst h1
     refine ⟨_, ?_, RepD.bool_ b⟩
     simp only [Gq, Mn w _ xt ox oy us vs h2, Gg, run_eql_struct, h3]
   . obtain ⟨b, h1, h2, h3⟩ := a8s hT h ⟨hn1, hr1⟩ ⟨hn2, hr2⟩
     injection h1 with h1
     subst h1
     refine ⟨_, ?_, RepD.bool_ (!b)⟩
     simp only [Gq, Mn w _ xt ox oy us vs h2, Gg, run_neq_struct, h3]
   . cases h
 . split at h
   . rename_i ty hyc hty
     split at h
     . rename_i b hb
       obtain ⟨h1, h2, h3⟩ := c2E (hT _ _ hty).desc hx hy hb
       have hg : (eqGuard op xt ox oy vx vy).run P w = .ok () w := a0n _ _ _ _ _ _ h3 (fun _ _ => hyc)
       simp only [Gq, hg, Gg]
       split at h
       . injection h with h; subst h; exact ⟨_, h1, RepD.bool_ _⟩
       . injection h with h; subst h; exact ⟨_, h2, RepD.bool_ _⟩
       . cases h
     . cases h
   . cases h
theorem c9U (op : UnOp) (xt : FP) (x : D) (vx : FX) (hx : RepD E g w dead x vx) (d : D) (h : unK op x some = some d) : ∃ v, (My op vx).run P w = .ok v w /\ RepD E g w dead d v := by
 unfold unK at h
 split at h
 . obtain ⟨rfl, ha⟩ := hx.int_inv
   injection h with h; subst h
   exact ⟨_, by simp [My, KY], RepD.int_ (J9 _ _)⟩
 . obtain ⟨rfl, ha⟩ := hx.int_inv
   injection h with h; subst h
   exact ⟨_, by simp [My, KG, j9], RepD.int_ (J9 _ _)⟩
 . have e1 := hx.bool_inv
   subst e1
   injection h with h; subst h
   exact ⟨_, by simp [My], RepD.bool_ _⟩
 . cases h
end
end En
namespace En
open Go
section
variable {P : Gu} {T : FP -> Option Ty} {E : Env} {g : G} {w : Gc} {dead : List Pos}
theorem RepD.bytes_inv {s : List UInt8} {a : Att} {v : FX} (h : RepD E g w dead (.v (.bytes s) a) v) : RepV g w (.bytes s) v /\ AttOK E g w dead a v /\ ∃ A n c, v = .slice A n c /\ s.length = n /\ n <= c /\ c <= maxLen := by
 cases h with | v x a v h ha => exact ⟨h, ha, by cases h with | bytes xs A n c hn hc hm h => exact ⟨A, n, c, rfl, hn, hc, hm⟩⟩
theorem RepD.sl_inv {e : FP} {s : List V} {a : Att} {v : FX} (h : RepD E g w dead (.v (.sl e s) a) v) : RepV g w (.sl e s) v /\ AttOK E g w dead a v /\ ∃ A n c, v = .slice A n c /\ s.length = n /\ n <= c /\ c <= maxLen := by
 cases h with | v x a v h ha => exact ⟨h, ha, by cases h with | sl e xs A n c us hn hc hm hs h hr => exact ⟨A, n, c, rfl, hn, hc, hm⟩⟩
theorem TyOK.elem {t e : FP} {ty : Ty} (h : TyOK P t ty) (hd : ty.desc = .slice e) : P.underlying t = some (.slice (P.elem t)) /\ P.elem t = e := by
 have := h.desc
 rw [hd] at this
 have he : P.elem t = e := by simp [Program.elem, this]
 exact ⟨by rw [he]; exact this, he⟩
theorem b1D (n : Nat) (h : n <= maxLen) : FK.min <= (n : Int) /\ (n : Int) <= FK.max := by
 have e1 : Jm .i64 = -9223372036854775808 := by decide
 have e2 : Jn .i64 = 9223372036854775807 := by decide
 unfold maxLen at h
 rw [e1, e2]; omega
theorem c5S (hT : D7 P T) (t oty : FP) (x : D) (vx : FX) (hx : RepD E g w dead x vx) (d : D) (h : c9F T t x some = some d) :
 ∃ v, (Np #[t] oty #[vx]).run P w = .ok v w /\ RepD E g w dead d v := by
 unfold c9F at h
 split at h
 . rename_i ty hty
   have hd := (hT _ _ hty).desc
   split at h
   . rename_i e s a C9
     injection h with h; subst h
     obtain ⟨_, _, A, n, c, rfl, hn, hc, hm⟩ := hx.bytes_inv
     subst hn
     exact ⟨_, MQ w t oty A _ c ((hT _ _ hty).elem C9).1, RepD.int_ (b1D _ (by omega))⟩
   . rename_i e e' s a C9
     injection h with h; subst h
     obtain ⟨_, _, A, n, c, rfl, hn, hc, hm⟩ := hx.sl_inv
     subst hn
     exact ⟨_, MQ w t oty A _ c ((hT _ _ hty).elem C9).1, RepD.int_ (b1D _ (by omega))⟩
   . rename_i s a C9
     injection h with h; subst h
     obtain ⟨rfl, hl⟩ := hx.str_inv
     exact ⟨_, run_len_string w t oty _ (by rw [hd, C9]), RepD.int_ (b1D _ (by unfold maxLen; omega))⟩
   . rename_i n e C9
     obtain ⟨h1, h2⟩ := F7 h
     injection h2 with h2; subst h2
     simp at h1
     rw [C9] at hd
     exact ⟨goInt n, by cases vx <;> simp [Np, Gp hd], RepD.int_ (b1D _ (by unfold maxLen; omega))⟩
   . cases h
 . cases h
theorem a2b {α : Type} {x : Option D} {df hi : Nat} {K : Nat -> Option α} {r : α} (h : a3T x df hi K = some r) :
 ∃ n, K n = some r /\ ((x = none /\ n = df) ∨ ∃ k i a, x = some (.v (.int k i) a) /\ 0 <= i /\ i <= (hi : Int) /\ n = i.toNat) := by
 unfold a3T at h
 split at h
 . exact ⟨_, h, .inl ⟨rfl, rfl⟩⟩
 . rename_i k i a
   obtain ⟨h1, h2⟩ := F7 h
   simp at h1
   exact ⟨_, h2, .inr ⟨k, i, a, rfl, h1.1, h1.2, rfl⟩⟩
 . cases h
def RepO (E : Env) (g : G) (w : Gc) (dead : List Pos) : Option D -> Option FX -> Prop
 | none, none => True
 | some d, some v => RepD E g w dead d v
 | _, _ => False
theorem RepO.int {k : HN} {i : Int} {a : Att} {v : Option FX} (h : RepO E g w dead (some (.v (.int k i) a)) v) : v = some (.int k i) := by
 cases v with
 | none => exact h.elim
 | some v => rw [(RepD.int_inv h).1]
theorem RepO.none_ {v : Option FX} (h : RepO E g w dead none v) : v = none := by
 cases v with
 | none => rfl
 | some v => exact h.elim
theorem a7n (isSlice : Bool) (len cap : Nat) {lo hi : Option D} {vlo vhi : Option FX} (hlo : RepO E g w dead lo vlo) (hhi : RepO E g w dead hi vhi) (hc : len <= cap) {α β : Type} (xs : List α) (hx : xs.length = len) {K : List α -> Option β} {r : β}
 (h : b5M xs lo hi K = some r) : ∃ l h', l <= h' /\ h' <= len /\ (If isSlice len cap vlo vhi none).run P w = .ok (l, h', cap) w /\ K ((xs.take h').drop l) = some r := by
 unfold b5M at h
 subst hx
 rcases lo with _ | lo <;> rcases hi with _ | hi <;> simp only at h
 . obtain rfl := hlo.none_
   obtain rfl := hhi.none_
   exact ⟨0, _, Hq _, FW _, by simp [If], by simpa using h⟩
 . obtain rfl := hlo.none_
   obtain ⟨hv, hq, hh⟩ := a2b h
   clear h
   rcases hh with ⟨h0, _⟩ | ⟨k, i, a, h0, i0, i1, rfl⟩
   . cases h0
   . injection h0 with h0; subst h0
     obtain rfl := hhi.int
     refine ⟨0, i.toNat, Hq _, by omega, ?_, by simpa using hq⟩
     simp [If, JX, i0, (by omega : i <= (cap : Int))]
 . obtain rfl := hhi.none_
   obtain ⟨lv, hq, hl⟩ := a2b h
   clear h
   rcases hl with ⟨h0, _⟩ | ⟨k', j, a', h0, j0, j1, rfl⟩
   . cases h0
   . injection h0 with h0; subst h0
     obtain rfl := hlo.int
     refine ⟨j.toNat, _, by omega, FW _, ?_, by simpa using hq⟩
     simp [If, JX, j0, j1]
 . obtain ⟨hv, hp, hh⟩ := a2b h
   obtain ⟨lv, hq, hl⟩ := a2b hp
   clear h hp
   rcases hh with ⟨h0, _⟩ | ⟨k, i, a, h0, i0, i1, rfl⟩
   . cases h0
   rcases hl with ⟨h1, _⟩ | ⟨k', j, a', h1, j0, j1, rfl⟩
   . cases h1
   injection h0 with h0; subst h0
   injection h1 with h1; subst h1
   obtain rfl := hlo.int
   obtain rfl := hhi.int
   refine ⟨j.toNat, i.toNat, by omega, by omega, ?_, hq⟩
   have e : ((i.toNat : Nat) : Int) = i := by omega
   rw [e] at j1
   simp [If, JX, i0, (by omega : i <= (cap : Int)), j0, e, j1]
theorem U9 {n : Nat} {x : V} (h : b4a n x = true) : x.cells.length = n /\ ∀ y ∈ x.cells, y.one = true := by
 simp only [b4a, FT, beq_iff_eq, Hg] at h; exact h
theorem flat_get {xs : List V} {sz : Nat} (hs : ∀ x ∈ xs, x.cells.length = sz) : ∀ (l k : Nat), l <= xs.length -> ((xs.drop l).flatMap V.cells)[k]? = (xs.flatMap V.cells)[l * sz + k]? := by
 induction xs with
 | nil => intro l k h; simp
 | cons x xs ih =>
   intro l k h
   rcases l with _ | l
   . simp
   . have hx := hs x (by simp)
     have := ih (fun y hy => hs y (by simp [hy])) l k (by simpa using h)
     simp only [List.drop_succ_cons, Hb]
     rw [this, Gk (by rw [hx]; rw [Hh]; omega), hx]
     congr 1
     rw [Hh]; omega
theorem d0q {xs : List V} (h k : Nat) {y : V} (hk : ((xs.take h).flatMap V.cells)[k]? = some y) : (xs.flatMap V.cells)[k]? = some y := by
 have e : xs.flatMap V.cells = (xs.take h).flatMap V.cells ++ (xs.drop h).flatMap V.cells := by rw [← JL, List.take_append_drop]
 rw [e, Gh (FN.1 hk).1]
 exact hk
theorem c4W {s : List UInt8} {A : Option Addr} {n c l h c' : Nat} (hr : RepV g w (.bytes s) (.slice A n c)) (hl : l <= h) (hh : h <= n) (hc1 : h <= c') (hc2 : c' <= c) :
 RepV g w (.bytes ((s.take h).drop l)) (.slice (if c' = l then A else A.map (·.add (l * 1))) (h - l) (c' - l)) := by
 cases hr with
 | bytes xs A n c hn hc hm hx =>
   refine .bytes _ _ _ _ (by simp; omega) (by omega) (by omega) fun k x hk => ?_
   rw [Hy, He] at hk
   split at hk
   . rename_i hlt
     obtain ⟨b, off, rfl, h1, h2⟩ := hx _ x hk
     have hkn : l + k < n := by have := (FN.1 hk).1; omega
     rw [if_neg (by omega)]
     refine ⟨b, off + l, by simp [HU], ?_, ?_⟩
     . rw [Hu]; exact h1
     . rw [Hu]; exact h2
   . cases hk
theorem d0A {s : List UInt8} {A : Option Addr} {n c l h : Nat} (hr : RepV g w (.bytes s) (.slice A n c)) (hl : l <= h) (hh : h <= n) :
 RepV g w (.bytes ((s.take h).drop l)) (.slice (if c = l then A else A.map (·.add (l * 1))) (h - l) (c - l)) := by
 cases hr with
 | bytes xs A n c hn hc hm hx =>
   refine .bytes _ _ _ _ (by simp; omega) (by omega) (by omega) fun k x hk => ?_
   rw [Hy, He] at hk
   split at hk
   . rename_i hlt
     obtain ⟨b, off, rfl, h1, h2⟩ := hx _ x hk
     have hkn : l + k < n := by have := (FN.1 hk).1; omega
     rw [if_neg (by omega)]
     refine ⟨b, off + l, by simp [HU], ?_, ?_⟩
     . rw [Hu]; exact h1
     . rw [Hu]; exact h2
   . cases hk
theorem e1M {e : FP} {s : List V} {A : Option Addr} {n c l h : Nat} (hr : RepV g w (.sl e s) (.slice A n c)) (hl : l <= h) (hh : h <= n) :
 RepV g w (.sl e ((s.take h).drop l)) (.slice (if c = l then A else A.map (·.add (l * g.sz e))) (h - l) (c - l)) := by
 cases hr with
 | sl e xs A n c us hn hc hm hs hx hr =>
   have e0G : ∀ x ∈ (s.take h).drop l, x ∈ s := fun x hx => Iw (List.mem_of_mem_drop hx)
   have hsz : ∀ x ∈ s, x.cells.length = g.sz e := fun x hx => (U9 (hs x hx)).1
   have key : ∀ (k : Nat) y, (((s.take h).drop l).flatMap V.cells)[k]? = some y -> (s.flatMap V.cells)[l * g.sz e + k]? = some y := by
    intro k y hk
    rw [flat_get (fun x hx => hsz x (Iw hx)) l k (by simp; omega)] at hk
    exact d0q h _ hk
   refine .sl e _ _ _ _ (fun k => us (l * g.sz e + k)) (by simp; omega) (by omega) (by omega) (fun x hx => hs x (e0G x hx)) (fun k y hk => ?_) (fun k y hk => hr _ y (key k y hk))
   obtain ⟨b, off, rfl, h1, h2⟩ := hx _ y (key k y hk)
   have hlt : l < h := by
    rcases Hi l h with h' | h'
    . exact h'
    . have : (s.take h).drop l = [] := List.drop_eq_nil_of_le (by simp; omega)
      rw [this] at hk; simp at hk
   rw [if_neg (by omega)]
   refine ⟨b, off + l * g.sz e, by simp [HU], ?_, ?_⟩
   . rw [Hu]; exact h1
   . rw [Hu]; exact h2
end
end En
namespace En
open Go
section
variable {P : Gu} {T : FP -> Option Ty} {E : Env} {g : G} {w : Gc} {dead : List Pos}
theorem b5J (s : List UInt8) (l h : Nat) : (⟨s.toArray⟩ : ByteArray).extract l h = ⟨((s.take h).drop l).toArray⟩ := by
 rw [ByteArray.ext_iff]
 simp [ByteArray.extract, ByteArray.copySlice, List.extract_eq_take_drop, List.drop_take]
theorem b8k (hgs : g.sz = U5 T) (hT : D7 P T) (t : FP) (x : D) (lo hi mx : Option D) (vx : FX) (vlo vhi vmx : Option FX) (hx : RepD E g w dead x vx) (hlo : RepO E g w dead lo vlo) (hhi : RepO E g w dead hi vhi) (hmx : RepO E g w dead mx vmx)
 (d : D) (h : a9E T t x lo hi mx some = some d) : ∃ v, (Instr.sliceAt t vx vlo vhi vmx).run P w = .ok v w /\ RepD E g w dead d v := by
 unfold a9E at h
 cases hnn : mx.isNone with
 | false =>
   rw [hnn] at h
   simp only at h
   obtain ⟨hmo, h9⟩ := c9c h
   clear h
   unfold d3d at hmo
   split at hmo
   . cases hnn
   . rename_i z1 k j z2
     split at hmo
     . rename_i z3 z4 k' i z6
       have hij : i = j := by simpa using hmo
       subst hij
       obtain rfl := hmx.int
       obtain rfl := hhi.int
       obtain rfl := hlo.none_
       split at h9
       . rename_i ty hty
         have hok := hT _ _ hty
         split at h9
         . rename_i e s a C9
           obtain ⟨hr, _, A, n, c, rfl, hn, hc, hm⟩ := hx.bytes_inv
           split at h9
           . rename_i te hte
             rcases j8 h9 with ⟨hsz, h9⟩ | ⟨_, h9⟩
             . have hsz := FM hsz
               unfold b5M at h9
               simp only at h9
               obtain ⟨h1, h2⟩ := F7 h9
               injection h2 with h2; subst h2
               simp only [FT, decide_eq_true_eq] at h1
               have he := hok.elem C9
               refine ⟨_, ?_, .v _ _ _ (c4W (c' := i.toNat) hr (Hq i.toNat) (by omega) (FW _) (by omega)) trivial⟩
               rw [Kg w t _ _ _ _ he.1, Lr w t A n c he.1]
               have hb : (If true n c none (some (.int k' i)) (some (.int k i))).run P w = .ok (0, i.toNat, i.toNat) w := by
                have hb2 : (LW (.int k' i) i.toNat .slice3B).run P w = .ok i.toNat w := by
                 simp [LW, asIntOf, h1.1, (by omega : i <= max i 0)]
                simp [If, JX, h1.1, (by omega : i <= (c : Int)), hb2]
               rw [hb]
               simp only [Gg]
               rw [he.2, (hT _ _ hte).size (w := w), hsz]
               simp [sliced]
             . cases h9
           . cases h9
         . cases h9
       . cases h9
     . cases hmo
   . cases hmo
 | true =>
   rw [hnn] at h
   simp only at h
   have hnn : mx = none := by cases mx with | none => rfl | some _ => cases hnn
   subst hnn
   obtain rfl := hmx.none_
   split at h
   . rename_i ty hty
     have hok := hT _ _ hty
     split at h
     . rename_i e s a C9
       obtain ⟨hr, _, A, n, c, rfl, hn, hc, hm⟩ := hx.bytes_inv
       split at h
       . rename_i te hte
         rcases j8 h with ⟨hsz, h⟩ | ⟨_, h⟩
         . have hsz := FM hsz
           obtain ⟨l, h', h1, h2, h3, h4⟩ := a7n (P := P) true n c hlo hhi hc s hn h
           injection h4 with h4; subst h4
           have he := hok.elem C9
           refine ⟨_, ?_, .v _ _ _ (d0A hr h1 h2) trivial⟩
           rw [Kg w t _ vlo vhi none he.1, Lr w t A n c he.1, h3]
           simp only [Gg]
           rw [he.2, (hT _ _ hte).size (w := w), hsz]
           rfl
         . cases h
       . cases h
     . rename_i e e' s a C9
       obtain ⟨hr, _, A, n, c, rfl, hn, hc, hm⟩ := hx.sl_inv
       split at h
       . rename_i te hte
         rcases j8 h with ⟨hee, h⟩ | ⟨_, h⟩
         . obtain rfl := FM hee
           obtain ⟨l, h', h1, h2, h3, h4⟩ := a7n (P := P) true n c hlo hhi hc s hn h
           injection h4 with h4; subst h4
           have he := hok.elem C9
           refine ⟨_, ?_, .v _ _ _ (e1M hr h1 h2) trivial⟩
           rw [Kg w t _ vlo vhi none he.1, Lr w t A n c he.1, h3]
           simp only [Gg]
           rw [he.2, (hT _ _ hte).size (w := w)]
           have : g.sz e' = te.size := by rw [hgs]; simp [U5, hte]
           rw [this]
           rfl
         . cases h
       . cases h
     . rename_i s a C9
       obtain ⟨rfl, hl⟩ := hx.str_inv
       have hd := hok.desc
       rw [C9] at hd
       obtain ⟨l, h', h1, h2, h3, h4⟩ := a7n (P := P) false s.length s.length hlo hhi (FW _) s rfl h
       injection h4 with h4; subst h4
       refine ⟨.string ⟨((s.take h').drop l).toArray⟩, ?_, RepD.str_ (by simp; omega)⟩
       rw [run_sliceAt_string w t _ vlo vhi none hd]
       have hs : (⟨s.toArray⟩ : ByteArray).size = s.length := by simp [Hx]
       simp only [Instr.slice, Gq, Gp hd, Gg]
       simp [hs, h3, b5J]
     . cases h
   . cases h
theorem b3g {α : Type} {i : Int} {n : Nat} {K : Nat -> Option α} {r : α} (h : inK i n K = some r) : 0 <= i /\ i < (n : Int) /\ K i.toNat = some r := by
 obtain ⟨h1, h2⟩ := F7 h
 simp at h1
 exact ⟨h1.1, h1.2, h2⟩
theorem b7V {α β : Type} {xs : List α} {i : Nat} {K : α -> Option β} {r : β} (h : at? xs i K = some r) : ∃ x, xs[i]? = some x /\ K x = some r := by
 unfold at? at h
 split at h
 . rename_i x hx; exact ⟨x, hx, h⟩
 . cases h
theorem a6i {α : Type} {i : Int} {K : Nat -> Option α} {r : α} : ∀ {n j : Nat}, a0p i j n K = some r -> ∃ m : Nat, i = (m : Int) /\ j <= m /\ m < j + n /\ K m = some r
 | 0, j, h => by cases h
 | n + 1, j, h => by
   rcases j8 h with ⟨h1, h2⟩ | ⟨h1, h2⟩
   . exact ⟨j, by simpa using h1, FW _, by omega, h2⟩
   . obtain ⟨m, h3, h4, h5, h6⟩ := a6i h2
     exact ⟨m, h3, by omega, by omega, h6⟩
theorem b6A {α : Type} {ck : CK} {x : V} {K : V -> Option α} {r : α} (h : c4o ck x K = some r) : K x = some r /\ x.one = true := by
 cases ck <;> cases x <;> simp only [c4o, V.unInt, V.unBool, V.unStr, V.unBytes, V.unSl, V.unI, reduceCtorEq] at h <;> first
  | exact ⟨h, rfl⟩
  | (split at h
     . rename_i hk; subst hk; exact ⟨h, rfl⟩
     . cases h)
  | (rcases j8 h with ⟨hk, h'⟩ | ⟨_, h'⟩
     . have := FM hk; subst this; exact ⟨h', rfl⟩
     . cases h')
theorem b4X {α : Type} : ∀ {cks : List CK} {xs : List V} {K : List V -> Option α} {r : α}, b3y cks xs K = some r -> K xs = some r /\ xs.length = cks.length /\ ∀ x ∈ xs, x.one = true
 | [], xs, K, r, h => by
   cases xs with
   | nil => exact ⟨h, rfl, by simp⟩
   | cons x xs => cases h
 | ck :: cks, xs, K, r, h => by
   cases xs with
   | nil => cases h
   | cons x xs =>
     simp only [b3y, e9] at h
     obtain ⟨h1, h2⟩ := b6A h
     obtain ⟨h3, h4, h5⟩ := b4X h1
     refine ⟨h3, by simp [h4], fun y hy => ?_⟩
     rcases GH.1 hy with rfl | hy
     . exact h2
     . exact h5 y hy
theorem d1C {α : Type} {t : FP} {ty : Ty} (hok : TyOK P t ty) {x : V} {K : List V -> Option α} {r : α} (h : fit ty x K = some r) : K x.cells = some r /\ x.cells.length = ty.size /\ ∀ y ∈ x.cells, y.one = true := by
 unfold fit at h
 split at h
 . cases x <;> simp only [V.unAgg, reduceCtorEq] at h
   exact b4X h
 . rename_i N7
   obtain ⟨h1, h2⟩ := b6A h
   have e : x.cells = [x] := by cases x <;> first | rfl | (simp [V.one] at h2)
   rw [e]
   exact ⟨h1, (hok.one N7).symm, by simpa using h2⟩
theorem a6z {xs : List V} {sz : Nat} (hs : ∀ x ∈ xs, x.cells.length = sz) {i k : Nat} {x y : V} (hx : xs[i]? = some x) (hk : x.cells[k]? = some y) : (xs.flatMap V.cells)[i * sz + k]? = some y := by
 have hi : i < xs.length := (FN.1 hx).1
 rw [← flat_get hs i k (by omega)]
 have : xs.drop i = x :: xs.drop (i + 1) := by
  rw [List.drop_eq_getElem_cons hi]
  congr 1
  have := FQ hi
  rw [this] at hx
  injection hx
 rw [this, Hb, Gh (FN.1 hk).1]
 exact hk
theorem a9n (hgs : g.sz = U5 T) (hT : D7 P T) (t : FP) (x i : D) (vx vi : FX) (hx : RepD E g w dead x vx) (hi : RepD E g w dead i vi) (d : D) (h : Z1 T t x i some = some d) :
 ∃ v, (Ls t vx vi).run P w = .ok v w /\ RepD E g w dead d v := by
 unfold Z1 at h
 split at h
 . rename_i ty k i a hty
   have hok := hT _ _ hty
   obtain ⟨rfl, hib⟩ := hi.int_inv
   split at h
   . rename_i e s a' C9
     obtain ⟨hr, _, A, n, c, rfl, hn, hc, hm⟩ := hx.bytes_inv
     split at h
     . rename_i te hte
       rcases j8 h with ⟨hsz, h⟩ | ⟨_, h⟩
       . have hsz := FM hsz
         obtain ⟨i0, i1, h⟩ := b3g h
         obtain ⟨b, hb, h⟩ := b7V h
         injection h with h; subst h
         have he := hok.elem C9
         cases hr with
         | bytes xs A n c hn' hc hm hxx =>
           obtain ⟨bb, off, rfl, hst, R7⟩ := hxx _ _ hb
           refine ⟨.pointer (some ⟨bb, off + i.toNat, none⟩), ?_, ?_⟩
           . rw [LK w t _ n c k i he.1, if_pos ⟨i0, by omega⟩, he.2, (hT _ _ hte).size (w := w), hsz]
             simp [HU]
           . refine RepD.eptr [.int .u8 b.toNat] 0 bb (off + i.toNat) (fun _ => .int .u8 (b.toNat : Int)) (fun k y hk => ?_) (fun k y hk => ?_)
             . have : k = 0 := by have := (FN.1 hk).1; simp at this; omega
               subst this
               exact ⟨hst, R7⟩
             . have : k = 0 := by have := (FN.1 hk).1; simp at this; omega
               subst this
               simp at hk
               subst hk
               exact .int _ _ (by have := Jt b; simp [Jm, Jn, JO, IX]; omega)
       . cases h
     . cases h
   . rename_i e e' s a' C9
     obtain ⟨hr, _, A, n, c, rfl, hn, hc, hm⟩ := hx.sl_inv
     split at h
     . rename_i te hte
       rcases j8 h with ⟨_, hk⟩ | ⟨hnz, hk⟩
       . cases hk
       clear h
       simp only [GI, Jj] at hnz
       obtain rfl := FM hnz.2
       have hnz : te.size ≠ 0 := fun e0 => by rw [e0] at hnz; simp at hnz
       obtain ⟨i0, i1, h⟩ := b3g hk
       obtain ⟨y, hy, h⟩ := b7V h
       obtain ⟨h, hys, hyo⟩ := d1C (hT _ _ hte) h
       injection h with h; subst h
       have he := hok.elem C9
       cases hr with
       | sl e xs A n c us hn' hc hm hs0 hxx hrr =>
         have e0G : y ∈ s := Gb hy
         have hse : g.sz e' = te.size := by rw [hgs]; simp [U5, hte]
         have hs : ∀ x ∈ s, x.cells.length = te.size := fun x hx => by rw [← hse]; exact (U9 (hs0 x hx)).1
         have c0n : ∃ bb off, A = some ⟨bb, off, none⟩ := by
          have hlt : 0 < y.cells.length := by omega
          obtain ⟨bb, off, e1, _⟩ := hxx _ _ (a6z hs hy (FQ hlt))
          exact ⟨bb, off, e1⟩
         obtain ⟨bb, off, rfl⟩ := c0n
         refine ⟨.pointer (some ⟨bb, off + i.toNat * te.size, none⟩), ?_, ?_⟩
         . rw [LK w t _ n c k i he.1, if_pos ⟨i0, by omega⟩, he.2, (hT _ _ hte).size (w := w)]
           simp [HU]
         . refine RepD.eptr y.cells 0 bb (off + i.toNat * te.size) (fun k => us (i.toNat * te.size + k)) (fun k z hk => ?_) (fun k z hk => hrr _ z (a6z hs hy hk))
           obtain ⟨b2, off2, e1, h1, h2⟩ := hxx _ z (a6z hs hy hk)
           injection e1 with e1; injection e1 with e1 e2; subst e1 e2
           exact ⟨by rw [Hu]; exact h1, by rw [Hu]; exact h2⟩
     . cases h
   . rename_i n e k' s' o' C9
     have hd := hok.desc
     rw [C9] at hd
     split at h
     . rename_i te hte
       obtain ⟨m, rfl, _, hm, h⟩ := a6i h
       injection h with h; subst h
       cases hx with
       | ptr k s o h1 h2 =>
         have hn : ((m : Int) < n) := by omega
         have he : P.elem t = e := by simp [Program.elem, hd]
         refine ⟨.pointer (some ⟨g.J (E.d - k') s', o' + m * te.size, none⟩), ?_, .ptr _ _ _ h1 h2⟩
         simp only [Ls, asIntOf, Gq, Hj, Gg, Gp hd, Io]
         rw [if_pos ⟨by omega, hn⟩]
         simp only [Gq, (hT _ _ hte).size (w := w), Gg, Hj, GE, HU]
     . cases h
   . rename_i n e cs o' C9
     have hd := hok.desc
     rw [C9] at hd
     split at h
     . rename_i te hte
       obtain ⟨m, rfl, _, hm, h⟩ := a6i h
       injection h with h; subst h
       cases hx with
       | eptr cs o b off us h1 h2 =>
         have hn : ((m : Int) < n) := by omega
         refine ⟨.pointer (some ⟨b, off + o' + m * te.size, none⟩), ?_, ?_⟩
         . simp only [Ls, asIntOf, Gq, Hj, Gg, Gp hd, Io]
           rw [if_pos ⟨by omega, hn⟩]
           simp only [Gq, (hT _ _ hte).size (w := w), Gg, Hj, GE, HU]
         . have := RepD.eptr (E := E) (dead := dead) cs (o' + m * te.size) b off us h1 h2
           rwa [← Hu] at this
     . cases h
   . cases h
 . cases h
end
end En
namespace En
open Go
section
variable {P : Gu} {T : FP -> Option Ty} {E : Env} {g : G} {w : Gc} {dead : List Pos}
theorem TyOK.infoSize {t : FP} {ty : Ty} (h : TyOK P t ty) : (P.info? t).map (·.size) = some ty.size := by
 obtain ⟨i, hi, _, hs, _⟩ := h.info
 simp [hi, hs]
theorem b8g (hT : D7 P T) (t : FP) (x : D) (f : Nat) (vx : FX) (hx : RepD E g w dead x vx) (d : D) (h : a9I T t x f some = some d) :
 ∃ v, (NP t vx f).run P w = .ok v w /\ RepD E g w dead d v := by
 unfold a9I at h
 simp only [forceD_eq, GF] at h
 split at h
 . rename_i ty ds hty
   have hd := (hT _ _ hty).desc
   split at h
   . rename_i fs C9
     rw [C9] at hd
     split at h
     . rename_i fl hfl
       split at h
       . rename_i te hte
         split at h
         . rename_i d' hd'
           injection h with h; subst h
           cases hx with
           | agg ds us hn hr =>
             obtain ⟨v, h1, h2⟩ := K9 (P := P) hT hte ds us hn hr fl.offset d' hd'
             exact ⟨v, by simp [NP, Gp hd, hfl, asAgg, h1], h2.plain_⟩
         . cases h
       . cases h
     . cases h
   . cases h
 . cases h
theorem c0b (hT : D7 P T) (t : FP) (x i : D) (vx vi : FX) (hx : RepD E g w dead x vx) (hi : RepD E g w dead i vi) (d : D) (h : b0l T t x i some = some d) :
 ∃ v, (NQ t vx vi).run P w = .ok v w /\ RepD E g w dead d v := by
 unfold b0l at h
 simp only [forceD_eq, GF] at h
 split at h
 . rename_i ty k i a hty
   have hd := (hT _ _ hty).desc
   obtain ⟨rfl, hib⟩ := hi.int_inv
   split at h
   . rename_i s a' C9
     rw [C9] at hd
     obtain ⟨rfl, hl⟩ := hx.str_inv
     obtain ⟨i0, i1, h⟩ := b3g h
     obtain ⟨b, hb, h⟩ := b7V h
     injection h with h; subst h
     have hs : (⟨s.toArray⟩ : ByteArray).size = s.length := by simp [Hx]
     refine ⟨.int .u8 (b.toNat : Int), ?_, RepD.int_ (by have := Jt b; simp [Jm, Jn, JO, IX]; omega)⟩
     rw [run_index_string w t _ k i hd, dif_pos ⟨i0, by rw [hs]; exact i1⟩]
     congr 3
     obtain ⟨h1, h2⟩ := FN.1 hb
     subst h2
     rfl
   . rename_i n e ds C9
     rw [C9] at hd
     split at h
     . rename_i te hte
       obtain ⟨m, rfl, _, hm, h⟩ := a6i h
       split at h
       . rename_i d' hd'
         injection h with h; subst h
         cases hx with
         | agg ds us hn hr =>
           obtain ⟨v, h1, h2⟩ := K9 (P := P) hT hte ds us hn hr _ d' hd'
           refine ⟨v, ?_, h2.plain_⟩
           simp only [NQ, asIntOf, Gq, Hj, Gg, Gp hd]
           rw [if_pos ⟨by omega, by omega⟩]
           simp only [Gq, (hT _ _ hte).size (w := w), Gg, GE, h1]
       . cases h
     . cases h
   . cases h
 . cases h
theorem b0d (hT : D7 P T) (t : FP) (x : D) (f : Nat) (vx : FX) (hx : RepD E g w dead x vx) (d : D) (h : Y7 T t x f some = some d) :
 ∃ v, (Lt t vx f).run P w = .ok v w /\ RepD E g w dead d v := by
 unfold Y7 at h
 simp only [forceD_eq, GF] at h
 split at h
 . rename_i ty hty
   have hd := (hT _ _ hty).desc
   split at h
   . rename_i fs C9
     rw [C9] at hd
     split at h
     . rename_i fl hfl
       split at h
       . rename_i te hte
         split at h
         . cases h
         . rename_i hnz
           have hnz : ¬ te.size = 0 := fun e0 => hnz (by rw [e0]; rfl)
           have d6U : ∀ b o, (fieldPlace ⟨b, o, none⟩ fl).run P w = .ok ⟨b, o + fl.offset, none⟩ w := by
            intro b o
            unfold fieldPlace
            simp only [Gq, (hT _ _ hte).size (w := w), Gg]
            rw [if_neg hnz, Hj, HU]
           split at h
           . injection h with h; subst h
             cases hx with
             | ptr k s o h1 h2 =>
               exact ⟨_, by simp [Lt, Gp hd, hfl, Io, d6U], .ptr _ _ _ h1 h2⟩
           . rename_i cs o
             injection h with h; subst h
             cases hx with
             | eptr _ _ b off us h1 h2 =>
               refine ⟨.pointer (some ⟨b, off + o + fl.offset, none⟩), by simp [Lt, Gp hd, hfl, Io, d6U], ?_⟩
               have := RepD.eptr (E := E) (dead := dead) cs (o + fl.offset) b off us h1 h2
               rwa [← Hu] at this
           . cases h
       . cases h
     . cases h
   . cases h
 . cases h
theorem MemRep.get {m : Mem} (hm : MemRep E g w m) {k s : Nat} {b : Bx} (h : Mem.box? m k s = some b) : ∃ us, w.heap[g.J (E.d - k) s]? = some (.cells us b.ty (0, 0)) /\ us.size = b.cells.length /\
 (∀ (i : Nat) c, b.cells[i]? = some c -> w.cell? ⟨g.J (E.d - k) s, i, none⟩ = some (us.getD i undef) /\ RepD E g w [] (G6 k s i c) (us.getD i undef)) := by
 obtain ⟨us, h1, h2, h3⟩ := (hm k s b h).heap
 refine ⟨us, h1, h2, fun i c hc => ⟨?_, (h3 i c hc).2.2.2⟩⟩
 rw [GA w _ i us _ _ h1]
 have := (FN.1 hc).1
 simp [(by omega : i < us.size)]
theorem RepD.weaken {x : D} {v : FX} (h : RepD E g w [] x v) : RepD E g w dead x v :=
 h.keep ⟨Later.refl g w, rfl, fun _ _ h => h, fun _ _ _ _ => rfl, fun p hp => by simp at hp, fun _ _ _ _ _ h => h⟩
theorem a5q (k s : Nat) : ∀ (ds : List D) (i j : Nat) y, (Q0 k s i ds)[j]? = some y -> ∃ c, ds[j]? = some c /\ y = (G6 k s (i + j) c).plain
 | [], i, j, y, h => by simp [Q0] at h
 | d :: ds, i, 0, y, h => by
   simp [Q0] at h
   exact ⟨d, by simp, h.symm⟩
 | d :: ds, i, j + 1, y, h => by
   simp [Q0] at h
   obtain ⟨c, h1, h2⟩ := a5q k s ds (i + 1) j y h
   exact ⟨c, by simpa using h1, by rw [h2]; congr 2; omega⟩
theorem a1O (k s : Nat) : ∀ (ds : List D) (i : Nat), (Q0 k s i ds).length = ds.length
 | [], _ => rfl
 | d :: ds, i => by simp [Q0, a1O k s ds]
theorem a8N {t : FP} {ty : Ty} (hok : TyOK P t ty) (N7 : ty.row = true) {b o : Nat} {us : Nat -> FX} (hc : ∀ j, j < ty.size -> w.cell? ⟨b, o + j, none⟩ = some (us j)) :
 (Ju t (.pointer (some ⟨b, o, none⟩))).run P w = .ok (.agg ((OD ty.size).map us).toArray) w := by
 refine run_loadAt_mid w b o t _ ty.desc (fun j v hj => ?_) hok.desc ?_ (by rw [hok.infoSize]; simp)
 . rw [Gn, Gl] at hj
   obtain ⟨z, hz, rfl⟩ := hj
   obtain ⟨h1, h2⟩ := FN.1 hz
   simp at h1 h2
   subst h2
   exact hc _ h1
 . unfold Ty.row at N7
   cases hd : ty.desc <;> simp_all
theorem a9g {t : FP} {ty : Ty} (hok : TyOK P t ty) (N7 : ty.row = false) {b o : Nat} {u : FX} (hc : w.cell? ⟨b, o, none⟩ = some u) :
 (Ju t (.pointer (some ⟨b, o, none⟩))).run P w = .ok u w := by
 simp [Ju, Io, loadVar, hok.isAgg (w := w), N7, hc]
theorem b0P (hT : D7 P T) (t : FP) (a : D) (va : FX) (ha : RepD E g w dead a va) {m : Mem} (hm : MemRep E g w m) (d : D) (h : a0J T t a m some = some d) :
 ∃ v, (Ju t va).run P w = .ok v w /\ RepD E g w dead d v := by
 unfold a0J at h
 simp only [forceD_eq, GF] at h
 split at h
 . rename_i ty hty
   have hok := hT _ _ hty
   split at h
   . rename_i k s o
     cases ha with
     | ptr k s o h1 h2 =>
       split at h
       . rename_i b hb
         obtain ⟨us, g1, g2, g3⟩ := hm.get hb
         split at h
         . rename_i N7
           split at h
           . rename_i hle
             have hle := Gm hle
             injection h with h; subst h
             refine ⟨_, a8N (us := fun j => us.getD (o + j) undef) hok N7 (fun j hj => ?_), ?_⟩
             . have : o + j < b.cells.length := by omega
               exact (g3 (o + j) _ (FQ this)).1
             . refine .agg _ _ (by rw [a1O]; simp; omega) fun j y hj => ?_
               obtain ⟨c, hc, rfl⟩ := a5q k s _ o j y hj
               rw [He] at hc
               split at hc
               . rename_i hlt
                 rw [Hy] at hc
                 have := (g3 (o + j) c hc).2.plain_.weaken (dead := dead)
                 simpa [hlt] using this
               . cases hc
           . cases h
         . rename_i N7
           split at h
           . split at h
             . rename_i c hc
               injection h with h; subst h
               exact ⟨_, a9g hok N7 (g3 o c hc).1, (g3 o c hc).2.weaken⟩
             . cases h
           . cases h
       . cases h
   . rename_i cs o
     cases ha with
     | eptr cs o b off us h1 h2 =>
       split at h
       . rename_i N7
         split at h
         . rename_i hle
           have hle := Gm hle
           injection h with h; subst h
           refine ⟨_, a8N (us := fun j => us (o + j)) hok N7 (fun j hj => ?_), ?_⟩
           . have : o + j < cs.length := by omega
             have := (h1 (o + j) _ (FQ this)).2
             rwa [← Hu] at this
           . refine .agg _ _ (by simp; omega) fun j y hj => ?_
             rw [Gn, Gl] at hj
             obtain ⟨z, hz, rfl⟩ := hj
             rw [He] at hz
             split at hz
             . rename_i hlt
               rw [Hy] at hz
               have := RepD.v (E := E) (dead := dead) z .no _ (h2 (o + j) z hz) trivial
               simpa [hlt, vD] using this
             . cases hz
         . cases h
       . rename_i N7
         split at h
         . split at h
           . rename_i y hy
             injection h with h; subst h
             exact ⟨_, a9g hok N7 (h1 o y hy).2, .v _ _ _ (h2 o y hy) trivial⟩
           . cases h
         . cases h
   . cases h
 . cases h
end
end En
namespace En
open Go
section
variable {P : Gu} {T : FP -> Option Ty} {E : Env} {g : G} {w : Gc} {dead : List Pos}
theorem RepD.one_ {d : D} {v : FX} (h : RepD E g w dead d v) (h1 : d.one = true) : v.oneCell' = true := by
 cases h with
 | v x a v h ha =>
   refine h.one ?_
   cases x <;> first | rfl | (simp [D.one] at h1)
 | ptr k s o _ _ => rfl
 | nilp => rfl
 | eptr cs o b off us _ _ => rfl
 | clos f caps us _ _ => rcases a8o f us with e | ⟨_, e⟩ <;> rw [e] <;> rfl
 | nilF => rfl
 | fn n fs k s v h =>
   rcases h with ⟨_, e⟩ | ⟨_, _, _, _, _, e⟩ <;> rw [e] <;> rfl
 | bld => rfl
 | agg ds us _ _ => simp [D.one] at h1
 | tup ds us _ _ => simp [D.one] at h1
 | any v => simp [D.one] at h1
theorem d1g {v : FX} (h : v.oneCell' = true) : v.cells = #[v] := by cases v <;> first | rfl | cases h
def RepL (E : Env) (g : G) (w : Gc) (dead : List Pos) (ds : List D) (us : Array FX) : Prop :=
 us.size = ds.length /\ ∀ (k : Nat) y, ds[k]? = some y -> RepD E g w dead y (us.getD k undef)
theorem b0e {d : D} {v : FX} (h : RepD E g w dead d v) (h1 : (cellsOf d).all D.one = true) : RepL E g w dead (cellsOf d) v.cells := by
 have single : ∀ {d : D} {v : FX}, RepD E g w dead d v -> d.one = true -> RepL E g w dead [d] v.cells := by
  intro d v h h1
  rw [d1g (h.one_ h1)]
  refine ⟨rfl, fun k y hk => ?_⟩
  have : k = 0 := by have := (FN.1 hk).1; simp at this; omega
  subst this
  simp at hk; subst hk
  exact h
 cases d with
 | agg ds => cases h with | agg ds us hn hr => exact ⟨hn, hr⟩
 | v x a =>
   cases x with
   | agg cs =>
     cases h with | v x a v h ha =>
     cases h with
     | agg cs us hn hr =>
       refine ⟨by simpa [cellsOf, Iv] using hn, fun k y hk => ?_⟩
       simp only [cellsOf, Gn, Gl] at hk
       obtain ⟨z, hz, rfl⟩ := hk
       exact .v _ _ _ (hr k z hz) trivial
   | _ => exact single h rfl
 | tup ds => simp [cellsOf, D.one] at h1
 | any => simp [cellsOf, D.one] at h1
 | _ => exact single h rfl
theorem b3i : ∀ (xs : List D) (off : Nat) (cs : List D) (k : Nat), (b3T cs off xs)[k]? = if off <= k /\ k < off + xs.length /\ k < cs.length then xs[k - off]? else cs[k]?
 | [], off, cs, k => by simp [b3T]; intro h1 h2; omega
 | x :: xs, off, cs, k => by
   simp only [b3T]
   rw [b3i xs (off + 1) (cs.set off x) k]
   simp only [List.length_set, FO]
   by_cases h1 : off + 1 <= k /\ k < off + 1 + xs.length /\ k < cs.length
   . rw [if_pos h1, if_pos ⟨by omega, by omega, h1.2.2⟩]
     have : k - off = (k - (off + 1)) + 1 := by omega
     rw [this, Hv]
   . rw [if_neg h1]
     by_cases hk : k = off
     . subst hk
       by_cases hl : k < cs.length
       . rw [if_pos ⟨FW _, by omega, hl⟩]; simp [hl]
       . rw [if_neg (by omega)]; simp [hl]
     . rw [List.getElem?_set_ne (fun e => hk e.symm), if_neg (by omega)]
theorem a2d : ∀ (xs : List D) (off : Nat) (cs : List D), (b3T cs off xs).length = cs.length
 | [], _, _ => rfl
 | x :: xs, off, cs => by simp [b3T, a2d xs]
theorem a6P : ∀ (xs : List FX) (i off : Nat) (us : Array FX) (k : Nat),
 ((xs.zipIdx i).foldl (fun cs p => cs.setIfInBounds (off + p.2) p.1) us)[k]? = if off + i <= k /\ k < off + i + xs.length /\ k < us.size then xs[k - (off + i)]? else us[k]?
 | [], i, off, us, k => by simp; intro h1 h2; omega
 | x :: xs, i, off, us, k => by
   simp only [List.zipIdx_cons, Mo]
   rw [a6P xs (i + 1) off _ k]
   simp only [Array.size_setIfInBounds, FO]
   by_cases h1 : off + (i + 1) <= k /\ k < off + (i + 1) + xs.length /\ k < us.size
   . rw [if_pos h1, if_pos ⟨by omega, by omega, h1.2.2⟩]
     have : k - (off + i) = (k - (off + (i + 1))) + 1 := by omega
     rw [this, Hv]
   . rw [if_neg h1]
     by_cases hk : k = off + i
     . subst hk
       by_cases hl : off + i < us.size
       . rw [if_pos ⟨FW _, by omega, hl⟩]; simp [hl]
       . rw [if_neg (by omega)]; simp [hl]
     . rw [Array.getElem?_setIfInBounds_ne (fun e => hk e.symm), if_neg (by omega)]
theorem a5i : ∀ (xs : List (FX × Nat)) (off : Nat) (us : Array FX), (xs.foldl (fun cs p => cs.setIfInBounds (off + p.2) p.1) us).size = us.size
 | [], _, _ => rfl
 | x :: xs, off, us => by rw [Mo, a5i xs]; simp
theorem RepL.set_ {ds xs : List D} {us vs : Array FX} {off : Nat} (h : RepL E g w dead ds us) (hx : RepL E g w dead xs vs) :
 RepL E g w dead (b3T ds off xs) (vs.zipIdx.foldl (fun cs (c, j) => cs.setIfInBounds (off + j) c) us) := by
 have e1 : vs.zipIdx.foldl (fun cs (c, j) => cs.setIfInBounds (off + j) c) us = (vs.toList.zipIdx 0).foldl (fun cs p => cs.setIfInBounds (off + p.2) p.1) us := by
  rw [← Array.foldl_toList]; simp [Array.toList_zipIdx]
 rw [e1]
 refine ⟨by rw [a5i, a2d]; exact h.1, fun k y hk => ?_⟩
 rw [b3i] at hk
 rw [Ge, a6P]
 have hl : vs.toList.length = xs.length := by simpa using hx.1
 have hu := h.1
 by_cases hc : off <= k /\ k < off + xs.length /\ k < ds.length
 . rw [if_pos hc] at hk
   rw [if_pos ⟨by omega, by omega, by omega⟩]
   have := hx.2 _ y hk
   simpa [Ge] using this
 . rw [if_neg hc] at hk
   rw [if_neg (by omega)]
   have := h.2 k y hk
   simpa [Ge] using this
def RepP (E : Env) (g : G) (w : Gc) (dead : List Pos) : List (Nat × D) -> List (Nat × FX) -> Prop
 | [], [] => True
 | (i, d) :: r, (j, v) :: s => i = j /\ RepD E g w dead d v /\ RepP E g w dead r s
 | _, _ => False
theorem a1X (place : Nat -> Option (Nat × Nat)) : ∀ (ps : List (Nat × D)) (vs : List (Nat × FX)) (ds : List D) (us : Array FX) (ds' : List D), RepP E g w dead ps vs -> RepL E g w dead ds us -> a6Y place ds ps = some ds' ->
 ∃ us', KI place us vs = some us' /\ RepL E g w dead ds' us'
 | [], [], ds, us, ds', _, h, hf => by
   simp only [a6Y, Gy] at hf
   subst hf
   exact ⟨us, rfl, h⟩
 | [], _ :: _, _, _, _, hp, _, _ => hp.elim
 | _ :: _, [], _, _, _, hp, _, _ => hp.elim
 | (i, d) :: r, (j, v) :: s, ds, us, ds', ⟨hij, hd, hp⟩, h, hf => by
   subst hij
   unfold a6Y at hf
   unfold KI
   cases hpl : place i with
   | none => rw [hpl] at hf; cases hf
   | some q =>
     obtain ⟨off, size⟩ := q
     rw [hpl] at hf
     simp only [GF] at hf
     split at hf
     case isFalse => cases hf
     . rename_i hn
       simp only [FT] at hn
       obtain ⟨T9, hn1, hn2⟩ := hn
       have hn1 := FM hn1
       have hn2 := Gm hn2
       have hc := b0e hd T9
       have h1 : v.cells.size = size := by
        rw [hc.1, hn1]
       have h2 : ¬ (off + v.cells.size > us.size) := by
        have := hc.1
        rw [h.1]; omega
       obtain ⟨us', e1, e2⟩ := a1X place r s _ _ ds' hp (h.set_ (off := off) hc) hf
       refine ⟨us', ?_, e2⟩
       simp only [h1] at h2 ⊢
       rw [if_neg (by simp; omega)]
       exact e1
theorem b6Y (ck : CK) : RepD E g w dead (b6v ck) (zeroV ck) := by
 cases ck with
 | int k => exact RepD.int_ (a7o k)
 | bool => exact RepD.bool_ _
 | str => exact RepD.str_ (s := []) (by simp)
 | bytes e => exact .v _ _ _ (.bytes [] none 0 0 rfl (FW _) (Hq _) fun k x h => by simp at h) rfl
 | slc e => exact .v _ _ _ (.sl _ [] none 0 0 (fun _ => undef) rfl (FW _) (Hq _) (fun x h => by simp at h) (fun k x h => by simp at h) (fun k x h => by simp at h)) rfl
 | ptr => exact .nilp
 | iface => exact .v _ _ _ .nilI trivial
 | func => exact .nilF
 | map => exact .v _ _ _ .nilM trivial
 | bld => exact .bld
theorem b1c (ck : CK) : (zeroV ck).cells = #[zeroV ck] := by cases ck <;> rfl
theorem a9a {t : FP} {ty : Ty} (hok : TyOK P t ty) : RepL E g w dead ty.zeroDs ty.zero.cells := by
 unfold Ty.zero
 cases hr : ty.row with
 | true =>
   refine ⟨by simp [Ty.zeroDs, Iv], fun k y hk => ?_⟩
   simp only [Ty.zeroDs, Gn, Gl] at hk
   obtain ⟨ck, hck, rfl⟩ := hk
   have := b6Y (E := E) (g := g) (w := w) (dead := dead) ck
   simpa [Iv, hck] using this
 | false =>
   have h1 := hok.one hr
   unfold Ty.size at h1
   match c6M : ty.cks, h1 with
   | [ck], _ =>
     simp only [Bool.false_eq_true, if_false]
     refine ⟨by simp [Ty.zeroDs, c6M, b1c], fun k y hk => ?_⟩
     have : k = 0 := by have := (FN.1 hk).1; simp [Ty.zeroDs, c6M] at this; omega
     subst this
     simp [Ty.zeroDs, c6M] at hk
     subst hk
     simpa [b1c] using b6Y (E := E) (g := g) (w := w) (dead := dead) ck
theorem RepP.map_ {f : D -> D} (hf : ∀ {d v}, RepD E g w dead d v -> RepD E g w dead (f d) v) : ∀ {ps : List (Nat × D)} {vs : List (Nat × FX)}, RepP E g w dead ps vs -> RepP E g w dead (ps.map fun p => (p.1, f p.2)) vs
 | [], [], _ => trivial
 | [], _ :: _, h => h.elim
 | _ :: _, [], h => h.elim
 | (i, d) :: r, (j, v) :: s, ⟨h1, h2, h3⟩ => ⟨h1, hf h2, RepP.map_ hf h3⟩
theorem a5T (hT : D7 P T) : ∀ (fs : List Kt) (places : List (Nat × Nat)), placesOf T fs = some places -> fs.mapM (fun f => (P.info? f.type).map fun i => (f.offset, i.size)) = some places
 | [], places, h => by simp only [placesOf, Gy] at h; subst h; rfl
 | f :: fs, places, h => by
   unfold placesOf at h
   split at h
   . rename_i te hte
     split at h
     . rename_i r hr
       injection h with h; subst h
       have ih := a5T hT fs r hr
       obtain ⟨i, hi, _, hs, _⟩ := (hT _ _ hte).info
       simp [List.mapM_cons, hi, hs, ih]
     . cases h
   . cases h
theorem b9w (hT : D7 P T) (t : FP) (parts : List (Nat × D)) (vparts : Array (Nat × FX)) (hp : RepP E g w dead parts vparts.toList) (d : D) (h : a9Q T t parts some = some d) :
 ∃ v, (Instr.build t vparts).run P w = .ok v w /\ RepD E g w dead d v := by
 unfold a9Q at h
 simp only [forceD_eq] at h
 split at h
 . rename_i ty hty
   have hok := hT _ _ hty
   obtain ⟨i, hi, hz, hs, _⟩ := hok.info
   have hd := hok.desc
   have hzr := a9a (E := E) (g := g) (w := w) (dead := dead) hok
   have hpp := RepP.map_ (f := D.plain) (fun h => h.plain_) hp
   split at h
   . rename_i fs C9
     rw [C9] at hd
     split at h
     . rename_i places hpl
       split at h
       . rename_i cs hcs
         injection h with h; subst h
         obtain ⟨us, h1, h2⟩ := a1X _ _ _ _ _ cs hpp hzr hcs
         refine ⟨.agg us, run_build w t vparts us ?_, .agg _ _ h2.1 h2.2⟩
         simp only [Program.built, hi, hd, hz, a5T hT _ _ hpl]
         simpa using h1
       . cases h
     . cases h
   . rename_i n e C9
     rw [C9] at hd
     split at h
     . rename_i te hte
       split at h
       . rename_i cs hcs
         injection h with h; subst h
         obtain ⟨us, h1, h2⟩ := a1X _ _ _ _ _ cs hpp hzr hcs
         obtain ⟨ie, hie, _, hse, _⟩ := (hT _ _ hte).info
         refine ⟨.agg us, run_build w t vparts us ?_, .agg _ _ h2.1 h2.2⟩
         simp only [Program.built, hi, hd, hz, hie, hse]
         exact h1
       . cases h
     . cases h
   . cases h
 . cases h
end
end En
namespace En
open Go
structure Grows (w w' : Gc) : Prop where
 os : w'.os = w.os
 tape : w'.tape = w.tape
 output : w'.output = w.output
 size : w.heap.size <= w'.heap.size
 old : ∀ b, b < w.heap.size -> w'.heap[b]? = w.heap[b]?
theorem Grows.refl (w : Gc) : Grows w w := ⟨rfl, rfl, rfl, FW _, fun _ _ => rfl⟩
theorem Grows.trans {a b c : Gc} (h : Grows a b) (k : Grows b c) : Grows a c :=
 ⟨k.os.trans h.os, k.tape.trans h.tape, k.output.trans h.output, IL h.size k.size, fun x hx => (k.old x (Ji hx h.size)).trans (h.old x hx)⟩
theorem Grows.alloc (w : Gc) (o : Obj) : Grows w (w.alloc o) :=
 ⟨rfl, rfl, rfl, by simp, fun b hb => by
  show (w.heap.push o)[b]? = _
  rw [Array.getElem?_push]; rw [if_neg (by omega)]⟩
theorem Grows.drew (w : Gc) : Grows w w.drew := ⟨rfl, rfl, rfl, FW _, fun _ _ => rfl⟩
def G.at_ (g : G) (b : Nat) (p : Perm) : G := { g with Γ := fun x => if x = b then p else g.Γ x }
theorem G.at_ne (g : G) (b : Nat) (p : Perm) {x : Nat} (h : x ≠ b) : (g.at_ b p).Γ x = g.Γ x := by simp [G.at_, h]
theorem G.at_eq (g : G) (b : Nat) (p : Perm) : (g.at_ b p).Γ b = p := by simp [G.at_]
theorem a1a {g : G} {b : Nat} {p : Perm} {x o : Nat} (h : x ≠ b) : s5 (g.at_ b p) x o ↔ s5 g x o := by
 unfold s5; rw [G.at_ne g b p h]
theorem a8T {w : Gc} {b o : Nat} {v : FX} (h : w.cell? ⟨b, o, none⟩ = some v) : b < w.heap.size := by
 unfold World.cell? at h
 rcases Hi b w.heap.size with h' | h'
 . exact h'
 . rw [Array.getElem?_eq_none h'] at h; cases h
theorem G7 {w : Gc} {b : Nat} {o : Obj} (h : w.heap[b]? = some o) : b < w.heap.size := (Array.getElem?_eq_some_iff.1 h).1
theorem cell_of_heap {w w' : Gc} {b o : Nat} (h : w'.heap[b]? = w.heap[b]?) : w'.cell? ⟨b, o, none⟩ = w.cell? ⟨b, o, none⟩ := World.cell?_of_block (a := ⟨b, o, none⟩) h
section
variable {P : Gu} {T : FP -> Option Ty} {E : Env} {g : G} {w w' : Gc} {dead : List Pos}
theorem a3S (h : Grows w w') {b : Nat} (hb : w.heap.size <= b) (p : Perm) : Later g w (g.at_ b p) w' :=
 ⟨rfl, fun x o v h1 h2 => by
  have hx := a8T h2
  exact ⟨(a1a (by omega)).2 h1, by rw [cell_of_heap (h.old x hx)]; exact h2⟩, fun x o h1 h2 => by
  have hx := G7 h2
  exact ⟨by rw [G.at_ne _ _ _ (by omega)]; exact h1, by rw [h.old x hx]; exact h2⟩⟩
theorem c2D (h : Grows w w') {b : Nat} (hb : w.heap.size <= b) (p : Perm) {q : APos} {e : FP} {v : FX} (ho : D1 g w q e v) : D1 (g.at_ b p) w' q e v := by
 rcases ho with h0 | ⟨x, n, cap, cur, h1, h2, h3, h4⟩
 . exact .inl h0
 . have hx := G7 h3
   exact .inr ⟨x, n, cap, cur, h1, by rw [G.at_ne _ _ _ (by omega)]; exact h2, by rw [h.old x hx]; exact h3, h4⟩
theorem Y3 (h : Grows w w') {b : Nat} (hb : w.heap.size <= b) (p : Perm) : Keeps E g w dead E (g.at_ b p) w' dead :=
 ⟨a3S h hb p, rfl, fun _ _ h => h, fun _ _ _ _ => rfl, fun _ h => h, fun _ _ _ _ _ ho => c2D h hb p ho⟩
theorem b7T (h : Grows w w') {b : Nat} (hb : w.heap.size <= b) (p : Perm) (d : Nat) : Tr d g w (g.at_ b p) w' :=
 ⟨h.os, h.tape, h.output, h.size, a3S h hb p, fun x hx hi => ⟨by rw [G.at_ne _ _ _ (by omega)], h.old x hx⟩, fun _ _ _ => rfl⟩
theorem d4k (h : Grows w w') {b : Nat} (hb : w.heap.size <= b) (p : Perm) {k s : Nat} {bx : Bx} (hr : BoxRep E g w k s bx) : BoxRep E (g.at_ b p) w' k s bx := by
 obtain ⟨us, h1, h2, h3⟩ := hr.heap
 have hx := G7 h1
 refine ⟨hr.le, ?_, us, ?_, h2, fun i c hc => ⟨(h3 i c hc).1, (h3 i c hc).2.1, (h3 i c hc).2.2.1, (h3 i c hc).2.2.2.keep (Y3 h hb p)⟩⟩
 . rw [G.at_ne _ _ _ (by show g.J (E.d - k) s ≠ b; omega)]; exact hr.perm
 . show w'.heap[g.J (E.d - k) s]? = _
   rw [h.old _ hx]; exact h1
theorem a9C {m : Mem} (h : Grows w w') {b : Nat} (hb : w.heap.size <= b) (p : Perm) (hh : Here T E g w m) : Here T E (g.at_ b p) w' m :=
 ⟨fun k s bx hbx => d4k h hb p (hh.mem k s bx hbx), hh.dom, hh.sk.later (a3S h hb p), hh.len⟩
theorem Res.grow {m : Mem} {o : Oper} {a : Act} {x : D} (hh : Here T E g w m) (h : Grows w w') {b : Nat} (hb : w.heap.size <= b) (p : Perm) {v : FX}
 (hr : (execOp a.eval o).run P w = .ok (.value v) w') (hx : RepD E (g.at_ b p) w' dead x v) : Res P T E g w m dead o a x m dead :=
 ⟨v, w', g.at_ b p, E, .inl hr, Y3 h hb p, a9C h hb p hh, hx, b7T h hb p _⟩
theorem c0X (s : List UInt8) (cap k : Nat) (x : UInt8) (h : s[k]? = some x) : (bytesRow ⟨s.toArray⟩ cap)[k]? = some (.int .u8 (x.toNat : Int)) := by
 unfold bytesRow
 have hk := (FN.1 h).1
 rw [GD (by simpa using hk)]
 simp [h]
theorem c2H (hT : D7 P T) (src dst : FP) (x : D) (vx : FX) (hx : RepD E g w dead x vx) (d : D) (h : b6i T src dst x some = some d) :
 ∃ v w', (convert src dst vx).run P w = .ok v w' /\ Grows w w' /\ RepD E (g.at_ w.heap.size .imm) w' dead d v := by
 unfold b6i at h
 split at h
 . rename_i ts td hts htd
   have hs := (hT _ _ hts).desc
   have hd := (hT _ _ htd).desc
   have same : ∀ {d : D} {v : FX}, RepD E g w dead d v -> RepD E (g.at_ w.heap.size .imm) w dead d v := fun h => h.keep (Y3 (Grows.refl w) (FW _) _)
   split at h
   . rename_i k0 k k1 n a h1 h2
     injection h with h; subst h
     obtain ⟨rfl, hb⟩ := hx.int_inv
     have hk : P.intKind dst = k := by simp [Program.intKind, hd, h2]
     refine ⟨_, w, run_convert_int w src dst k1 n (by rw [hs]; rfl) (by rw [hd, h2, hk]), Grows.refl w, ?_⟩
     rw [hk]
     exact same (RepD.int_ (J9 _ _))
   . rename_i e s a h1 h2
     split at h
     . rename_i te hte
       split at h
       . rename_i hu8
         obtain ⟨h3, h⟩ := F7 h
         injection h with h; subst h
         simp at h3
         obtain ⟨hr, _, A, n, c, rfl, hn, hc, hm⟩ := hx.bytes_inv
         rw [h1] at hs
         rw [h2] at hd
         have hed := (hT _ _ hte).desc
         rw [hu8] at hed
         cases hr with
         | bytes xs A n c hn' hc' hm' hxx =>
           refine ⟨.string ⟨s.toArray⟩, w, ?_, Grows.refl w, same (RepD.str_ h3)⟩
           cases s with
           | nil =>
             simp at hn'
             subst hn'
             have := run_convert_bytes_string (P := P) w src dst e A 0 c hs hed hd
             rw [this]
             cases A <;> simp [Conv.bytesToString, loadCells, loadCellsFrom] <;> rfl
           | cons y ys =>
             obtain ⟨b, off, rfl, _, _⟩ := hxx 0 y rfl
             have hl := run_convert_bytes_back (P := P) w src dst e ⟨b, off, none⟩ c (y :: ys) hs hed hd (fun j hj => by
              obtain ⟨b2, off2, e1, _, h5⟩ := hxx j _ (FQ hj)
              injection e1 with e1; injection e1 with e1 e2; subst e1 e2
              simpa [HU] using h5)
             rw [← hn']
             exact hl
       . cases h
     . cases h
   . rename_i e s a h1 h2
     split at h
     . rename_i te hte
       split at h
       . rename_i hu8
         obtain ⟨h3, h⟩ := F7 h
         injection h with h; subst h
         simp at h3
         obtain ⟨rfl, hl⟩ := hx.str_inv
         rw [h1] at hs
         rw [h2] at hd
         have hed := (hT _ _ hte).desc
         rw [hu8] at hed
         have hsz : (⟨s.toArray⟩ : ByteArray).size = s.length := by simp [Hx]
         refine ⟨_, _, run_bytes_of_string w src dst e ⟨s.toArray⟩ hs hd hed, (Grows.drew w).trans (Grows.alloc w.drew _), .v _ _ _ (.bytes _ _ _ _ hsz.symm (HV w _ _ _) (HG w _ _ _ (by rw [hsz]; unfold maxLen; omega)) fun k x hk => ?_) trivial⟩
         refine ⟨w.heap.size, 0, rfl, ?_, ?_⟩
         . unfold s5; rw [G.at_eq]; trivial
         . have := c0X s (grownCap w (⟨s.toArray⟩ : ByteArray).size 0 e) k x hk
           have h9 := GA _ w.heap.size (0 + k) _ _ _ (Hf w.drew (.cells (bytesRow ⟨s.toArray⟩ (grownCap w (⟨s.toArray⟩ : ByteArray).size 0 e)) e ((bytesRow ⟨s.toArray⟩ (grownCap w (⟨s.toArray⟩ : ByteArray).size 0 e)).size, (bytesRow ⟨s.toArray⟩ (grownCap w (⟨s.toArray⟩ : ByteArray).size 0 e)).size + 1)))
           exact h9.trans (by rw [GL]; exact this)
       . cases h
     . cases h
   . rename_i s a h1 h2
     injection h with h; subst h
     obtain ⟨rfl, hl⟩ := hx.str_inv
     rw [h1] at hs
     rw [h2] at hd
     refine ⟨_, w, ?_, Grows.refl w, same hx⟩
     simp [convert, Gp hs, Gp hd]
   . cases h
 . cases h
end
end En
namespace En
open Go
section
variable {R : Type} {P : Gu} {T : FP -> Option Ty} {E : Env} {g : G} {w w' : Gc} {dead : List Pos}
theorem a9b : ∀ (r cs : List D) (off : Nat) (K : List D -> Option R), c7M cs off r K = K (b3T cs off r)
 | [], _, _, _ => rfl
 | d :: r, cs, off, K => by simp only [c7M, a2c, a9b r]; rfl
theorem a6y {k : Nat} {x : D} {v : FX} (h : RepD E g w dead x v) : ∀ {x' : D}, x.low k = some x' -> RepD E g w [] (x'.shift k) v /\ x'.noOwn = true /\ (x.one = true -> x'.one = true) := by
 have hl : ∀ (ds ds' : List D), lows k ds = some ds' -> ds'.length = ds.length /\ ∀ (i : Nat) y, ds'[i]? = some y -> ∃ z, ds[i]? = some z /\ z.low k = some y := by
  intro ds
  induction ds with
  | nil => intro ds' h; simp only [lows, Gy] at h; subst h; exact ⟨rfl, fun i y h => by simp at h⟩
  | cons d ds ih =>
    intro ds' h
    unfold lows at h
    split at h
    . rename_i x hx
      split at h
      . rename_i r hr
        injection h with h; subst h
        obtain ⟨h1, h2⟩ := ih r hr
        refine ⟨by simp [h1], fun i y hy => ?_⟩
        rcases i with _ | i
        . simp at hy; subst hy; exact ⟨d, by simp, hx⟩
        . obtain ⟨z, a, b⟩ := h2 i y (by simpa using hy); exact ⟨z, by simpa using a, b⟩
      . cases h
    . cases h
 have hs : ∀ (ds : List D) (i : Nat) y, (D.shifts k ds)[i]? = some y -> ∃ z, ds[i]? = some z /\ y = z.shift k := by
  intro ds
  induction ds with
  | nil => intro i y h; simp [D.shifts] at h
  | cons d ds ih =>
    intro i y h
    rcases i with _ | i
    . simp [D.shifts] at h; exact ⟨d, by simp, h.symm⟩
    . simp [D.shifts] at h; obtain ⟨z, a, b⟩ := ih i y h; exact ⟨z, by simpa using a, b⟩
 have hn : ∀ ds : List D, (D.shifts k ds).length = ds.length := by
  intro ds; induction ds with | nil => rfl | cons d ds ih => simp [D.shifts, ih]
 have ho : ∀ ds : List D, (∀ (i : Nat) y, ds[i]? = some y -> y.noOwn = true) -> noOwns ds = true := by
  intro ds
  induction ds with
  | nil => intro _; rfl
  | cons d ds ih =>
    intro h
    simp only [noOwns, FT]
    exact ⟨h 0 d (by simp), ih fun i y hy => h (i + 1) y (by simpa using hy)⟩
 induction h with
 | v x a v h ha =>
   intro x' hx
   simp only [D.low, Gy] at hx
   subst hx
   cases a with
   | nil e => exact ⟨.v _ _ _ h ha, rfl, fun h => h⟩
   | no => exact ⟨.v _ _ _ h trivial, rfl, fun h => h⟩
   | own p e => exact ⟨.v _ _ _ h trivial, rfl, fun h => h⟩
 | ptr k' s o h1 h2 =>
   intro x' hx
   simp only [D.low, GF] at hx
   split at hx
   . rename_i hle
     have hle := Gm hle
     injection hx with hx; subst hx
     refine ⟨?_, rfl, fun _ => rfl⟩
     simp only [D.shift]
     rw [show k' - k + k = k' by omega]
     exact .ptr _ _ _ h1 h2
   . cases hx
 | nilp => intro x' hx; simp only [D.low, Gy] at hx; subst hx; exact ⟨.nilp, rfl, fun _ => rfl⟩
 | eptr cs o b off us h hr => intro x' hx; simp only [D.low, Gy] at hx; subst hx; exact ⟨.eptr _ _ _ _ _ h hr, rfl, fun _ => rfl⟩
 | clos f caps us hn' hr ih =>
   intro x' hx
   simp only [D.low, Gl] at hx
   obtain ⟨cs, h1, rfl⟩ := hx
   obtain ⟨h2, h3⟩ := hl _ _ h1
   refine ⟨.clos f _ us (by rw [hn, h2]; exact hn') fun i y hy => ?_, ho _ fun i y hy => ?_, fun _ => rfl⟩
   . obtain ⟨z, a, rfl⟩ := hs _ i y hy
     obtain ⟨q, b, c⟩ := h3 i z a
     exact (ih i q b c).1
   . obtain ⟨q, b, c⟩ := h3 i y hy
     exact (ih i q b c).2.1
 | nilF => intro x' hx; simp only [D.low, Gy] at hx; subst hx; exact ⟨.nilF, rfl, fun _ => rfl⟩
 | fn n fs k' s v h =>
   intro x' hx
   simp only [D.low, GF] at hx
   split at hx
   . rename_i hle
     have hle := Gm hle
     injection hx with hx; subst hx
     refine ⟨?_, rfl, fun _ => rfl⟩
     simp only [D.shift]
     rw [show k' - k + k = k' by omega]
     exact .fn _ _ _ _ _ h
   . cases hx
 | bld => intro x' hx; simp only [D.low, Gy] at hx; subst hx; exact ⟨.bld, rfl, fun _ => rfl⟩
 | agg ds us hn' hr ih =>
   intro x' hx
   simp only [D.low, Gl] at hx
   obtain ⟨cs, h1, rfl⟩ := hx
   obtain ⟨h2, h3⟩ := hl _ _ h1
   refine ⟨.agg _ us (by rw [hn, h2]; exact hn') fun i y hy => ?_, ho _ fun i y hy => ?_, fun h => by simp [D.one] at h⟩
   . obtain ⟨z, a, rfl⟩ := hs _ i y hy
     obtain ⟨q, b, c⟩ := h3 i z a
     exact (ih i q b c).1
   . obtain ⟨q, b, c⟩ := h3 i y hy
     exact (ih i q b c).2.1
 | tup ds us hn' hr ih =>
   intro x' hx
   simp only [D.low, Gl] at hx
   obtain ⟨cs, h1, rfl⟩ := hx
   obtain ⟨h2, h3⟩ := hl _ _ h1
   refine ⟨.tup _ us (by rw [hn, h2]; exact hn') fun i y hy => ?_, ho _ fun i y hy => ?_, fun h => by simp [D.one] at h⟩
   . obtain ⟨z, a, rfl⟩ := hs _ i y hy
     obtain ⟨q, b, c⟩ := h3 i z a
     exact (ih i q b c).1
   . obtain ⟨q, b, c⟩ := h3 i y hy
     exact (ih i q b c).2.1
 | any v => intro x' hx; simp [D.low] at hx
theorem a2k {d : D} (h : d.noOwn = true) : d.flat = true := by cases d <;> first | rfl | exact h
mutual
theorem noOwn_shift (k : Nat) : ∀ d : D, d.noOwn = true -> (d.shift k).noOwn = true
 | .v x a, h => by cases a with
   | own p e => simp [D.noOwn] at h
   | _ => rfl
 | .clos f caps, h => noOwns_shift k caps h
 | .agg ds, h => noOwns_shift k ds h
 | .tup ds, h => noOwns_shift k ds h
 | .ptr _ _ _, _ => rfl
 | .nilp, _ => rfl
 | .eptr _ _, _ => rfl
 | .nilF, _ => rfl
 | .fn _ _ _ _, _ => rfl
 | .bld, _ => rfl
 | .any, _ => rfl
theorem noOwns_shift (k : Nat) : ∀ ds : List D, noOwns ds = true -> noOwns (D.shifts k ds) = true
 | [], _ => rfl
 | d :: ds, h => by
   simp only [noOwns, FT] at h
   simp only [D.shifts, noOwns, FT]
   exact ⟨noOwn_shift k d h.1, noOwns_shift k ds h.2⟩
end
theorem M6 : ∀ (ds : List D), noOwns ds = true -> ∀ (i : Nat) y, ds[i]? = some y -> y.noOwn = true
 | [], _, i, y, hy => by simp at hy
 | d :: ds, h, 0, y, hy => by simp only [noOwns, FT] at h; simp at hy; subst hy; exact h.1
 | d :: ds, h, i + 1, y, hy => by simp only [noOwns, FT] at h; exact M6 ds h.2 i y (by simpa using hy)
theorem a5H {x : D} {u : FX} (hx : RepD E g w dead x u) : x.noOwn = true -> RepD E g w [] x u := by
 induction hx with
 | v x a v h ha =>
   intro hn
   cases a with
   | own p e => simp [D.noOwn] at hn
   | no => exact .v _ _ _ h trivial
   | nil e => exact .v _ _ _ h ha
 | ptr k s o h1 h2 => intro _; exact .ptr k s o h1 h2
 | nilp => intro _; exact .nilp
 | eptr cs o b off us h hr => intro _; exact .eptr cs o b off us h hr
 | clos f caps us hn' hr ih => intro hn; exact .clos f caps us hn' fun i y hy => ih i y hy (M6 _ hn i y hy)
 | nilF => intro _; exact .nilF
 | fn n fs k s v h => intro _; exact .fn n fs k s v h
 | bld => intro _; exact .bld
 | agg ds us hn' hr ih => intro hn; exact .agg ds us hn' fun i y hy => ih i y hy (M6 _ hn i y hy)
 | tup ds us hn' hr ih => intro hn; exact .tup ds us hn' fun i y hy => ih i y hy (M6 _ hn i y hy)
 | any v => intro _; exact .any v
theorem a1k {k s i : Nat} {c : D} {u : FX} (hf : c.flat = true) (h : RepD E g w dead (G6 k s i c) u) (hn : Pos.cell k s i ∉ dead) : RepD E g w [] (G6 k s i c) u := by
 cases c with
 | v x a =>
   cases a with
   | own p e =>
     cases h with
     | v x a v h ha =>
       refine .v _ _ _ h ?_
       rcases ha with ha | ha
       . exact absurd ha hn
       . exact .inr ha
   | no => exact a5H h rfl
   | nil e => exact a5H h rfl
 | bld => exact .any _
 | _ => exact a5H h (noOwn_shift k _ hf)
theorem relabel {e : FP} {v : FX} {q : Nat} {p' : APos} (ho : D1 g w (.slot E.d q) e v) :
 ∃ g1, (∀ dd, Keeps E g w dd E g1 w (.slot q :: dd)) /\ (∀ d, Tr d g w g1 w) /\ (∀ m, MemRep E g w m -> MemRep E g1 w m) /\ D1 g1 w p' e v /\ g1.J = g.J /\ g1.sz = g.sz /\
  (∀ b, (∀ n, g.Γ b ≠ .own (.slot E.d q) n) -> g1.Γ b = g.Γ b) /\ (∀ (r : APos) e' v', r ≠ .slot E.d q -> D1 g w r e' v' -> D1 g1 w r e' v') := by
 rcases ho with rfl | ⟨b, n, cap, cur, rfl, h2, h3, h4⟩
 . exact ⟨g, fun dd => ⟨Later.refl g w, rfl, fun _ _ h => h, fun _ _ _ _ => rfl, fun _ h => GQ _ h, fun _ _ _ _ _ h => h⟩, fun d => Tr.refl d g w, fun _ h => h, .inl rfl, rfl, rfl, fun _ _ => rfl, fun _ _ _ _ h => h⟩
 . have hst : Later g w (g.at_ b (.own p' (n * g.sz e))) w := ⟨rfl, fun x o v hs hc => ⟨by
    by_cases hx : x = b
    . subst hx
      unfold s5 at hs ⊢
      rw [h2] at hs
      rw [G.at_eq]; exact hs
    . exact (a1a hx).2 hs, hc⟩, fun x o k1 k2 => ⟨by rw [G.at_ne _ _ _ (fun e0 => by subst e0; rw [h2] at k1; cases k1)]; exact k1, k2⟩⟩
   have hown : ∀ (r : APos) e' v', r ≠ .slot E.d q -> D1 g w r e' v' -> D1 (g.at_ b (.own p' (n * g.sz e))) w r e' v' := by
    intro r e' v' hne ho
    rcases ho with h0 | ⟨x, n', cap', cur', k1, k2, k3, k4⟩
    . exact .inl h0
    . have hx : x ≠ b := fun e0 => by subst e0; rw [h2] at k2; injection k2 with k2 _; exact hne k2.symm
      exact .inr ⟨x, n', cap', cur', k1, by rw [G.at_ne _ _ _ hx]; exact k2, k3, k4⟩
   have a6Z : ∀ dd : List Pos, Keeps E g w dd E (g.at_ b (.own p' (n * g.sz e))) w (.slot q :: dd) := fun dd =>
    ⟨hst, rfl, fun _ _ h => h, fun _ _ _ _ => rfl, fun _ h => GQ _ h, fun p e' v' hp hn ho => hown _ _ _ (fun e0 => by
     cases p with
     | slot s =>
       simp only [a9t, APos.slot.injEq, true_and] at e0
       exact hn (by rw [e0]; simp)
     | cell k s i => simp [a9t] at e0) ho⟩
   refine ⟨g.at_ b (.own p' (n * g.sz e)), a6Z, fun d => ⟨rfl, rfl, rfl, FW _, hst, fun x hx hi => ⟨G.at_ne _ _ _ (fun e0 => by subst e0; rw [h2] at hi; rcases hi with hi | ⟨_, hi⟩ <;> cases hi), rfl⟩, fun _ _ _ => rfl⟩, fun m hm k s bx hb => ?_,
    .inr ⟨b, n, cap, cur, rfl, G.at_eq _ _ _, h3, h4⟩, rfl, rfl, fun x hx => G.at_ne _ _ _ (fun e0 => by subst e0; exact hx _ h2), hown⟩
   have hr := hm k s bx hb
   obtain ⟨us, a1, a2, a3⟩ := hr.heap
   refine ⟨hr.le, ?_, us, a1, a2, fun i c hc => ⟨(a3 i c hc).1, (a3 i c hc).2.1, (a3 i c hc).2.2.1, ?_⟩⟩
   . show (g.at_ b _).Γ (g.J (E.d - k) s) = _
     rw [G.at_ne _ _ _ (fun e0 => by have := hr.perm; rw [e0, h2] at this; cases this)]; exact hr.perm
   . have h9 := (a3 i c hc).2.2.2
     have hf := (a3 i c hc).2.1
     have h10 := h9.keep (a6Z [])
     exact a1k hf h10 (by simp)
theorem c6z (q : Pos) : Keeps E g w dead E g w (q :: dead) :=
 ⟨Later.refl g w, rfl, fun _ _ h => h, fun _ _ _ _ => rfl, fun _ h => GQ _ h, fun _ _ _ _ _ h => h⟩
structure CellsOut (E : Env) (g : G) (w : Gc) (m : Mem) (dead : List Pos) (k s i : Nat) (us : List FX) (cs : List D) (dead' : List Pos) (g1 : G) : Prop where
 keeps : Keeps E g w dead E g1 w dead'
 soft : ∃ dd, (∀ p ∈ dd, ∃ q, p = .slot q) /\ Keeps E g w [] E g1 w dd
 tr : ∀ d, Tr d g w g1 w
 mem : MemRep E g1 w m
 J : g1.J = g.J
 sz : g1.sz = g.sz
 box : ∀ b d' s', g.Γ b = .box d' s' -> g1.Γ b = .box d' s'
 len : cs.length = us.length
 rep : ∀ (j : Nat) c, cs[j]? = some c -> c.one = true /\ c.flat = true /\ (c = .bld -> us.getD j undef = .pointer none) /\ RepD E g1 w [] (G6 k s (i + j) c) (us.getD j undef)
theorem a0O {m : Mem} (k s : Nat) (hk : k <= E.d) : ∀ (ds : List D) (us : List FX) (i : Nat) (g : G) (dead : List Pos) (K : List D -> List Pos -> Option R) (r : R),
 us.length = ds.length -> (∀ (j : Nat) y, ds[j]? = some y -> RepD E g w dead y (us.getD j undef)) -> MemRep E g w m -> N9 k ds dead K = some r ->
 ∃ cs dead' g1, K cs dead' = some r /\ CellsOut E g w m dead k s i us cs dead' g1
 | [], us, i, g, dead, K, r, hl, hr, hm, h => by
   refine ⟨[], dead, g, h, Keeps.refl _ _ _ _, ⟨[], by simp, Keeps.refl _ _ _ _⟩, fun d => Tr.refl _ _ _, hm, rfl, rfl, fun _ _ _ h => h, by simpa using hl.symm, fun j c hc => by simp at hc⟩
 | d :: ds, us, i, g, dead, K, r, hl, hr, hm, h => by
   cases us with
   | nil => simp at hl
   | cons u us =>
   have hd : RepD E g w dead d u := by simpa using hr 0 d (by simp)
   unfold N9 at h
   rcases j8 h with ⟨T9, h⟩ | ⟨_, h⟩
   case inr => cases h
   -- what remains after the first cell
   have rest : ∀ (c : D) (dead1 : List Pos) (g1 : G), Keeps E g w dead E g1 w dead1 -> (∃ dd, (∀ p ∈ dd, ∃ q, p = .slot q) /\ Keeps E g w [] E g1 w dd) -> (∀ d, Tr d g w g1 w) -> MemRep E g1 w m -> g1.J = g.J -> g1.sz = g.sz ->
    (∀ b d' s', g.Γ b = .box d' s' -> g1.Γ b = .box d' s') -> c.one = true -> c.flat = true -> (c = .bld -> u = .pointer none) -> RepD E g1 w [] (G6 k s i c) u ->
    N9 k ds dead1 (fun cs dead' => K (c :: cs) dead') = some r -> ∃ cs dead' g1, K cs dead' = some r /\ CellsOut E g w m dead k s i (u :: us) cs dead' g1 := by
    intro c dead1 g1 hk1 ⟨dd, hdd, hks⟩ ht1 hm1 hJ1 hz1 hb1 h1 h2 h3 h4 h5
    obtain ⟨cs, dead', g2, h6, ho⟩ := a0O k s hk ds us (i + 1) g1 dead1 _ r (by simpa using hl) (fun j y hy => by
     have := hr (j + 1) y (by simpa using hy)
     exact (by simpa using this : RepD E g w dead y (us.getD j undef)).keep hk1) hm1 h5
    obtain ⟨dd2, e5K, hks2⟩ := ho.soft
    refine ⟨c :: cs, dead', g2, h6, hk1.trans ho.keeps, ?_, fun d => (ht1 d).trans (ho.tr d), ho.mem, ho.J.trans hJ1, ho.sz.trans hz1, fun b d' s' hb => ho.box b d' s' (hb1 b d' s' hb), by simp [ho.len], fun j c' hc => ?_⟩
    . refine ⟨dd ++ dd2, fun p hp => ?_, ?_⟩
      . rcases Hc.1 hp with hp | hp
        . exact hdd p hp
        . exact e5K p hp
      . refine ⟨hks.later.trans ho.keeps.later, rfl, fun _ _ h => h, fun a b c d => by rw [ho.J, hJ1], fun _ h => by simp at h, fun p e v hp hn ho1 => ?_⟩
        have hn1 : p ∉ dd := fun hh => hn (Hc.2 (.inl hh))
        have hn2 : p ∉ dd2 := fun hh => hn (Hc.2 (.inr hh))
        exact hks2.own p e v hp hn2 (hks.own p e v hp hn1 ho1)
    . rcases j with _ | j
      . simp at hc; subst hc
        refine ⟨h1, h2, by simpa using h3, ?_⟩
        have := h4.keep hks2
        exact a1k h2 (by simpa using this) (fun hh => by obtain ⟨q, hq⟩ := e5K _ hh; cases hq)
      . obtain ⟨a1, a2, a3, a4⟩ := ho.rep j c' (by simpa using hc)
        refine ⟨a1, a2, by simpa using a3, ?_⟩
        have : i + 1 + j = i + (j + 1) := by omega
        rw [this] at a4
        simpa using a4
   have plainRest : ∀ (c : D) (dead1 : List Pos), Keeps E g w dead E g w dead1 -> c.one = true -> c.flat = true -> (c = .bld -> u = .pointer none) -> RepD E g w [] (G6 k s i c) u ->
    N9 k ds dead1 (fun cs dead' => K (c :: cs) dead') = some r -> ∃ cs dead' g1, K cs dead' = some r /\ CellsOut E g w m dead k s i (u :: us) cs dead' g1 := fun c dead1 h0 h1 h2 h3 h4 h5 =>
    rest c dead1 g h0 ⟨[], by simp, Keeps.refl _ _ _ _⟩ (fun d => Tr.refl _ _ _) hm rfl rfl (fun _ _ _ h => h) h1 h2 h3 h4 h5
   cases d with
   | v x a =>
     simp only [U6] at h
     have hx1 : ∀ a' : Att, (D.v x a').one = true := fun a' => T9
     cases hd with
     | v x a v hv ha =>
       cases a with
       | no => exact plainRest (.v x .no) _ (Keeps.refl _ _ _ _) (hx1 _) rfl (fun h => by cases h) (.v _ _ _ hv trivial) h
       | nil e => exact plainRest (.v x (.own (.slot 0) e)) _ (Keeps.refl _ _ _ _) (hx1 _) rfl (fun h => by cases h) (.v _ _ _ hv (.inr ⟨hk, .inl ha⟩)) h
       | own p e =>
         cases p with
         | cell k' s' i' => exact plainRest (.v x .no) _ (Keeps.refl _ _ _ _) (hx1 _) rfl (fun h => by cases h) (.v _ _ _ hv trivial) h
         | slot q =>
           simp only [d2k, b4c] at h
           cases hp : O0 (.slot q) dead with
           | true =>
             rw [hp] at h
             exact plainRest (.v x .no) _ (c6z _) (hx1 _) rfl (fun h => by cases h) (.v _ _ _ hv trivial) h
           | false =>
             rw [hp] at h
             have hq : Pos.slot q ∉ dead := fun hh => by rw [(a1r _ _).2 hh] at hp; cases hp
             rcases ha with ha | ⟨_, ha⟩
             . exact absurd ha hq
             . obtain ⟨g1, k1, k2, k3, k4, k5, k6, k7, k8⟩ := relabel (p' := .cell (E.d - k) s i) ha
               refine rest (.v x (.own (.slot 0) e)) _ g1 (k1 dead) ⟨[.slot q], by simp, k1 []⟩ k2 (k3 m hm) k5 k6 (fun b d' s' hb => ?_) (hx1 _) rfl (fun h => by cases h) (.v _ _ _ (hv.later (k1 []).later) (.inr ⟨hk, k4⟩)) h
               rw [k7 b (fun n hn => by rw [hb] at hn; cases hn)]; exact hb
   | bld =>
     simp only [D.low, forceD_eq] at h
     cases hd
     exact plainRest .bld _ (Keeps.refl _ _ _ _) rfl rfl (fun _ => rfl) (.any _) h
   | any => simp [D.one] at T9
   | agg ds' => simp [D.one] at T9
   | tup ds' => simp [D.one] at T9
   | ptr k' s' o =>
     simp only at h
     split at h
     . rename_i d' hd'
       simp only [forceD_eq] at h
       obtain ⟨b1, b2, b3⟩ := a6y hd hd'
       have hne : ∃ a b c, d' = .ptr a b c := by
        simp only [D.low, GF] at hd'
        split at hd'
        . injection hd' with hd'; exact ⟨_, _, _, hd'.symm⟩
        . cases hd'
       obtain ⟨a, b, c, rfl⟩ := hne
       exact plainRest (.ptr a b c) _ (Keeps.refl _ _ _ _) (b3 rfl) (a2k b2) (fun h => by cases h) b1 h
     . cases h
   | nilp =>
     simp only [D.low, forceD_eq] at h
     exact plainRest .nilp _ (Keeps.refl _ _ _ _) rfl rfl (fun h => by cases h) (a6y (k := k) hd rfl).1 h
   | nilF =>
     simp only [D.low, forceD_eq] at h
     exact plainRest .nilF _ (Keeps.refl _ _ _ _) rfl rfl (fun h => by cases h) (a6y (k := k) hd rfl).1 h
   | eptr cs o =>
     simp only [D.low, forceD_eq] at h
     exact plainRest (.eptr cs o) _ (Keeps.refl _ _ _ _) rfl rfl (fun h => by cases h) (a6y (k := k) hd rfl).1 h
   | fn n fs k' s' =>
     simp only at h
     split at h
     . rename_i d' hd'
       simp only [forceD_eq] at h
       obtain ⟨b1, b2, b3⟩ := a6y hd hd'
       have hne : ∃ a b c e, d' = .fn a b c e := by
        simp only [D.low, GF] at hd'
        split at hd'
        . injection hd' with hd'; exact ⟨_, _, _, _, hd'.symm⟩
        . cases hd'
       obtain ⟨a, b, c, e, rfl⟩ := hne
       exact plainRest (.fn a b c e) _ (Keeps.refl _ _ _ _) (b3 rfl) (a2k b2) (fun h => by cases h) b1 h
     . cases h
   | clos f caps =>
     simp only at h
     split at h
     . rename_i d' hd'
       simp only [forceD_eq] at h
       obtain ⟨b1, b2, b3⟩ := a6y hd hd'
       have hne : ∃ a b, d' = .clos a b := by
        simp only [D.low, Gl] at hd'
        obtain ⟨z, _, hz⟩ := hd'
        exact ⟨_, _, hz.symm⟩
       obtain ⟨a, b, rfl⟩ := hne
       exact plainRest (.clos a b) _ (Keeps.refl _ _ _ _) rfl (a2k b2) (fun h => by cases h) b1 h
     . cases h
end
end En
namespace En
open Go
section
variable {R : Type} {P : Gu} {T : FP -> Option Ty} {E : Env} {g : G} {w w' : Gc} {dead : List Pos}
theorem Here.keeps_dom {m : Mem} (hh : Here T E g w m) {k s : Nat} (h : E.dom k s) : ∃ b, m.box? k s = some b := by rw [hh.dom] at h; exact h
theorem a4d {fr : Fr} {out : Mem} (hh : Here T E g w (fr :: out)) (s : Nat) (hs : G2 s fr = none) (t : FP) (us : Array FX) {cs : List D} {dead' : List Pos} {g1 : G}
 (ho : CellsOut E g w (fr :: out) dead 0 s 0 us.toList cs dead' g1) :
 ∃ g' E', Keeps E g w dead E' g' (w.alloc (.cells us t)) dead' /\ Here T E' g' (w.alloc (.cells us t)) (Mem.setBox (fr :: out) 0 s ⟨t, cs⟩) /\
  RepD E' g' (w.alloc (.cells us t)) dead' (.ptr 0 s 0) (.pointer (some ⟨w.heap.size, 0, none⟩)) /\ Tr E.d g w g' (w.alloc (.cells us t)) /\ E'.d = E.d := by
 have hgr : Grows w (w.alloc (.cells us t)) := Grows.alloc w _
 have b5U : (w.alloc (.cells us t)).heap[w.heap.size]? = some (.cells us t (0, 0)) := Hf w _
 -- the ghost behind it
 let g' : G := { Γ := fun x => if x = w.heap.size then .box E.d s else g1.Γ x, J := fun d s' => if d = E.d /\ s' = s then w.heap.size else g1.J d s', sz := g1.sz }
 let E' : Env := { d := E.d, dom := F4 (Mem.setBox (fr :: out) 0 s ⟨t, cs⟩) }
 have hΓne : ∀ x, x ≠ w.heap.size -> g'.Γ x = g1.Γ x := fun x hx => if_neg hx
 have hΓeq : g'.Γ w.heap.size = .box E.d s := if_pos rfl
 have hJeq : g'.J E.d s = w.heap.size := if_pos ⟨rfl, rfl⟩
 have hJne : ∀ d s', ¬ (d = E.d /\ s' = s) -> g'.J d s' = g1.J d s' := fun d s' h => if_neg h
 have hlat : Later g1 w g' (w.alloc (.cells us t)) := ⟨rfl, fun x o v h1 h2 => by
  have hx := a8T h2
  refine ⟨?_, by rw [cell_of_heap (hgr.old x hx)]; exact h2⟩
  unfold s5 at h1 ⊢
  rw [hΓne x (by omega)]; exact h1, fun x o h1 h2 => by
  have hx := G7 h2
  exact ⟨by rw [hΓne x (by omega)]; exact h1, by rw [hgr.old x hx]; exact h2⟩⟩
 have hown : ∀ (p : APos) e v, D1 g1 w p e v -> D1 g' (w.alloc (.cells us t)) p e v := by
  intro p e v h
  rcases h with h0 | ⟨x, n, cap, cur, h1, h2, h3, h4⟩
  . exact .inl h0
  . have hx := G7 h3
    exact .inr ⟨x, n, cap, cur, h1, by rw [hΓne x (by omega)]; exact h2, by rw [hgr.old x hx]; exact h3, h4⟩
 have a1M : ∀ k s', E.dom k s' -> ¬ (k = 0 /\ s' = s) := by
  rintro k s' hd ⟨rfl, rfl⟩
  obtain ⟨b, hb⟩ := hh.keeps_dom hd
  simp [Mem.box?, hs] at hb
 have hdom' : ∀ k s', E.dom k s' -> E'.dom k s' := by
  intro k s' hd
  obtain ⟨b, hb⟩ := hh.keeps_dom hd
  refine ⟨b, ?_⟩
  rw [I8, if_neg (fun h => a1M k s' hd ⟨h.1, h.2.1⟩)]
  exact hb
 have hle : ∀ k s', E.dom k s' -> k <= E.d := by
  intro k s' hd
  obtain ⟨b, hb⟩ := hh.keeps_dom hd
  have := a2h _ _ _ _ hb
  rw [hh.len] at this; omega
 have hk2 : ∀ dd, Keeps E g1 w dd E' g' (w.alloc (.cells us t)) dd := fun dd =>
  ⟨hlat, rfl, hdom', fun k s' hk hd => hJne _ _ (fun h => a1M k s' hd ⟨by omega, h.2⟩), fun _ h => h, fun p e v _ _ h => hown _ e v h⟩
 refine ⟨g', E', ho.keeps.trans (hk2 dead'), ?_, ?_, ?_, rfl⟩
 . refine ⟨?_, rfl, hh.sk.later (ho.keeps.trans (hk2 dead')).later, by rw [K7]; exact hh.len⟩
   intro k s' b hb
   rw [I8] at hb
   split at hb
   . rename_i hc
     obtain ⟨rfl, rfl, _⟩ := hc
     injection hb with hb; subst hb
     refine ⟨Hq _, by show g'.Γ (g'.J (E.d - 0) s') = _; rw [JP, hJeq, hΓeq], us, by show (w.alloc (.cells us t)).heap[g'.J (E.d - 0) s']? = _; rw [JP, hJeq]; exact b5U, by simpa using ho.len.symm, fun i c hc => ?_⟩
     obtain ⟨a1, a2, a3, a4⟩ := ho.rep i c hc
     refine ⟨a1, a2, fun h => .inl (by have := a3 h; simpa using this), ?_⟩
     have := a4.keep (hk2 [])
     simpa using this
   . rename_i hc
     have hr := ho.mem k s' b hb
     obtain ⟨vs, b1, b2, b3⟩ := hr.heap
     have hx := G7 b1
     have hJ : g'.J (E.d - k) s' = g1.J (E.d - k) s' := by
      refine hJne _ _ (fun h => ?_)
      have h9 := hr.le
      have : k = 0 := by
       rcases GJ k with h8 | h8
       . exact h8
       . have hl := a2h _ _ _ _ hb
         rw [hh.len] at hl
         omega
      exact hc ⟨this, h.2, by simp⟩
     refine ⟨hr.le, ?_, vs, ?_, b2, fun i c hc' => ⟨(b3 i c hc').1, (b3 i c hc').2.1, ?_, (b3 i c hc').2.2.2.keep (hk2 [])⟩⟩
     . show g'.Γ (g'.J (E.d - k) s') = _
       rw [hJ, hΓne _ (by omega)]; exact hr.perm
     . show (w.alloc (.cells us t)).heap[g'.J (E.d - k) s']? = _
       rw [hJ, hgr.old _ hx]; exact b1
     . show c = .bld -> c2s (g'.J (E.d - k) s') _
       rw [hJ]; exact (b3 i c hc').2.2.1
 . have := RepD.ptr (E := E') (g := g') (w := w.alloc (.cells us t)) (dead := dead') 0 s 0 (Hq _) ⟨⟨t, cs⟩, by rw [I8, if_pos ⟨rfl, rfl, by simp⟩]⟩
   rw [show g'.J (E'.d - 0) s = w.heap.size from by rw [JP]; exact hJeq] at this
   exact this
 . refine (ho.tr E.d).trans ⟨rfl, rfl, rfl, hgr.size, hlat, fun x hx hi => ⟨hΓne x (by omega), hgr.old x hx⟩, fun d s' hd => hJne _ _ (fun h => by omega)⟩
theorem a6F {B : Nat} {cur : Array FX} {t : FP} {cs : Array FX} (hB : w.heap[B]? = some (.cells cur t (0, 0))) (p : Perm) (hni : g.Γ B ≠ .imm) (hst : ∀ o, s5 g B o -> s5 (g.at_ B p) B o /\ cs[o]? = cur[o]?) :
 Later g w (g.at_ B p) (w.setRow B cs) :=
 ⟨rfl, fun x o v h1 h2 => by
  by_cases hx : x = B
  . subst hx
    obtain ⟨a1, a2⟩ := hst o h1
    refine ⟨a1, ?_⟩
    rw [GA w x o _ _ _ hB] at h2
    rw [GA _ x o _ _ _ (Kh w x _ cs _ _ hB), a2]
    exact h2
  . exact ⟨(a1a hx).2 h1, by rw [cell_of_heap (Ix w B x cs hx)]; exact h2⟩, fun x o h1 h2 => by
  have hx : x ≠ B := fun e => by subst e; exact hni h1
  exact ⟨by rw [G.at_ne _ _ _ hx]; exact h1, by rw [Ix w B x cs hx]; exact h2⟩⟩
theorem Ki (w : Gc) (B : Nat) (cs : Array FX) : (w.setRow B cs).heap.size = w.heap.size := by simp [World.setRow]
theorem b1U {B : Nat} {cs : Array FX} (p : Perm) {q : APos} {e : FP} {v : FX} (hq : ∀ n, g.Γ B ≠ .own q n) (h : D1 g w q e v) : D1 (g.at_ B p) (w.setRow B cs) q e v := by
 rcases h with h0 | ⟨x, n, cap, cur, h1, h2, h3, h4⟩
 . exact .inl h0
 . have hx : x ≠ B := fun e0 => by subst e0; exact hq _ h2
   exact .inr ⟨x, n, cap, cur, h1, by rw [G.at_ne _ _ _ hx]; exact h2, by rw [Ix w B x cs hx]; exact h3, h4⟩
theorem b1Q {B : Nat} {p : Perm} (h : g.Γ B = p) : g.at_ B p = g := by
 unfold G.at_
 congr 1
 funext x
 by_cases hx : x = B
 . subst hx; simp [h]
 . simp [hx]
theorem c1V {m : Mem} (hh : Here T E g w m) {k s o : Nat} {b : Bx} (hb : m.box? k s = some b) (us : List FX) {cs : List D} {dead' : List Pos} {g1 : G}
 (ho : CellsOut E g w m dead k s o us cs dead' g1) (c6N : o + us.length <= b.cells.length) (h1 : ∀ u ∈ us, u.oneCell' = true) :
 ∃ w' g' E', (storeCells ⟨g.J (E.d - k) s, o, none⟩ us).run P w = .ok () w' /\ Keeps E g w dead E' g' w' dead' /\ Here T E' g' w' (m.setBox k s ⟨b.ty, b3T b.cells o cs⟩) /\ Tr E.d g w g' w' /\ E'.d = E.d := by
 have hr := ho.mem k s b hb
 obtain ⟨vs, b1, b2, b3⟩ := hr.heap
 rw [ho.J] at b1 b3
 have X4 := hr.perm
 rw [ho.J] at X4
 have L7 := run_storeCells_at (P := P) (g.J (E.d - k) s) o b.ty us 0 vs w b1 (by rw [b2]; exact c6N) h1
 simp only [Nat.add_zero] at L7
 generalize hB : g.J (E.d - k) s = B at *
 generalize hcs : (vs.toList.take o ++ us ++ vs.toList.drop (o + us.length)).toArray = cs' at *
 have hlat : Later g1 w g1 (w.setRow B cs') := by
  have := a6F (g := g1) (cs := cs') b1 (.box (E.d - k) s) (fun e => by rw [X4] at e; cases e) (fun o hs => by unfold s5 at hs; rw [X4] at hs; exact hs.elim)
  rwa [b1Q X4] at this
 have hown : ∀ (p : APos) e v, D1 g1 w p e v -> D1 g1 (w.setRow B cs') p e v := fun p e v h => by
  have := b1U (cs := cs') (.box (E.d - k) s) (fun n hn => by rw [X4] at hn; cases hn) h
  rwa [b1Q X4] at this
 let E' : Env := { d := E.d, dom := F4 (m.setBox k s ⟨b.ty, b3T b.cells o cs⟩) }
 have e7b := a2h _ _ _ _ hb
 have hdom' : ∀ k' s', E.dom k' s' -> E'.dom k' s' := by
  intro k' s' hd
  obtain ⟨b', hb'⟩ := hh.keeps_dom hd
  by_cases hc : k' = k /\ s' = s /\ k < m.length
  . exact ⟨_, by rw [I8, if_pos hc]⟩
  . exact ⟨b', by rw [I8, if_neg hc]; exact hb'⟩
 have hk2 : ∀ dd, Keeps E g1 w dd E' g1 (w.setRow B cs') dd := fun dd =>
  ⟨hlat, rfl, hdom', fun _ _ _ _ => rfl, fun _ h => h, fun p e v _ _ h => hown _ e v h⟩
 refine ⟨_, g1, E', L7, ho.keeps.trans (hk2 dead'), ?_, ?_, rfl⟩
 . refine ⟨?_, rfl, hh.sk.later (ho.keeps.trans (hk2 dead')).later, by rw [K7]; exact hh.len⟩
   intro k' s' b' hb'
   rw [I8] at hb'
   split at hb'
   . rename_i hc
     obtain ⟨rfl, rfl, _⟩ := hc
     injection hb' with hb'; subst hb'
     refine ⟨hr.le, by show g1.Γ (g1.J (E.d - k') s') = _; rw [ho.J, hB]; exact X4, cs', ?_, ?_, fun i c hc => ?_⟩
     . show (w.setRow B cs').heap[g1.J (E.d - k') s']? = _
       rw [ho.J, hB]; exact Kh w B _ cs' _ _ b1
     . rw [a2d, ← hcs, ← b2]
       simp only [HS, FU, GU, GZ, Hl]
       omega
     . have e0H := ho.len
       rw [b3i] at hc
       have Q7 : ∀ i, cs'.getD i undef = if o <= i /\ i < o + us.length then us.getD (i - o) undef else vs.getD i undef := by
        intro i
        rw [← hcs]
        simp only [Ge, Hk]
        have hvl : vs.toList.length = b.cells.length := by simpa using b2
        by_cases h : o <= i /\ i < o + us.length
        . rw [if_pos h, Gr, Gk (by simp; omega), Gh (by simp; omega)]
          have : i - (vs.toList.take o).length = i - o := by simp; omega
          rw [this, FV]
        . rw [if_neg h]
          rcases Hi i o with h' | h'
          . rw [Gr, Gh (by simp; omega), He, if_pos h']; simp
          . rw [Gr, Gk (by simp; omega), Gk (by simp; omega), Hy]
            have : o + us.length + (i - (vs.toList.take o).length - us.length) = i := by simp; omega
            rw [this]; simp
       rw [Q7]
       by_cases h : o <= i /\ i < o + cs.length /\ i < b.cells.length
       . rw [if_pos h] at hc
         rw [if_pos ⟨h.1, by omega⟩]
         obtain ⟨a1, a2, a3, a4⟩ := ho.rep _ c hc
         refine ⟨a1, a2, fun hh => .inl (a3 hh), ?_⟩
         have := a4.keep (hk2 [])
         rwa [show o + (i - o) = i by omega] at this
       . rw [if_neg h] at hc
         have hi := (FN.1 hc).1
         rw [if_neg (by omega)]
         obtain ⟨a1, a2, a3, a4⟩ := b3 i c hc
         refine ⟨a1, a2, ?_, a4.keep (hk2 [])⟩
         show c = .bld -> c2s (g1.J (E.d - k') s') _
         rw [ho.J, hB]; exact a3
   . rename_i hc
     have hr' := ho.mem k' s' b' hb'
     obtain ⟨vs', c1, c2, c3⟩ := hr'.heap
     refine ⟨hr'.le, hr'.perm, vs', ?_, c2, fun i c hci => ⟨(c3 i c hci).1, (c3 i c hci).2.1, (c3 i c hci).2.2.1, (c3 i c hci).2.2.2.keep (hk2 [])⟩⟩
     show (w.setRow B cs').heap[g1.J (E.d - k') s']? = _
     have hne : g1.J (E.d - k') s' ≠ B := by
      intro e0
      have h7 := hr'.perm
      rw [e0, X4] at h7
      injection h7 with h7 h8
      have := hr.le
      have := hr'.le
      exact hc ⟨by omega, h8.symm, e7b⟩
     rw [Ix w B _ cs' hne]; exact c1
 . refine (ho.tr E.d).trans ⟨rfl, rfl, rfl, by rw [Ki]; exact FW _, hlat, fun x hx hi => ⟨rfl, Ix w B x cs' (fun e0 => by subst e0; rw [X4] at hi; rcases hi with hi | ⟨_, hi⟩ <;> cases hi)⟩, fun _ _ _ => rfl⟩
end
end En
namespace En
open Go
section
variable {R : Type} {P : Gu} {T : FP -> Option Ty} {E : Env} {g : G} {w w' : Gc} {dead : List Pos}
def a1Z (g : G) (w : Gc) (A : Option Addr) (N : Nat) (us : Nat -> FX) : Prop :=
 ∀ k, k < N -> ∃ b off, A = some ⟨b, off, none⟩ /\ s5 g b (off + k) /\ w.cell? ⟨b, off + k, none⟩ = some (us k)
structure RowOut (g : G) (w : Gc) (g' : G) (w' : Gc) (q : APos) (free : Bool) : Prop where
 os : w'.os = w.os
 tape : w'.tape = w.tape
 output : w'.output = w.output
 size : w.heap.size <= w'.heap.size
 later : Later g w g' w'
 hid : ∀ b, b < w.heap.size -> (∀ n, g.Γ b ≠ .own q n) -> g'.Γ b = g.Γ b /\ w'.heap[b]? = w.heap[b]?
 own : ∀ r e v, (r ≠ q ∨ free = true) -> D1 g w r e v -> D1 g' w' r e v
 J : g'.J = g.J
theorem RowOut.tr {q : APos} {free : Bool} {g' : G} (h : RowOut g w g' w' q free) (d : Nat) : Tr d g w g' w' :=
 ⟨h.os, h.tape, h.output, h.size, h.later, fun b hb hi => h.hid b hb (fun n hn => by rw [hn] at hi; rcases hi with hi | ⟨_, hi⟩ <;> cases hi), fun _ _ _ => by rw [h.J]⟩
theorem RowOut.keeps {q : APos} {free : Bool} {g' : G} (h : RowOut g w g' w' q free) {dead' : List Pos} (hd : ∀ p ∈ dead, p ∈ dead') (hq : ∀ p, b3x E.d p -> p ∉ dead' -> a9t E.d p ≠ q ∨ free = true) : Keeps E g w dead E g' w' dead' :=
 ⟨h.later, rfl, fun _ _ h => h, fun _ _ _ _ => by rw [h.J], hd, fun p e v hp hn ho => h.own _ e v (hq p hp hn) ho⟩
theorem RowOut.of_grow (h : Grows w w') (p : Perm) (q : APos) : RowOut g w (g.at_ w.heap.size p) w' q true :=
 ⟨h.os, h.tape, h.output, h.size, a3S h (FW _) p, fun b hb _ => ⟨G.at_ne _ _ _ (by omega), h.old b hb⟩, fun r e v _ ho => c2D h (FW _) p ho, rfl⟩
theorem RowOut.mono {q : APos} {free : Bool} {g' : G} (h : RowOut g w g' w' q true) : RowOut g w g' w' q free :=
 ⟨h.os, h.tape, h.output, h.size, h.later, h.hid, fun r e v _ ho => h.own r e v (.inr rfl) ho, h.J⟩
theorem RowOut.refl (g : G) (w : Gc) (q : APos) (free : Bool) : RowOut g w g w q free :=
 ⟨rfl, rfl, rfl, FW _, Later.refl _ _, fun _ _ _ => ⟨rfl, rfl⟩, fun _ _ _ _ h => h, rfl⟩
def news (M : Nat) (us : Nat -> FX) : List FX := (OD M).map us
theorem a2W (M : Nat) (us : Nat -> FX) (j : Nat) (u : FX) (h : (news M us)[j]? = some u) : j < M /\ u = us j := by
 unfold news at h
 rw [Gn, Gl] at h
 obtain ⟨z, hz, rfl⟩ := h
 obtain ⟨h1, h2⟩ := FN.1 hz
 simp at h1 h2
 subst h2
 exact ⟨h1, rfl⟩
theorem a0K (M : Nat) (us : Nat -> FX) {j : Nat} (h : j < M) : (news M us)[j]? = some (us j) := by simp [news, h]
theorem z7 (M : Nat) (us : Nat -> FX) : (news M us).length = M := by simp [news]
theorem a8Q (w : Gc) (t t2 ty e e2 : FP) (h1 : P.underlying t = some (.slice e)) (h2 : P.underlying t2 = some (.slice e2)) {i : La} (hi : P.info? e = some i) (A : Option Addr) (n c : Nat) (b : FX) :
 (GM #[t, t2] ty #[.slice A n c, b]).run P w = (GM #[t, t] ty #[.slice A n c, b]).run P w := by
 simp [GM, Gp h1, Gp h2, sizeOf, typeInfo, hi]
theorem b1g (t e : FP) (ty : FP) (i : La) (z : FX) (ht : P.underlying t = some (.slice e)) (hi : P.info? e = some i) (hz : i.zero = some z) (hzs : z.cells.size = i.size) (hsz : 0 < i.size) (hg : g.sz e = i.size)
 (q dst : APos) (A : Option Addr) (n c : Nat) (us : Nat -> FX) (ho : D1 g w q e (.slice A n c)) (hr : a1Z g w A (n * i.size) us)
 (A' : Option Addr) (m c' : Nat) (us' : Nat -> FX) (hr' : a1Z g w A' (m * i.size) us') (h1 : ∀ k, k < m * i.size -> (us' k).oneCell' = true)
 (hb : (n + m) * i.bytes <= 140737488355328) (hb0 : 0 < i.bytes) :
 ∃ A2 c2 w' g', (GM #[t, t] ty #[.slice A n c, .slice A' m c']).run P w = .ok (.slice A2 (n + m) c2) w' /\ RowOut g w g' w' q (A.isNone) /\ D1 g' w' dst e (.slice A2 (n + m) c2) /\ n + m <= c2 /\ c2 <= maxLen /\
  a1Z g' w' A2 ((n + m) * i.size) (fun k => if k < n * i.size then us k else us' (k - n * i.size)) := by
 have e0I : n + m <= 140737488355328 := IL (ID _ hb0) hb
 have hA' : 0 < m -> ∃ b off, A' = some ⟨b, off, none⟩ := fun hm => by
  obtain ⟨b, off, h, _⟩ := hr' 0 (NS hm hsz)
  exact ⟨b, off, h⟩
 have b5U : ∀ b off, A' = some ⟨b, off, none⟩ -> ∀ j u, (news (m * i.size) us')[j]? = some u -> w.cell? ((⟨b, off, none⟩ : Addr).add j) = some u := by
  intro b off hA j u hj
  obtain ⟨h2, rfl⟩ := a2W _ _ _ _ hj
  obtain ⟨b2, off2, h3, _, h4⟩ := hr' j h2
  rw [hA] at h3
  injection h3 with h3; injection h3 with h3 h5; subst h3 h5
  simpa [HU] using h4
 have T9 : ∀ u ∈ news (m * i.size) us', u.oneCell' = true := by
  intro u hu
  obtain ⟨j, hj⟩ := IV.1 hu
  obtain ⟨h2, rfl⟩ := a2W _ _ _ _ hj
  exact h1 j h2
 -- a new row
 have fresh : ∀ (row : Array FX) (cap : Nat) (free : Bool), n + m <= cap -> cap <= maxLen -> row.size = cap * i.size -> (∀ k, k < (n + m) * i.size -> row[k]? = some (if k < n * i.size then us k else us' (k - n * i.size))) ->
  RowOut g w (g.at_ w.heap.size (.own dst ((n + m) * i.size))) (w.drew.alloc (.cells row e)) q free /\ D1 (g.at_ w.heap.size (.own dst ((n + m) * i.size))) (w.drew.alloc (.cells row e)) dst e (.slice (some ⟨w.heap.size, 0, none⟩) (n + m) cap) /\
  a1Z (g.at_ w.heap.size (.own dst ((n + m) * i.size))) (w.drew.alloc (.cells row e)) (some ⟨w.heap.size, 0, none⟩) ((n + m) * i.size) (fun k => if k < n * i.size then us k else us' (k - n * i.size)) := by
  intro row cap free h2 h3 h4 h5
  have hh : (w.drew.alloc (.cells row e)).heap[w.heap.size]? = some (.cells row e (0, 0)) := Hf w.drew _
  refine ⟨(RowOut.of_grow ((Grows.drew w).trans (Grows.alloc w.drew _)) _ q).mono, .inr ⟨w.heap.size, n + m, cap, row, rfl, ?_, hh, h2, h3, ?_⟩, fun k hk => ⟨w.heap.size, 0, rfl, ?_, ?_⟩⟩
  . rw [G.at_eq]; show _ = Perm.own dst ((n + m) * g.sz e); rw [hg]
  . show row.size = cap * g.sz e; rw [hg]; exact h4
  . unfold s5; rw [G.at_eq]; simpa using hk
  . rw [GA _ _ _ _ _ _ hh]; simpa using h5 k hk
 rcases ho with h0 | ⟨b, n', cap, cur, h0, hΓ, a1J, hnc, hcm, hcs⟩
 . injection h0 with hA hn hc
   subst hA hn hc
   rcases GJ m with hm | hm
   . subst hm
     refine ⟨none, 0, w, g, ?_, RowOut.refl _ _ _ _, .inl rfl, FW _, Hq _, fun k hk => by simp at hk⟩
     cases A' <;> simp [GM, Gp ht, sizeOf, typeInfo, hi, IT, IN, loadCells, loadCellsFrom]
   . obtain ⟨b, off, hA⟩ := hA' hm
     have L7 := run_append_nil (P := P) w t ty e i z ht hi hz ⟨b, off, none⟩ m c' (news (m * i.size) us') (z7 _ _) (b5U b off hA) hm (by omega) (by
      have : (0 + m) * i.bytes = m * i.bytes := by rw [GL]
      omega)
     obtain ⟨f1, f2, f3⟩ := fresh ((news (m * i.size) us').toArray ++ Ig z.cells (grownCap w m 0 e - m)) (grownCap w m 0 e) true (by have := HV w m 0 e; omega)
      (HG w _ _ _ (by unfold maxLen; omega)) (by
       have := HV w m 0 e
       rw [Iy, JY, hzs]
       simp only [HS, z7]
       rw [← Hh]; congr 1; omega) (fun k hk => by
       have hk' : k < m * i.size := by simpa using hk
       rw [GD (by simpa [z7] using hk')]
       simp only [KJ, Is, if_false, JP]
       rw [Hk, a0K _ _ hk'])
     refine ⟨some ⟨w.heap.size, 0, none⟩, grownCap w m 0 e, _, _, ?_, f1, f2, by have := HV w m 0 e; omega, HG w _ _ _ (by unfold maxLen; omega), f3⟩
     rw [hA, GL]; exact L7
 . injection h0 with hA hn hc
   subst hA hn hc
   rw [hg] at hΓ hcs
   have R7 : ∀ k, k < n * i.size -> cur[k]? = some (us k) := fun k hk => by
    obtain ⟨b2, off2, h3, _, h4⟩ := hr k hk
    injection h3 with h3; injection h3 with h3 h5; subst h3 h5
    rw [GA w _ _ _ _ _ a1J] at h4
    simpa using h4
   -- the row itself, longer
   have same : ∀ (row : Array FX), row.size = cur.size -> n + m <= c -> (∀ k, k < (n + m) * i.size -> row[k]? = some (if k < n * i.size then us k else us' (k - n * i.size))) ->
    RowOut g w (g.at_ b (.own dst ((n + m) * i.size))) (w.setRow b row) q false /\ D1 (g.at_ b (.own dst ((n + m) * i.size))) (w.setRow b row) dst e (.slice (some ⟨b, 0, none⟩) (n + m) c) /\
    a1Z (g.at_ b (.own dst ((n + m) * i.size))) (w.setRow b row) (some ⟨b, 0, none⟩) ((n + m) * i.size) (fun k => if k < n * i.size then us k else us' (k - n * i.size)) := by
    intro row h2 a0A h5
    have hh := Kh w b cur row e (0, 0) a1J
    refine ⟨⟨rfl, rfl, rfl, by rw [Ki]; exact FW _, a6F a1J _ (fun e => by rw [hΓ] at e; cases e) fun o hs => ?_, fun x hx hn => ?_, fun r e' v hq ho => ?_, rfl⟩, .inr ⟨b, n + m, c, row, rfl, ?_, hh, a0A, hcm, ?_⟩, fun k hk => ⟨b, 0, rfl, ?_, ?_⟩⟩
    . unfold s5 at hs ⊢
      rw [hΓ] at hs
      simp only at hs
      rw [G.at_eq]
      have hle : n * i.size <= (n + m) * i.size := Ic _ (by omega)
      refine ⟨by show o < (n + m) * i.size; omega, ?_⟩
      rw [h5 o (by omega), if_pos hs, R7 o hs]
    . have hxb : x ≠ b := fun e0 => by subst e0; exact hn _ hΓ
      exact ⟨G.at_ne _ _ _ hxb, Ix w b x row hxb⟩
    . rcases hq with hq | hq
      . exact b1U _ (fun n' hn' => by rw [hΓ] at hn'; injection hn' with hn' _; exact hq hn'.symm) ho
      . cases hq
    . rw [G.at_eq]; show _ = Perm.own dst ((n + m) * g.sz e); rw [hg]
    . show row.size = c * g.sz e; rw [hg, h2]; exact hcs
    . unfold s5; rw [G.at_eq]; simpa using hk
    . rw [GA _ _ _ _ _ _ hh]; simpa using h5 k hk
   rcases Hi c (n + m) with c3N | a0A
   . have hm : 0 < m := by omega
     obtain ⟨b', off', hA⟩ := hA' hm
     have L7 := run_append_grow (P := P) w t ty e i z ht hi hz ⟨b, 0, none⟩ n c (news (n * i.size) us) (z7 _ _) (fun j u hj => by
      obtain ⟨h2, rfl⟩ := a2W _ _ _ _ hj
      rw [HU, GA w _ _ _ _ _ a1J]
      simpa using R7 j h2) ⟨b', off', none⟩ m c' (news (m * i.size) us') (z7 _ _) (b5U b' off' hA) c3N (by omega) (MA c3N hb)
     obtain ⟨f1, f2, f3⟩ := fresh ((news (n * i.size) us).toArray ++ (news (m * i.size) us').toArray ++ Ig z.cells (grownCap w (n + m) c e - (n + m))) (grownCap w (n + m) c e) false (HV w (n + m) c e)
      (HG w _ _ _ (by unfold maxLen; omega)) (by
       have := HV w (n + m) c e
       rw [Iy, Iy, JY, hzs]
       simp only [HS, z7]
       rw [← Hh, ← Hh]; congr 1; omega) (fun k hk => by
       rw [Hh] at hk
       rw [GD (by simpa [z7] using hk)]
       by_cases hlt : k < n * i.size
       . rw [GD (by simpa [z7] using hlt), Hk, a0K _ _ hlt, if_pos hlt]
       . rw [JQ (by simp [z7]; omega), Hk, if_neg hlt]
         simp only [HS, z7]
         exact a0K _ _ (by omega))
     refine ⟨some ⟨w.heap.size, 0, none⟩, grownCap w (n + m) c e, _, _, ?_, f1, f2, HV w (n + m) c e, HG w _ _ _ (by unfold maxLen; omega), f3⟩
     rw [hA]; exact L7
   . have c6N : n * i.size + (news (m * i.size) us').length <= cur.size := by rw [z7, hcs, ← Hh]; exact Ic _ a0A
     cases A' with
     | none =>
       have hm : m = 0 := by
        rcases GJ m with h | h
        . exact h
        . obtain ⟨_, _, h⟩ := hA' h; cases h
       subst hm
       obtain ⟨f1, f2, f3⟩ := same cur rfl a0A (fun k hk => by
        have hk : k < n * i.size := by simpa using hk
        rw [if_pos hk]; exact R7 k hk)
       rw [setRow_self w b cur e (0, 0) a1J] at f1 f2 f3
       exact ⟨some ⟨b, 0, none⟩, c, w, _, by simp [GM, Gp ht, sizeOf, typeInfo, hi, IT, IN, hnc, storeCells], f1, f2, by omega, hcm, f3⟩
     | some a' =>
       have L7 : ∀ (a : Addr), (∀ j u, (news (m * i.size) us')[j]? = some u -> w.cell? (a.add j) = some u) -> _ := fun a ha => run_append_room (P := P) w t ty e i ht hi b n c cur a1J a m c' (news (m * i.size) us') (z7 _ _) ha T9 a0A c6N
       have ha : ∀ j u, (news (m * i.size) us')[j]? = some u -> w.cell? (a'.add j) = some u := by
        intro j u hj
        obtain ⟨h2, rfl⟩ := a2W _ _ _ _ hj
        obtain ⟨b2, off2, h3, _, h4⟩ := hr' j h2
        injection h3 with h3; subst h3
        simpa [HU] using h4
       obtain ⟨f1, f2, f3⟩ := same (cur.toList.take (n * i.size) ++ news (m * i.size) us' ++ cur.toList.drop (n * i.size + (news (m * i.size) us').length)).toArray (by
        simp only [HS, FU, GU, GZ, Hl]
        omega) a0A (fun k hk => by
        rw [Hh] at hk
        rw [z7] at c6N
        have hl : (cur.toList.take (n * i.size)).length = n * i.size := by simp; omega
        simp only [Hk]
        by_cases hlt : k < n * i.size
        . rw [Gr, Gh (by omega), if_pos hlt, He, if_pos hlt]
          simpa using R7 k hlt
        . rw [Gr, Gk (by omega), Gh (by rw [z7]; omega), if_neg hlt, hl]
          exact a0K _ _ (by omega))
       exact ⟨some ⟨b, 0, none⟩, c, _, _, L7 a' ha, f1, f2, a0A, hcm, f3⟩
theorem b1t (t t2 e : FP) (ty : FP) (i : La) (z : FX) (ht : P.underlying t = some (.slice e)) (hu : P.underlying t2 = some .string) (hi : P.info? e = some i) (hz : i.zero = some z) (hzs : z.cells.size = i.size) (hs1 : i.size = 1) (hg : g.sz e = i.size)
 (q dst : APos) (A : Option Addr) (n c : Nat) (us : Nat -> FX) (ho : D1 g w q e (.slice A n c)) (hr : a1Z g w A (n * i.size) us)
 (m : Nat) (us' : Nat -> FX) (str : List UInt8) (hm' : str.length = m) (d6V : Jc ⟨str.toArray⟩ = news (m * i.size) us') (h1 : ∀ k, k < m * i.size -> (us' k).oneCell' = true)
 (hb : (n + m) * i.bytes <= 140737488355328) (hb0 : 0 < i.bytes) :
 ∃ A2 c2 w' g', (GM #[t, t2] ty #[.slice A n c, .string ⟨str.toArray⟩]).run P w = .ok (.slice A2 (n + m) c2) w' /\ RowOut g w g' w' q (A.isNone) /\ D1 g' w' dst e (.slice A2 (n + m) c2) /\ n + m <= c2 /\ c2 <= maxLen /\
  a1Z g' w' A2 ((n + m) * i.size) (fun k => if k < n * i.size then us k else us' (k - n * i.size)) := by
 have e0I : n + m <= 140737488355328 := IL (ID _ hb0) hb
 have hsz : 0 < i.size := by omega
 have hss : (⟨str.toArray⟩ : ByteArray).size = m := by rw [← hm']; simp [Hx]
 have T9 : ∀ u ∈ news (m * i.size) us', u.oneCell' = true := by
  intro u hu
  obtain ⟨j, hj⟩ := IV.1 hu
  obtain ⟨h2, rfl⟩ := a2W _ _ _ _ hj
  exact h1 j h2
 -- a new row
 have fresh : ∀ (row : Array FX) (cap : Nat) (free : Bool), n + m <= cap -> cap <= maxLen -> row.size = cap * i.size -> (∀ k, k < (n + m) * i.size -> row[k]? = some (if k < n * i.size then us k else us' (k - n * i.size))) ->
  RowOut g w (g.at_ w.heap.size (.own dst ((n + m) * i.size))) (w.drew.alloc (.cells row e)) q free /\ D1 (g.at_ w.heap.size (.own dst ((n + m) * i.size))) (w.drew.alloc (.cells row e)) dst e (.slice (some ⟨w.heap.size, 0, none⟩) (n + m) cap) /\
  a1Z (g.at_ w.heap.size (.own dst ((n + m) * i.size))) (w.drew.alloc (.cells row e)) (some ⟨w.heap.size, 0, none⟩) ((n + m) * i.size) (fun k => if k < n * i.size then us k else us' (k - n * i.size)) := by
  intro row cap free h2 h3 h4 h5
  have hh : (w.drew.alloc (.cells row e)).heap[w.heap.size]? = some (.cells row e (0, 0)) := Hf w.drew _
  refine ⟨(RowOut.of_grow ((Grows.drew w).trans (Grows.alloc w.drew _)) _ q).mono, .inr ⟨w.heap.size, n + m, cap, row, rfl, ?_, hh, h2, h3, ?_⟩, fun k hk => ⟨w.heap.size, 0, rfl, ?_, ?_⟩⟩
  . rw [G.at_eq]; show _ = Perm.own dst ((n + m) * g.sz e); rw [hg]
  . show row.size = cap * g.sz e; rw [hg]; exact h4
  . unfold s5; rw [G.at_eq]; simpa using hk
  . rw [GA _ _ _ _ _ _ hh]; simpa using h5 k hk
 rcases ho with h0 | ⟨b, n', cap, cur, h0, hΓ, a1J, hnc, hcm, hcs⟩
 . injection h0 with hA hn hc
   subst hA hn hc
   rcases GJ m with hm | hm
   . subst hm
     refine ⟨none, 0, w, g, ?_, RowOut.refl _ _ _ _, .inl rfl, FW _, Hq _, fun k hk => by simp at hk⟩
     have hl0 : str = [] := List.length_eq_zero_iff.1 hm'
     subst hl0
     have hf := Lib.run_firstCells_string (P := P) w i.size ⟨(#[] : Array UInt8)⟩
     have hz0 : (⟨(#[] : Array UInt8)⟩ : ByteArray).size = 0 := rfl
     rw [hz0] at hf
     simp [GM, Gp ht, Gp hu, sizeOf, typeInfo, hi, IT, hz0, hf]
   . have L7 := run_append_nil_string (P := P) w t t2 ty e i z ht hu hi hz ⟨str.toArray⟩ (by omega) (by omega) (by
      have : (0 + m) * i.bytes = m * i.bytes := by rw [GL]
      rw [hss]; omega)
     have e1 : ((⟨str.toArray⟩ : ByteArray).data.map fun b => Ib .u8 b.toNat) = (news (m * i.size) us').toArray := by
      rw [← d6V]
      apply Array.ext'
      simp [Jc]
     rw [e1, hss] at L7
     obtain ⟨f1, f2, f3⟩ := fresh ((news (m * i.size) us').toArray ++ Ig z.cells (grownCap w m 0 e - m)) (grownCap w m 0 e) true (by have := HV w m 0 e; omega)
      (HG w _ _ _ (by unfold maxLen; omega)) (by
       have := HV w m 0 e
       rw [Iy, JY, hzs]
       simp only [HS, z7]
       rw [← Hh]; congr 1; omega) (fun k hk => by
       have hk' : k < m * i.size := by simpa using hk
       rw [GD (by simpa [z7] using hk')]
       simp only [KJ, Is, if_false, JP]
       rw [Hk, a0K _ _ hk'])
     refine ⟨some ⟨w.heap.size, 0, none⟩, grownCap w m 0 e, _, _, ?_, f1, f2, by have := HV w m 0 e; omega, HG w _ _ _ (by unfold maxLen; omega), f3⟩
     rw [GL]; exact L7
 . injection h0 with hA hn hc
   subst hA hn hc
   rw [hg] at hΓ hcs
   have R7 : ∀ k, k < n * i.size -> cur[k]? = some (us k) := fun k hk => by
    obtain ⟨b2, off2, h3, _, h4⟩ := hr k hk
    injection h3 with h3; injection h3 with h3 h5; subst h3 h5
    rw [GA w _ _ _ _ _ a1J] at h4
    simpa using h4
   -- the row itself, longer
   have same : ∀ (row : Array FX), row.size = cur.size -> n + m <= c -> (∀ k, k < (n + m) * i.size -> row[k]? = some (if k < n * i.size then us k else us' (k - n * i.size))) ->
    RowOut g w (g.at_ b (.own dst ((n + m) * i.size))) (w.setRow b row) q false /\ D1 (g.at_ b (.own dst ((n + m) * i.size))) (w.setRow b row) dst e (.slice (some ⟨b, 0, none⟩) (n + m) c) /\
    a1Z (g.at_ b (.own dst ((n + m) * i.size))) (w.setRow b row) (some ⟨b, 0, none⟩) ((n + m) * i.size) (fun k => if k < n * i.size then us k else us' (k - n * i.size)) := by
    intro row h2 a0A h5
    have hh := Kh w b cur row e (0, 0) a1J
    refine ⟨⟨rfl, rfl, rfl, by rw [Ki]; exact FW _, a6F a1J _ (fun e => by rw [hΓ] at e; cases e) fun o hs => ?_, fun x hx hn => ?_, fun r e' v hq ho => ?_, rfl⟩, .inr ⟨b, n + m, c, row, rfl, ?_, hh, a0A, hcm, ?_⟩, fun k hk => ⟨b, 0, rfl, ?_, ?_⟩⟩
    . unfold s5 at hs ⊢
      rw [hΓ] at hs
      simp only at hs
      rw [G.at_eq]
      have hle : n * i.size <= (n + m) * i.size := Ic _ (by omega)
      refine ⟨by show o < (n + m) * i.size; omega, ?_⟩
      rw [h5 o (by omega), if_pos hs, R7 o hs]
    . have hxb : x ≠ b := fun e0 => by subst e0; exact hn _ hΓ
      exact ⟨G.at_ne _ _ _ hxb, Ix w b x row hxb⟩
    . rcases hq with hq | hq
      . exact b1U _ (fun n' hn' => by rw [hΓ] at hn'; injection hn' with hn' _; exact hq hn'.symm) ho
      . cases hq
    . rw [G.at_eq]; show _ = Perm.own dst ((n + m) * g.sz e); rw [hg]
    . show row.size = c * g.sz e; rw [hg, h2]; exact hcs
    . unfold s5; rw [G.at_eq]; simpa using hk
    . rw [GA _ _ _ _ _ _ hh]; simpa using h5 k hk
   rcases Hi c (n + m) with c3N | a0A
   . have hm : 0 < m := by omega
     have L7 := Lib.run_append_grow_string (P := P) w t t2 ty e i z ht hu hi hz ⟨b, 0, none⟩ n c (news (n * i.size) us) (z7 _ _) (fun j u hj => by
      obtain ⟨h2, rfl⟩ := a2W _ _ _ _ hj
      rw [HU, GA w _ _ _ _ _ a1J]
      simpa using R7 j h2) ⟨str.toArray⟩ (by rw [hss]; exact c3N) (by rw [hss]; omega) (by rw [hss]; exact MA c3N hb)
     rw [hss, d6V] at L7
     obtain ⟨f1, f2, f3⟩ := fresh ((news (n * i.size) us).toArray ++ (news (m * i.size) us').toArray ++ Ig z.cells (grownCap w (n + m) c e - (n + m))) (grownCap w (n + m) c e) false (HV w (n + m) c e)
      (HG w _ _ _ (by unfold maxLen; omega)) (by
       have := HV w (n + m) c e
       rw [Iy, Iy, JY, hzs]
       simp only [HS, z7]
       rw [← Hh, ← Hh]; congr 1; omega) (fun k hk => by
       rw [Hh] at hk
       rw [GD (by simpa [z7] using hk)]
       by_cases hlt : k < n * i.size
       . rw [GD (by simpa [z7] using hlt), Hk, a0K _ _ hlt, if_pos hlt]
       . rw [JQ (by simp [z7]; omega), Hk, if_neg hlt]
         simp only [HS, z7]
         exact a0K _ _ (by omega))
     refine ⟨some ⟨w.heap.size, 0, none⟩, grownCap w (n + m) c e, _, _, ?_, f1, f2, HV w (n + m) c e, HG w _ _ _ (by unfold maxLen; omega), f3⟩
     exact L7
   . have c6N : n * i.size + (news (m * i.size) us').length <= cur.size := by rw [z7, hcs, ← Hh]; exact Ic _ a0A
     have L7 := Lib.run_append_room_string (P := P) w t t2 ty e i ht hu hi hs1 b n c cur a1J ⟨str.toArray⟩ (by rw [hss]; exact a0A) (by rw [hss]; rw [z7, hs1] at c6N; omega)
     rw [hss, d6V] at L7
     obtain ⟨f1, f2, f3⟩ := same (cur.toList.take (n * i.size) ++ news (m * i.size) us' ++ cur.toList.drop (n * i.size + (news (m * i.size) us').length)).toArray (by
      simp only [HS, FU, GU, GZ, Hl]
      omega) a0A (fun k hk => by
      rw [Hh] at hk
      rw [z7] at c6N
      have hl : (cur.toList.take (n * i.size)).length = n * i.size := by simp; omega
      simp only [Hk]
      by_cases hlt : k < n * i.size
      . rw [Gr, Gh (by omega), if_pos hlt, He, if_pos hlt]
        simpa using R7 k hlt
      . rw [Gr, Gk (by omega), Gh (by rw [z7]; omega), if_neg hlt, hl]
        exact a0K _ _ (by omega))
     have el : (news (m * i.size) us').length = m := by rw [z7, hs1, HW]
     have en : n * i.size = n := by rw [hs1, HW]
     refine ⟨some ⟨b, 0, none⟩, c, _, _, ?_, f1, f2, a0A, hcm, f3⟩
     rw [el, en]; exact L7
end
end En
namespace En
open Go
section
variable {R : Type} {P : Gu} {T : FP -> Option Ty} {E : Env} {g : G} {w w' : Gc} {dead : List Pos}
theorem TyOK.zero_size {t : FP} {ty : Ty} (hok : TyOK P t ty) : ty.zero.cells.size = ty.size := by
 have := (a9a (E := ⟨0, fun _ _ => False⟩) (g := ⟨fun _ => .imm, fun _ _ => 0, fun _ => 0⟩) (w := default) (dead := []) hok).1
 rw [this]; simp [Ty.zeroDs, Ty.size]
theorem b0c {q : APos} {free : Bool} {g' : G} (ho : RowOut g w g' w' q free) (hq : ∀ d s, q ≠ .cell d s 0 ∨ True) {E' : Env} (hE : E'.d = E.d) (a1M : ∀ k s, E.dom k s -> E'.dom k s) {k s : Nat} {b : Bx} (hr : BoxRep E g w k s b)
 {dd : List Pos} (hk : Keeps E g w [] E' g' w' dd) (b' : Bx) (hty : b'.ty = b.ty) (hlen : b'.cells.length = b.cells.length)
 (hc : ∀ (i : Nat) c', b'.cells[i]? = some c' -> (∃ c, b.cells[i]? = some c /\ c' = c /\ .cell k s i ∉ dd) ∨ (∃ x a, b.cells[i]? = some (.v x a) /\ c' = .v x .no)) : BoxRep E' g' w' k s b' := by
 obtain ⟨us, h1, h2, h3⟩ := hr.heap
 have hx := G7 h1
 obtain ⟨e1, e2⟩ := ho.hid _ hx (fun n hn => by rw [hr.perm] at hn; cases hn)
 refine ⟨by rw [hE]; exact hr.le, ?_, us, ?_, by rw [hlen]; exact h2, fun i c' hc' => ?_⟩
 . rw [hE, ho.J, e1]; exact hr.perm
 . rw [hE, ho.J, hty, e2]; exact h1
 . rcases hc i c' hc' with ⟨c, b1, rfl, b2⟩ | ⟨x, a, b1, rfl⟩
   . obtain ⟨a1, a2, a3, a4⟩ := h3 i c' b1
     refine ⟨a1, a2, by rw [hE, ho.J]; exact a3, ?_⟩
     exact a1k a2 (a4.keep hk) b2
   . obtain ⟨a1, a2, a3, a4⟩ := h3 i _ b1
     refine ⟨a1, rfl, fun h => (by cases h), ?_⟩
     have hv : RepV g w x (us.getD i undef) := by
      cases a with
      | own p e => cases a4 with | v x a v h ha => exact h
      | no => cases a4 with | v x a v h ha => exact h
      | nil e => cases a4 with | v x a v h ha => exact h
     exact .v _ _ _ (hv.later ho.later) trivial
theorem a3V {a : Att} {e : FP} {m : Mem} {K : Mem -> List Pos -> Option R} {r : R} {A : Option Addr} {n c : Nat} (hh : Here T E g w m) (ha : AttOK E g w dead a (.slice A n c)) (h : a1D a e m dead K = some r) (dst : Nat) :
 ∃ q m' dead', K m' dead' = some r /\ D1 g w q e (.slice A n c) /\ ∀ g' w', RowOut g w g' w' q A.isNone -> ∃ E', E'.d = E.d /\ Keeps E g w dead E' g' w' dead' /\ Here T E' g' w' m' := by
 -- where memory stays as it is
 have stay : ∀ (q : APos) (dead' dd : List Pos), (∀ p ∈ dead, p ∈ dead') -> (∀ g' w', RowOut g w g' w' q A.isNone -> (∀ p, b3x E.d p -> p ∉ dead' -> a9t E.d p ≠ q ∨ A.isNone = true) /\ (∀ p, b3x E.d p -> p ∉ dd -> a9t E.d p ≠ q ∨ A.isNone = true)) -> (∀ k s i, Pos.cell k s i ∉ dd) ->
  ∀ g' w', RowOut g w g' w' q A.isNone -> ∃ E', E'.d = E.d /\ Keeps E g w dead E' g' w' dead' /\ Here T E' g' w' m := by
  intro q dead' dd h1 h2 h3 g' w' ho
  obtain ⟨h4, h5⟩ := h2 g' w' ho
  refine ⟨E, rfl, ho.keeps h1 h4, fun k s b hb => ?_, hh.dom, hh.sk.later ho.later, hh.len⟩
  exact b0c ho (fun _ _ => .inr trivial) rfl (fun _ _ h => h) (hh.mem k s b hb) (ho.keeps (dead := []) (dead' := dd) (by simp) h5) b rfl rfl (fun i c' hc => .inl ⟨c', hc, rfl, h3 k s i⟩)
 unfold a1D at h
 cases a with
 | no => cases h
 | nil e' =>
   rcases j8 h with ⟨he, h⟩ | ⟨_, h⟩
   . have hv : (Value.slice A n c) = .slice none 0 0 := ha
     injection hv with hA hn hc
     subst hA hn hc
     refine ⟨.slot E.d dst, m, dead, h, .inl rfl, stay _ dead [] (fun _ h => h) (fun _ _ _ => ⟨fun _ _ _ => .inr rfl, fun _ _ _ => .inr rfl⟩) (by simp)⟩
   . cases h
 | own p e' =>
   rcases j8 h with ⟨he, hk⟩ | ⟨_, hk⟩
   case inr => cases hk
   clear h
   simp only [FT, Ha] at he
   obtain ⟨he, hp⟩ := he
   obtain rfl := FM he
   have hpd : p ∉ dead := fun hh => by rw [(a1r _ _).2 hh] at hp; cases hp
   rcases ha with ha | ⟨hok, ha⟩
   . exact absurd ha hpd
   have e3g : ∀ p', b3x E.d p' -> p' ≠ p -> a9t E.d p' ≠ a9t E.d p := by
    intro p' h1 h2 h3
    refine h2 ?_
    cases p' <;> cases p <;> simp only [a9t, APos.slot.injEq, APos.cell.injEq, reduceCtorEq, true_and] at h3 ⊢
    . rw [h3]
    . obtain ⟨h3, h4, h5⟩ := h3
      simp only [b3x] at h1 hok
      subst h4 h5
      congr 1; omega
   cases p with
   | slot s0 =>
     refine ⟨a9t E.d (.slot s0), m, .slot s0 :: dead, hk, ha, stay _ _ [.slot s0] (fun _ h => GQ _ h) (fun _ _ _ => ⟨fun p' h1 h2 => .inl (e3g p' h1 (fun e0 => h2 (by rw [e0]; simp))), fun p' h1 h2 => .inl (e3g p' h1 (fun e0 => h2 (by rw [e0]; simp)))⟩) (by simp)⟩
   | cell k s i =>
     simp only at hk
     split at hk
     . rename_i b hb
       split at hk
       . rename_i x _ _ hc
         simp only [a2c, I7] at hk
         refine ⟨a9t E.d (.cell k s i), _, _, hk, ha, fun g' w' ho => ?_⟩
         have hkp : ∀ (dd : List Pos) (E' : Env), E'.d = E.d -> (∀ k s, E.dom k s -> E'.dom k s) -> Keeps E g w dd E' g' w' (.cell k s i :: dd) := fun dd E' hE a1M =>
          ⟨ho.later, hE, a1M, fun _ _ _ _ => by rw [ho.J], fun _ h => GQ _ h, fun p' e v hp hn ho' => ho.own _ e v (.inl (e3g p' hp (fun e0 => hn (by rw [e0]; simp)))) ho'⟩
         have a1M : ∀ k' s', E.dom k' s' -> F4 (m.setBox k s ⟨b.ty, b.cells.set i (.v x .no)⟩) k' s' := by
          intro k' s' hd
          obtain ⟨b', hb'⟩ := hh.keeps_dom hd
          unfold F4
          rw [I8]
          split
          . exact ⟨_, rfl⟩
          . exact ⟨b', hb'⟩
         let E2 : Env := ⟨E.d, F4 (m.setBox k s ⟨b.ty, b.cells.set i (.v x .no)⟩)⟩
         refine ⟨E2, rfl, hkp dead E2 rfl a1M, fun k' s' b' hb' => ?_, rfl, hh.sk.later ho.later, by rw [K7]; exact hh.len⟩
         rw [I8] at hb'
         split at hb'
         . rename_i hcd
           obtain ⟨rfl, rfl, _⟩ := hcd
           injection hb' with hb'; subst hb'
           refine b0c (E := E) (E' := E2) ho (fun _ _ => .inr trivial) rfl a1M (hh.mem _ _ _ hb) (hkp [] E2 rfl a1M) _ rfl (by simp) (fun j c' hj => ?_)
           rw [List.getElem?_set] at hj
           split at hj
           . rename_i hij
             subst hij
             split at hj
             . injection hj with hj; subst hj
               exact .inr ⟨x, _, hc, rfl⟩
             . cases hj
           . rename_i hij
             exact .inl ⟨c', hj, rfl, by simp; exact fun h => hij h.symm⟩
         . rename_i hcd
           refine b0c (E := E) (E' := E2) ho (fun _ _ => .inr trivial) rfl a1M (hh.mem _ _ _ hb') (hkp [] E2 rfl a1M) _ rfl rfl (fun j c' hj => .inl ⟨c', hj, rfl, ?_⟩)
           simp only [List.mem_singleton, Pos.cell.injEq]
           rintro ⟨rfl, rfl, _⟩
           exact hcd ⟨rfl, rfl, a2h _ _ _ _ hb⟩
       . cases hk
     . cases hk
theorem a8l {xs : List V} {sz : Nat} (hs : ∀ x ∈ xs, x.cells.length = sz) : (xs.flatMap V.cells).length = xs.length * sz := by
 induction xs with
 | nil => simp
 | cons x xs ih =>
   rw [Hb, FU, hs x (by simp), ih (fun y hy => hs y (by simp [hy])), FO, Hh]; omega
theorem d6A {xs : List V} {n : Nat} (hs : ∀ x ∈ xs, b4a n x = true) {k : Nat} {y : V} (h : (xs.flatMap V.cells)[k]? = some y) : y.one = true := by
 obtain ⟨x, hx, hy⟩ := List.mem_flatMap.1 (Gb h)
 exact (U9 (hs x hx)).2 y hy
set_option maxHeartbeats 1000000 in
theorem b5Q (hT : D7 P T) {m : Mem} (hh : Here T E g w m) (dst : Nat) (t t2 ty : FP) (s x : D) (vs vx : FX) (hs : RepD E g w dead s vs) (hx : RepD E g w dead x vx) {K : D -> Mem -> List Pos -> Option R} {r : R}
 (h : a4b T dst t t2 s x m dead K = some r) :
 ∃ v w' g' E' d m' dead', (GM #[t, t2] ty #[vs, vx]).run P w = .ok v w' /\ E'.d = E.d /\ Keeps E g w dead E' g' w' dead' /\ Here T E' g' w' m' /\ RepD E' g' w' dead' d v /\ Tr E.d g w g' w' /\ K d m' dead' = some r := by
 unfold a4b at h
 split at h
 case h_2 => cases h
 rename_i tyS tyX htS htX
 have hokS := hT _ _ htS
 have hdX := (hT _ _ htX).desc
 split at h
 case h_2 => cases h
 rename_i e C9
 split at h
 case h_2 => cases h
 rename_i te hte
 have hok := hT _ _ hte
 obtain ⟨i, hi, hz, hsi, hby⟩ := hok.info
 have hzs := hok.zero_size
 have hdS := hokS.desc
 rw [C9] at hdS
 have hge : g.sz e = i.size := by rw [hh.sz, hsi]; simp [U5, hte]
 split at h
 . cases h
 rename_i hnz
 simp only [GI] at hnz
 have hs0 : 0 < i.size := by
  rw [hsi]
  rcases GJ te.size with h0 | h0
  . rw [h0] at hnz; simp at hnz
  . exact h0
 have hb0 : 0 < i.bytes := by
  rw [hby]
  rcases GJ te.nbytes with h0 | h0
  . rw [h0] at hnz; simp at hnz
  . exact h0
 split at h
 . rename_i xs a ys a'
   split at h
   case h_2 => cases h
   rename_i e2 b5B
   rw [b5B] at hdX
   rcases j8 h with ⟨hc, h⟩ | ⟨_, h⟩
   case inr => cases h
   simp only [FT] at hc
   obtain ⟨hc1, hc2⟩ := hc
   have a6I : i.size = 1 := by rw [hsi]; exact FM hc2
   obtain ⟨hrs, has, A, n, c, rfl, hn, hnc, hcm⟩ := hs.bytes_inv
   obtain ⟨hrx, _, A', mm, c', rfl, hm, hmc, hcm'⟩ := hx.bytes_inv
   obtain ⟨q, m', dead', hk, ho, d6W⟩ := a3V hh has h dst
   obtain ⟨hb, hk⟩ := F7 hk
   simp only [decide_eq_true_eq] at hb
   rw [hn, hm] at hb
   have b1n : a1Z g w A (n * i.size) (fun k => .int .u8 ((xs.getD k 0).toNat : Int)) := by
    intro k hk
    rw [a6I, HW] at hk
    cases hrs with
    | bytes _ _ _ _ _ _ _ hxx =>
      obtain ⟨b, off, h1, h2, h3⟩ := hxx k _ (FQ (by omega))
      exact ⟨b, off, h1, h2, by rw [h3]; simp [FV, (by omega : k < xs.length)]⟩
   have d6X : a1Z g w A' (mm * i.size) (fun k => .int .u8 ((ys.getD k 0).toNat : Int)) := by
    intro k hk
    rw [a6I, HW] at hk
    cases hrx with
    | bytes _ _ _ _ _ _ _ hxx =>
      obtain ⟨b, off, h1, h2, h3⟩ := hxx k _ (FQ (by omega))
      exact ⟨b, off, h1, h2, by rw [h3]; simp [FV, (by omega : k < ys.length)]⟩
   obtain ⟨A2, c2, w', g', L7, hro, hown, d6Y, d6Z, N7⟩ := b1g (P := P) t e ty i te.zero hdS hi hz (by rw [hzs, hsi]) hs0 hge q (.slot E.d dst) A n c _ ho b1n A' mm c' _ d6X (fun _ _ => rfl) (by rw [hby]; exact hb) hb0
   obtain ⟨E', hE, a6Z, c3O⟩ := d6W g' w' hro
   refine ⟨_, w', g', E', _, m', dead', (a8Q w t t2 ty e e2 hdS hdX hi A n c _).trans L7, hE, a6Z, c3O, .v _ _ _ (.bytes _ A2 _ c2 (by simp; omega) d6Y d6Z fun k z hk => ?_) ?_, hro.tr _, hk⟩
   . have hlt : k < (n + mm) * i.size := by
      rw [a6I, HW]
      have := (FN.1 hk).1
      simp at this; omega
     obtain ⟨b, off, h1, h2, h3⟩ := N7 k hlt
     refine ⟨b, off, h1, h2, ?_⟩
     rw [h3]
     simp only [a6I, HW]
     congr 1
     by_cases b0G : k < n
     . rw [if_pos b0G]
       rw [Gh (by omega)] at hk
       simp [FV, hk]
     . rw [if_neg b0G]
       rw [Gk (by omega), hn] at hk
       simp [FV, hk]
   . exact .inr ⟨trivial, by rw [hE]; exact hown⟩
 . rename_i e1 xs a e1' ys a'
   split at h
   case h_2 => cases h
   rename_i e2 b5B
   rw [b5B] at hdX
   rcases j8 h with ⟨hc, hkk⟩ | ⟨_, hkk⟩
   case inr => cases hkk
   clear h
   simp only [FT] at hc
   obtain ⟨hc1, hc2, hc3⟩ := hc
   obtain rfl := FM hc2
   obtain rfl := FM hc3
   obtain ⟨hrs, has, A, n, c, rfl, hn, hnc, hcm⟩ := hs.sl_inv
   obtain ⟨hrx, _, A', mm, c', rfl, hm, hmc, hcm'⟩ := hx.sl_inv
   obtain ⟨q, m', dead', hk, ho, d6W⟩ := a3V hh has hkk dst
   obtain ⟨hb, hk⟩ := F7 hk
   simp only [decide_eq_true_eq] at hb
   rw [hn, hm] at hb
   cases hrs with
   | sl _ _ _ _ _ us hn1 _ _ hs1 hx1 hr1 =>
   cases hrx with
   | sl _ _ _ _ _ us2 hn2 _ _ hs2 hx2 hr2 =>
   rw [hge] at hs1 hs2
   have l1 := a8l (fun x hx => (U9 (hs1 x hx)).1)
   have l2 := a8l (fun x hx => (U9 (hs2 x hx)).1)
   have b1n : a1Z g w A (n * i.size) us := fun k hk => hx1 k _ (FQ (by rw [l1]; rw [hn]; exact hk))
   have d6X : a1Z g w A' (mm * i.size) us2 := fun k hk => hx2 k _ (FQ (by rw [l2]; rw [hm]; exact hk))
   obtain ⟨A2, c2, w', g', L7, hro, hown, d6Y, d6Z, N7⟩ := b1g (P := P) t e1' ty i te.zero hdS hi hz (by rw [hzs, hsi]) hs0 hge q (.slot E.d dst) A n c _ ho b1n A' mm c' _ d6X (fun k hk => by
    have := FQ (l := ys.flatMap V.cells) (i := k) (by rw [l2, hm]; exact hk)
    exact (hr2 k _ this).one (d6A hs2 this)) (by rw [hby]; exact hb) hb0
   obtain ⟨E', hE, a6Z, c3O⟩ := d6W g' w' hro
   refine ⟨_, w', g', E', _, m', dead', (a8Q w t t2 ty e1' e2 hdS hdX hi A n c _).trans L7, hE, a6Z, c3O, .v _ _ _ (.sl e1' _ A2 _ c2 (fun k => if k < n * i.size then us k else us2 (k - n * i.size)) (by simp; omega) d6Y d6Z (fun x hx => ?_) (fun k z hk => ?_) (fun k z hk => ?_)) ?_, hro.tr _, hk⟩
   . rw [hro.later.sz, hge]
     rcases Hc.1 hx with hx | hx
     . exact hs1 x hx
     . exact hs2 x hx
   . have hlt := (FN.1 hk).1
     rw [JL, FU, l1, l2, hn, hm, ← Hh] at hlt
     exact N7 k hlt
   . rw [JL] at hk
     by_cases hlt : k < n * i.size
     . rw [Gh (by rw [l1, hn]; exact hlt)] at hk
       simp only [hlt, if_true]
       exact (hr1 k z hk).later hro.later
     . rw [Gk (by rw [l1, hn]; omega), l1, hn] at hk
       simp only [hlt, if_false]
       exact (hr2 _ z hk).later hro.later
   . exact .inr ⟨trivial, by rw [hE]; exact hown⟩
 . rename_i xs a ys a'
   split at h
   case h_2 => cases h
   rename_i b5B
   rw [b5B] at hdX
   rcases j8 h with ⟨hc2, h⟩ | ⟨_, h⟩
   case inr => cases h
   have a6I : i.size = 1 := by rw [hsi]; exact FM hc2
   obtain ⟨hrs, has, A, n, c, rfl, hn, hnc, hcm⟩ := hs.bytes_inv
   obtain ⟨rfl, h63⟩ := hx.str_inv
   obtain ⟨q, m', dead', hk, ho, d6W⟩ := a3V hh has h dst
   obtain ⟨hb, hk⟩ := F7 hk
   simp only [decide_eq_true_eq] at hb
   rw [hn] at hb
   have b1n : a1Z g w A (n * i.size) (fun k => .int .u8 ((xs.getD k 0).toNat : Int)) := by
    intro k hk
    rw [a6I, HW] at hk
    cases hrs with
    | bytes _ _ _ _ _ _ _ hxx =>
      obtain ⟨b, off, h1, h2, h3⟩ := hxx k _ (FQ (by omega))
      exact ⟨b, off, h1, h2, by rw [h3]; simp [FV, (by omega : k < xs.length)]⟩
   have d6V : Jc ⟨ys.toArray⟩ = news (ys.length * i.size) (fun k => .int .u8 ((ys.getD k 0).toNat : Int)) := by
    rw [a6I, HW]
    apply List.ext_getElem?
    intro k
    by_cases hk : k < ys.length
    . rw [a0K _ _ hk]
      simp [Jc, FV, hk]
    . rw [Iq (by simp [Jc]; omega), Iq (by rw [z7]; omega)]
   obtain ⟨A2, c2, w', g', L7, hro, hown, d6Y, d6Z, N7⟩ := b1t (P := P) t t2 e ty i te.zero hdS hdX hi hz (by rw [hzs, hsi]) a6I hge q (.slot E.d dst) A n c _ ho b1n ys.length _ ys rfl d6V (fun _ _ => rfl) (by rw [hby]; exact hb) hb0
   obtain ⟨E', hE, a6Z, c3O⟩ := d6W g' w' hro
   refine ⟨_, w', g', E', _, m', dead', L7, hE, a6Z, c3O, .v _ _ _ (.bytes _ A2 _ c2 (by simp; omega) d6Y d6Z fun k z hk => ?_) ?_, hro.tr _, hk⟩
   . have hlt : k < (n + ys.length) * i.size := by
      rw [a6I, HW]
      have := (FN.1 hk).1
      simp at this; omega
     obtain ⟨b, off, h1, h2, h3⟩ := N7 k hlt
     refine ⟨b, off, h1, h2, ?_⟩
     rw [h3]
     simp only [a6I, HW]
     congr 1
     by_cases b0G : k < n
     . rw [if_pos b0G]
       rw [Gh (by omega)] at hk
       simp [FV, hk]
     . rw [if_neg b0G]
       rw [Gk (by omega), hn] at hk
       simp [FV, hk]
   . exact .inr ⟨trivial, by rw [hE]; exact hown⟩
 . cases h
end
end En
namespace En
open Go
section
variable {R : Type} {P : Gu} {T : FP -> Option Ty} {E : Env} {g : G} {w w' : Gc} {dead : List Pos}
theorem b3C : ∀ (ds : List D) (xs : List V), c4O ds = some xs -> xs.length = ds.length /\ ∀ (k : Nat) y, xs[k]? = some y -> y.one = true /\ ∃ a, ds[k]? = some (.v y a)
 | [], xs, h => by simp only [c4O, Gy] at h; subst h; exact ⟨rfl, fun k y h => by simp at h⟩
 | d :: ds, xs, h => by
   cases d with
   | v x a =>
     have hx : ∀ xs, (c4O ds).map (x :: ·) = some xs -> x.one = true -> xs.length = (D.v x a :: ds).length /\ ∀ (k : Nat) y, xs[k]? = some y -> y.one = true /\ ∃ a', (D.v x a :: ds)[k]? = some (.v y a') := by
      intro xs h h1
      rw [Gl] at h
      obtain ⟨r, hr, rfl⟩ := h
      obtain ⟨h2, h3⟩ := b3C ds r hr
      refine ⟨by simp [h2], fun k y hk => ?_⟩
      rcases k with _ | k
      . simp at hk; subst hk; exact ⟨h1, a, by simp⟩
      . obtain ⟨h4, a', h5⟩ := h3 k y (by simpa using hk); exact ⟨h4, a', by simpa using h5⟩
     cases x <;> simp only [c4O] at h <;> first
      | exact hx xs h rfl
      | cases h
   | _ => simp only [c4O, reduceCtorEq] at h
theorem a6m (row : Bool) (size : Nat) (hsz : row = false -> size = 1) : ∀ (n : Nat) (cs : List D) (xs : List V), cs.length = n * size -> chunk row size cs n = some xs ->
 xs.length = n /\ (∀ x ∈ xs, b4a size x = true) /\ ∀ (k : Nat) y, (xs.flatMap V.cells)[k]? = some y -> ∃ a, cs[k]? = some (.v y a)
 | 0, cs, xs, hl, h => by simp only [chunk, Gy] at h; subst h; exact ⟨rfl, fun x h => by simp at h, fun k y h => by simp at h⟩
 | n + 1, cs, xs, hl, h => by
   unfold chunk at h
   split at h
   case h_2 => cases h
   rename_i d hd
   split at h
   case h_2 => cases h
   rename_i x hx
   split at h
   case h_2 => cases h
   rename_i r hr
   injection h with h; subst h
   rw [Hh, NT] at hl
   obtain ⟨h1, h2, h3⟩ := a6m row size hsz n (cs.drop size) r (by simp; omega) hr
   -- the first value
   have e3h : x.cells.length = size /\ (∀ y ∈ x.cells, y.one = true) /\ ∀ (k : Nat) y, x.cells[k]? = some y -> ∃ a, cs[k]? = some (.v y a) := by
    unfold c8g at hd
    split at hd
    . injection hd with hd; subst hd
      simp only [toV, Gl] at hx
      obtain ⟨ys, hys, rfl⟩ := hx
      obtain ⟨h4, h5⟩ := b3C _ _ hys
      refine ⟨by show ys.length = _; rw [h4]; simp; omega, fun y hy => ?_, fun k y hk => ?_⟩
      . obtain ⟨k, hk⟩ := IV.1 hy; exact (h5 k y hk).1
      . obtain ⟨_, a, h6⟩ := h5 k y hk
        rw [He] at h6
        split at h6
        . exact ⟨a, h6⟩
        . cases h6
    . have hs1 := hsz rfl
      split at hd
      . rename_i d' hd'
        rcases j8 hd with ⟨T9, hd⟩ | ⟨_, hd⟩
        case inr => cases hd
        injection hd with hd; subst hd
        have hc0 : cs[0]? = some d' := by
         have h9 : (cs.take size)[0]? = some d' := by rw [hd']; rfl
         rw [He] at h9
         split at h9
         . exact h9
         . cases h9
        cases d' with
        | v z a =>
          have hz : z.one = true /\ x = z := by
           cases z <;> simp only [toV, Gy, reduceCtorEq] at hx <;> first | exact ⟨rfl, hx.symm⟩
          obtain ⟨hz1, rfl⟩ := hz
          have b5C : x.cells = [x] := by cases x <;> first | rfl | cases hz1
          refine ⟨by rw [b5C]; exact hs1.symm, fun y hy => by rw [b5C] at hy; simp at hy; subst hy; exact hz1, fun k y hk => ?_⟩
          rw [b5C] at hk
          have : k = 0 := by have := (FN.1 hk).1; simp at this; omega
          subst this
          simp at hk; subst hk
          exact ⟨a, hc0⟩
        | agg ds =>
          simp [D.one] at T9
        | _ => simp [toV] at hx
      . cases hd
   obtain ⟨e1, e2, e3⟩ := e3h
   refine ⟨by simp [h1], fun y hy => ?_, fun k y hk => ?_⟩
   . rcases GH.1 hy with rfl | hy
     . simp only [b4a, FT, beq_iff_eq, Hg]; exact ⟨e1, e2⟩
     . exact h2 y hy
   . rw [Hb] at hk
     by_cases hlt : k < size
     . rw [Gh (by omega)] at hk
       exact e3 k y hk
     . rw [Gk (by omega), e1] at hk
       obtain ⟨a, h6⟩ := h3 _ y hk
       rw [Hy, show size + (k - size) = k by omega] at h6
       exact ⟨a, h6⟩
theorem F6 {y : V} {a : Att} {v : FX} (h : RepD E g w dead (.v y a) v) : RepV g w y v := by cases h with | v x a v h ha => exact h
theorem a8M {α : Type} (xs : List α) : ∀ (n k : Nat), (a7K xs n)[k]? = if k < n * xs.length then xs[k % xs.length]? else none
 | 0, k => by simp [a7K]
 | n + 1, k => by
   rw [a7K]
   by_cases h : k < xs.length
   . rw [Gh h, if_pos (by rw [Hh]; omega), Nat.mod_eq_of_lt h]
   . rw [Gk (by omega), a8M xs n]
     rw [Hh, NT]
     have hm : (k - xs.length) % xs.length = k % xs.length := (Nat.mod_eq_sub_mod (by omega)).symm
     rw [hm]
     by_cases h2 : k - xs.length < n * xs.length
     . rw [if_pos h2, if_pos (by omega)]
     . rw [if_neg h2, if_neg (by omega)]
theorem a0t {α : Type} (xs : List α) : ∀ n, (a7K xs n).length = n * xs.length
 | 0 => by simp [a7K]
 | n + 1 => by rw [a7K, FU, a0t xs n, Hh]; omega
theorem b2V (z : Array FX) (n k : Nat) (h : k < n) (hz : 0 < z.size) : (madeCells z n).getD k undef = z.getD (k % z.size) undef := by
 have hm := Nat.mod_lt k hz
 simp [madeCells, Ge, h, hm]
theorem c1P {e : FP} {te : Ty} (hok : TyOK P e te) (hs : 0 < te.size) (n : Nat) : RepL E g w dead (a7K te.zeroDs n) (madeCells te.zero.cells (n * te.size)) := by
 obtain ⟨h1, h2⟩ := a9a (E := E) (g := g) (w := w) (dead := dead) hok
 have hl : te.zeroDs.length = te.size := by simp [Ty.zeroDs, Ty.size]
 refine ⟨by rw [a0t, IZ, hl], fun k y hk => ?_⟩
 rw [a8M, hl] at hk
 split at hk
 . rename_i hlt
   rw [b2V _ _ _ hlt (by rw [h1, hl]; exact hs), h1, hl]
   exact h2 _ y hk
 . cases hk
theorem b7B : ∀ (cs : List D) (l : List UInt8), a8w cs = some l -> l.length = cs.length /\ ∀ (k : Nat) x, l[k]? = some x -> ∃ n a, cs[k]? = some (.v (.int .u8 n) a) /\ x = FR n.toNat
 | [], l, h => by simp only [a8w, Gy] at h; subst h; exact ⟨rfl, fun k x h => by simp at h⟩
 | d :: cs, l, h => by
   unfold a8w at h
   split at h
   . cases ‹_ = ([] : List D)›
   . rename_i n a r heq
     injection heq with e1 e2; subst e1 e2
     split at h
     . rename_i l' hl'
       injection h with h; subst h
       obtain ⟨h1, h2⟩ := b7B cs l' hl'
       refine ⟨by simp [h1], fun k x hk => ?_⟩
       rcases k with _ | k
       . simp at hk; subst hk; exact ⟨n, a, by simp, rfl⟩
       . obtain ⟨n', a', h3, h4⟩ := h2 k x (by simpa using hk); exact ⟨n', a', by simpa using h3, h4⟩
     . cases h
   . cases h
theorem d8x {n : Int} (h : FY.min <= n /\ n <= FY.max) : ((FR n.toNat).toNat : Int) = n := by
 have e1 : Jm .u8 = 0 := by decide
 have e2 : Jn .u8 = 255 := by decide
 rw [e1, e2] at h
 simp [UInt8.toNat_ofNat']
 omega
theorem b2T {m : Mem} (hh : Here T E g w m) (dst : Nat) (t e : FP) {te : Ty} (hte : T e = some te) (len cap : Nat) (row : Array FX) (N7 : row.size = cap * te.size) (hlc : len <= cap) (hcm : cap <= maxLen) (cs : List D) (hcs : cs.length = len * te.size)
 (e0J : ∀ (k : Nat) y, cs[k]? = some y -> RepD E g w dead y (row.getD k undef)) :
 (∀ l : List UInt8, te.size = 1 -> a8w cs = some l -> RepD E (g.at_ w.heap.size (.own (.slot E.d dst) (len * te.size))) (w.alloc (.cells row e)) dead (.v (.bytes l) (.own (.slot dst) e)) (.slice (some ⟨w.heap.size, 0, none⟩) len cap)) /\
 (∀ l : List V, l.length = len -> (∀ x ∈ l, b4a te.size x = true) -> (∀ (k : Nat) y, (l.flatMap V.cells)[k]? = some y -> ∃ a, cs[k]? = some (.v y a)) -> RepD E (g.at_ w.heap.size (.own (.slot E.d dst) (len * te.size))) (w.alloc (.cells row e)) dead (.v (.sl e l) (.own (.slot dst) e)) (.slice (some ⟨w.heap.size, 0, none⟩) len cap)) := by
 have hge : g.sz e = te.size := by rw [hh.sz]; simp [U5, hte]
 have b5U : (w.alloc (.cells row e)).heap[w.heap.size]? = some (.cells row e (0, 0)) := Hf w _
 have hown : AttOK E (g.at_ w.heap.size (.own (.slot E.d dst) (len * te.size))) (w.alloc (.cells row e)) dead (.own (.slot dst) e) (.slice (some ⟨w.heap.size, 0, none⟩) len cap) :=
  .inr ⟨trivial, .inr ⟨w.heap.size, len, cap, row, rfl, by rw [G.at_eq]; show _ = Perm.own (.slot E.d dst) (len * g.sz e); rw [hge], b5U, hlc, hcm, by show row.size = cap * g.sz e; rw [hge]; exact N7⟩⟩
 have hle : len * te.size <= cap * te.size := Ic _ hlc
 have R7 : ∀ k, k < len * te.size -> s5 (g.at_ w.heap.size (.own (.slot E.d dst) (len * te.size))) w.heap.size (0 + k) /\ (w.alloc (.cells row e)).cell? ⟨w.heap.size, 0 + k, none⟩ = some (row.getD k undef) := fun k hk => by
  refine ⟨by unfold s5; rw [G.at_eq]; simpa using hk, ?_⟩
  rw [GA _ _ _ _ _ _ b5U]
  simp [Ge, (by omega : k < row.size)]
 have hk := Y3 (E := E) (g := g) (dead := dead) (Grows.alloc w (.cells row e)) (FW _) (.own (.slot E.d dst) (len * te.size))
 refine ⟨fun l h1 h2 => ?_, fun l h1 h2 h3 => ?_⟩
 . obtain ⟨h4, h5⟩ := b7B cs l h2
   refine .v _ _ _ (.bytes l _ _ _ (by rw [h4, hcs, h1, HW]) hlc hcm fun k x hkx => ?_) hown
   obtain ⟨n, a, h6, rfl⟩ := h5 k x hkx
   have hlt := (FN.1 h6).1
   obtain ⟨b1, b2⟩ := R7 k (by omega)
   refine ⟨w.heap.size, 0, rfl, b1, ?_⟩
   rw [b2]
   obtain ⟨h8, h9⟩ := (e0J k _ h6).int_inv
   rw [h8, d8x h9]
 . refine .v _ _ _ (.sl e l _ _ _ (fun k => row.getD k undef) h1 hlc hcm (fun x hx => by show b4a (g.sz e) x = true; rw [hge]; exact h2 x hx) (fun k y hky => ?_) (fun k y hky => ?_)) hown
   . have hlt := (FN.1 hky).1
     rw [a8l (fun x hx => (U9 (h2 x hx)).1), h1] at hlt
     obtain ⟨b1, b2⟩ := R7 k hlt
     exact ⟨w.heap.size, 0, rfl, b1, b2⟩
   . obtain ⟨a, h6⟩ := h3 k y hky
     exact (F6 (e0J k _ h6)).later hk.later
theorem a9S (hT : D7 P T) {m : Mem} (hh : Here T E g w m) (dst : Nat) (t : FP) (len cap : D) (vl vc : FX) (hl : RepD E g w dead len vl) (hc : RepD E g w dead cap vc) {K : D -> Option R} {r : R} (h : a0f T dst t len cap K = some r) :
 ∃ v w' p d, (Instr.makeSlice t vl vc).run P w = .ok v w' /\ Grows w w' /\ RepD E (g.at_ w.heap.size p) w' dead d v /\ K d = some r := by
 unfold a0f at h
 split at h
 case h_2 => cases h
 rename_i ty kl l al kc c ac hty
 have hokS := hT _ _ hty
 split at h
 case h_2 => cases h
 rename_i e C9
 have hdS := hokS.desc
 rw [C9] at hdS
 split at h
 case h_2 => cases h
 rename_i te hte
 have hok := hT _ _ hte
 obtain ⟨i, hi, hz, hsi, hby⟩ := hok.info
 rcases j8 h with ⟨_, h⟩ | ⟨hnz, h⟩
 . cases h
 simp only [GI] at hnz
 have hs0 : 0 < te.size := by
  rcases GJ te.size with h0 | h0
  . rw [h0] at hnz; simp at hnz
  . exact h0
 have hb0 : 0 < te.nbytes := by
  rcases GJ te.nbytes with h0 | h0
  . rw [h0] at hnz; simp at hnz
  . exact h0
 obtain ⟨hb, h⟩ := F7 h
 simp only [FT, decide_eq_true_eq] at hb
 obtain ⟨b1, b2, b3⟩ := hb
 obtain ⟨rfl, _⟩ := hl.int_inv
 obtain ⟨rfl, _⟩ := hc.int_inv
 have b4 : c <= 140737488355328 := by
  have hm : c * 1 <= c * te.nbytes := Int.mul_le_mul_of_nonneg_left (by omega) (by omega)
  omega
 have L7 := run_make (P := P) w t e i te.zero hdS hi hz kl kc l c b1 b2 (by rw [hby, Int.mul_comm]; omega) (by omega)
 rw [hsi] at L7
 have hmr := c1P (E := E) (g := g) (w := w) (dead := dead) hok hs0 l.toNat
 have e7c : ∀ (k : Nat) y, (a7K te.zeroDs l.toNat)[k]? = some y -> RepD E g w dead y ((madeCells te.zero.cells (c.toNat * te.size)).getD k undef) := fun k y hk => by
  have hlt := (FN.1 hk).1
  rw [a0t] at hlt
  have hl' : te.zeroDs.length = te.size := by simp [Ty.zeroDs, Ty.size]
  rw [hl'] at hlt
  have hle : l.toNat * te.size <= c.toNat * te.size := Ic _ (by omega)
  have := hmr.2 k y hk
  have e5L : 0 < te.zero.cells.size := by rw [hok.zero_size]; exact hs0
  rw [b2V _ _ _ hlt e5L] at this
  rw [b2V _ _ _ (by omega) e5L]
  exact this
 have hlr : (a7K te.zeroDs l.toNat).length = l.toNat * te.size := by rw [a0t]; simp [Ty.zeroDs, Ty.size]
 obtain ⟨f1, f2⟩ := b2T (dead := dead) hh dst t e hte l.toNat c.toNat (madeCells te.zero.cells (c.toNat * te.size)) (IZ _ _) (by omega) (by unfold maxLen; omega) (a7K te.zeroDs l.toNat) hlr e7c
 split at h
 . rename_i e' c6M
   split at h
   . rename_i e5M
     have a6I : te.size = 1 := by simp [Ty.size, e5M]
     refine ⟨_, _, _, _, L7, Grows.alloc w _, f1 (GX l.toNat 0) a6I ?_, h⟩
     have hz8 : te.zeroDs = [.v (.int .u8 0) .no] := by simp [Ty.zeroDs, e5M, b6v]
     rw [hz8]
     have : ∀ n, a8w (a7K [.v (.int .u8 0) .no] n) = some (GX n 0) := by
      intro n
      induction n with
      | zero => rfl
      | succ n ih =>
        show a8w (.v (.int .u8 0) .no :: a7K [.v (.int .u8 0) .no] n) = _
        simp only [a8w, ih, JM]
        rfl
     exact this _
   . cases h
 . rename_i e' c6M
   split at h
   . rename_i z hz1
     refine ⟨_, _, _, _, L7, Grows.alloc w _, f2 (GX l.toNat z) (by simp) ?_ ?_, h⟩
     . intro x hx
       have := List.eq_of_mem_replicate hx
       subst this
       obtain ⟨_, h2, _⟩ := a6m te.row te.size hok.one 1 te.zeroDs [x] (by simp [Ty.zeroDs, Ty.size]) hz1
       exact h2 x (by simp)
     . intro k y hk
       obtain ⟨_, h2, h3⟩ := a6m te.row te.size hok.one 1 te.zeroDs [z] (by simp [Ty.zeroDs, Ty.size]) hz1
       have hzl := (U9 (h2 z (by simp))).1
       have hfl : ∀ n, (GX n z).flatMap V.cells = a7K z.cells n := by
        intro n
        induction n with
        | zero => rfl
        | succ n ih => rw [JM, Hb, ih]; rfl
       rw [hfl, a8M, hzl] at hk
       split at hk
       . rename_i hlt
         obtain ⟨a, h4⟩ := h3 (k % te.size) y (by simpa using hk)
         refine ⟨a, ?_⟩
         have hl' : te.zeroDs.length = te.size := by simp [Ty.zeroDs, Ty.size]
         rw [a8M, hl', if_pos hlt]; exact h4
       . cases hk
   . cases h
 . cases h
theorem a8K (hT : D7 P T) {m : Mem} (hh : Here T E g w m) (dst : Nat) (t : FP) (len : Nat) (parts : List (Nat × D)) (vparts : Array (Nat × FX)) (hp : RepP E g w dead parts vparts.toList) {K : D -> Option R} {r : R}
 (h : U0 T dst t len parts K = some r) :
 ∃ v w' p d, (Ky t len vparts).run P w = .ok v w' /\ Grows w w' /\ RepD E (g.at_ w.heap.size p) w' dead d v /\ K d = some r := by
 unfold U0 at h
 split at h
 case h_2 => cases h
 rename_i ty hty
 have hokS := hT _ _ hty
 split at h
 case h_2 => cases h
 rename_i e C9
 have hdS := hokS.desc
 rw [C9] at hdS
 split at h
 case h_2 => cases h
 rename_i te hte
 have hok := hT _ _ hte
 obtain ⟨i, hi, hz, hsi, hby⟩ := hok.info
 rcases j8 h with ⟨_, h⟩ | ⟨hnz, h⟩
 . cases h
 simp only [GI, Jj] at hnz
 have hs0 : 0 < te.size := by
  rcases GJ te.size with h0 | h0
  . rw [h0] at hnz; simp at hnz
  . exact h0
 have hlen := Gm hnz.2
 have hl1 : len <= len * te.size := ID _ hs0
 split at h
 case h_2 => cases h
 rename_i cs hcs
 have hpp := RepP.map_ (f := D.bare) (fun h => h.bare_) hp
 have hmr := c1P (E := E) (g := g) (w := w) (dead := dead) hok hs0 len
 obtain ⟨us, h1, h2⟩ := a1X _ _ _ _ _ cs hpp hmr hcs
 -- what the model does
 have e0H : cs.length = len * te.size := by
  have := h2.1
  have hfs : ∀ (ps : List (Nat × D)) (ds ds' : List D), a6Y (fun i => some (i * te.size, te.size)) ds ps = some ds' -> ds'.length = ds.length := by
   intro ps
   induction ps with
   | nil => intro ds ds' h; simp only [a6Y, Gy] at h; subst h; rfl
   | cons p ps ih =>
     intro ds ds' h
     obtain ⟨i, d⟩ := p
     simp only [a6Y] at h
     rcases j8 h with ⟨_, h⟩ | ⟨_, h⟩
     . rw [ih _ _ h, a2d]
     . cases h
  rw [hfs _ _ _ hcs, a0t]; simp [Ty.zeroDs, Ty.size]
 have L7 : (Ky t len vparts).run P w = .ok (.slice (some ⟨w.heap.size, 0, none⟩) len len) (w.alloc (.cells us e)) := by
  rcases GJ len with h0 | h0
  . subst h0
    have hv : vparts = #[] := by
     have hp0 : vparts.toList = [] := by
      cases hvl : vparts.toList with
      | nil => rfl
      | cons q qs =>
        exfalso
        rw [hvl] at h1
        obtain ⟨j, v⟩ := q
        simp only [KI] at h1
        split at h1
        . cases h1
        . rename_i hn
          simp only [IZ, KJ] at hn
          have : v.cells.size = te.size := by
           by_cases hc : v.cells.size = te.size
           . exact hc
           . exact absurd (by simp [hc]) hn
          exact hn (by simp [this]; omega)
     exact Array.toList_eq_nil_iff.1 hp0
    subst hv
    have hus : us = #[] := by
     simp only [KI, Gy] at h1
     rw [← h1]
     apply IE
     rw [IZ]; simp
    subst hus
    have h00 : ∀ f : Nat -> FX, (Array.range 0).map f = #[] := fun f => by apply IE; simp
    simp [Ky, Gp hdS, sizeOf, typeInfo, hi, newRow, KI]
    rw [h00]
  . refine run_buildSlice (P := P) w t e len vparts us i te.zero hdS hi hz (by rw [hsi]; omega) (by rw [hsi]; have := NS h0 hs0; omega) ?_
    rw [hsi]
    exact h1
 obtain ⟨f1, f2⟩ := b2T (dead := dead) hh dst t e hte len len us (by rw [h2.1, e0H]) (FW _) (by unfold maxLen; omega) cs e0H h2.2
 split at h
 . split at h
   . rename_i l hl
     rcases j8 h with ⟨a6I, h⟩ | ⟨_, h⟩
     . exact ⟨_, _, _, _, L7, Grows.alloc w _, f1 l (FM a6I) hl, h⟩
     . cases h
   . cases h
 . split at h
   . rename_i l hl
     obtain ⟨g1, g2, g3⟩ := a6m te.row te.size hok.one len cs l e0H hl
     exact ⟨_, _, _, _, L7, Grows.alloc w _, f2 l g1 g2 g3, h⟩
   . cases h
 . cases h
end
end En
namespace En
open Go
section
variable {R : Type} {T : FP -> Option Ty}
theorem e6v {α : Type} (c : Bool) (X : Option α) (K : α -> Option R) : (br c X none).bind K = br c (X.bind K) none := by cases c <;> rfl
theorem T1 {α : Type} (c : Bool) (X : Option α) (K : α -> Option R) : (check c X).bind K = check c (X.bind K) := e6v c X K
theorem H4 {α : Type} (c : Bool) (X Y : Option α) (K : α -> Option R) : (cond c X Y).bind K = cond c (X.bind K) (Y.bind K) := by cases c <;> rfl
theorem c4i (op : Ln) (k : HN) (a b : Int) (K : D -> Option R) : (b5R op k a b some).bind K = b5R op k a b K := by
 cases op <;> simp only [b5R, T1, GV]
theorem e1V (op : Ln) (a b : List UInt8) (K : D -> Option R) : (d0c op a b some).bind K = d0c op a b K := by
 cases op <;> simp only [d0c, T1, GV] <;> rfl
theorem d1y (op : Ln) (xt : FP) (yc : Bool) (x y : D) (K : D -> Option R) : (d1d T op xt yc x y some).bind K = d1d T op xt yc x y K := by
 unfold d1d
 split
 . split
   . exact c4i _ _ _ _ _
   . exact c4i _ _ _ _ _
   . split
     . exact c4i _ _ _ _ _
     . rfl
 . exact e1V _ _ _ _
 . split
   . split <;> rfl
   . rfl
 . split
   . unfold b0q
     split
     . rw [H4]; congr 1; split <;> rfl
     . rfl
   . unfold b0q
     split
     . rw [H4]; congr 1; split <;> rfl
     . rfl
   . rfl
 . split
   . split
     . split <;> rfl
     . rfl
   . rfl
theorem e0X (op : UnOp) (x : D) (K : D -> Option R) : (unK op x some).bind K = unK op x K := by
 unfold unK
 split <;> rfl
theorem c7p (src dst : FP) (x : D) (K : D -> Option R) : (b6i T src dst x some).bind K = b6i T src dst x K := by
 unfold b6i
 split
 . split
   . rfl
   . split
     . split
       . rw [T1]; rfl
       . rfl
     . rfl
   . split
     . split
       . rw [T1]; rfl
       . rfl
     . rfl
   . rfl
   . rfl
 . rfl
theorem d4F {α : Type} (x : Option D) (d hi : Nat) (F : Nat -> Option α) (K : α -> Option R) : (a3T x d hi F).bind K = a3T x d hi fun n => (F n).bind K := by
 unfold a3T
 split
 . rfl
 . rw [T1]
 . rfl
theorem b8u {α β : Type} (xs : List α) (lo hi : Option D) (F : List α -> Option β) (K : β -> Option R) : (b5M xs lo hi F).bind K = b5M xs lo hi fun l => (F l).bind K := by
 unfold b5M
 split <;> simp only [d4F]
theorem e2N {R' : Type} (lo hi mx : Option D) (K : Option R) (F : R -> Option R') : (d0z lo hi mx K).bind F = d0z lo hi mx (K.bind F) := by
 unfold d0z
 split
 . rfl
 . split
   . rw [T1]
   . rfl
 . rfl
theorem c2o (t : FP) (x : D) (lo hi mx : Option D) (K : D -> Option R) : (a9E T t x lo hi mx some).bind K = a9E T t x lo hi mx K := by
 unfold a9E
 split
 . rw [e2N]
   congr 1
   split
   . split
     . split
       . rw [H4, b8u]; rfl
       . rfl
     . rfl
   . rfl
 . split
   . split
     . split
       . rw [H4, b8u]; rfl
       . rfl
     . split
       . rw [H4, b8u]; rfl
       . rfl
     . rw [b8u]; rfl
     . rfl
   . rfl
theorem b6d (t : FP) (x i : D) (K : D -> Option R) : (a6h T t x i some).bind K = a6h T t x i K := by
 unfold a6h
 split
 . split
   . split
     . split
       . rw [H4]; rfl
       . rfl
     . rfl
   . rfl
 . rfl
theorem d3C (t : FP) (x : D) (K : D -> Option R) : (c9F T t x some).bind K = c9F T t x K := by
 unfold c9F
 split
 . split
   . rfl
   . rfl
   . rfl
   . rw [T1]; rfl
   . rfl
 . rfl
theorem d5r {α : Type} (i : Int) (n : Nat) (F : Nat -> Option α) (K : α -> Option R) : (inK i n F).bind K = inK i n fun j => (F j).bind K := by
 unfold inK; rw [T1]
theorem e1S {α β : Type} (xs : List α) (i : Nat) (F : α -> Option β) (K : β -> Option R) : (at? xs i F).bind K = at? xs i fun x => (F x).bind K := by
 unfold at?; split <;> rfl
theorem b9e {α : Type} (i : Int) (F : Nat -> Option α) (K : α -> Option R) : ∀ (n j : Nat), (a0p i j n F).bind K = a0p i j n fun j => (F j).bind K
 | 0, j => rfl
 | n + 1, j => by
   simp only [a0p]
   rw [← b9e i F K n (j + 1)]
   cases decide (i = (j : Int)) <;> rfl
theorem d4H {α : Type} (ck : CK) (x : V) (F : V -> Option α) (K : α -> Option R) : (c4o ck x F).bind K = c4o ck x fun y => (F y).bind K := by
 cases ck <;> cases x <;> simp only [c4o, V.unInt, V.unBool, V.unStr, V.unBytes, V.unSl, V.unI, Hm] <;> first
  | rfl
  | (split <;> rfl)
  | (rw [H4]; rfl)
theorem c6S {α : Type} : ∀ (cks : List CK) (xs : List V) (F : List V -> Option α) (K : α -> Option R), (b3y cks xs F).bind K = b3y cks xs fun y => (F y).bind K
 | [], xs, F, K => by cases xs <;> rfl
 | ck :: cks, xs, F, K => by
   cases xs with
   | nil => rfl
   | cons x r =>
     simp only [b3y, e9]
     rw [d4H]
     congr 1
     funext y
     exact c6S cks r _ K
theorem e3T {α : Type} (ty : Ty) (x : V) (F : List V -> Option α) (K : α -> Option R) : (fit ty x F).bind K = fit ty x fun y => (F y).bind K := by
 unfold fit
 split
 . cases x <;> simp only [V.unAgg, Hm]
   exact c6S _ _ _ _
 . exact d4H _ _ _ _
theorem a8b (t : FP) (x i : D) (K : D -> Option R) : (Z1 T t x i some).bind K = Z1 T t x i K := by
 unfold Z1
 split
 . split
   . split
     . rw [H4, d5r]; simp only [e1S]; rfl
     . rfl
   . split
     . rw [H4, d5r]; simp only [e1S, e3T]; rfl
     . rfl
   . split
     . rw [b9e]; rfl
     . rfl
   . split
     . rw [b9e]; rfl
     . rfl
   . rfl
 . rfl
theorem c1a (t : FP) (x i : D) (K : D -> Option R) : (b0l T t x i some).bind K = b0l T t x i K := by
 unfold b0l
 simp only [forceD_eq]
 split
 . split
   . rw [d5r]; simp only [e1S]; rfl
   . split
     . rw [b9e]
       congr 1
       funext j
       split <;> rfl
     . rfl
   . rfl
 . rfl
theorem c1g (t : FP) (x : D) (f : Nat) (K : D -> Option R) : (a9I T t x f some).bind K = a9I T t x f K := by
 unfold a9I
 simp only [forceD_eq]
 split
 . split
   . split
     . split
       . split <;> rfl
       . rfl
     . rfl
   . rfl
 . rfl
theorem a9j (t : FP) (x : D) (f : Nat) (K : D -> Option R) : (Y7 T t x f some).bind K = Y7 T t x f K := by
 unfold Y7
 split
 . split
   . split
     . split
       . rw [H4]
         congr 1
         split <;> rfl
       . rfl
     . rfl
   . rfl
 . rfl
theorem b9W (t : FP) (a : D) (m : Mem) (K : D -> Option R) : (a0J T t a m some).bind K = a0J T t a m K := by
 unfold a0J
 simp only [forceD_eq]
 split
 . split
   . split
     . split
       . rw [H4]; rfl
       . rw [H4]
         congr 1
         split <;> rfl
     . rfl
   . split
     . rw [H4]; rfl
     . rw [H4]
       congr 1
       split <;> rfl
   . rfl
 . rfl
theorem c3d (t : FP) (ps : List (Nat × D)) (K : D -> Option R) : (a9Q T t ps some).bind K = a9Q T t ps K := by
 unfold a9Q
 simp only [forceD_eq]
 split
 . split
   . split
     . split <;> rfl
     . rfl
   . split
     . split <;> rfl
     . rfl
   . rfl
 . rfl
theorem a6C (mx : Bool) (args : List D) (K : D -> Option R) : (a4a mx args some).bind K = a4a mx args K := by
 unfold a4a
 split
 . split <;> rfl
 . rfl
theorem bind_some {α : Type} {X : Option α} {K : α -> Option R} {r : R} (h : X.bind K = some r) : ∃ d, X = some d /\ K d = some r := by
 cases X with
 | none => cases h
 | some d => exact ⟨d, rfl, h⟩
end
end En
end
end Go.Proofs.YtkoilndpfifapaaGreatDoor
