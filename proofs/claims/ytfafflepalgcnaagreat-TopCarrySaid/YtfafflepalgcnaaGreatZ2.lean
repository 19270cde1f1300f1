/- Texts. -/
import Derived.Test.YtfafflepalgcnaaGreatZ1
import Derived.ScopeJumps
import Derived.Orders
import Derived.KernelRfl
import Derived.Test.YtfafflepalgcnaaGreatProg
import Derived.Test.YtfafflepalgcnaaGreatRows
import Derived.Lib.Builder
import Derived.Laws.Externs
import Derived.Lib.Hide
import Derived.Deep.AppendLies
set_option linter.unusedSimpArgs false
set_option linter.unusedVariables false
set_option linter.unusedSectionVars false
open Array renaming getD_eq_getD_getElem? → GL, getElem?_append_left → HF, getElem?_eq_getElem → GQ, mem_toList_iff → LL, length_toList → HZ, getElem?_eq_some_iff → Hr, replicate → Ls, getElem?_replicate → Ju
open Bool renaming false_eq_true → GZ, cond_eq_ite → Hk, or_eq_false_iff → Hw, and_eq_true → GP, not_eq_true' → Ik, false_or → KY, and_eq_false_iff → Lx, not_eq_false' → JT, or_eq_true → JA
open Go renaming TypeId → GF, Operand → Hy, FuncId → Hg, Program → Hb, World → GG, Value → GK, Calls → Hq, step_scope → Kr, wp_cond_false → NA, getD_set_ne → LM, mem_ready → Ks, ResultVar → LP, TypeInfo → LJ, run_underlying → Hc, run_loadVar_mid → MR
open Go.Builtin renaming append_ → Is, lenOf → Kv, firstCells → JU
open Go.Call renaming operands → IE
open Go.Ending renaming returned → JS
open Go.Op renaming operands → Hh
open Go.Result renaming andThen_ok → GT
open Go.Sem renaming run_bind → GY, run_pure → IG
open Go.Value renaming slice → IM, int → JW
open Iff renaming rfl → KV
open List renaming getD_eq_getElem?_getD → GJ, getElem?_set_ne → JH, map → Qv, getElem?_set → KU, getElem?_eq_some_iff → GD, getElem?_append_left → GS, getElem?_append_right → GV, map_cons → Jt, length_map → II, getElem?_map → Hz, mem_cons_of_mem → Hv, getElem?_cons_succ → Jd, getElem?_eq_getElem → GH, mem_cons → Ku, getElem?_eq_none → JD, cons_append → IV, replicate → IX, all_eq_true → Ib, mem_of_getElem? → IC, length_take → HN, eq_nil_of_length_eq_zero → Ja
open Nat renaming add_sub_add_right → Lw, lt_or_ge → Ir, le_refl → GB, beq → GR, eq_of_beq_eq_true → GE, eq_zero_or_pos → HU, ble → Jb, beq_refl → Mh, zero_add → HE, le_of_ble_eq_true → Ha, strongRecOn → Kz, lt_succ_self → Lf, blt → GM, testBit → Ot, testBit_or → Jx, add_comm → Mn, zero_le → Hl
open Option renaming bind_some → Ij, bind_none → Ji, map_eq_some_iff → Hd, getD_some → JK, map_some → MQ
namespace Go.Proofs.YtfafflepalgcnaaGreat
namespace En
open Go
section
variable {R : Type} {T : GF -> Option Ty}
theorem d2B (slots : List D) (dst : Option Nat) (d : D) (K : List D -> Option R) : b8s slots dst d K = K (match dst with | some s => slots.set s (b2V s d) | none => slots) := by
 unfold b8s
 cases dst with
 | none => rfl
 | some s => cases d <;> simp only [W4, a3z, b2V]
def put (slots : List D) (dst : Option Nat) (d : D) : List D := match dst with | some s => slots.set s (b2V s d) | none => slots
theorem U6 (slots : List D) (dst : Option Nat) (d : D) (K : List D -> Option R) : b8s slots dst d K = K (put slots dst d) := d2B slots dst d K
def b6z (x : Nat) (z : Hy) : Prop := z ≠ .tmp x
theorem o0 (slots : List D) (x : Nat) (v : D) (h : GF) (z : Hy) (hz : b6z x z) : C9 T (slots.set x v) h z = C9 T slots h z := by
 cases z with
 | tmp t =>
   have : x ≠ t := fun e => hz (by rw [e])
   simp [C9, GJ, JH this]
 | _ => rfl
theorem a5O {h0 : GF} (slots : List D) (x : Nat) (v : D) : ∀ (ps : List (Nat × Hy)) (K : List (Nat × D) -> Option R), (∀ p ∈ ps, b6z x p.2) -> a0P h0 T (slots.set x v) ps K = a0P h0 T slots ps K
 | [], K, _ => rfl
 | (i, z) :: ps, K, h => by
   simp only [a0P, E7]
   rw [o0 slots x v h0 z (h (i, z) (by simp)), a5O slots x v ps _ (fun p hp => h p (by simp [hp]))]
theorem b7y (slots : List D) (x : Nat) (v : D) (z : Option Hy) (K : Option D -> Option R) (h : ∀ y, z = some y -> b6z x y) : evO T (slots.set x v) z K = evO T slots z K := by
 cases z with
 | none => rfl
 | some z => simp only [evO, E7]; rw [o0 slots x v 0 z (h z rfl)]
theorem b5N (slots : List D) (x : Nat) (v : D) : ∀ (zs : List Hy) (K : List D -> Option R), (∀ z ∈ zs, b6z x z) -> a5C T (slots.set x v) zs K = a5C T slots zs K
 | [], K, _ => rfl
 | z :: zs, K, h => by
   simp only [a5C, E7, forceD_eq]
   rw [o0 slots x v 0 z (h z (by simp)), b5N slots x v zs _ (fun p hp => h p (by simp [hp]))]
theorem a2C (slots : List D) (x : Nat) (v : D) : ∀ (zs : List Hy) (ts : List GF) (K : List D -> Option R), (∀ z ∈ zs, b6z x z) -> a0n T (slots.set x v) ts zs K = a0n T slots ts zs K
 | [], ts, K, _ => by cases ts <;> rfl
 | z :: zs, [], K, h => by
   simp only [a0n, E7, forceD_eq]
   rw [o0 slots x v 0 z (h z (by simp)), a2C slots x v zs [] _ (fun p hp => h p (by simp [hp]))]
 | z :: zs, t :: ts, K, h => by
   simp only [a0n, E7, forceD_eq]
   rw [o0 slots x v t z (h z (by simp)), a2C slots x v zs ts _ (fun p hp => h p (by simp [hp]))]
theorem c5j (dst : Nat) (oty : GF) (slots : List D) (x : Nat) (v : D) (op : Op) (m : Mem) (dead : List Pos) (K : D -> Mem -> List Pos -> Option R) (h : ∀ z ∈ op.operands.toList, b6z x z) :
 opK T dst oty (slots.set x v) op m dead K = opK T dst oty slots op m dead K := by
 cases op <;> simp only [opK, E7]
 case pick c a b =>
  rw [o0 _ _ _ _ _ (h c (by simp [Hh])), o0 _ _ _ _ _ (h a (by simp [Hh])), o0 _ _ _ _ _ (h b (by simp [Hh]))]
 case build t ps => exact a5O _ _ _ _ _ (fun p hp => h p.2 (by simp [Hh]; exact ⟨p.1, by simpa using hp⟩))
 case buildSlice t l ps => exact a5O _ _ _ _ _ (fun p hp => h p.2 (by simp [Hh]; exact ⟨p.1, by simpa using hp⟩))
 case makeFunc fn first caps =>
  cases fn <;> simp only
  split
  . exact b5N _ _ _ _ _ (fun z hz => h z (by simp [Hh]; exact .inr (by simpa using hz)))
  . rename_i y hf
    split
    . rw [o0 _ _ _ _ _ (h y (by
       simp only [Hh, Array.toList_append, List.mem_append]
       exact .inl (by rw [hf]; simp)))]
    . rfl
  . rfl
 case lookup t y i ok =>
  cases ok <;> simp only
  rw [o0 _ _ _ _ _ (h y (by simp [Hh])), o0 _ _ _ _ _ (h i (by simp [Hh]))]
 case store t y z =>
  simp only [forceD_eq]
  rw [o0 _ _ _ _ _ (h y (by simp [Hh])), o0 _ _ _ _ _ (h z (by simp [Hh]))]
 case slice t y lo hi mx =>
  rw [o0 _ _ _ _ _ (h y (by simp [Hh])), b7y _ _ _ _ _ (fun z hz => h z (by simp [Hh, hz]))]
  congr 1
  funext d1
  rw [b7y _ _ _ _ _ (fun z hz => h z (by simp [Hh, hz]))]
  congr 1
  funext d2
  rw [b7y _ _ _ _ _ (fun z hz => h z (by simp [Hh, hz]))]
 case call c =>
  obtain ⟨cal, ⟨args⟩, ⟨ats⟩⟩ := c
  simp only
  split
  . rw [o0 _ _ _ _ _ (h _ (by simp [Hh, IE]))]
  . rw [o0 _ _ _ _ _ (h _ (by simp [Hh, IE])), o0 _ _ _ _ _ (h _ (by simp [Hh, IE]))]
  . rw [o0 _ _ _ _ _ (h _ (by simp [Hh, IE])), o0 _ _ _ _ _ (h _ (by simp [Hh, IE]))]
  . rw [o0 _ _ _ _ _ (h _ (by simp [Hh, IE])), o0 _ _ _ _ _ (h _ (by simp [Hh, IE]))]
  . rfl
 all_goals
  repeat rw [o0 _ _ _ _ _ (h _ (by simp [Hh]))]
theorem runK_set (cx : Cx) (o : Oper) (slots : List D) (x : Nat) (v : D) (m : Mem) (dead : List Pos) (K : Bool -> D -> Mem -> List Pos -> Option R) (h : ∀ z ∈ o.op.operands.toList, b6z x z) :
 runK cx o (slots.set x v) m dead K = runK cx o slots m dead K := by
 unfold runK
 cases hop : o.op <;> simp only
 case call c =>
  rw [hop] at h
  obtain ⟨cal, ⟨args⟩, ⟨ats⟩⟩ := c
  cases cal with
  | builtin b => simp only; exact c5j _ _ _ _ _ _ _ _ _ h
  | value f =>
    simp only [E7]
    rw [o0 _ _ _ _ _ (h f (by simp [Hh, IE]))]
    split
    . exact a2C _ _ _ _ _ _ (fun z hz => h z (by simp [Hh, IE, hz]))
    . exact a2C _ _ _ _ _ _ (fun z hz => h z (by simp [Hh, IE, hz]))
    . rfl
  | invoke f nm =>
    simp only [E7]
    rw [o0 _ _ _ _ _ (h f (by simp [Hh, IE]))]
    split
    . split
      . split
        . exact a2C _ _ _ _ _ _ (fun z hz => h z (by simp [Hh, IE, hz]))
        . rfl
      . rfl
    . rfl
 all_goals exact c5j _ _ _ _ _ _ _ _ _ (by rw [hop] at h; exact h)
theorem b1M {h0 : GF} {α : Type} (slots : List D) : ∀ (ps : List (Nat × Hy)) (F : List (Nat × D) -> Option α) (K : α -> Option R), (a0P h0 T slots ps F).bind K = a0P h0 T slots ps fun l => (F l).bind K
 | [], _, _ => rfl
 | (i, x) :: ps, F, K => by simp only [a0P, E7]; exact b1M slots ps _ K
theorem c9D {α : Type} (slots : List D) (z : Option Hy) (F : Option D -> Option α) (K : α -> Option R) : (evO T slots z F).bind K = evO T slots z fun l => (F l).bind K := by
 cases z <;> simp only [evO, E7]
theorem c5e {α : Type} (slots : List D) : ∀ (ps : List Hy) (F : List D -> Option α) (K : α -> Option R), (a5C T slots ps F).bind K = a5C T slots ps fun l => (F l).bind K
 | [], _, _ => rfl
 | x :: ps, F, K => by simp only [a5C, E7, forceD_eq]; exact c5e slots ps _ K
theorem b7n {α : Type} (slots : List D) : ∀ (zs : List Hy) (ts : List GF) (F : List D -> Option α) (K : α -> Option R), (a0n T slots ts zs F).bind K = a0n T slots ts zs fun l => (F l).bind K
 | [], ts, _, _ => by cases ts <;> rfl
 | x :: ps, [], F, K => by simp only [a0n, E7, forceD_eq]; exact b7n slots ps [] _ K
 | x :: ps, t :: ts, F, K => by simp only [a0n, E7, forceD_eq]; exact b7n slots ps ts _ K
theorem b4p (dst : Nat) (t : GF) (len : Nat) (ps : List (Nat × D)) (K : D -> Option R) : (R9 T dst t len ps some).bind K = R9 T dst t len ps K := by
 unfold R9
 split
 . split
   . split
     . rw [F0]
       congr 1
       split
       . split
         . split
           . rw [F0]; rfl
           . rfl
         . split <;> rfl
         . rfl
       . rfl
     . rfl
   . rfl
 . rfl
theorem b6D (dst : Nat) (t : GF) (l c : D) (K : D -> Option R) : (V2 T dst t l c some).bind K = V2 T dst t l c K := by
 unfold V2
 split
 . split
   . split
     . rw [F0, Q7]
       congr 2
       split
       . split <;> rfl
       . split <;> rfl
       . rfl
     . rfl
   . rfl
 . rfl
def isVal (cx : Cx) (op : Op) : Bool := match w6 cx op with | .n => true | .r => true | .s => true | _ => false
def isN (cx : Cx) (op : Op) : Bool := match w6 cx op with | .n => true | _ => false
end
section
variable {R : Type} {T : GF -> Option Ty}
structure PureB (cx : Cx) : Prop where
 p : ∀ (R : Type) (g : Hg) (ds : List D) (K : List D -> Option R), cx.pureK g ds K = (cx.pureK g ds some).bind K
 s : ∀ (R : Type) (g : Hg) (ds : List D) (m : Mem) (K : List D -> Option R), cx.stillK g ds m K = (cx.stillK g ds m some).bind K
def c5I (T : GF -> Option Ty) (dst : Nat) (oty : GF) (slots : List D) (op : Op) (m : Mem) : Option D := opK T dst oty slots op m [] fun d _ _ => some d
theorem b0S (cx : Cx) (dst : Nat) (oty : GF) (slots : List D) (op : Op) (hv : isVal cx op = true) (m : Mem) (dead : List Pos) (K : D -> Mem -> List Pos -> Option R) :
 opK T dst oty slots op m dead K = (c5I T dst oty slots op m).bind fun d => K d m dead := by
 unfold c5I
 cases op <;> simp only [isVal, w6, reduceCtorEq, GZ] at hv <;> simp only [opK, E7, Ij, Ji]
 case pick c a b =>
  split
  . rename_i x0 a0 heq
    cases x0 <;> simp only [V.unBool, Ji]
    rename_i t
    cases t <;> rfl
  . rfl
 case build t ps =>
  rw [b1M]
  congr 1
  funext l
  rw [← c0c t l fun d => K d m dead]
 case buildSlice t l ps =>
  rw [b1M]
  congr 1
  funext l
  rw [← b4p _ t _ l fun d => K d m dead]
 case load t a => rw [← b8p t _ m fun d => K d m dead]
 case nilCheck x => split <;> rfl
 case binOp => rw [← d0g _ _ _ _ _ fun d => K d m dead]
 case unOp => rw [← d3C _ _ fun d => K d m dead]
 case convert => rw [← c5p _ _ _ fun d => K d m dead]
 case makeInterface t x =>
  split
  . split <;> rfl
  . rfl
 case makeFunc fn first caps =>
  cases fn <;> simp only [Ji]
  split
  . rw [c5e]; rfl
  . split
    . split
      . rw [F0]; rfl
      . rfl
    . rfl
  . rfl
 case lookup t x i ok =>
  cases ok <;> simp only [Ji]
  rw [← b5f _ _ _ fun d => K d m dead]
 case makeSlice => rw [← b6D _ _ _ _ fun d => K d m dead]
 case slice t x lo hi mx =>
  rw [c9D]; congr 1; funext a
  rw [c9D]; congr 1; funext b
  rw [c9D]; congr 1; funext c
  rw [← b9v _ _ _ _ _ fun d => K d m dead]
 case fieldAddr => rw [← a6z _ _ _ fun d => K d m dead]
 case field => rw [← b9f _ _ _ fun d => K d m dead]
 case indexAddr => rw [← a6M _ _ _ fun d => K d m dead]
 case index => rw [← c1C _ _ _ fun d => K d m dead]
 case extract x i =>
  split
  . split
    . simp only [forceD_eq]; rfl
    . rfl
  . rfl
 case call c =>
  obtain ⟨cal, ⟨args⟩, ⟨ats⟩⟩ := c
  simp only
  split
  . rw [← c9w _ _ fun d => K d m dead]
  . simp at hv
  . rw [← a5c _ _ fun d => K d m dead]
  . rw [← a5c _ _ fun d => K d m dead]
  . rfl
theorem c1R (cx : Cx) (dst : Nat) (oty : GF) (slots : List D) (op : Op) (hv : isN cx op = true) (m m' : Mem) : c5I T dst oty slots op m = c5I T dst oty slots op m' := by
 unfold c5I
 cases op <;> simp only [isN, w6, reduceCtorEq, GZ] at hv <;> simp only [opK]
 case makeFunc fn first caps => cases fn <;> rfl
 case call c =>
  obtain ⟨cal, ⟨args⟩, ⟨ats⟩⟩ := c
  simp only
  split
  . rfl
  . simp at hv
  . rfl
  . rfl
  . rfl
def b4k (cx : Cx) (o : Oper) (slots : List D) (m : Mem) : Option D := runK cx o slots m [] fun _ d _ _ => some d
theorem b1V (cx : Cx) (hB : PureB cx) (o : Oper) (slots : List D) (hv : isVal cx o.op = true) (m : Mem) (dead : List Pos) (K : Bool -> D -> Mem -> List Pos -> Option R) :
 runK cx o slots m dead K = (b4k cx o slots m).bind fun d => K false d m dead := by
 unfold b4k runK
 cases hop : o.op <;> simp only
 case call c =>
  rw [hop] at hv
  obtain ⟨cal, ⟨args⟩, ⟨ats⟩⟩ := c
  cases cal with
  | builtin b =>
    simp only
    rw [b0S cx _ _ _ _ hv m dead (K false)]
    rfl
  | value f =>
    cases f <;> simp only [isVal, w6, reduceCtorEq, GZ] at hv
    rename_i f
    simp only [evK]
    rw [b7n]
    congr 1
    funext xs
    simp only [forceL_eq, a6W]
    cases hp : cx.isPure f with
    | true =>
      simp only
      rw [hB.p _ f _ fun rs => K false (c0M rs) m dead, hB.p _ f _ fun rs => some (c0M rs)]
      cases cx.pureK f (xs ++ Qv b4o []) some <;> rfl
    | false =>
      rw [hp] at hv
      cases hs : cx.isStill f with
      | true =>
        simp only [cond_true]
        rw [hB.s _ f _ m fun rs => K false (c0M rs) m dead, hB.s _ f _ m fun rs => some (c0M rs)]
        cases cx.stillK f (xs ++ Qv b4o []) m some <;> rfl
      | false => rw [hs] at hv; simp at hv
  | invoke f nm => simp [isVal, w6] at hv
 all_goals
  rw [hop] at hv
  rw [b0S cx _ _ _ _ hv m dead (K false)]
  rfl
theorem d0n (cx : Cx) (o : Oper) (slots : List D) (x : Nat) (v : D) (m : Mem) (h : ∀ z ∈ o.op.operands.toList, b6z x z) : b4k cx o (slots.set x v) m = b4k cx o slots m :=
 runK_set cx o slots x v m [] _ h
theorem c9J (cx : Cx) (o : Oper) (slots : List D) (hv : isN cx o.op = true) (m m' : Mem) : b4k cx o slots m = b4k cx o slots m' := by
 unfold b4k runK
 cases hop : o.op <;> simp only
 case call c =>
  rw [hop] at hv
  obtain ⟨cal, ⟨args⟩, ⟨ats⟩⟩ := c
  cases cal with
  | builtin b => exact c1R cx _ _ _ _ hv m m'
  | value f =>
    cases f <;> simp only [isN, w6, reduceCtorEq, GZ] at hv
    rename_i f
    simp only [evK]
    congr 1
    funext xs
    simp only [forceL_eq, a6W]
    cases hp : cx.isPure f with
    | true => rfl
    | false => rw [hp] at hv; cases hs : cx.isStill f <;> rw [hs] at hv <;> simp at hv
  | invoke f nm => simp [isN, w6] at hv
 all_goals
  rw [hop] at hv
  exact c1R cx _ _ _ _ hv m m'
def U7 (ops : Array Oper) (o : Oper) (slots : List D) : Option Bool :=
 match o.guard with
 | none => some true
 | some (j, want) => (match a3S ops j with | some s => (match slots.getD s .any with | .v (.bool b) _ => some (b == want) | .tup _ => some false | _ => none) | none => none)
theorem a5y {slots : List D} {s : Nat} {d : D} (h : slots.getD s .any = d) (hd : d ≠ .any) : slots.set s d = slots := by
 apply List.ext_getElem?
 intro k
 rw [KU]
 split
 . rename_i e
   subst e
   rw [GJ] at h
   cases hk : slots[s]? with
   | none => rw [hk] at h; exact absurd h.symm hd
   | some x =>
     rw [hk] at h
     simp at h
     subst h
     have := (GD.1 hk).1
     simp [this]
 . rfl
def a3M (cx : Cx) (b : Bool) (o : Oper) (st : St) (K : St -> Option R) : Option R := match b with | true => a5A cx o st K | false => b6h o st K
theorem L4 (cx : Cx) (ops : Array Oper) (o : Oper) (st : St) (K : St -> Option R) :
 p6 cx ops o st K = match U7 ops o st.slots with | some b => a3M cx b o st K | none => none := by
 unfold p6 U7
 obtain ⟨slots, mem, dead⟩ := st
 cases hg : o.guard with
 | none => rfl
 | some p =>
   obtain ⟨j, want⟩ := p
   simp only
   cases hd : a3S ops j with
   | none => rfl
   | some s =>
     simp only [O7, a3z]
     generalize hx : slots.getD s .any = dx
     cases dx with
     | v x a =>
       cases x with
       | bool b =>
         simp only [V.unBool]
         have c5G : slots.set s (.v (.bool b) a) = slots := a5y hx (by simp)
         cases b <;> cases want <;> simp only [br, cond_true, cond_false, c5G] <;> rfl
       | _ => rfl
     | _ => rfl
end
end En
namespace En
open Go
section
variable {R : Type} {cx : Cx} {ops : Array Oper}
def S6 (cx : Cx) (op : Op) : Bool := match w6 cx op with | .c => false | _ => true
theorem b9e {op : Op} (h : isVal cx op = true) : S6 cx op = true := by
 unfold isVal at h; unfold S6; cases hc : w6 cx op <;> simp [hc] at h ⊢
theorem c6m (o : Oper) (hc : S6 cx o.op = true) (slots : List D) (m : Mem) (dead : List Pos) (K : Bool -> D -> Mem -> List Pos -> Option R) :
 runK cx o slots m dead K = runK cx o slots m dead fun _ => K false := by
 unfold runK
 cases hop : o.op <;> simp only
 case call c =>
  rw [hop] at hc
  obtain ⟨cal, ⟨args⟩, ⟨ats⟩⟩ := c
  cases cal with
  | builtin b => rfl
  | value f =>
    cases f <;> simp only [S6, w6, GZ] at hc
    rename_i f
    cases hp : cx.isPure f with
    | true => simp only [evK, a6W, hp]
    | false =>
      rw [hp] at hc
      cases hs : cx.isStill f with
      | true => simp only [evK, a6W, hp, hs, cond_true]
      | false => rw [hs] at hc; simp at hc
  | invoke f nm => simp [S6, w6] at hc
theorem b4U {slots : List D} {x : Nat} {v : D} {o : Oper} (h : ∀ j w s, o.guard = some (j, w) -> a3S ops j = some s -> s ≠ x) : U7 ops o (slots.set x v) = U7 ops o slots := by
 unfold U7
 cases hg : o.guard with
 | none => rfl
 | some p =>
   obtain ⟨j, w⟩ := p
   simp only
   cases hd : a3S ops j with
   | none => rfl
   | some s =>
     have := h j w s hg hd
     simp only [GJ, JH (Ne.symm this)]
structure Away (ops : Array Oper) (x : Nat) (o : Oper) : Prop where
 reads : ∀ z ∈ o.op.operands.toList, b6z x z
 guard : ∀ j w s, o.guard = some (j, w) -> a3S ops j = some s -> s ≠ x
 dst : o.dst ≠ some x
theorem b0A (slots : List D) (dst : Option Nat) (d : D) (x : Nat) (v : D) (h : dst ≠ some x) : put (slots.set x v) dst d = (put slots dst d).set x v := by
 cases dst with
 | none => rfl
 | some s =>
   simp only [put]
   exact List.set_comm _ _ (fun e => h (by rw [e]))
theorem Y5 (o : Oper) (hc : S6 cx o.op = true) (slots : List D) (m : Mem) (dead : List Pos) (K : St -> Option R) :
 a5A cx o ⟨slots, m, dead⟩ K = runK cx o slots m dead fun _ d m' dead' => K ⟨put slots o.dst d, m', dead'⟩ := by
 simp only [a5A]
 rw [c6m o hc]
 simp only [cond_false, U6]
theorem U5 (o : Oper) (slots : List D) (m : Mem) (dead : List Pos) (K : St -> Option R) : b6h o ⟨slots, m, dead⟩ K = K ⟨put slots o.dst (.tup []), m, dead⟩ := by
 simp only [b6h, U6]
theorem c9H {x : Nat} {o : Oper} (ha : Away ops x o) (hc : S6 cx o.op = true) (slots : List D) (v : D) (m : Mem) (dead : List Pos) (K : St -> Option R) :
 p6 cx ops o ⟨slots.set x v, m, dead⟩ K = p6 cx ops o ⟨slots, m, dead⟩ fun s => K ⟨s.slots.set x v, s.mem, s.dead⟩ := by
 rw [L4, L4, b4U ha.guard]
 cases U7 ops o slots with
 | none => rfl
 | some b =>
   cases b
   . simp only [a3M, U5, b0A _ _ _ _ _ ha.dst]
   . simp only [a3M, Y5 o hc, runK_set cx o slots x v m dead _ ha.reads, b0A _ _ _ _ _ ha.dst]
theorem b3E {o : Oper} (hc : S6 cx o.op = true) (slots : List D) (m : Mem) (dead : List Pos) {K K' : St -> Option R} (h : ∀ d m' dd, K ⟨put slots o.dst d, m', dd⟩ = K' ⟨put slots o.dst d, m', dd⟩) :
 p6 cx ops o ⟨slots, m, dead⟩ K = p6 cx ops o ⟨slots, m, dead⟩ K' := by
 rw [L4, L4]
 cases U7 ops o slots with
 | none => rfl
 | some b =>
   cases b
   . simp only [a3M, U5, h]
   . simp only [a3M, Y5 o hc, h]
def S7 (cx : Cx) (ops : Array Oper) (o : Oper) (slots : List D) (m : Mem) : Option D :=
 match U7 ops o slots with
 | none => none
 | some true => b4k cx o slots m
 | some false => some (.tup [])
theorem C2 (hB : PureB cx) {o : Oper} (hv : isVal cx o.op = true) (slots : List D) (m : Mem) (dead : List Pos) (K : St -> Option R) :
 p6 cx ops o ⟨slots, m, dead⟩ K = (S7 cx ops o slots m).bind fun d => K ⟨put slots o.dst d, m, dead⟩ := by
 rw [L4]
 unfold S7
 cases U7 ops o slots with
 | none => rfl
 | some b =>
   cases b
   . simp only [a3M, U5]; rfl
   . simp only [a3M, Y5 o (b9e hv)]
     rw [b1V cx hB o slots hv]
theorem d0b {x : Nat} {o : Oper} (ha : Away ops x o) (slots : List D) (v : D) (m : Mem) : S7 cx ops o (slots.set x v) m = S7 cx ops o slots m := by
 unfold S7
 rw [b4U ha.guard, d0n cx o slots x v m ha.reads]
theorem a7B {o : Oper} (hv : isN cx o.op = true) (slots : List D) (m m' : Mem) : S7 cx ops o slots m = S7 cx ops o slots m' := by
 unfold S7
 rw [c9J cx o slots hv m m']
theorem a5K {op : Op} (h : isN cx op = true) : isVal cx op = true := by
 unfold isN at h; unfold isVal; cases hc : w6 cx op <;> simp [hc] at h ⊢
theorem T1 {o i : Oper} (ha : ∀ x, o.dst = some x -> Away ops x i) (slots : List D) (d : D) (m : Mem) : S7 cx ops i (put slots o.dst d) m = S7 cx ops i slots m := by
 cases h : o.dst with
 | none => rfl
 | some x => exact d0b (ha x h) slots _ m
theorem a2F {o i : Oper} (ha : ∀ x, o.dst = some x -> Away ops x i) (hc : S6 cx i.op = true) (slots : List D) (d : D) (m : Mem) (dead : List Pos) (K : St -> Option R) :
 p6 cx ops i ⟨put slots o.dst d, m, dead⟩ K = p6 cx ops i ⟨slots, m, dead⟩ fun s => K ⟨put s.slots o.dst d, s.mem, s.dead⟩ := by
 cases h : o.dst with
 | none => rfl
 | some x => exact c9H (ha x h) hc slots _ m dead K
theorem d0h (hB : PureB cx) {x i : Oper} (hx : isVal cx x.op = true) (hi : S6 cx i.op = true) (hxi : ∀ s, x.dst = some s -> Away ops s i) (hix : ∀ s, i.dst = some s -> Away ops s x)
 (hn : isN cx x.op = true ∨ isVal cx i.op = true) (slots : List D) (m : Mem) (dead : List Pos) (K : St -> Option R) :
 p6 cx ops x ⟨slots, m, dead⟩ (fun s => p6 cx ops i s K) = p6 cx ops i ⟨slots, m, dead⟩ (fun s => p6 cx ops x s K) ∨ p6 cx ops x ⟨slots, m, dead⟩ (fun s => p6 cx ops i s K) = none := by
 rw [C2 hB hx]
 cases hd : S7 cx ops x slots m with
 | none => exact .inr rfl
 | some d =>
   refine .inl ?_
   simp only [Ij]
   rw [a2F hxi hi]
   rcases hn with hn | hn
   . refine b3E hi _ _ _ fun e m' dd => ?_
     rw [C2 hB hx, T1 hix, a7B hn slots m' m, hd]
     rfl
   . rw [C2 hB hn, C2 hB hn]
     cases S7 cx ops i slots m with
     | none => rfl
     | some e =>
       simp only [Ij]
       rw [C2 hB hx, T1 hix, hd]
       rfl
theorem c7l (hB : PureB cx) {x i : Oper} (hx : S6 cx x.op = true) (hi : isVal cx i.op = true) (hxi : ∀ s, x.dst = some s -> Away ops s i) (hix : ∀ s, i.dst = some s -> Away ops s x)
 (hn : isN cx i.op = true ∨ isVal cx x.op = true) (slots : List D) (m : Mem) (dead : List Pos) (K : St -> Option R) {e : D} (he : S7 cx ops i slots m = some e) :
 p6 cx ops x ⟨slots, m, dead⟩ (fun s => p6 cx ops i s K) = p6 cx ops i ⟨slots, m, dead⟩ (fun s => p6 cx ops x s K) := by
 rw [C2 hB hi, he]
 simp only [Ij]
 rw [a2F hix hx]
 rcases hn with hn | hn
 . refine b3E hx _ _ _ fun d m' dd => ?_
   rw [C2 hB hi, T1 hxi, a7B hn slots m' m, he]
   rfl
 . rw [C2 hB hn, C2 hB hn]
   cases S7 cx ops x slots m with
   | none => rfl
   | some d =>
     simp only [Ij]
     rw [C2 hB hi, T1 hxi, he]
     rfl
theorem a2V {R : Type} (k : Nat) : ∀ (ds : List D) (dead : List Pos) (K : List D -> List Pos -> Option R) (r : R), N5 k ds dead K = some r -> ∃ cs dd, K cs dd = some r
 | [], dead, K, r, h => ⟨_, _, h⟩
 | d :: ds, dead, K, r, h => by
   unfold N5 at h
   rcases g5 h with ⟨_, h⟩ | ⟨_, h⟩
   . split at h
     . simp only [W4] at h; obtain ⟨_, _, h⟩ := a2V k ds _ _ r h; exact ⟨_, _, h⟩
     . split at h
       . simp only [forceD_eq] at h; obtain ⟨_, _, h⟩ := a2V k ds _ _ r h; exact ⟨_, _, h⟩
       . cases h
   . cases h
end
end En
namespace En
open Go
section
variable {R : Type} {cx : Cx} {ops : Array Oper}
theorem a7d {α : Type} (k : Nat) : ∀ (ds : List D) (dead : List Pos) (F : List D -> List Pos -> Option α) (K : α -> Option R), (N5 k ds dead F).bind K = N5 k ds dead fun a b => (F a b).bind K
 | [], _, _, _ => rfl
 | d :: ds, dead, F, K => by
   unfold N5
   rw [F0]
   congr 1
   split
   . simp only [W4]; exact a7d k ds _ _ K
   . split
     . simp only [forceD_eq]; exact a7d k ds _ _ K
     . rfl
theorem b4M {α : Type} (s : Nat) (t : GF) (ds : List D) (m : Mem) (dead : List Pos) (F : Mem -> List Pos -> Option α) (K : α -> Option R) : (a1C s t ds m dead F).bind K = a1C s t ds m dead fun a b => (F a b).bind K := by
 unfold a1C
 split
 . split
   . rw [a7d]; simp only [B9]
   . rfl
 . rfl
theorem b2e {α : Type} (a : Att) (e : GF) (m : Mem) (dead : List Pos) (F : Mem -> List Pos -> Option α) (K : α -> Option R) : (a1l a e m dead F).bind K = a1l a e m dead fun a b => (F a b).bind K := by
 unfold a1l
 split
 . rw [F0]; rfl
 . rw [F0]
   congr 1
   split
   . rfl
   . split
     . split
       . simp only [a3z, B9]
       . rfl
     . rfl
 . rfl
theorem c1L (cx : Cx) {T : GF -> Option Ty} (dst : Nat) (oty : GF) (slots : List D) (op : Op) (m : Mem) (dead : List Pos) (K : D -> Mem -> List Pos -> Option R) :
 (opK T dst oty slots op m dead fun d m dd => some (d, m, dd)).bind (fun p => K p.1 p.2.1 p.2.2) = opK T dst oty slots op m dead K := by
 cases hv : isVal cx op with
 | true =>
   rw [b0S cx dst oty slots op hv m dead K, b0S cx dst oty slots op hv m dead fun d m dd => some (d, m, dd)]
   cases c5I T dst oty slots op m <;> rfl
 | false =>
   cases op <;> simp only [opK, E7, Ji]
   case alloc t =>
    split
    . rw [b4M]; rfl
    . rfl
   case box t x =>
    split
    . rw [b4M]; rfl
    . rfl
   case store t x y =>
    simp only [forceD_eq]
    unfold b6H
    split
    . split
      . split
        . rw [F0, a7d]
          simp only [a6u, B9]
          rfl
        . rfl
      . rfl
    . rfl
   case call c =>
    obtain ⟨cal, ⟨args⟩, ⟨ats⟩⟩ := c
    simp only
    split
    . simp [isVal, w6] at hv
    . unfold a3d
      split
      . split
        . split
          . split
            . rfl
            . split
              . split
                . rw [F0, b2e]; simp only [Q7]; rfl
                . rfl
              . split
                . rw [F0, b2e]; simp only [Q7]; rfl
                . rfl
              . split
                . rw [F0, b2e]; simp only [Q7]; rfl
                . rfl
              . rfl
          . rfl
        . rfl
      . rfl
    . simp [isVal, w6] at hv
    . simp [isVal, w6] at hv
    . rfl
   all_goals simp [isVal, w6] at hv
theorem d0D (hB : PureB cx) {o : Oper} (hc : S6 cx o.op = true) {slots : List D} {m : Mem} {dead : List Pos} {K : Bool -> D -> Mem -> List Pos -> Option R} {r : R} (h : runK cx o slots m dead K = some r) :
 ∃ d m' dd, K false d m' dd = some r /\ ∀ (R' : Type) (K' : Bool -> D -> Mem -> List Pos -> Option R'), runK cx o slots m dead K' = K' false d m' dd := by
 cases hv : isVal cx o.op with
 | true =>
   rw [b1V cx hB o slots hv] at h
   obtain ⟨d, h1, h⟩ := bind_some h
   refine ⟨d, m, dead, h, fun R' K' => ?_⟩
   rw [b1V cx hB o slots hv, h1]; rfl
 | false =>
   have key : ∀ (op : Op), o.op = op -> (∀ c, op = .call c -> ∃ b, c.callee = .builtin b) -> ∃ d m' dd, K false d m' dd = some r /\ ∀ (R' : Type) (K' : Bool -> D -> Mem -> List Pos -> Option R'), runK cx o slots m dead K' = K' false d m' dd := by
    intro op hop b3O
    have G5 : ∀ (R' : Type) (K' : Bool -> D -> Mem -> List Pos -> Option R'), runK cx o slots m dead K' = opK cx.T (o.dst.getD 0) o.type slots op m dead (K' false) := by
     intro R' K'
     unfold runK
     rw [hop]
     cases op <;> simp only
     rename_i c
     obtain ⟨b, hb⟩ := b3O c rfl
     rw [hb]
    rw [G5, ← c1L cx] at h
    obtain ⟨p, h1, h2⟩ := bind_some h
    refine ⟨p.1, p.2.1, p.2.2, h2, fun R' K' => ?_⟩
    rw [G5, ← c1L cx, h1]; rfl
   refine key o.op rfl fun c hcc => ?_
   rw [hcc] at hc hv
   obtain ⟨cal, args, ats⟩ := c
   cases cal with
   | builtin b => exact ⟨b, rfl⟩
   | value f =>
     exfalso
     cases f <;> simp only [S6, w6, GZ] at hc
     rename_i f
     cases hp : cx.isPure f with
     | true => simp [isVal, w6, hp] at hv
     | false =>
       rw [hp] at hc
       cases hs : cx.isStill f with
       | true => simp [isVal, w6, hp, hs] at hv
       | false => rw [hs] at hc; simp at hc
   | invoke f nm => simp [S6, w6] at hc
theorem Y4 (hB : PureB cx) {o : Oper} (hc : S6 cx o.op = true) {slots : List D} {m : Mem} {dead : List Pos} {K : St -> Option R} {r : R} (h : p6 cx ops o ⟨slots, m, dead⟩ K = some r) :
 ∃ d m' dd, K ⟨put slots o.dst d, m', dd⟩ = some r /\ ∀ (R' : Type) (K' : St -> Option R'), p6 cx ops o ⟨slots, m, dead⟩ K' = K' ⟨put slots o.dst d, m', dd⟩ := by
 rw [L4] at h
 cases hw : U7 ops o slots with
 | none => rw [hw] at h; cases h
 | some b =>
   rw [hw] at h
   cases b
   . simp only [a3M, U5] at h
     exact ⟨_, _, _, h, fun R' K' => by rw [L4, hw]; simp only [a3M, U5]⟩
   . simp only [a3M, Y5 o hc] at h
     obtain ⟨d, m', dd, h1, h2⟩ := d0D hB hc h
     exact ⟨d, m', dd, h1, fun R' K' => by rw [L4, hw]; simp only [a3M, Y5 o hc]; exact h2 R' _⟩
end
section
variable {P : Hb} {T : GF -> Option Ty} {E : Env} {g : G} {w w' : GG} {dead : List Pos}
def RepDs (E : Env) (g : G) (w : GG) (dead : List Pos) (ds : List D) (us : List GK) : Prop := us.length = ds.length /\ ∀ (k : Nat) y, ds[k]? = some y -> RepD E g w dead y (us.getD k undef)
def b0n (us : List GK) : GK := match us with | [u] => u | us => .tuple us.toArray
theorem b1r {rs : List D} {us : List GK} (h : RepDs E g w dead rs us) : RepD E g w dead (c0M rs) (b0n us) := by
 obtain ⟨hl, hr⟩ := h
 match rs, us, hl with
 | [], [], _ => exact .tup [] _ rfl fun k y h => by simp at h
 | [d], [u], _ => exact hr 0 d rfl
 | d :: d' :: rs, u :: u' :: us, hl =>
   refine .tup _ _ (by simpa using hl) fun k y hk => ?_
   simpa using hr k y hk
def a7U (P : Hb) (f : Hg) : Prop := ∀ (args : Array GK) (w : GG), (callFunc f args).run P w = .ok (.enter f args) w
def Perm.still : Perm -> Bool
 | .imm => true
 | .low _ => true
 | _ => false
structure PureTr (g : G) (w : GG) (g' : G) (w' : GG) : Prop where
 grows : Grows w w'
 old : ∀ b, b < w.heap.size -> g'.Γ b = g.Γ b
 new : ∀ b, w.heap.size <= b -> (g'.Γ b).still = true
 J : g'.J = g.J
 sz : g'.sz = g.sz
def F6 (P : Hb) (T : GF -> Option Ty) (f : Hg) (ds rs : List D) : Prop :=
 ∀ (E : Env) (g : G) (w : GG) (us : List GK), SzOK T g w -> RepDs E g w [] ds us ->
  Hq P f us.toArray w fun e w' => ∃ us' g', e = .returned (b0n us') /\ (∀ E' : Env, RepDs E' g' w' [] rs us') /\ PureTr g w g' w'
def b8x (E : Env) (g : G) (w : GG) (E' : Env) (g' : G) (w' : GG) : Prop :=
 Later g w g' w' /\ E'.d = E.d /\ (∀ k s, E.dom k s -> E'.dom k s) /\ (∀ k s, k <= E.d -> E.dom k s -> g'.J (E.d - k) s = g.J (E.d - k) s) /\ (∀ s e v, p8 g w (.slot E.d s) e v -> p8 g' w' (.slot E.d s) e v)
def inner (E : Env) (m : Mem) : Env := { d := E.d + 1, dom := t9 ([] :: m) }
def MemRet (P : Hb) (T : GF -> Option Ty) (f : Hg) (dst : Nat) (ds : List D) (m : Mem) (rs : List D) (m' : Mem) : Prop :=
 ∀ (E : Env) (g : G) (w : GG) (us : List GK), Here T E g w m -> RepDs (inner E m) g w [] ds us ->
  Hq P f us.toArray w fun e w' => ∃ us' g' E', e = .returned (b0n us') /\ b8x E g w E' g' w' /\ Here T E' g' w' m' /\ RepDs E' g' w' [] rs us' /\ Tr E.d g w g' w'
def b7p (P : Hb) (t : GF) (name : String) (f : Hg) : Prop := ∀ (v : GK) (w : GG), (method (P.types.size + Made.depth) t v name).run P w = .ok (f, v) w
def b3h (P : Hb) (T : GF -> Option Ty) (f : Hg) (ds : List D) (m : Mem) (rs : List D) : Prop :=
 ∀ (E : Env) (g : G) (w : GG) (us : List GK), Here T E g w m -> RepDs (inner E m) g w [] ds us -> Hq P f us.toArray w fun e w' => ∃ us' g', e = .returned (b0n us') /\ (∀ E' : Env, RepDs E' g' w' [] rs us') /\ PureTr g w g' w'
structure CxOK (P : Hb) (cx : Cx) : Prop where
 T : p7 P cx.T
 pure : ∀ (R : Type) (g : Hg) (ds : List D) (K : List D -> Option R) (r : R), cx.isPure g = true -> cx.pureK g ds K = some r -> ∃ rs, K rs = some r /\ a7U P g /\ F6 P cx.T g ds rs
 mem : ∀ (R : Type) (g : Hg) (dst : Nat) (ds : List D) (m : Mem) (K : List D -> Mem -> Option R) (r : R), cx.isPure g = false -> cx.isStill g = false -> cx.memK g dst ds m K = some r -> ∃ rs m', K rs m' = some r /\ a7U P g /\ MemRet P cx.T g dst ds m rs m'
 still : ∀ (R : Type) (g : Hg) (ds : List D) (m : Mem) (K : List D -> Option R) (r : R), cx.isStill g = true -> cx.stillK g ds m K = some r -> ∃ rs, K rs = some r /\ a7U P g /\ b3h P cx.T g ds m rs
 B : PureB cx
 meth : ∀ t name f, cx.meth t name = some f -> b7p P t name f
theorem PureTr.later {g' : G} (h : PureTr g w g' w') : Later g w g' w' :=
 ⟨h.sz, fun b o v h1 h2 => by
  have hx := b8h h2
  refine ⟨?_, by rw [cell_of_heap (h.grows.old b hx)]; exact h2⟩
  unfold j9 at h1 ⊢
  rw [h.old b hx]; exact h1, fun b x h1 h2 => by
  have hx := J0 h2
  exact ⟨by rw [h.old b hx]; exact h1, by rw [h.grows.old b hx]; exact h2⟩⟩
theorem PureTr.own {g' : G} (h : PureTr g w g' w') {q : APos} {e : GF} {v : GK} (ho : p8 g w q e v) : p8 g' w' q e v := by
 rcases ho with h0 | ⟨x, n, cap, cur, h1, h2, h3, h4⟩
 . exact .inl h0
 . have hx := J0 h3
   refine .inr ⟨x, n, cap, cur, h1, by rw [h.old x hx, h.sz]; exact h2, by rw [h.grows.old x hx]; exact h3, ?_⟩
   rw [h.sz]; exact h4
theorem PureTr.keeps {g' : G} (h : PureTr g w g' w') : Keeps E g w dead E g' w' dead :=
 ⟨h.later, rfl, fun _ _ h => h, fun _ _ _ _ => by rw [h.J], fun _ h => h, fun _ _ _ _ _ ho => h.own ho⟩
theorem PureTr.here {g' : G} (h : PureTr g w g' w') {m : Mem} (hh : Here T E g w m) : Here T E g' w' m := by
 refine ⟨fun k s b hb => ?_, hh.dom, hh.sk.later h.later, hh.len⟩
 have hr := hh.mem k s b hb
 obtain ⟨us, h1, h2, h3⟩ := hr.heap
 have hx := J0 h1
 refine ⟨hr.le, by rw [h.J, h.old _ hx]; exact hr.perm, us, by rw [h.J, h.grows.old _ hx]; exact h1, h2, fun i c hc => ?_⟩
 obtain ⟨a1, a2, a3, a4⟩ := h3 i c hc
 exact ⟨a1, a2, by rw [h.J]; exact a3, a4.keep h.keeps⟩
theorem PureTr.tr {g' : G} (h : PureTr g w g' w') (d : Nat) : Tr d g w g' w' :=
 ⟨h.grows.os, h.grows.tape, h.grows.output, h.grows.size, h.later, fun b hb _ => ⟨h.old b hb, h.grows.old b hb⟩, fun _ _ _ => by rw [h.J]⟩
theorem N0 (k : Nat) : ∀ (ds : List D) (i : Nat) y, (D.shifts k ds)[i]? = some y -> ∃ z, ds[i]? = some z /\ y = z.shift k
 | [], i, y, h => by simp [D.shifts] at h
 | d :: ds, 0, y, h => by simp [D.shifts] at h; exact ⟨d, by simp, h.symm⟩
 | d :: ds, i + 1, y, h => by
   simp [D.shifts] at h; obtain ⟨z, a, b⟩ := N0 k ds i y h; exact ⟨z, by simpa using a, b⟩
theorem G3 (k : Nat) : ∀ ds : List D, (D.shifts k ds).length = ds.length
 | [] => rfl
 | d :: ds => by simp [D.shifts, G3 k ds]
theorem a5m {m : Mem} {x : D} {v : GK} (h : RepD E g w dead x v) (hd : E.dom = t9 m) : RepD (inner E m) g w [] (b4o x) v := by
 unfold b4o
 induction h with
 | v x a v h ha => exact .v _ _ _ h trivial
 | ptr k s o h1 h2 =>
   have := RepD.ptr (E := inner E m) (g := g) (w := w) (dead := []) (k + 1) s o (by show k + 1 <= E.d + 1; omega) (by
    rw [hd] at h2
    obtain ⟨b, hb⟩ := h2
    exact ⟨b, hb⟩)
   have e : (inner E m).d - (k + 1) = E.d - k := by show E.d + 1 - (k + 1) = _; omega
   rw [e] at this
   exact this
 | nilp => exact .nilp
 | eptr cs o b off us h hr => exact .eptr cs o b off us h hr
 | clos f caps us hn hr ih =>
   refine .clos f _ us (by rw [G3, t6]; exact hn) fun k y hy => ?_
   obtain ⟨z, hz, rfl⟩ := N0 _ _ k y hy
   obtain ⟨z', hz', rfl⟩ := E9 _ k z hz
   exact ih k z' hz'
 | nilF => exact .nilF
 | fn n fs k s v h =>
   refine .fn n fs (k + 1) s v (h.imp fun ⟨h1, h2⟩ => ⟨⟨by show k + 1 <= E.d + 1; omega, ?_⟩, ?_⟩)
   . rw [hd] at h2
     obtain ⟨b, hb⟩ := h2
     exact ⟨b, hb⟩
   . show g.J (E.d + 1 - (k + 1)) s = _
     rw [Lw]
 | bld => exact .bld
 | agg ds us hn hr ih =>
   refine .agg _ us (by rw [G3, t6]; exact hn) fun k y hy => ?_
   obtain ⟨z, hz, rfl⟩ := N0 _ _ k y hy
   obtain ⟨z', hz', rfl⟩ := E9 _ k z hz
   exact ih k z' hz'
 | tup ds us hn hr ih =>
   refine .tup _ us (by rw [G3, t6]; exact hn) fun k y hy => ?_
   obtain ⟨z, hz, rfl⟩ := N0 _ _ k y hy
   obtain ⟨z', hz', rfl⟩ := E9 _ k z hz
   exact ih k z' hz'
 | any v => exact .any v
theorem a0e {R : Type} {m : Mem} {slots : List D} {a : Act} (hd : E.dom = t9 m) (hs : RepS E g w dead slots a) : ∀ (zs : List Hy) (ts : List GF) (K : List D -> Option R) (r : R), a0n T slots ts zs K = some r ->
 ∃ ds, RepDs (inner E m) g w [] ds (zs.map a.eval) /\ K ds = some r
 | [], ts, K, r, h => ⟨[], ⟨rfl, fun k y h => by simp at h⟩, by cases ts <;> exact h⟩
 | z :: zs, [], K, r, h => by
   simp only [a0n, E7, forceD_eq] at h
   obtain ⟨ds, ⟨h1, h2⟩, h3⟩ := a0e hd hs zs [] _ r h
   refine ⟨b4o (C9 T slots 0 z) :: ds, ⟨by simp [h1], fun k y hk => ?_⟩, h3⟩
   rcases k with _ | k
   . simp at hk; subst hk; simpa using a5m (hs.ev 0 z) hd
   . simpa using h2 k y (by simpa using hk)
 | z :: zs, t :: ts, K, r, h => by
   simp only [a0n, E7, forceD_eq] at h
   obtain ⟨ds, ⟨h1, h2⟩, h3⟩ := a0e hd hs zs ts _ r h
   refine ⟨b4o (C9 T slots t z) :: ds, ⟨by simp [h1], fun k y hk => ?_⟩, h3⟩
   rcases k with _ | k
   . simp at hk; subst hk; simpa using a5m (hs.ev t z) hd
   . simpa using h2 k y (by simpa using hk)
theorem RepDs.append {ds ds' : List D} {us us' : List GK} (h : RepDs E g w dead ds us) (h' : RepDs E g w dead ds' us') : RepDs E g w dead (ds ++ ds') (us ++ us') := by
 refine ⟨by simp [h.1, h'.1], fun k y hk => ?_⟩
 rcases Ir k ds.length with hl | hl
 . rw [GS hl] at hk
   have := h.2 k y hk
   rw [GJ, GS (by rw [h.1]; exact hl), ← GJ]
   exact this
 . rw [GV hl] at hk
   have := h'.2 _ y hk
   rw [GJ, GV (by rw [h.1]; exact hl), h.1, ← GJ]
   exact this
structure Sim (T : GF -> Option Ty) (E : Env) (g : G) (w : GG) (st : St) (a : Act) : Prop where
 here : Here T E g w st.mem
 slots : RepS E g w st.dead st.slots a
 size : a.tmps.size = st.slots.length
 defers : a.defers = []
theorem RepS.put_ {slots : List D} {a : Act} (hs : RepS E g w dead slots a) (hsz : a.tmps.size = slots.length) (dst : Option Nat) {d : D} {v : GK} (hd : RepD E g w dead d v) : RepS E g w dead (put slots dst d) (a.put dst v) := by
 cases dst with
 | none => exact hs
 | some s =>
   intro k x hk
   simp only [put, Act.put] at hk ⊢
   rw [KU] at hk
   split at hk
   . rename_i e
     subst e
     split at hk
     . rename_i hlt
       injection hk with hk; subst hk
       have : (a.tmps.setIfInBounds s v).getD s undef = v := by simp [GL, (by omega : s < a.tmps.size)]
       rw [this]
       cases d with
       | v x at_ =>
         cases at_ with
         | nil e =>
           cases hd with | v x a v h ha => exact .v _ _ _ h (.inr ⟨trivial, .inl ha⟩)
         | no => exact hd
         | own p e => exact hd
       | _ => exact hd
     . cases hk
   . rename_i e
     have := hs k x hk
     have e2 : (a.tmps.setIfInBounds s v).getD k undef = a.tmps.getD k undef := by
      simp only [GL]
      rw [Array.getElem?_setIfInBounds_ne e]
     rw [e2]; exact this
theorem a1f (slots : List D) (dst : Option Nat) (d : D) : (put slots dst d).length = slots.length := by cases dst <;> simp [put]
theorem I0 (a : Act) (dst : Option Nat) (v : GK) : (a.put dst v).tmps.size = a.tmps.size := by cases dst <;> simp [Act.put]
theorem P5 (a : Act) (dst : Option Nat) (v : GK) : (a.put dst v).defers = a.defers := by cases dst <;> rfl
def a5t (P : Hb) (T : GF -> Option Ty) (E : Env) (g : G) (w : GG) (a : Act) (o : Oper) (st' : St) : Prop :=
 ∀ (Ok : GK -> GG -> Prop), (∀ v w' g' E', Sim T E' g' w' st' (a.put o.dst v) -> E'.d = E.d -> Tr E.d g w g' w' -> Ok v w') ->
  (∃ v w', Ok v w') /\ ∀ (next : Act -> GG -> Prop) (Q : Exit -> Act -> GG -> Prop), (∀ v w', Ok v w' -> next (a.put o.dst v) w') -> o.wp P a w next Q
theorem b3k {m' : Mem} {dead' : List Pos} {slots : List D} {m : Mem} {a : Act} {o : Oper} {d : D} (hs : Sim T E g w ⟨slots, m, dead⟩ a) (h : Res P T E g w m dead o a d m' dead') : a5t P T E g w a o ⟨put slots o.dst d, m', dead'⟩ := by
 intro Ok hOk
 obtain ⟨v, w', g', E', h1, h2, h3, h4, h5⟩ := h
 have hok := hOk v w' g' E' ⟨h3, RepS.put_ (fun s x hx => (hs.slots s x hx).keep h2) hs.size o.dst h4, by rw [I0, hs.size, a1f], by rw [P5]; exact hs.defers⟩ h2.d h5
 exact ⟨⟨v, w', hok⟩, fun next Q hn => c2v h1 (hn v w' hok)⟩
theorem c7n {o : Oper} {a : Act} {c : Call} (hop : o.op = .call c) {f : Hy} (hf : c.callee = .value f) {g0 : Hg} {caps : Array GK} (hv : a.eval f = .func (.func g0) #[] caps) (hg : a7U P g0) :
 (execOp a.eval o).run P w = .ok (.enter g0 (c.args.map a.eval ++ caps)) w := by
 simp only [execOp, hop, resolve, hf, hv, Deferred.ofValue, GY, IG, GT, invoke]
 have := hg (#[] ++ c.args.map a.eval ++ caps) w
 simpa using this
theorem c3u {o : Oper} {a : Act} {c : Call} (hop : o.op = .call c) {f : Hy} (hf : c.callee = .value f) {g0 : Hg} {u : GK} (hv : a.eval f = .func (.func g0) #[u] #[]) (hg : a7U P g0) :
 (execOp a.eval o).run P w = .ok (.enter g0 (#[u] ++ c.args.map a.eval)) w := by
 simp only [execOp, hop, resolve, hf, hv, Deferred.ofValue, GY, IG, GT, invoke]
 have := hg (#[u] ++ c.args.map a.eval ++ #[]) w
 simpa using this
theorem c0a {o : Oper} {a : Act} {c : Call} (hop : o.op = .call c) {f : Hy} {nm : String} (hf : c.callee = .invoke f nm) {t : GF} {u : GK} (hv : a.eval f = .iface t u) {g0 : Hg} (hm : b7p P t nm g0) (hg : a7U P g0) :
 (execOp a.eval o).run P w = .ok (.enter g0 (#[u] ++ c.args.map a.eval)) w := by
 have h1 := hm u w
 have h2 := hg (#[u] ++ c.args.map a.eval) w
 have hx : (#[a.eval f] ++ c.args.map a.eval).extract 1 (#[a.eval f] ++ c.args.map a.eval).size = c.args.map a.eval := by
  apply Array.ext'
  simp
  exact List.take_of_length_le (by simp)
 simp only [execOp, hop, resolve, hf, GY, IG, GT, invoke]
 have h0 : (#[a.eval f] ++ c.args.map a.eval)[0]? = some (.iface t u) := by rw [HF (by simp), hv]; rfl
 have hp : (program : Sem Hb).run P w = .ok P w := rfl
 simp only [h0, hx, callMethod, GY, hp, GT, h1, h2]
end
end En
namespace En
open Go
section
variable {R : Type} {P : Hb} {T : GF -> Option Ty} {E : Env} {g : G} {w w' : GG} {dead : List Pos}
def a1V (d : D) : D :=
 match d with
 | .v x a => (match a with
   | .own p e => (match p with | .slot g => .v x (.own (.slot g) e) | _ => .v x .no)
   | a => .v x a)
 | d => cond d.noOwn d .any
theorem a2J : ∀ (slots : List D) (K : List D -> Option R), a7R slots K = K (slots.map a1V)
 | [], K => rfl
 | d :: r, K => by
   unfold a7R
   cases d with
   | v x a =>
     cases a with
     | own p e => cases p <;> simp only [a2J r, a1V, Jt]
     | no => simp only [a2J r, a1V, Jt]
     | nil e => simp only [a2J r, a1V, Jt]
   | _ => simp only [a2J r, a1V, Jt]; (first | rfl | (split <;> rfl) | (cases D.noOwn _ <;> rfl))
theorem a6d {E' : Env} {g' : G} (hk : b8x E g w E' g' w') {x : D} {v : GK} (h : RepD E g w dead x v) : x.noOwn = true -> RepD E' g' w' dead x v := by
 obtain ⟨hl, hd, a0l, hJ, _⟩ := hk
 induction h with
 | v x a v h ha =>
   intro hn
   cases a with
   | own p e => simp [D.noOwn] at hn
   | no => exact .v _ _ _ (h.later hl) trivial
   | nil e => exact .v _ _ _ (h.later hl) ha
 | ptr k s o h1 h2 =>
   intro _
   have := hJ k s h1 h2
   rw [← this, ← hd]
   exact .ptr k s o (by rw [hd]; exact h1) (a0l k s h2)
 | nilp => intro _; exact .nilp
 | eptr cs o b off us h hr => intro _; exact .eptr cs o b off us (fun k y hy => hl.st _ _ _ (h k y hy).1 (h k y hy).2) (fun k y hy => (hr k y hy).later hl)
 | clos f caps us hn' hr ih => intro hn; exact .clos f caps us hn' fun i y hy => ih i y hy (I4 _ hn i y hy)
 | nilF => intro _; exact .nilF
 | fn n fs k s v h => intro _; exact .fn n fs k s v (h.imp fun ⟨h1, h2⟩ => ⟨⟨by rw [hd]; exact h1, a0l k s h2⟩, by rw [hd]; exact hJ k s h1 h2⟩)
 | bld => intro _; exact .bld
 | agg ds us hn' hr ih => intro hn; exact .agg ds us hn' fun i y hy => ih i y hy (I4 _ hn i y hy)
 | tup ds us hn' hr ih => intro hn; exact .tup ds us hn' fun i y hy => ih i y hy (I4 _ hn i y hy)
 | any v => intro _; exact .any v
theorem c5S {E' : Env} {g' : G} (hk : b8x E g w E' g' w') {x : D} {v : GK} (h : RepD E g w dead x v) : RepD E' g' w' dead (a1V x) v := by
 cases x with
 | v y a =>
   cases a with
   | no => exact a6d hk h rfl
   | nil e => exact a6d hk h rfl
   | own p e =>
     cases h with
     | v y a v h ha =>
       cases p with
       | cell k s i => exact .v _ _ _ (h.later hk.1) trivial
       | slot s =>
         refine .v _ _ _ (h.later hk.1) ?_
         rcases ha with ha | ⟨_, ha⟩
         . exact .inl ha
         . refine .inr ⟨trivial, ?_⟩
           rw [hk.2.1]
           exact hk.2.2.2.2 s e v ha
 | _ =>
   simp only [a1V, Hk]
   split
   . rename_i hn; exact a6d hk h hn
   . exact .any _
theorem b3p {R : Type} {n : Int} {K : Hg -> Option R} {r : R} : ∀ {fs : List Hg} {j : Nat}, c9z n j fs K = some r -> ∃ (i : Nat) (f : Hg), fs[i]? = some f /\ n = ((j + i : Nat) : Int) + 1 /\ K f = some r
 | [], j, h => by cases h
 | f :: fs, j, h => by
   rcases g5 h with ⟨h1, h2⟩ | ⟨_, h2⟩
   . exact ⟨0, f, rfl, by simpa using h1, h2⟩
   . obtain ⟨i, f', a, b, c⟩ := b3p h2
     exact ⟨i + 1, f', by simpa using a, by rw [b]; omega, c⟩
theorem a9f {st' : St} {a : Act} {o : Oper} {f : Hg} {args : Array GK} (hx : (execOp a.eval o).run P w = .ok (.enter f args) w) {post : GK -> GG -> Prop}
 (hc : Hq P f args w fun e w' => ∃ v, e = .returned v /\ post v w')
 (hp : ∀ v w', post v w' -> ∃ g' E', Sim T E' g' w' st' (a.put o.dst v) /\ E'.d = E.d /\ Tr E.d g w g' w') : a5t P T E g w a o st' := by
 intro Ok hOk
 refine ⟨?_, fun next Q hn => ?_⟩
 . obtain ⟨e, w', fr, ⟨v, _, hpv⟩, _⟩ := hc []
   obtain ⟨g', E', h1, h2, h3⟩ := hp v w' hpv
   exact ⟨v, w', hOk v w' g' E' h1 h2 h3⟩
 . unfold Oper.wp
   rw [hx]
   refine hc.mono fun e w' ⟨v, he, hpv⟩ => ?_
   subst he
   obtain ⟨g', E', h1, h2, h3⟩ := hp v w' hpv
   exact hn v w' (hOk v w' g' E' h1 h2 h3)
theorem a6b {cx : Cx} (hcx : CxOK P cx) {slots : List D} {m : Mem} {a : Act} (hs : Sim cx.T E g w ⟨slots, m, dead⟩ a) {o : Oper} {f : Hg} {ds : List D} {us : List GK}
 (hx : (execOp a.eval o).run P w = .ok (.enter f us.toArray) w ∨ a7U P f -> (execOp a.eval o).run P w = .ok (.enter f us.toArray) w) (hr : RepDs (inner E m) g w [] ds us) {K : St -> Option R} {r : R}
 (h : a6W cx f (o.dst.getD 0) ds m dead (fun c d m' dead' => cond c (a7R slots fun slots => b8s slots o.dst d fun slots => K ⟨slots, m', dead'⟩) (b8s slots o.dst d fun slots => K ⟨slots, m', dead'⟩)) = some r) :
 ∃ st', K st' = some r /\ a5t P cx.T E g w a o st' := by
 unfold a6W at h
 cases hp : cx.isPure f with
 | true =>
   rw [hp] at h
   simp only [cond_false, U6] at h
   obtain ⟨rs, h1, hg, d0U⟩ := hcx.pure _ f ds _ r hp h
   refine ⟨_, h1, a9f (post := fun v w' => ∃ us' g', v = b0n us' /\ (∀ E' : Env, RepDs E' g' w' [] rs us') /\ PureTr g w g' w') (hx (.inr hg)) ((d0U (inner E m) g w us hs.here.sk hr).mono fun e w' ⟨us', g', he, h2, h3⟩ => ⟨_, he, us', g', rfl, h2, h3⟩) ?_⟩
   rintro v w' ⟨us', g', rfl, h2, h3⟩
   refine ⟨g', E, ⟨h3.here hs.here, RepS.put_ (fun s x hx => (hs.slots s x hx).keep h3.keeps) hs.size o.dst (b1r (h2 E)).weaken, by rw [I0, hs.size, a1f], by rw [P5]; exact hs.defers⟩, rfl, h3.tr _⟩
 | false =>
   rw [hp] at h
   cases hq : cx.isStill f with
   | true =>
     rw [hq] at h
     simp only [cond_true, cond_false, U6] at h
     obtain ⟨rs, h1, hg, d0U⟩ := hcx.still _ f ds m _ r hq h
     refine ⟨_, h1, a9f (post := fun v w' => ∃ us' g', v = b0n us' /\ (∀ E' : Env, RepDs E' g' w' [] rs us') /\ PureTr g w g' w') (hx (.inr hg)) ((d0U E g w us hs.here hr).mono fun e w' ⟨us', g', he, h2, h3⟩ => ⟨_, he, us', g', rfl, h2, h3⟩) ?_⟩
     rintro v w' ⟨us', g', rfl, h2, h3⟩
     exact ⟨g', E, ⟨h3.here hs.here, RepS.put_ (fun s x hx => (hs.slots s x hx).keep h3.keeps) hs.size o.dst (b1r (h2 E)).weaken, by rw [I0, hs.size, a1f], by rw [P5]; exact hs.defers⟩, rfl, h3.tr _⟩
   | false =>
   rw [hq] at h
   simp only [cond_true, cond_false, a2J, U6] at h
   obtain ⟨rs, m', h1, hg, d0U⟩ := hcx.mem _ f _ ds m _ r hp hq h
   refine ⟨_, h1, a9f (post := fun v w' => ∃ us' g' E', v = b0n us' /\ b8x E g w E' g' w' /\ Here cx.T E' g' w' m' /\ RepDs E' g' w' [] rs us' /\ Tr E.d g w g' w') (hx (.inr hg)) ((d0U E g w us hs.here hr).mono fun e w' ⟨us', g', E', he, h2, h3, h4, h5⟩ => ⟨_, he, us', g', E', rfl, h2, h3, h4, h5⟩) ?_⟩
   rintro v w' ⟨us', g', E', rfl, h2, h3, h4, h5⟩
   refine ⟨g', E', ⟨h3, RepS.put_ (fun s x hx => ?_) (by rw [II]; exact hs.size) o.dst (b1r h4).weaken, by rw [I0, hs.size, a1f, II], by rw [P5]; exact hs.defers⟩, h2.2.1, h5⟩
   rw [Hz, Hd] at hx
   obtain ⟨z, hz, rfl⟩ := hx
   exact c5S h2 (hs.slots s z hz)
theorem c2q {cx : Cx} (hcx : CxOK P cx) {slots : List D} {m : Mem} {a : Act} (hs : Sim cx.T E g w ⟨slots, m, dead⟩ a) {o : Oper} {K : St -> Option R} {r : R} (h : a5A cx o ⟨slots, m, dead⟩ K = some r) :
 ∃ st', K st' = some r /\ a5t P cx.T E g w a o st' := by
 simp only [a5A] at h
 have plain : ∀ (op : Op), o.op = op -> opK cx.T (o.dst.getD 0) o.type slots op m dead (fun d m' dead' => b8s slots o.dst d fun slots => K ⟨slots, m', dead'⟩) = some r -> ∃ st', K st' = some r /\ a5t P cx.T E g w a o st' := by
  intro op hop h
  subst hop
  obtain ⟨d, m', dead', h1, h2⟩ := c7c hcx.T hs.here hs.slots o h
  rw [U6] at h2
  exact ⟨_, h2, b3k hs h1⟩
 unfold runK at h
 cases hop : o.op <;> rw [hop] at h <;> simp only [cond_false] at h
 case call c =>
  cases b3O : c.callee with
  | builtin b => rw [b3O] at h; exact plain _ hop h
  | value f =>
    rw [b3O] at h
    simp only [E7] at h
    have hf := hs.slots.ev (T := cx.T) 0 f
    generalize hd : C9 cx.T slots 0 f = df at h hf
    cases df <;> simp only [reduceCtorEq] at h
    case fn n fs k s =>
     obtain ⟨ds, h1, h2⟩ := a0e hs.here.dom hs.slots _ _ _ _ h
     obtain ⟨i, g0, hi, hn, h2⟩ := b3p h2
     generalize hv : a.eval f = vf at hf
     cases hf with
     | fn _ _ _ _ _ hfv =>
       rcases hfv with ⟨h0, _⟩ | ⟨i', f', hi', hn', ⟨g1, g2⟩, e⟩
       . omega
       . have : i' = i := by omega
         subst this
         rw [hi] at hi'
         injection hi' with hi'
         subst hi'
         have hrec : RepDs (inner E m) g w [] [.ptr (k + 1) s 0] [.pointer (some ⟨g.J (E.d - k) s, 0, none⟩)] := by
          refine ⟨rfl, fun j z hk => ?_⟩
          have : j = 0 := by have := (GD.1 hk).1; simp at this; omega
          subst this
          simp at hk; subst hk
          exact a5m (.ptr (dead := dead) k s 0 g1 g2) hs.here.dom
         refine a6b hcx hs (ds := .ptr (k + 1) s 0 :: ds) (us := .pointer (some ⟨g.J (E.d - k) s, 0, none⟩) :: c.args.toList.map a.eval) (fun hg => ?_) (hrec.append h1) h2
         rcases hg with hg | hg
         . exact hg
         . rw [c3u hop b3O (by rw [hv, e]) hg]
           congr 2
           simp
    rename_i g0 caps
    simp only [forceL_eq] at h
    obtain ⟨ds, h1, h2⟩ := a0e hs.here.dom hs.slots _ _ _ _ h
    generalize hv : a.eval f = vf at hf
    cases hf with
    | clos _ _ us hn hr =>
      have d6L : RepDs (inner E m) g w [] (caps.map b4o) us.toList := by
       refine ⟨by simpa using hn, fun k y hk => ?_⟩
       rw [Hz, Hd] at hk
       obtain ⟨z, hz, rfl⟩ := hk
       have := a5m (hr k z hz) hs.here.dom
       simpa using this
      refine a6b hcx hs (us := c.args.toList.map a.eval ++ us.toList) (fun hg => ?_) (h1.append d6L) h2
      rcases hg with hg | hg
      . exact hg
      . rw [c7n hop b3O hv hg]
        congr 2
        simp
  | invoke f nm =>
    rw [b3O] at h
    simp only [E7] at h
    have hf := hs.slots.ev (T := cx.T) 0 f
    generalize hd : C9 cx.T slots 0 f = df at h hf
    cases df <;> simp only [reduceCtorEq] at h
    rename_i x at_
    cases x <;> simp only [reduceCtorEq] at h
    rename_i t y
    split at h
    case h_2 => cases h
    rename_i g0 hm
    obtain ⟨ds, h1, h2⟩ := a0e hs.here.dom hs.slots _ _ _ _ h
    generalize hv : a.eval f = vf at hf
    cases hf with
    | v _ _ _ hvv _ =>
    cases hvv with
    | iface t y u hu =>
      have hrec : RepDs (inner E m) g w [] [c4U y] [u] := by
       refine ⟨rfl, fun k z hk => ?_⟩
       have : k = 0 := by have := (GD.1 hk).1; simp at this; omega
       subst this
       simp at hk; subst hk
       unfold c4U
       split
       . rename_i cs
         cases hu with
         | agg cs us hn hr =>
           refine .agg _ us (by simpa using hn) fun k z hk => ?_
           rw [Hz, Hd] at hk
           obtain ⟨z', hz', rfl⟩ := hk
           exact .v _ _ _ (hr k z' hz') trivial
       . exact .v _ _ _ hu trivial
      refine a6b hcx hs (ds := c4U y :: ds) (us := u :: c.args.toList.map a.eval) (fun hg => ?_) (hrec.append h1) h2
      rcases hg with hg | hg
      . exact hg
      . rw [c0a hop b3O hv (hcx.meth _ _ _ hm) hg]
        congr 2
        simp
 all_goals exact plain _ hop h
theorem b1i {cx : Cx} (hcx : CxOK P cx) {ops : Array Oper} {slots : List D} {m : Mem} {a : Act} (hs : Sim cx.T E g w ⟨slots, m, dead⟩ a) {o : Oper} {K : St -> Option R} {r : R} (h : p6 cx ops o ⟨slots, m, dead⟩ K = some r) :
 (Region.wanted o (yielded ops a.tmps) = true /\ ∃ st', K st' = some r /\ a5t P cx.T E g w a o st') ∨
 (Region.wanted o (yielded ops a.tmps) = false /\ ∃ st', K st' = some r /\ Sim cx.T E g w st' (a.put o.dst undef)) := by
 rw [L4] at h
 have hw : ∀ b, U7 ops o slots = some b -> Region.wanted o (yielded ops a.tmps) = b := by
  intro b hb
  unfold U7 at hb
  unfold Region.wanted
  cases hg : o.guard with
  | none => rw [hg] at hb; simpa using hb
  | some p =>
    obtain ⟨j, want⟩ := p
    rw [hg] at hb
    simp only at hb ⊢
    cases hd : a3S ops j with
    | none => rw [hd] at hb; cases hb
    | some s =>
      rw [hd] at hb
      simp only at hb
      split at hb
      . rename_i b' a' hsl
        injection hb with hb; subst hb
        have hx : slots[s]? = some (.v (.bool b') a') := by
         rw [GJ] at hsl
         cases hq : slots[s]? with
         | none => rw [hq] at hsl; cases hsl
         | some z => rw [hq] at hsl; simp at hsl; rw [hsl]
        have hv := (hs.slots s _ hx).bool_inv
        have hlt : s < a.tmps.size := by have := (GD.1 hx).1; have := hs.size; simp only at this; omega
        have hd' : (ops[j]?).bind (·.dst) = some s := by
         unfold a3S at hd
         cases ho : ops[j]? with
         | none => rw [ho] at hd; cases hd
         | some oo => rw [ho] at hd; simpa using hd
        have hy : yielded ops a.tmps j = some b' := by
         unfold yielded
         rw [hd']
         have : a.tmps[s]? = some (.bool b') := by
          rw [GL, GQ hlt] at hv
          rw [GQ hlt]
          simpa using hv
         simp [this]
        rw [hy]
        cases b' <;> cases want <;> rfl
      . rename_i ds' hsl
        injection hb with hb; subst hb
        have hx : slots[s]? = some (.tup ds') := by
         rw [GJ] at hsl
         cases hq : slots[s]? with
         | none => rw [hq] at hsl; cases hsl
         | some z => rw [hq] at hsl; simp at hsl; rw [hsl]
        have hv := hs.slots s _ hx
        have hlt : s < a.tmps.size := by have := (GD.1 hx).1; have := hs.size; simp only at this; omega
        have hd' : (ops[j]?).bind (·.dst) = some s := by
         unfold a3S at hd
         cases ho : ops[j]? with
         | none => rw [ho] at hd; cases hd
         | some oo => rw [ho] at hd; simpa using hd
        have hy : yielded ops a.tmps j = none := by
         unfold yielded
         rw [hd']
         rw [GL, GQ hlt] at hv
         rw [JK] at hv
         generalize hq : a.tmps[s] = q at hv
         have h3 : a.tmps[s]? = some q := by rw [GQ hlt, hq]
         cases hv
         simp [h3]
        rw [hy]
        cases want <;> rfl
      . cases hb
 cases hwv : U7 ops o slots with
 | none => rw [hwv] at h; cases h
 | some b =>
   rw [hwv] at h
   cases b with
   | true => exact .inl ⟨hw _ hwv, c2q hcx hs h⟩
   | false =>
     simp only [a3M, U5] at h
     exact .inr ⟨hw _ hwv, _, h, ⟨hs.here, RepS.put_ hs.slots hs.size o.dst (.tup [] #[] rfl fun k y h => by simp at h), by rw [I0, hs.size, a1f], by rw [P5]; exact hs.defers⟩⟩
end
end En
namespace En
open Go
section
variable {R : Type} {P : Hb} {T : GF -> Option Ty} {E E' : Env} {g g' : G} {w w' : GG} {dead : List Pos}
def G.ren (g : G) (d : Nat) (ρ : Nat -> Option Nat) : G :=
 { g with Γ := fun b => match g.Γ b with
  | .own (.slot d' s) n => if d' = d then (match ρ s with | some s' => .own (.slot d s') n | none => .low n) else .own (.slot d' s) n
  | p => p }
theorem c3y (g : G) (d : Nat) (ρ : Nat -> Option Nat) (b o : Nat) : j9 (g.ren d ρ) b o ↔ j9 g b o := by
 unfold j9 G.ren
 simp only
 cases h : g.Γ b with
 | own p n =>
   cases p with
   | slot d' s =>
     simp only
     by_cases hd : d' = d
     . rw [if_pos hd]; cases ρ s <;> exact KV
     . rw [if_neg hd]
   | cell d' s i => exact KV
 | _ => exact KV
theorem a2A (g : G) (d : Nat) (ρ : Nat -> Option Nat) (w : GG) : Later g w (g.ren d ρ) w := ⟨rfl, fun b o v h1 h2 => ⟨(c3y g d ρ b o).2 h1, h2⟩, fun b x h1 h2 => ⟨by simp only [G.ren, h1], h2⟩⟩
theorem c9e (g : G) (d : Nat) (ρ : Nat -> Option Nat) (w : GG) (d' : Nat) : Tr d' g w (g.ren d ρ) w :=
 ⟨rfl, rfl, rfl, GB _, a2A g d ρ w, fun b _ hi => ⟨by unfold G.ren; simp only; rcases hi with hi | ⟨n, hi⟩ <;> rw [hi], rfl⟩, fun _ _ _ => rfl⟩
theorem c1l {d : Nat} {ρ : Nat -> Option Nat} {q s : Nat} {e : GF} {v : GK} (h : p8 g w (.slot d q) e v) (hρ : ρ q = some s) : p8 (g.ren d ρ) w (.slot d s) e v := by
 rcases h with h0 | ⟨b, n, cap, cur, h1, h2, h3, h4⟩
 . exact .inl h0
 . refine .inr ⟨b, n, cap, cur, h1, ?_, h3, h4⟩
   unfold G.ren
   simp only [h2, if_pos, hρ]
theorem b9h {d : Nat} {ρ : Nat -> Option Nat} {d' s i : Nat} {e : GF} {v : GK} (h : p8 g w (.cell d' s i) e v) : p8 (g.ren d ρ) w (.cell d' s i) e v := by
 rcases h with h0 | ⟨b, n, cap, cur, h1, h2, h3, h4⟩
 . exact .inl h0
 . refine .inr ⟨b, n, cap, cur, h1, ?_, h3, h4⟩
   unfold G.ren
   simp only [h2]
theorem c5E {d : Nat} {ρ : Nat -> Option Nat} {b d' s : Nat} (h : g.Γ b = .box d' s) : (g.ren d ρ).Γ b = .box d' s := by unfold G.ren; simp only [h]
theorem b1s (ok : Nat -> Nat -> Bool) (hl : Later g w g' w') (hd : E'.d = E.d) (a0l : ∀ k s, E.dom k s -> ok k s = true -> E'.dom k s) (hJ : ∀ k s, k <= E.d -> E.dom k s -> ok k s = true -> g'.J (E.d - k) s = g.J (E.d - k) s)
 (okD : D -> Bool) (h1 : ∀ k s o, okD (.ptr k s o) = true -> ok k s = true) (h5 : ∀ n fs k s, okD (.fn n fs k s) = true -> ok k s = true) (h2 : ∀ f caps, okD (.clos f caps) = true -> ∀ (i : Nat) y, caps[i]? = some y -> okD y = true) (h3 : ∀ ds, okD (.agg ds) = true -> ∀ (i : Nat) y, ds[i]? = some y -> okD y = true) (h4 : ∀ ds, okD (.tup ds) = true -> ∀ (i : Nat) y, ds[i]? = some y -> okD y = true)
 {x : D} {v : GK} (h : RepD E g w dead x v) : x.noOwn = true -> okD x = true -> RepD E' g' w' [] x v := by
 induction h with
 | v x a v h ha =>
   intro hn _
   cases a with
   | own p e => simp [D.noOwn] at hn
   | no => exact .v _ _ _ (h.later hl) trivial
   | nil e => exact .v _ _ _ (h.later hl) ha
 | ptr k s o a1 a2 =>
   intro _ ho
   have ho := h1 _ _ _ ho
   have := hJ k s a1 a2 ho
   rw [← this, ← hd]
   exact .ptr k s o (by rw [hd]; exact a1) (a0l k s a2 ho)
 | nilp => intro _ _; exact .nilp
 | eptr cs o b off us h hr => intro _ _; exact .eptr cs o b off us (fun k y hy => hl.st _ _ _ (h k y hy).1 (h k y hy).2) (fun k y hy => (hr k y hy).later hl)
 | clos f caps us hn' hr ih => intro hn ho; exact .clos f caps us hn' fun i y hy => ih i y hy (I4 _ hn i y hy) (h2 _ _ ho i y hy)
 | nilF => intro _ _; exact .nilF
 | fn n fs k s v h =>
   intro _ ho
   have ho := h5 _ _ _ _ ho
   exact .fn n fs k s v (h.imp fun ⟨a1, a2⟩ => ⟨⟨by rw [hd]; exact a1, a0l k s a2 ho⟩, by rw [hd]; exact hJ k s a1 a2 ho⟩)
 | bld => intro _ _; exact .bld
 | agg ds us hn' hr ih => intro hn ho; exact .agg ds us hn' fun i y hy => ih i y hy (I4 _ hn i y hy) (h3 _ ho i y hy)
 | tup ds us hn' hr ih => intro hn ho; exact .tup ds us hn' fun i y hy => ih i y hy (I4 _ hn i y hy) (h4 _ ho i y hy)
 | any v => intro _ _; exact .any v
theorem a1j (ks : List Nat) (k : Nat) : ∀ (ds : List D), hangsL ks k ds = false -> ∀ (i : Nat) y, ds[i]? = some y -> y.hangs ks k = false
 | [], _, i, y, h => by simp at h
 | d :: ds, h, 0, y, hy => by simp only [hangsL, Hw] at h; simp at hy; subst hy; exact h.1
 | d :: ds, h, i + 1, y, hy => by simp only [hangsL, Hw] at h; exact a1j ks k ds h.2 i y (by simpa using hy)
theorem a2E {k s i : Nat} {c : D} {u : GK} (hf : c.flat = true) (h : RepD E g w dead (w4 k s i c) u) (d6M : Pos.cell k s i ∉ dead) (ok : Nat -> Nat -> Bool) (hl : Later g w g' w') (hd : E'.d = E.d) (a0l : ∀ k s, E.dom k s -> ok k s = true -> E'.dom k s)
 (hJ : ∀ k s, k <= E.d -> E.dom k s -> ok k s = true -> g'.J (E.d - k) s = g.J (E.d - k) s) (hown : ∀ e v, p8 g w (.cell (E.d - k) s i) e v -> p8 g' w' (.cell (E.d - k) s i) e v)
 (okD : D -> Bool) (h1 : ∀ k s o, okD (.ptr k s o) = true -> ok k s = true) (h5 : ∀ n fs k s, okD (.fn n fs k s) = true -> ok k s = true) (h2 : ∀ f caps, okD (.clos f caps) = true -> ∀ (i : Nat) y, caps[i]? = some y -> okD y = true) (h3 : ∀ ds, okD (.agg ds) = true -> ∀ (i : Nat) y, ds[i]? = some y -> okD y = true) (h4 : ∀ ds, okD (.tup ds) = true -> ∀ (i : Nat) y, ds[i]? = some y -> okD y = true)
 (hok : okD (c.shift k) = true) (h0 : ∀ x a, okD (.v x a) = true) : RepD E' g' w' [] (w4 k s i c) u := by
 have gen : ∀ {x : D}, RepD E g w dead x u -> x.noOwn = true -> okD x = true -> RepD E' g' w' [] x u := fun hx hn ho => b1s ok hl hd a0l hJ okD h1 h5 h2 h3 h4 hx hn ho
 cases c with
 | v x a =>
   cases a with
   | own p e =>
     cases h with
     | v x a v h ha =>
       refine .v _ _ _ (h.later hl) ?_
       rcases ha with ha | ⟨ha1, ha2⟩
       . exact absurd ha d6M
       . exact .inr ⟨by show k <= E'.d; rw [hd]; exact ha1, by show p8 g' w' (.cell (E'.d - k) s i) e u; rw [hd]; exact hown e u ha2⟩
   | no => exact gen h rfl (h0 _ _)
   | nil e => exact gen h rfl (h0 _ _)
 | bld => exact .any _
 | _ => exact gen h (noOwn_shift k _ hf) hok
theorem d1v {d : Nat} {ρ : Nat -> Option Nat} {m : Mem} (hm : MemRep E g w m) : MemRep E (g.ren d ρ) w m := by
 intro k s b hb
 have hr := hm k s b hb
 obtain ⟨us, h1, h2, h3⟩ := hr.heap
 refine ⟨hr.le, c5E hr.perm, us, h1, h2, fun i c hc => ?_⟩
 obtain ⟨a1, a2, a3, a4⟩ := h3 i c hc
 exact ⟨a1, a2, a3, a2E a2 a4 (by simp) (fun _ _ => true) (a2A g d ρ w) rfl (fun _ _ h _ => h) (fun _ _ _ _ _ => rfl) (fun e v h => b9h h) (fun _ => true) (fun _ _ _ _ => rfl) (fun _ _ _ _ _ => rfl) (fun _ _ _ _ _ _ => rfl) (fun _ _ _ _ _ => rfl) (fun _ _ _ _ _ => rfl) rfl (fun _ _ => rfl)⟩
def M5 (ok : D -> Bool) (dead : List Pos) : List Pos -> List (Nat × D) -> List D
 | _, [] => []
 | seen, (s, d) :: r =>
   match d with
   | .v x a => (match a with
     | .own p e => (match p with
       | .slot g => cond (P7 (.slot g) dead || P7 (.slot g) seen) (.v x .no :: M5 ok dead seen r) (.v x (.own (.slot s) e) :: M5 ok dead (.slot g :: seen) r)
       | _ => .v x .no :: M5 ok dead seen r)
     | a => .v x a :: M5 ok dead seen r)
   | d => cond (ok d) (d :: M5 ok dead seen r) (.any :: M5 ok dead seen r)
def a2M (dead : List Pos) : List Pos -> List (Nat × D) -> Nat -> Option Nat
 | _, [], _ => none
 | seen, (s, d) :: r, q =>
   match d with
   | .v x a => (match a with
     | .own p e => (match p with
       | .slot g => cond (P7 (.slot g) dead || P7 (.slot g) seen) (a2M dead seen r q) (if q = g then some s else a2M dead (.slot g :: seen) r q)
       | _ => a2M dead seen r q)
     | a => a2M dead seen r q)
   | d => a2M dead seen r q
def J5 : Nat -> List D -> List (Nat × D)
 | _, [] => []
 | s, d :: r => (s, d) :: J5 (s + 1) r
theorem a0A (dead : List Pos) : ∀ (l : List D) (s : Nat) (seen : List Pos) (K : List D -> Option R), a3E dead s seen l K = K (M5 D.noOwn dead seen (J5 s l))
 | [], s, seen, K => rfl
 | d :: r, s, seen, K => by
   unfold a3E J5 M5
   cases d with
   | v x a =>
     cases a with
     | own p e =>
       cases p with
       | slot q => simp only [a0A dead r]; cases (P7 (.slot q) dead || P7 (.slot q) seen) <;> rfl
       | cell a b c => simp only [a0A dead r]
     | no => simp only [a0A dead r]
     | nil e => simp only [a0A dead r]
   | _ => simp only [a0A dead r]; (first | rfl | (cases D.noOwn _ <;> rfl))
def a9W (slots : List D) (ks : List Nat) : List (Nat × D) := ks.map fun s => (s, slots.getD s .any)
theorem c1q (all : List Nat) (slots : List D) (dead : List Pos) : ∀ (ks : List Nat) (seen : List Pos) (K : List D -> Option R), a7K all slots dead ks seen K = K (M5 (fun d => d.noOwn && !d.hangs all 0) dead seen (a9W slots ks))
 | [], seen, K => rfl
 | s :: r, seen, K => by
   unfold a7K a9W
   rw [Jt]
   unfold M5
   rw [O7]
   generalize slots.getD s .any = d
   have ih := c1q all slots dead r
   unfold a9W at ih
   cases d with
   | v x a =>
     cases a with
     | own p e =>
       cases p with
       | slot q => simp only [ih]; cases (P7 (.slot q) dead || P7 (.slot q) seen) <;> rfl
       | cell a b c => simp only [ih]
     | no => simp only [ih]
     | nil e => simp only [ih]
   | _ => simp only [ih]; (first | rfl | (cases (D.noOwn _ && !D.hangs all 0 _) <;> rfl))
inductive Hand (ok : D -> Bool) (dead : List Pos) (ρ : Nat -> Option Nat) (s : Nat) : D -> D -> Prop
 | keep (x : V) (a : Att) (h : ∀ p e, a ≠ .own p e) : Hand ok dead ρ s (.v x a) (.v x a)
 | drop (x : V) (a : Att) : Hand ok dead ρ s (.v x a) (.v x .no)
 | own (x : V) (q : Nat) (e : GF) (h : Pos.slot q ∉ dead) (hρ : ρ q = some s) : Hand ok dead ρ s (.v x (.own (.slot q) e)) (.v x (.own (.slot s) e))
 | same (d : D) (h : ok d = true) : Hand ok dead ρ s d d
 | lost (d : D) : Hand ok dead ρ s d .any
theorem a2P (ok : D -> Bool) (dead : List Pos) : ∀ (l : List (Nat × D)) (seen : List Pos), (M5 ok dead seen l).length = l.length /\
 ∀ (k : Nat) s d d', l[k]? = some (s, d) -> (M5 ok dead seen l)[k]? = some d' -> Hand ok dead (fun q => if P7 (.slot q) seen then none else a2M dead seen l q) s d d'
 | [], seen => ⟨rfl, fun k s d d' h => by simp at h⟩
 | (s0, d0) :: r, seen => by
   -- the rest, where no new name was seen
   have plain : ∀ (d1 : D), M5 ok dead seen ((s0, d0) :: r) = d1 :: M5 ok dead seen r -> (∀ q, a2M dead seen ((s0, d0) :: r) q = a2M dead seen r q) -> Hand ok dead (fun q => if P7 (.slot q) seen then none else a2M dead seen ((s0, d0) :: r) q) s0 d0 d1 ->
    (M5 ok dead seen ((s0, d0) :: r)).length = ((s0, d0) :: r).length /\ ∀ (k : Nat) s d d', ((s0, d0) :: r)[k]? = some (s, d) -> (M5 ok dead seen ((s0, d0) :: r))[k]? = some d' -> Hand ok dead (fun q => if P7 (.slot q) seen then none else a2M dead seen ((s0, d0) :: r) q) s d d' := by
    intro d1 h1 h2 h3
    obtain ⟨i1, i2⟩ := a2P ok dead r seen
    rw [h1]
    refine ⟨by simp [i1], fun k s d d' hk hk' => ?_⟩
    rcases k with _ | k
    . simp at hk hk'
      obtain ⟨rfl, rfl⟩ := hk
      subst hk'
      exact h3
    . have := i2 k s d d' (by simpa using hk) (by simpa using hk')
      have e : (fun q => if P7 (.slot q) seen then none else a2M dead seen ((s0, d0) :: r) q) = fun q => if P7 (.slot q) seen then none else a2M dead seen r q := by
       funext q; rw [h2]
      rw [e]; exact this
   cases d0 with
   | v x a =>
     cases a with
     | no => exact plain (.v x .no) rfl (fun _ => rfl) (.keep x .no (by simp))
     | nil e => exact plain (.v x (.nil e)) rfl (fun _ => rfl) (.keep x (.nil e) (by simp))
     | own p e =>
       cases p with
       | cell a b c => exact plain (.v x .no) rfl (fun _ => rfl) (.drop x _)
       | slot g =>
         cases hs : (P7 (.slot g) dead || P7 (.slot g) seen) with
         | true => exact plain (.v x .no) (by simp only [M5, hs, cond_true]) (fun q => by simp only [a2M, hs, cond_true]) (.drop x _)
         | false =>
           have hs' := hs
           simp only [Hw] at hs'
           obtain ⟨i1, i2⟩ := a2P ok dead r (.slot g :: seen)
           have h1 : M5 ok dead seen ((s0, .v x (.own (.slot g) e)) :: r) = .v x (.own (.slot s0) e) :: M5 ok dead (.slot g :: seen) r := by simp only [M5, hs, cond_false]
           have h2 : ∀ q, a2M dead seen ((s0, .v x (.own (.slot g) e)) :: r) q = if q = g then some s0 else a2M dead (.slot g :: seen) r q := fun q => by simp only [a2M, hs, cond_false]
           rw [h1]
           refine ⟨by simp [i1], fun k s d d' hk hk' => ?_⟩
           rcases k with _ | k
           . simp at hk hk'
             obtain ⟨rfl, rfl⟩ := hk
             subst hk'
             refine .own x g e (fun hh => by rw [(a2N _ _).2 hh] at hs'; cases hs'.1) ?_
             simp [hs'.2, h2]
           . have := i2 k s d d' (by simpa using hk) (by simpa using hk')
             have hle : ∀ q s, (if P7 (.slot q) (.slot g :: seen) then none else a2M dead (.slot g :: seen) r q) = some s -> (if P7 (.slot q) seen then none else a2M dead seen ((s0, .v x (.own (.slot g) e)) :: r) q) = some s := by
              intro q s hq
              split at hq
              . cases hq
              . rename_i hn
                have hn' : ¬ (Pos.slot q ∈ Pos.slot g :: seen) := fun hh => hn ((a2N _ _).2 hh)
                have hqg : q ≠ g := fun e0 => hn' (by rw [e0]; simp)
                have hqs : ¬ P7 (.slot q) seen = true := fun hh => hn' (Hv _ ((a2N _ _).1 hh))
                rw [if_neg hqs, h2, if_neg hqg]
                exact hq
             cases this with
             | keep x a h => exact .keep x a h
             | drop x a => exact .drop x a
             | own x q e h hρ => exact .own x q e h (hle _ _ hρ)
             | same d h => exact .same d h
             | lost d => exact .lost d
   | _ =>
     refine (if hok : ok _ = true then plain _ (by simp only [M5, hok, cond_true]) (fun _ => rfl) (.same _ hok) else plain .any (by have hok' := Bool.eq_false_iff.2 hok; simp only [M5, hok', cond_false]) (fun _ => rfl) (.lost _))
theorem c9m {ok : D -> Bool} (hok : ∀ d, ok d = true -> d.noOwn = true) {ρ : Nat -> Option Nat} {s : Nat} {d d' : D} {v : GK} (hh : Hand ok dead ρ s d d') (h : RepD E g w dead d v) : RepD E (g.ren E.d ρ) w [] d' v := by
 have hl := a2A g E.d ρ w
 cases hh with
 | keep x a hn =>
   cases h with
   | v x a v h ha =>
     cases a with
     | own p e => exact absurd rfl (hn p e)
     | no => exact .v _ _ _ (h.later hl) trivial
     | nil e => exact .v _ _ _ (h.later hl) ha
 | drop x a => exact .v _ _ _ ((O0 h).later hl) trivial
 | own x q e hq hρ =>
   cases h with
   | v x a v h ha =>
     refine .v _ _ _ (h.later hl) ?_
     rcases ha with ha | ⟨_, ha⟩
     . exact absurd ha hq
     . exact .inr ⟨trivial, c1l ha hρ⟩
 | same d hn => exact b1s (fun _ _ => true) hl rfl (fun _ _ h _ => h) (fun _ _ _ _ _ => rfl) (fun _ => true) (fun _ _ _ _ => rfl) (fun _ _ _ _ _ => rfl) (fun _ _ _ _ _ _ => rfl) (fun _ _ _ _ _ => rfl) (fun _ _ _ _ _ => rfl) h (hok d hn) rfl
 | lost d => exact .any _
theorem a7T : ∀ (l : List D) (s k : Nat), (J5 s l)[k]? = (l[k]?).map fun d => (s + k, d)
 | [], s, k => by simp [J5]
 | d :: r, s, 0 => by simp [J5]
 | d :: r, s, k + 1 => by
   simp only [J5, Jd]
   rw [a7T r (s + 1) k]
   congr 1
   funext d
   rw [show s + 1 + k = s + (k + 1) by omega]
theorem Q6 : ∀ (l : List D) (s : Nat), (J5 s l).length = l.length
 | [], _ => rfl
 | d :: r, s => by simp [J5, Q6 r]
theorem c1w {st : St} {a : Act} (hs : Sim T E g w st a) {K : St -> Option R} {r : R} (h : b0D st K = some r) : ∃ st' g', K st' = some r /\ Sim T E g' w st' a /\ Tr E.d g w g' w /\ st'.slots.length = st.slots.length := by
 obtain ⟨slots, mem, dead⟩ := st
 unfold b0D at h
 cases dead with
 | nil => exact ⟨_, g, h, hs, Tr.refl _ _ _, rfl⟩
 | cons p q =>
   simp only [a0A] at h
   obtain ⟨h1, h2⟩ := a2P D.noOwn (p :: q) (J5 0 slots) []
   refine ⟨_, _, h, ⟨⟨d1v hs.here.mem, hs.here.dom, hs.here.sk.later (a2A _ _ _ _), hs.here.len⟩, fun k x hk => ?_, by rw [hs.size, h1, Q6], hs.defers⟩, c9e g E.d (fun q' => if P7 (.slot q') [] then none else a2M (p :: q) [] (J5 0 slots) q') w E.d, by show (M5 D.noOwn (p :: q) [] (J5 0 slots)).length = _; rw [h1, Q6]⟩
   have hkl := (GD.1 hk).1
   simp only at hkl
   rw [h1, Q6] at hkl
   have hn : (J5 0 slots)[k]? = some (k, slots[k]) := by rw [a7T, GH hkl]; simp
   exact c9m (fun _ h => h) (h2 k k slots[k] x hn hk) (hs.slots k _ (GH hkl))
def D8 : Nat -> Nat -> List Nat -> List D -> List D
 | 0, _, _, _ => []
 | n + 1, s, k :: ks, d :: ds => cond (GR s k) (d :: D8 n (s + 1) ks ds) (.any :: D8 n (s + 1) (k :: ks) (d :: ds))
 | n + 1, s, ks, ds => .any :: D8 n (s + 1) ks ds
theorem a0X : ∀ (n s : Nat) (ks : List Nat) (ds : List D) (K : List D -> Option R), Y0 n s ks ds K = K (D8 n s ks ds)
 | 0, _, _, _, _ => rfl
 | n + 1, s, [], ds, K => by simp only [Y0, D8, a0X n]
 | n + 1, s, k :: ks, [], K => by simp only [Y0, D8, a0X n]
 | n + 1, s, k :: ks, d :: ds, K => by simp only [Y0, D8, a0X n]; cases GR s k <;> rfl
theorem S9 : ∀ (n s : Nat) (ks : List Nat) (ds : List D), (D8 n s ks ds).length = n
 | 0, _, _, _ => rfl
 | n + 1, s, [], ds => by simp [D8, S9 n]
 | n + 1, s, k :: ks, [] => by simp [D8, S9 n]
 | n + 1, s, k :: ks, d :: ds => by
   unfold D8
   cases GR s k <;> simp [S9 n]
theorem a0c : ∀ (n s : Nat) (ks : List Nat) (ds : List D) (j : Nat) (x : D), (D8 n s ks ds)[j]? = some x -> x = .any ∨ ∃ i : Nat, ks[i]? = some (s + j) /\ ds[i]? = some x
 | 0, s, ks, ds, j, x, h => by simp [D8] at h
 | n + 1, s, [], ds, j, x, h => by
   rcases j with _ | j
   . simp [D8] at h; exact .inl h.symm
   . have := a0c n (s + 1) [] ds j x (by simpa [D8] using h)
     rcases this with h | ⟨i, h1, h2⟩
     . exact .inl h
     . simp at h1
 | n + 1, s, k :: ks, [], j, x, h => by
   rcases j with _ | j
   . simp [D8] at h; exact .inl h.symm
   . have := a0c n (s + 1) (k :: ks) [] j x (by simpa [D8] using h)
     rcases this with h | ⟨i, h1, h2⟩
     . exact .inl h
     . simp at h2
 | n + 1, s, k :: ks, d :: ds, j, x, h => by
   unfold D8 at h
   cases hb : GR s k with
   | true =>
     obtain rfl := GE hb
     rw [hb, cond_true] at h
     rcases j with _ | j
     . simp at h; exact .inr ⟨0, by simp, by simp [h]⟩
     . rcases a0c n (s + 1) ks ds j x (by simpa using h) with h | ⟨i, h1, h2⟩
       . exact .inl h
       . exact .inr ⟨i + 1, by rw [Jd, h1]; congr 1; omega, by simpa using h2⟩
   | false =>
     rw [hb, cond_false] at h
     rcases j with _ | j
     . simp at h; exact .inl h.symm
     . rcases a0c n (s + 1) (k :: ks) (d :: ds) j x (by simpa using h) with h | ⟨i, h1, h2⟩
       . exact .inl h
       . exact .inr ⟨i, by rw [h1]; congr 1; omega, h2⟩
theorem a8R (ks : List Nat) : ∀ (fr : Fr) (K : Fr -> Option R) (r : R), c0T ks fr K = some r -> ∃ fr', K fr' = some r /\ ∀ s, D7 s fr' = (if b3e s ks = true then D7 s fr else none) /\ ∀ b, D7 s fr' = some b -> hangsL ks 0 b.cells = false
 | [], K, r, h => ⟨[], h, fun s => ⟨by simp [D7], fun b hb => by simp [D7] at hb⟩⟩
 | (s, b) :: fr, K, r, h => by
   unfold c0T at h
   rcases g5 h with ⟨hc, h⟩ | ⟨hc, h⟩
   . simp only [GP, Ik] at hc
     obtain ⟨fr', h1, h2⟩ := a8R ks fr _ r h
     refine ⟨(s, b) :: fr', h1, fun t => ?_⟩
     rw [I6, I6]
     by_cases ht : t = s
     . subst ht
       simp only [if_true, hc.1]
       exact ⟨trivial, fun b' hb' => by injection hb' with hb'; subst hb'; exact hc.2⟩
     . simp only [ht, if_false]
       exact h2 t
   . rcases g5 h with ⟨hc2, h⟩ | ⟨hc2, h⟩
     . cases h
     . obtain ⟨fr', h1, h2⟩ := a8R ks fr _ r h
       refine ⟨fr', h1, fun t => ?_⟩
       rw [I6]
       by_cases ht : t = s
       . subst ht
         have := h2 t
         simp only [hc2, GZ, if_false] at this ⊢
         exact this
       . simp only [ht, if_false]
         exact h2 t
mutual
theorem b0h (ks : List Nat) (k : Nat) : ∀ d : D, d.hangs ks 0 = false -> (d.shift k).hangs ks 0 = false
 | .v _ _, _ => rfl
 | .ptr k' s o, h => by
   simp only [D.shift, D.hangs] at h ⊢
   rcases HU (k' + k) with h0 | h0
   . have : k' = 0 := by omega
     subst this
     rw [show 0 + k = 0 by omega]; exact h
   . rw [a6a (by omega)]; rfl
 | .nilp, _ => rfl
 | .eptr _ _, _ => rfl
 | .clos f caps, h => hangsL_shift ks k caps h
 | .nilF, _ => rfl
 | .fn n fs k' s, h => by
   simp only [D.shift, D.hangs] at h ⊢
   rcases HU (k' + k) with h0 | h0
   . have : k' = 0 := by omega
     subst this
     rw [show 0 + k = 0 by omega]; exact h
   . rw [a6a (by omega)]; rfl
 | .bld, _ => rfl
 | .agg ds, h => hangsL_shift ks k ds h
 | .tup ds, h => hangsL_shift ks k ds h
 | .any, _ => rfl
theorem hangsL_shift (ks : List Nat) (k : Nat) : ∀ ds : List D, hangsL ks 0 ds = false -> hangsL ks 0 (D.shifts k ds) = false
 | [], _ => rfl
 | d :: ds, h => by
   simp only [hangsL, Hw] at h
   simp only [D.shifts, hangsL, Hw]
   exact ⟨b0h ks k d h.1, hangsL_shift ks k ds h.2⟩
end
mutual
theorem b6t (ks : List Nat) (k : Nat) : ∀ d : D, (d.shift (k + 1)).hangs ks 0 = false
 | .v _ _ => rfl
 | .ptr k' s o => by simp only [D.shift, D.hangs]; rw [a6a (by omega)]; rfl
 | .nilp => rfl
 | .eptr _ _ => rfl
 | .clos f caps => hangsL_out ks k caps
 | .nilF => rfl
 | .fn n fs k' s => by simp only [D.shift, D.hangs]; rw [a6a (by omega)]; rfl
 | .bld => rfl
 | .agg ds => hangsL_out ks k ds
 | .tup ds => hangsL_out ks k ds
 | .any => rfl
theorem hangsL_out (ks : List Nat) (k : Nat) : ∀ ds : List D, hangsL ks 0 (D.shifts (k + 1) ds) = false
 | [] => rfl
 | d :: ds => by
   simp only [D.shifts, hangsL, Hw]
   exact ⟨b6t ks k d, hangsL_out ks k ds⟩
end
def a0i (ks : List Nat) : Fr -> Fr
 | [] => []
 | (s, b) :: r => cond (b3e (s + 100000) ks) ((s, ⟨b.ty, b.cells.map c8r⟩) :: a0i ks r) ((s, b) :: a0i ks r)
theorem c0Y (ks : List Nat) : ∀ (fr : Fr) (K : Fr -> Option R), c1G ks fr K = K (a0i ks fr)
 | [], K => rfl
 | (s, b) :: r, K => by
   unfold c1G a0i
   simp only [forceL_eq, c0Y ks r]
   cases b3e (s + 100000) ks <;> rfl
theorem a6m (ks : List Nat) (t : Nat) : ∀ (fr : Fr), (D7 t (a0i ks fr) = none ↔ D7 t fr = none) /\ ∀ b', D7 t (a0i ks fr) = some b' -> ∃ b, D7 t fr = some b /\ b'.ty = b.ty /\ (b'.cells = b.cells ∨ b'.cells = b.cells.map c8r)
 | [] => ⟨KV, fun b' h => by cases h⟩
 | (s, b) :: r => by
   obtain ⟨i1, i2⟩ := a6m ks t r
   unfold a0i
   cases b3e (s + 100000) ks with
   | true =>
     simp only [cond_true, I6]
     by_cases h : t = s
     . simp only [h, if_true]
       exact ⟨by simp, fun b' hb => by injection hb with hb; subst hb; exact ⟨b, rfl, rfl, .inr rfl⟩⟩
     . simp only [h, if_false]; exact ⟨i1, i2⟩
   | false =>
     simp only [cond_false, I6]
     by_cases h : t = s
     . simp only [h, if_true]
       exact ⟨by simp, fun b' hb => by injection hb with hb; subst hb; exact ⟨b, rfl, rfl, .inl rfl⟩⟩
     . simp only [h, if_false]; exact ⟨i1, i2⟩
theorem Sim.weak {slots : List D} {fr : Fr} {out : Mem} {a : Act} (ks : List Nat) (hs : Sim T E g w ⟨slots, fr :: out, dead⟩ a) : Sim T E g w ⟨slots, a0i ks fr :: out, dead⟩ a := by
 refine ⟨⟨fun k s b' hb => ?_, ?_, hs.here.sk, hs.here.len⟩, hs.slots, hs.size, hs.defers⟩
 . rcases k with _ | k
   . obtain ⟨b, h1, h2, h3⟩ := (a6m ks s fr).2 b' hb
     have hr := hs.here.mem 0 s b h1
     rcases h3 with h3 | h3
     . have : b' = b := by cases b; cases b'; simp_all
       rw [this]; exact hr
     . obtain ⟨us, b1, b2, b3⟩ := hr.heap
       refine ⟨hr.le, hr.perm, us, by rw [h2]; exact b1, by rw [b2, h3]; simp, fun i c' hc => ?_⟩
       rw [h3, Hz, Hd] at hc
       obtain ⟨c, hc, rfl⟩ := hc
       obtain ⟨a1, a2, a3, a4⟩ := b3 i c hc
       cases c with
       | v x at_ =>
         cases at_ with
         | own p e =>
           refine ⟨a1, rfl, fun e => (by cases e), ?_⟩
           exact .v _ _ _ (O0 a4) trivial
         | no => exact ⟨a1, a2, a3, a4⟩
         | nil e => exact ⟨a1, a2, a3, a4⟩
       | _ => exact ⟨a1, a2, a3, a4⟩
   . exact hs.here.mem (k + 1) s b' hb
 . rw [hs.here.dom]
   funext k s
   rcases k with _ | k
   . have h1 := (a6m ks s fr).1
     have e1 : t9 (fr :: out) 0 s = ∃ b, D7 s fr = some b := rfl
     have e2 : t9 (a0i ks fr :: out) 0 s = ∃ b, D7 s (a0i ks fr) = some b := rfl
     rw [e1, e2]
     cases ha : D7 s fr with
     | none => rw [h1.2 ha]
     | some x =>
       cases hb : D7 s (a0i ks fr) with
       | none => rw [h1.1 hb] at ha; cases ha
       | some y => simp
   . rfl
theorem a4I (slots : List D) : ∀ (ks : List Nat) (dead : List Pos) (K : List Pos -> Option R), a8x slots ks dead K = K (a7q slots ks dead)
 | [], dead, K => rfl
 | k :: ks, dead, K => by
   unfold a8x a7q
   rw [O7]
   cases Jb 200000 k with
   | false => exact a4I slots ks dead K
   | true =>
     simp only [cond_true]
     generalize slots.getD (k - 200000) .any = d
     cases d with
     | v x a => cases a <;> simp only [a4I slots ks]
     | _ => exact a4I slots ks dead K
theorem b5o (slots : List D) {p : Pos} : ∀ (ks : List Nat) (dead : List Pos), p ∈ dead -> p ∈ a7q slots ks dead
 | [], dead, h => h
 | k :: ks, dead, h => by
   have ih := b5o slots ks dead h
   unfold a7q
   cases Jb 200000 k with
   | false => exact ih
   | true =>
     simp only [cond_true]
     split
     . exact Hv _ ih
     . exact ih
theorem a5V {slots : List D} {m : Mem} {a : Act} (hs : Sim T E g w ⟨slots, m, dead⟩ a) {ks : List Nat} {K : List D -> Mem -> Option R} {r : R} (h : b4R ks ⟨slots, m, dead⟩ K = some r) :
 ∃ ds m' g' E', K ds m' = some r /\ Sim T E' g' w ⟨D8 slots.length 0 ks ds, m', []⟩ a /\ E'.d = E.d /\ Tr E.d g w g' w := by
 unfold b4R at h
 cases m with
 | nil => cases h
 | cons fr out =>
   simp only [a4I, c1q] at h
   have hdd : ∀ p, p ∈ dead -> p ∈ a7q slots ks dead := fun p hp => b5o slots ks dead hp
   generalize a7q slots ks dead = dead' at h hdd
   obtain ⟨fr', h1, h2⟩ := a8R ks fr _ r h
   obtain ⟨h3, h4⟩ := a2P (fun d => d.noOwn && !d.hangs ks 0) dead' (a9W slots ks) []
   generalize hρ : (fun q => if P7 (.slot q) [] then none else a2M dead' [] (a9W slots ks) q) = ρ at h4
   generalize hds : M5 (fun d => d.noOwn && !d.hangs ks 0) dead' [] (a9W slots ks) = ds at h1 h3 h4
   let E' : Env := { d := E.d, dom := t9 (fr' :: out) }
   let okp : Nat -> Nat -> Bool := fun k s => !GR k 0 || b3e s ks
   let okD : D -> Bool := fun d => !d.hangs ks 0
   have a0l : ∀ k s, E.dom k s -> okp k s = true -> E'.dom k s := by
    intro k s hd ho
    obtain ⟨b, hb⟩ := hs.here.keeps_dom hd
    rcases k with _ | k
    . refine ⟨b, ?_⟩
      simp only [okp, Mh, Bool.not_true, KY] at ho
      show D7 s fr' = some b
      rw [(h2 s).1, if_pos ho]; exact hb
    . exact ⟨b, hb⟩
   have o1 : ∀ k s o, okD (.ptr k s o) = true -> okp k s = true := by
    intro k s o ho
    simp only [okD, okp, D.hangs, Ik, Lx, JT] at ho ⊢
    rcases ho with ho | ho
    . rw [ho]; rfl
    . rw [ho]; simp
   have o5 : ∀ n fs k s, okD (.fn n fs k s) = true -> okp k s = true := by
    intro n fs k s ho
    simp only [okD, okp, D.hangs, Ik, Lx, JT] at ho ⊢
    rcases ho with ho | ho
    . rw [ho]; rfl
    . rw [ho]; simp
   have o2 : ∀ f caps, okD (.clos f caps) = true -> ∀ (i : Nat) y, caps[i]? = some y -> okD y = true := by
    intro f caps ho i y hy
    simp only [okD, Ik] at ho ⊢
    exact a1j ks 0 caps ho i y hy
   have o3 : ∀ ds, okD (.agg ds) = true -> ∀ (i : Nat) y, ds[i]? = some y -> okD y = true := by
    intro ds ho i y hy
    simp only [okD, Ik] at ho ⊢
    exact a1j ks 0 ds ho i y hy
   have o4 : ∀ ds, okD (.tup ds) = true -> ∀ (i : Nat) y, ds[i]? = some y -> okD y = true := by
    intro ds ho i y hy
    simp only [okD, Ik] at ho ⊢
    exact a1j ks 0 ds ho i y hy
   have hlat := a2A g E.d ρ w
   rw [c0Y] at h1
   refine ⟨ds, a0i ks fr' :: out, g.ren E.d ρ, E', h1, Sim.weak ks ⟨⟨fun k s b hb => ?_, rfl, hs.here.sk.later hlat, hs.here.len⟩, fun j x hj => ?_, by rw [hs.size, S9], hs.defers⟩, rfl, c9e g E.d ρ w E.d⟩
   . -- the variables
     have hb0 : Mem.box? (fr :: out) k s = some b := by
      rcases k with _ | k
      . have := (h2 s).1
        have hb' : D7 s fr' = some b := hb
        rw [hb'] at this
        split at this
        . exact this.symm
        . cases this
      . exact hb
     have hr := hs.here.mem k s b hb0
     obtain ⟨us, b1, b2, b3⟩ := hr.heap
     refine ⟨hr.le, c5E hr.perm, us, b1, b2, fun i c hc => ?_⟩
     obtain ⟨a1, a2, a3, a4⟩ := b3 i c hc
     refine ⟨a1, a2, a3, a2E a2 a4 (by simp) okp hlat rfl a0l (fun _ _ _ _ _ => rfl) (fun e v h => b9h h) okD o1 o5 o2 o3 o4 ?_ (fun _ _ => rfl)⟩
     rcases k with _ | k
     . have := a1j ks 0 _ ((h2 s).2 b hb) i c hc
       simp only [okD, Ik]
       exact b0h ks 0 c this
     . simp only [okD, Ik]
       exact b6t ks k c
   . -- the slots
     simp only at hj
     rcases a0c _ _ _ _ j x hj with rfl | ⟨i, k1, k2⟩
     . exact .any _
     . rw [HE] at k1
       have hp : (a9W slots ks)[i]? = some (j, slots.getD j .any) := by simp [a9W, k1]
       have hh := h4 i j _ x hp k2
       have hd : RepD E g w dead (slots.getD j .any) (a.tmps.getD j undef) := by
        rw [GJ]
        cases hq : slots[j]? with
        | none => exact .any _
        | some z => exact hs.slots j z hq
       generalize slots.getD j .any = d0 at hh hd
       generalize a.tmps.getD j undef = v0 at hd
       cases hh with
       | keep x a hn =>
         cases hd with
         | v x a v h ha =>
           cases a with
           | own p e => exact absurd rfl (hn p e)
           | no => exact .v _ _ _ (h.later hlat) trivial
           | nil e => exact .v _ _ _ (h.later hlat) ha
       | drop x a => exact .v _ _ _ ((O0 hd).later hlat) trivial
       | own x q e hq hρ =>
         cases hd with
         | v x a v h ha =>
           refine .v _ _ _ (h.later hlat) ?_
           rcases ha with ha | ⟨_, ha⟩
           . exact absurd (hdd _ ha) hq
           . exact .inr ⟨trivial, c1l ha hρ⟩
       | same d hn =>
         simp only [GP] at hn
         exact b1s (E := E) (E' := E') okp hlat rfl a0l (fun _ _ _ _ _ => rfl) okD o1 o5 o2 o3 o4 hd hn.1 hn.2
       | lost d => exact .any _
end
end En
namespace En
open Go
section
variable {R : Type} {P : Hb} {T : GF -> Option Ty} {E : Env} {g : G} {w : GG}
def d1x : Ex -> Exit
 | .normal => .normal
 | .exit id => .exit id
 | .goto l => .goto l
 | .ret => .ret
def Then (T : GF -> Option Ty) (E : Env) (g : G) (w : GG) (n : Nat) (st' : St) (a' : Act) (w' : GG) : Prop :=
 ∃ E' g', Sim T E' g' w' st' a' /\ E'.d = E.d /\ Tr E.d g w g' w' /\ a'.tmps.size = n
theorem b2g {l l' k q : Nat} (h : a0j l k q = true) (h' : a0j l' k q = true) : l = l' := by
 unfold a0j at h h'
 cases h1 : GR l 1000000 <;> cases h2 : GR l' 1000000 <;> rw [h1] at h <;> rw [h2] at h' <;> simp only [cond_true, cond_false, GP] at h h'
 . rw [← GE h.2, ← GE h'.2]
 . have := GE h.1
   have := Ha h'
   omega
 . have := GE h'.1
   have := Ha h
   omega
 . rw [GE h1, GE h2]
structure RootOK (cx : Cx) (ops : Array Oper) (op : Op) (slots : List D) : Prop where
 root : cx.dyn = true -> ∀ z, (∃ t, op = .load t z) ∨ (∃ t v, op = .store t z v) -> ∃ j, z = .tmp j /\ ∀ k q o, slots.getD j .any = .ptr k q o -> a0j (a1E ops 20 j) k q = true
 app : cx.dyn = true -> isApp op = true -> ∃ j y, b8q op = [.tmp j, y] /\ ∀ x k s i e, slots.getD j .any ≠ .v x (.own (.cell k s i) e)
theorem c6k {slots : List D} {args : List Hy} {K : Option R} {r : R} (h : c8O slots args K = some r) : (∃ j y, args = [.tmp j, y] /\ ∀ x k s i e, slots.getD j .any ≠ .v x (.own (.cell k s i) e)) /\ K = some r := by
 unfold c8O at h
 split at h
 . rename_i x y
   split at h
   . rename_i j
     rw [O7] at h
     split at h
     . rename_i x a hd
       split at h
       . rename_i p e
         split at h
         . cases h
         . rename_i hp
           refine ⟨⟨j, y, rfl, fun x' k s i e' he => ?_⟩, h⟩
           rw [hd] at he
           injection he with _ he
           injection he with he _
           exact hp k s i he
       . rename_i ha
         refine ⟨⟨j, y, rfl, fun x' k s i e' he => ?_⟩, h⟩
         rw [hd] at he
         injection he with _ he
         exact ha _ _ he
     . rename_i hd
       exact ⟨⟨j, y, rfl, fun x' k s i e' he => hd _ _ he⟩, h⟩
   . cases h
 . cases h
theorem d2V {slots : List D} {args : List Hy} {K : Option R} (h : ∃ j y, args = [.tmp j, y] /\ ∀ x k s i e, slots.getD j .any ≠ .v x (.own (.cell k s i) e)) : c8O slots args K = K := by
 obtain ⟨j, y, rfl, h⟩ := h
 unfold c8O
 simp only [O7]
 split
 . rename_i x a hd
   split
   . rename_i p e
     split
     . rename_i k s i
       exact absurd hd (h x k s i e)
     . rfl
   . rfl
 . rfl
theorem c1T {op : Op} {z : Hy} {t : GF} (h : op = .load t z) : isApp op = false := by subst h; rfl
theorem c5L {op : Op} {z v : Hy} {t : GF} (h : op = .store t z v) : isApp op = false := by subst h; rfl
theorem b2x {ops : Array Oper} {slots : List D} {z : Hy} {K : Option R} {r : R} (h : b6s ops slots z K = some r) : (∃ j, z = .tmp j /\ ∀ k q o, slots.getD j .any = .ptr k q o -> a0j (a1E ops 20 j) k q = true) /\ K = some r := by
 unfold b6s at h
 split at h
 . rename_i j
   rw [O7] at h
   split at h
   . rename_i k q o hd
     cases hb : a0j (a1E ops 20 j) k q with
     | false => rw [hb] at h; cases h
     | true =>
       rw [hb, cond_true] at h
       refine ⟨⟨j, rfl, fun k' q' o' he => ?_⟩, h⟩
       rw [hd] at he
       injection he with e1 e2
       subst e1; subst e2
       exact hb
   . rename_i hd
     exact ⟨⟨j, rfl, fun k q o he => absurd he (hd k q o)⟩, h⟩
 . cases h
theorem a1i {cx : Cx} {ops : Array Oper} {op : Op} {slots : List D} {K : Option R} {r : R} (h : b3K cx ops op slots K = some r) : RootOK cx ops op slots /\ K = some r := by
 unfold b3K at h
 split at h
 . rename_i hd
   exact ⟨⟨fun e => (by rw [hd] at e; cases e), fun e => (by rw [hd] at e; cases e)⟩, h⟩
 . cases ha : isApp op with
   | true =>
     rw [ha, cond_true] at h
     obtain ⟨h1, h2⟩ := c6k h
     refine ⟨⟨fun _ z hz => ?_, fun _ _ => h1⟩, h2⟩
     rcases hz with ⟨t, e⟩ | ⟨t, v, e⟩
     . rw [c1T e] at ha; cases ha
     . rw [c5L e] at ha; cases ha
   | false =>
   rw [ha, cond_false] at h
   split at h
   . obtain ⟨h1, h2⟩ := b2x h
     refine ⟨⟨fun _ z hz => ?_, fun _ e => (by cases e)⟩, h2⟩
     rcases hz with ⟨t, e⟩ | ⟨t, v, e⟩
     . injection e with _ e; subst e; exact h1
     . cases e
   . obtain ⟨h1, h2⟩ := b2x h
     refine ⟨⟨fun _ z hz => ?_, fun _ e => (by cases e)⟩, h2⟩
     rcases hz with ⟨t, e⟩ | ⟨t, v, e⟩
     . cases e
     . injection e with _ e; subst e; exact h1
   . rename_i h1 h2
     refine ⟨⟨fun _ z hz => ?_, fun _ e => (by rw [ha] at e; cases e)⟩, h⟩
     rcases hz with ⟨t, e⟩ | ⟨t, v, e⟩
     . exact absurd e (h1 t z)
     . exact absurd e (h2 t z v)
theorem c1v {ops : Array Oper} {slots : List D} {j : Nat} (h : ∀ k q o, slots.getD j .any = .ptr k q o -> a0j (a1E ops 20 j) k q = true) (K : Option R) : b6s ops slots (.tmp j) K = K := by
 unfold b6s
 simp only [O7]
 split
 . rename_i k q o hd
   rw [h k q o hd, cond_true]
 . rfl
theorem c0K {cx : Cx} {ops : Array Oper} {op : Op} {slots : List D} (h : RootOK cx ops op slots) (K : Option R) : b3K cx ops op slots K = K := by
 unfold b3K
 split
 . rfl
 . rename_i hd
   cases ha : isApp op with
   | true => rw [cond_true]; exact d2V (h.app hd ha)
   | false =>
   rw [cond_false]
   split
   . rename_i t z
     obtain ⟨j, rfl, hj⟩ := h.root hd z (.inl ⟨t, rfl⟩)
     exact c1v hj K
   . rename_i t z v
     obtain ⟨j, rfl, hj⟩ := h.root hd z (.inr ⟨t, v, rfl⟩)
     exact c1v hj K
   . rfl
theorem a8U {cx : Cx} (hcx : CxOK P cx) {ops : Array Oper} {Q : Exit -> Act -> GG -> Prop} {n : Nat} : ∀ (l : List Oper) (st : St) (a : Act) (w : GG) (E : Env) (g : G) (K : St -> Option R) (r : R), Sim cx.T E g w st a -> a.tmps.size = n -> a7i cx ops l st K = some r ->
 (∀ st' a' w', K st' = some r -> Then cx.T E g w n st' a' w' -> Q .normal a' w') -> wpList P ops Q l a w
 | [], st, a, w, E, g, K, r, hs, hn, h, hq => hq st a w h ⟨E, g, hs, rfl, Tr.refl _ _ _, hn⟩
 | o :: l, st, a, w, E, g, K, r, hs, hn, h, hq => by
   obtain ⟨slots, m, dead⟩ := st
   unfold wpList
   obtain ⟨_, h⟩ := a1i h
   rcases b1i hcx hs h with ⟨hw, st', h1, h2⟩ | ⟨hw, st', h1, h2⟩
   . rw [if_pos hw]
     refine .inl ((h2 (fun v w' => ∃ E' g', Sim cx.T E' g' w' st' (a.put o.dst v) /\ E'.d = E.d /\ Tr E.d g w g' w') (fun v w' g' E' b1 b2 b3 => ⟨E', g', b1, b2, b3⟩)).2 _ Q ?_)
     rintro v w' ⟨E', g', b1, b2, b3⟩
     refine a8U hcx l st' _ w' E' g' K r b1 (by rw [I0]; exact hn) h1 fun st2 a2 w2 c1 ⟨E2, g2, c2, c3, c4, c5⟩ => hq st2 a2 w2 c1 ⟨E2, g2, c2, c3.trans b2, b3.trans (by rw [← b2]; exact c4), c5⟩
   . rw [hw]
     simp only [GZ, if_false]
     exact a8U hcx l st' _ w E g K r h2 (by rw [I0]; exact hn) h1 hq
theorem a1e : ∀ (c : Code) (l : Nat), q8 l c = false -> findLabel c l = none
 | .seq a b, l, h => by
   simp only [q8, Hw] at h
   unfold findLabel
   rw [a1e a l h.1]
   exact a1e b l h.2
 | .label l', l, h => by
   have hne : l' ≠ l := fun e => by subst e; simp [q8] at h
   simp [findLabel, hne]
 | .skip, l, h => rfl
 | .region _ _ _, l, h => rfl
 | .cond _ _ _, l, h => rfl
 | .block _ _, l, h => rfl
 | .loop _, l, h => rfl
 | .rangeFunc _ _ _ _, l, h => rfl
 | .exit _, l, h => rfl
 | .scope _, l, h => rfl
 | .goto _, l, h => rfl
 | .ret, l, h => rfl
 | .refuse _, l, h => rfl
theorem b6I {c : Code} {Q : Exit -> Act -> GG -> Prop} {a : Act} {w : GG} (J : Nat -> Nat -> Act -> GG -> Prop)
 (first : c.wp P (fun e a w => match e with | .goto l => (∃ n, J n l a w) ∨ (findLabel c l = none /\ Q (.goto l) a w) | e => Q e a w) a w)
 (pass : ∀ n l a w, J n l a w -> ∃ rest, findLabel c l = some rest /\ rest.wp P (fun e a w => match e with | .goto l => (∃ n', n' < n /\ J n' l a w) ∨ (findLabel c l = none /\ Q (.goto l) a w) | e => Q e a w) a w) : (Code.scope c).wp P Q a w := by
 intro b k cs
 have key : ∀ n l a w, J n l a w -> ∃ rest, findLabel c l = some rest /\ ∃ e a' w', Q e a' w' /\ Arrives P (lone (b.at a (.code rest :: .inScope c :: k)) cs w) b k cs e a' w' := by
  intro n
  induction n using Kz with
  | _ n ih =>
    intro l a w hJ
    obtain ⟨rest, hf, hw⟩ := pass n l a w hJ
    refine ⟨rest, hf, ?_⟩
    obtain ⟨e, a₁, w₁, hq, a6r⟩ := hw b (.inScope c :: k) cs
    cases e with
    | normal => exact ⟨.normal, a₁, w₁, hq, Steps.trans a6r (.one step_inScope)⟩
    | exit id => exact ⟨.exit id, a₁, w₁, hq, fun k' hk => a6r k' (by simp [exitTo, hk])⟩
    | goto l' =>
      rcases hq with ⟨n', hlt, hJ'⟩ | ⟨hn, hq⟩
      . obtain ⟨rest', hf', e₂, a₂, w₂, hq₂, harr₂⟩ := ih n' hlt l' a₁ w₁ hJ'
        exact ⟨e₂, a₂, w₂, hq₂, .of_steps (a6r _ (by simp [gotoIn, hf'])) harr₂⟩
      . exact ⟨.goto l', a₁, w₁, hq, fun k' hk => a6r k' (by simp [gotoIn, hn, hk])⟩
    | ret => exact ⟨_, a₁, w₁, hq, a6r⟩
    | panic ch => exact ⟨_, a₁, w₁, hq, a6r⟩
    | outgrown => exact ⟨_, a₁, w₁, hq, a6r⟩
 obtain ⟨e, a₁, w₁, hq, a6r⟩ := first b (.inScope c :: k) cs
 cases e with
 | normal => exact ⟨.normal, a₁, w₁, hq, .head Kr (Steps.trans a6r (.one step_inScope))⟩
 | exit id => exact ⟨.exit id, a₁, w₁, hq, fun k' hk => .head Kr (a6r k' (by simp [exitTo, hk]))⟩
 | goto l' =>
   rcases hq with ⟨n', hJ'⟩ | ⟨hn, hq⟩
   . obtain ⟨rest', hf', e₂, a₂, w₂, hq₂, harr₂⟩ := key n' l' a₁ w₁ hJ'
     exact ⟨e₂, a₂, w₂, hq₂, .of_steps (.head Kr (a6r _ (by simp [gotoIn, hf']))) harr₂⟩
   . exact ⟨.goto l', a₁, w₁, hq, fun k' hk => .head Kr (a6r k' (by simp [gotoIn, hn, hk]))⟩
 | ret => exact ⟨_, a₁, w₁, hq, .of_steps (.one Kr) a6r⟩
 | panic ch => exact ⟨_, a₁, w₁, hq, .of_steps (.one Kr) a6r⟩
 | outgrown => exact ⟨_, a₁, w₁, hq, .of_steps (b := b) (k := k) (cs := cs) (e := .outgrown) (.one Kr) a6r⟩
def V4 (cx : Cx) (n : Nat) (b : Code) : Prop :=
 ∀ (R : Type) (ds : List D) (m : Mem) (K : Ex -> List D -> Mem -> Option R) (r : R), cx.loopT (U8 b) ds m K = some r -> ∃ t, a0T (fun st K => codeK cx b st K) n (cx.keep (U8 b)) (cx.keepX (U8 b)) t ds m K = some r
def v8 (cx : Cx) (n : Nat) (c : Code) : Prop := ∀ b ∈ D6 c, V4 cx n b
def b9W (P : Hb) (cx : Cx) (ops : Array Oper) : Prop :=
 ∀ (R : Type) (n id : Nat) (st : St) (a : Act) (w : GG) (E : Env) (g : G) (K : St -> Option R) (r : R) (Q : Exit -> Act -> GG -> Prop), Sim cx.T E g w st a -> a.tmps.size = n -> a7i cx ops ops.toList st K = some r ->
  (∀ st' a' w', K st' = some r -> Then cx.T E g w n st' a' w' -> Q .normal a' w') -> (Code.region id ops true).wp P Q a w
def G7 (P : Hb) (cx : Cx) (c : Code) : Prop := ∀ ops ∈ drawnOf c, b9W P cx ops
theorem least {p : Nat -> Prop} (h : ∃ n, p n) : ∃ n, p n /\ ∀ k, p k -> n <= k := by
 obtain ⟨n, hn⟩ := h
 induction n using Kz with
 | _ n ih =>
   by_cases hx : ∃ k, k < n /\ p k
   . obtain ⟨k, hk, hp⟩ := hx; exact ih k hk hp
   . refine ⟨n, hn, fun k hk => ?_⟩
     rcases Ir k n with h | h
     . exact absurd ⟨k, h, hk⟩ hx
     . exact h
theorem c6X {c : Code} {Q : Exit -> Act -> GG -> Prop} {a : Act} {w : GG} (I : Nat -> Act -> GG -> Prop) (h0 : ∃ n, I n a w)
 (round : ∀ n a w, I n a w -> c.wp P (Exit.then (fun a' w' => ∃ n', n' < n /\ I n' a' w') Q) a w) : (Code.loop c).wp P Q a w := by
 have hl : ∀ a w, ∃ m, (∃ n, I n a w) -> I m a w /\ ∀ k, I k a w -> m <= k := by
  intro a w
  by_cases h : ∃ n, I n a w
  . obtain ⟨m, h1, h2⟩ := least h
    exact ⟨m, fun _ => ⟨h1, h2⟩⟩
  . exact ⟨0, fun hh => absurd hh h⟩
 let μ : Act -> GG -> Nat := fun a w => Classical.choose (hl a w)
 have hμ : ∀ a w, (∃ n, I n a w) -> I (μ a w) a w /\ ∀ k, I k a w -> μ a w <= k := fun a w => Classical.choose_spec (hl a w)
 refine wp_loop (fun a w => ∃ n, I n a w) μ h0 fun a w hI => ?_
 obtain ⟨h1, h2⟩ := hμ a w hI
 refine Code.wp_mono (fun e a' w' q => ?_) (round _ a w h1)
 cases e with
 | normal =>
   obtain ⟨n', hlt, hn'⟩ := q
   exact ⟨⟨n', hn'⟩, Nat.lt_of_le_of_lt ((hμ a' w' ⟨n', hn'⟩).2 n' hn') hlt⟩
 | exit id => exact q
 | goto l => exact q
 | ret => exact q
 | panic ch => exact q
 | outgrown => exact q
theorem Then.trans {E' : Env} {g' : G} {w' w'' : GG} {n : Nat} {st : St} {a : Act} (h : Then T E' g' w' n st a w'') (hd : E'.d = E.d) (ht : Tr E.d g w g' w') : Then T E g w n st a w'' := by
 obtain ⟨E2, g2, a1, a2, a3, a4⟩ := h
 exact ⟨E2, g2, a1, a2.trans hd, ht.trans (by rw [← hd]; exact a3), a4⟩
def d4L (P : Hb) (cx : Cx) (c : Code) : Prop :=
 ∀ (R : Type) (n : Nat) (st : St) (a : Act) (w : GG) (E : Env) (g : G) (K : Ex -> St -> Option R) (r : R) (Q : Exit -> Act -> GG -> Prop), v8 cx n c -> Sim cx.T E g w st a -> a.tmps.size = n -> codeK cx c st K = some r ->
  (∀ e st' a' w', K e st' = some r -> Then cx.T E g w n st' a' w' -> Q (d1x e) a' w') -> c.wp P Q a w
def d4K (P : Hb) (cx : Cx) (c : Code) : Prop :=
 ∀ (R : Type) (n l : Nat) (st : St) (a : Act) (w : GG) (E : Env) (g : G) (K : Ex -> St -> Option R) (r : R) (Q : Exit -> Act -> GG -> Prop), v8 cx n c -> q8 l c = true -> Sim cx.T E g w st a -> a.tmps.size = n -> fromK cx l c st K = some r ->
  (∀ e st' a' w', K e st' = some r -> Then cx.T E g w n st' a' w' -> Q (d1x e) a' w') -> ∃ rest, findLabel c l = some rest /\ rest.wp P Q a w
theorem b2M {Q : Exit -> Act -> GG -> Prop} {x : Code} {a : Act} {w : GG} {next : Act -> GG -> Prop} (h : x.wp P (fun e a w => match e with | .normal => next a w | e => Q e a w) a w) : x.wp P (Exit.then next Q) a w :=
 Code.wp_mono (fun e a w q => by cases e <;> exact q) h
theorem d2E {cx : Cx} (hcx : CxOK P cx) : ∀ (c : Code), G7 P cx c -> d4L P cx c /\ d4K P cx c := by
 intro c
 induction c with
 | skip => exact fun _ => ⟨fun R n st a w E g K r Q hl hs hn h hq => wp_skip (hq _ st a w h ⟨E, g, hs, rfl, Tr.refl _ _ _, hn⟩), fun R n l st a w E g K r Q hl hh => by simp [q8] at hh⟩
 | region id ops draw =>
   intro hro
   refine ⟨fun R n st a w E g K r Q hl hs hn h hq => ?_, fun R n l st a w E g K r Q hl hh => by simp [q8] at hh⟩
   simp only [codeK] at h
   have d6N : ∀ st' a' w', (b0D st' fun st' => K .normal st') = some r -> Then cx.T E g w n st' a' w' -> Q .normal a' w' := by
    rintro st' a' w' hk ⟨E', g', b1, b2, b3, b4⟩
    obtain ⟨st2, g2, c1, c2, c3, _⟩ := c1w b1 hk
    exact hq .normal st2 a' w' c1 ⟨E', g2, c2, b2, b3.trans (by rw [← b2]; exact c3), b4⟩
   cases draw with
   | false => exact wp_region_list (a8U hcx ops.toList st a w E g _ r hs hn h d6N)
   | true => exact hro ops (by simp [drawnOf]) R n id st a w E g _ r Q hs hn h d6N
 | seq x y ihx ihy =>
   intro hro
   have hrx : G7 P cx x := fun o ho => hro o (by simp [drawnOf, ho])
   have hry : G7 P cx y := fun o ho => hro o (by simp [drawnOf, ho])
   refine ⟨fun R n st a w E g K r Q hl hs hn h hq => ?_, fun R n l st a w E g K r Q hl hh hs hn h hq => ?_⟩
   . have hlx : v8 cx n x := fun b hb => hl b (by simp [D6, hb])
     have hly : v8 cx n y := fun b hb => hl b (by simp [D6, hb])
     simp only [codeK] at h
     refine wp_seq (b2M ((ihx hrx).1 R n st a w E g _ r _ hlx hs hn h fun e st' a' w' hk ht => ?_))
     cases e with
     | normal =>
       obtain ⟨E', g', b1, b2, b3, b4⟩ := ht
       exact (ihy hry).1 R n st' a' w' E' g' K r Q hly b1 b4 hk fun e st2 a2 w2 c1 c2 => hq e st2 a2 w2 c1 (c2.trans b2 b3)
     | exit i => exact hq _ st' a' w' hk ht
     | goto i => exact hq _ st' a' w' hk ht
     | ret => exact hq _ st' a' w' hk ht
   . have hlx : v8 cx n x := fun b hb => hl b (by simp [D6, hb])
     have hly : v8 cx n y := fun b hb => hl b (by simp [D6, hb])
     simp only [fromK] at h
     cases hlx' : q8 l x with
     | true =>
       rw [hlx', cond_true] at h
       obtain ⟨rest, h1, h2⟩ := (ihx hrx).2 R n l st a w E g _ r (fun e a w => match e with | .normal => y.wp P Q a w | e => Q e a w) hlx hlx' hs hn h fun e st' a' w' hk ht => by
        cases e with
        | normal =>
          obtain ⟨E', g', b1, b2, b3, b4⟩ := ht
          exact (ihy hry).1 R n st' a' w' E' g' K r Q hly b1 b4 hk fun e st2 a2 w2 c1 c2 => hq e st2 a2 w2 c1 (c2.trans b2 b3)
        | exit i => exact hq _ st' a' w' hk ht
        | goto i => exact hq _ st' a' w' hk ht
        | ret => exact hq _ st' a' w' hk ht
       exact ⟨.seq rest y, by simp [findLabel, h1], wp_seq (b2M h2)⟩
     | false =>
       rw [hlx', cond_false] at h
       have hly' : q8 l y = true := by simpa [q8, hlx'] using hh
       obtain ⟨rest, h1, h2⟩ := (ihy hry).2 R n l st a w E g K r Q hly hly' hs hn h hq
       exact ⟨rest, by simp [findLabel, a1e x l hlx', h1], h2⟩
 | cond c x y ihx ihy =>
   intro hro
   have hrx : G7 P cx x := fun o ho => hro o (by simp [drawnOf, ho])
   have hry : G7 P cx y := fun o ho => hro o (by simp [drawnOf, ho])
   refine ⟨fun R n st a w E g K r Q hl hs hn h hq => ?_, fun R n l st a w E g K r Q hl hh => by simp [q8] at hh⟩
   have hlx : v8 cx n x := fun b hb => hl b (by simp [D6, hb])
   have hly : v8 cx n y := fun b hb => hl b (by simp [D6, hb])
   obtain ⟨slots, mem, dead⟩ := st
   simp only [codeK] at h
   split at h
   . rename_i heq
     cases heq
     rename_i t
     simp only [O7, a3z] at h
     generalize hx : slots.getD t .any = dx at h
     cases dx <;> simp only [reduceCtorEq] at h
     rename_i v0 at_
     cases v0 <;> simp only [V.unBool, reduceCtorEq] at h
     rename_i b
     have c5G : slots.set t (.v (.bool b) at_) = slots := a5y hx (by simp)
     have hev : a.eval (.tmp t) = .bool b := by
      have := hs.slots.ev (T := cx.T) 0 (.tmp t)
      simp only [C9, hx] at this
      exact this.bool_inv
     cases b
     . simp only [br, cond_false, c5G] at h
       exact NA hev ((ihy hry).1 R n _ a w E g K r Q hly hs hn h hq)
     . simp only [br, cond_true, c5G] at h
       exact wp_cond_true hev ((ihx hrx).1 R n _ a w E g K r Q hlx hs hn h hq)
   . rename_i heq
     cases heq
     rename_i v
     cases v
     . exact NA rfl ((ihy hry).1 R n _ a w E g K r Q hly hs hn h hq)
     . exact wp_cond_true rfl ((ihx hrx).1 R n _ a w E g K r Q hlx hs hn h hq)
   . cases h
 | block id x ih =>
   intro hro
   have hrx : G7 P cx x := fun o ho => hro o (by simpa [drawnOf] using ho)
   refine ⟨fun R n st a w E g K r Q hl hs hn h hq => ?_, fun R n l st a w E g K r Q hl hh => by simp [q8] at hh⟩
   simp only [codeK] at h
   refine wp_block ((ih hrx).1 R n st a w E g _ r _ (fun b hb => hl b (by simpa [D6] using hb)) hs hn h fun e st' a' w' hk ht => ?_)
   cases e with
   | normal => exact hq .normal st' a' w' hk ht
   | exit i =>
     simp only [d1x, Exit.inBlock]
     simp only at hk
     by_cases hi : i = id
     . subst hi
       simp only [Mh, cond_true] at hk
       rw [if_pos rfl]; exact hq .normal st' a' w' hk ht
     . rw [a6a hi] at hk
       rw [if_neg hi]; exact hq (.exit i) st' a' w' hk ht
   | goto i => exact hq (.goto i) st' a' w' hk ht
   | ret => exact hq .ret st' a' w' hk ht
 | loop x ih =>
   intro hro
   have hrx : G7 P cx x := fun o ho => hro o (by simpa [drawnOf] using ho)
   refine ⟨fun R n st a w E g K r Q hl hs hn h hq => ?_, fun R n l st a w E g K r Q hl hh => by simp [q8] at hh⟩
   obtain ⟨slots, mem, dead⟩ := st
   simp only [codeK] at h
   have hsn : slots.length = n := by rw [← hn]; exact hs.size.symm
   rw [hsn] at h
   obtain ⟨ds, m', g', E', h1, h2, h3, h4⟩ := a5V hs h
   rw [hsn] at h2
   obtain ⟨t, h5⟩ := hl x (by simp [D6]) R ds m' _ r h1
   refine c6X (fun t a w' => ∃ ds m E' g', a0T (fun st K => codeK cx x st K) n (cx.keep (U8 x)) (cx.keepX (U8 x)) t ds m (fun e ds m => Y0 n 0 (cx.keepX (U8 x)) ds fun slots => K e ⟨slots, m, []⟩) = some r /\ Sim cx.T E' g' w' ⟨D8 n 0 (cx.keep (U8 x)) ds, m, []⟩ a /\ E'.d = E.d /\ Tr E.d g w g' w' /\ a.tmps.size = n) ⟨t, ds, m', E', g', h5, h2, h3, h4, hn⟩ ?_
   rintro t a1 w1 ⟨ds1, m1, E1, g1, k1, k2, k3, k4, k5⟩
   cases t with
   | zero => cases k1
   | succ t =>
     simp only [a0T, a0k, a0X] at k1
     refine b2M ((ih hrx).1 R n _ a1 w1 E1 g1 _ r _ (fun b hb => hl b (by simp [D6, hb])) k2 k5 k1 fun e st' a' w' hk ht => ?_)
     obtain ⟨E2, g2, b1, b2, b3, b4⟩ := ht
     obtain ⟨slots', mem', dead'⟩ := st'
     have hsn' : slots'.length = n := by rw [← b4]; exact b1.size.symm
     have htr : Tr E.d g w g2 w' := k4.trans (by rw [← k3]; exact b3)
     -- an end of the loop
     have out : ∀ e', (b4R (cx.keepX (U8 x)) ⟨slots', mem', dead'⟩ fun ds m => K e' ⟨D8 n 0 (cx.keepX (U8 x)) ds, m, []⟩) = some r -> Q (d1x e') a' w' := by
      intro e' hk
      obtain ⟨ds3, m3, g3, E3, c1, c2, c3, c4⟩ := a5V b1 hk
      rw [hsn'] at c2
      exact hq e' _ a' w' c1 ⟨E3, g3, c2, by rw [c3, b2, k3], htr.trans (by rw [← k3, ← b2]; exact c4), b4⟩
     cases e with
     | normal =>
       obtain ⟨ds3, m3, g3, E3, c1, c2, c3, c4⟩ := a5V b1 hk
       rw [hsn'] at c2
       exact ⟨t, Lf t, ds3, m3, E3, g3, by simp only [a0X]; exact c1, c2, by rw [c3, b2, k3], htr.trans (by rw [← k3, ← b2]; exact c4), b4⟩
     | exit i => exact out _ hk
     | goto i => exact out _ hk
     | ret => exact out _ hk
 | rangeFunc f ps qs b _ _ => exact fun _ => ⟨fun R n st a w E g K r Q hl hs hn h hq => by simp [codeK] at h, fun R n l st a w E g K r Q hl hh => by simp [q8] at hh⟩
 | exit id => exact fun _ => ⟨fun R n st a w E g K r Q hl hs hn h hq => wp_exit (hq (.exit id) st a w h ⟨E, g, hs, rfl, Tr.refl _ _ _, hn⟩), fun R n l st a w E g K r Q hl hh => by simp [q8] at hh⟩
 | scope x ih =>
   intro hro
   have hrx : G7 P cx x := fun o ho => hro o (by simpa [drawnOf] using ho)
   refine ⟨fun R n st a w E g K r Q hl hs hn h hq => ?_, fun R n l st a w E g K r Q hl hh => by simp [q8] at hh⟩
   have hlx : v8 cx n x := fun b hb => hl b (by simpa [D6] using hb)
   simp only [codeK] at h
   refine b6I (fun t l a' w' => ∃ st' E' g', c5D (fun l st K => fromK cx l x st K) (fun l => q8 l x) t l st' K = some r /\ q8 l x = true /\ Sim cx.T E' g' w' st' a' /\ E'.d = E.d /\ Tr E.d g w g' w' /\ a'.tmps.size = n) ?_ ?_
   . refine (ih hrx).1 R n st a w E g _ r _ hlx hs hn h fun e st' a' w' hk ht => ?_
     cases e with
     | normal => exact hq _ st' a' w' hk ht
     | exit i => exact hq _ st' a' w' hk ht
     | ret => exact hq _ st' a' w' hk ht
     | goto l =>
       simp only at hk
       obtain ⟨E2, g2, b1, b2, b3, b4⟩ := ht
       cases hh : q8 l x with
       | true => rw [hh] at hk; exact .inl ⟨_, st', E2, g2, hk, hh, b1, b2, b3, b4⟩
       | false => rw [hh] at hk; exact .inr ⟨a1e x l hh, hq (.goto l) st' a' w' hk ⟨E2, g2, b1, b2, b3, b4⟩⟩
   . rintro t l a1 w1 ⟨st1, E1, g1, k1, k2, k3, k4, k5, k6⟩
     cases t with
     | zero => cases k1
     | succ t =>
       simp only [c5D] at k1
       refine (ih hrx).2 R n l st1 a1 w1 E1 g1 _ r _ hlx k2 k3 k6 k1 fun e st' a' w' hk ht => ?_
       have ht' := ht.trans k4 k5
       cases e with
       | normal => exact hq _ st' a' w' hk ht'
       | exit i => exact hq _ st' a' w' hk ht'
       | ret => exact hq _ st' a' w' hk ht'
       | goto l' =>
         simp only at hk
         obtain ⟨E2, g2, b1, b2, b3, b4⟩ := ht'
         cases hh : q8 l' x with
         | true => rw [hh] at hk; exact .inl ⟨t, Lf t, st', E2, g2, hk, hh, b1, b2, b3, b4⟩
         | false => rw [hh] at hk; exact .inr ⟨a1e x l' hh, hq (.goto l') st' a' w' hk ⟨E2, g2, b1, b2, b3, b4⟩⟩
 | label l0 =>
   exact fun _ => ⟨fun R n st a w E g K r Q hl hs hn h hq => wp_label (hq .normal st a w h ⟨E, g, hs, rfl, Tr.refl _ _ _, hn⟩), fun R n l st a w E g K r Q hl hh hs hn h hq => ⟨.skip, by
    have := GE hh
    subst this
    simp [findLabel], wp_skip (hq .normal st a w h ⟨E, g, hs, rfl, Tr.refl _ _ _, hn⟩)⟩⟩
 | goto l => exact fun _ => ⟨fun R n st a w E g K r Q hl hs hn h hq => wp_goto (hq (.goto l) st a w h ⟨E, g, hs, rfl, Tr.refl _ _ _, hn⟩), fun R n l st a w E g K r Q hl hh => by simp [q8] at hh⟩
 | ret => exact fun _ => ⟨fun R n st a w E g K r Q hl hs hn h hq => wp_ret (hq .ret st a w h ⟨E, g, hs, rfl, Tr.refl _ _ _, hn⟩), fun R n l st a w E g K r Q hl hh => by simp [q8] at hh⟩
 | refuse why => exact fun _ => ⟨fun R n st a w E g K r Q hl hs hn h hq => by simp [codeK] at h, fun R n l st a w E g K r Q hl hh => by simp [q8] at hh⟩
end
end En
namespace En
open Go
def a2b (ops : Array Oper) (o : Oper) : List Hy -> Nat
 | [] => (match o.guard with | some (j, _) => (match a3S ops j with | some s => 1 <<< s | none => 0) | none => 0)
 | x :: r => (match x with | .tmp t => (1 <<< t) ||| a2b ops o r | _ => a2b ops o r)
def c9a (o : Oper) : Nat := match o.dst with | some s => 1 <<< s | none => 0
def a4e : Cls -> Cls -> Bool
 | .c, _ => true
 | _, .c => true
 | .n, _ => false
 | _, .n => false
 | .r, .r => false
 | .r, .a => false
 | .a, .r => false
 | .s, .r => false
 | .r, .s => false
 | .s, .s => false
 | _, _ => true
def d5T (ops : Array Oper) (a b : Op) : Bool :=
 match a, b with
 | .load _ (.tmp i), .store _ (.tmp j) _ => !GR (a1E ops 20 i) (a1E ops 20 j)
 | .store _ (.tmp j) _, .load _ (.tmp i) => !GR (a1E ops 20 i) (a1E ops 20 j)
 | _, _ => false
def d1Q (op : Op) : Bool := match op with | .load _ (.tmp _) => true | _ => false
def c3x (ops : Array Oper) (a b : Op) : Bool := d5T ops a b || ((d1Q a && isApp b) || (isApp a && d1Q b))
def c6x (o : Oper) : Bool := match o.op with | .move (.tmp _) => (match o.guard with | none => true | some _ => false) | _ => false
def noG (o : Oper) : Bool := match o.guard with | none => true | some _ => false
def c4j (ops : Array Oper) (cx : Cx) (a b : Oper) : Bool :=
 (!a4e (w6 cx a.op) (w6 cx b.op) || ((cx.dyn && c3x ops a.op b.op) || (c6x a && noG b))) && GR (c9a a &&& (a2b ops b b.op.operands.toList ||| c9a b)) 0 && GR (c9a b &&& a2b ops a a.op.operands.toList) 0
def a0R (acc : List Nat) : List Edge -> Nat
 | [] => 0
 | e :: r => cond (Region.binds .any e) ((1 <<< e.on) ||| (acc.getD e.on 0 ||| a0R acc r)) (a0R acc r)
def c4P (i : Nat) : List Edge -> Bool
 | [] => true
 | e :: r => (!Region.binds .any e || GM e.on i) && c4P i r
def d2X (ops : Array Oper) (cx : Cx) (o : Oper) (a : Nat) : Nat -> List Oper -> Bool
 | _, [] => true
 | j, p :: ps => (Ot a j || c4j ops cx p o) && d2X ops cx o a (j + 1) ps
def d2j (ops : Array Oper) (cx : Cx) : List Oper -> List Oper -> List Nat -> Bool
 | [], _, _ => true
 | o :: r, prev, acc => c4P prev.length o.after.toList && d2X ops cx o (a0R acc o.after.toList) 0 prev && d2j ops cx r (prev ++ [o]) (acc ++ [a0R acc o.after.toList])
def a6o (cx : Cx) (ops : Array Oper) : Bool := d2j ops cx ops.toList [] []
theorem b8b {a b : Nat} (h : a &&& b = 0) (t : Nat) (ha : a.testBit t = true) : b.testBit t = false := by
 have := congrArg (fun n => Ot n t) h
 simpa [ha] using this
theorem a9b (ops : Array Oper) (o : Oper) (t : Nat) : ∀ l : List Hy, .tmp t ∈ l -> (a2b ops o l).testBit t = true
 | [], h => by cases h
 | x :: r, h => by
   rcases Ku.1 h with h | h
   . subst h; simp [a2b, Jx]
   . have := a9b ops o t r h
     unfold a2b
     split <;> simp [Jx, this]
theorem a3D (ops : Array Oper) (o : Oper) {j : Nat} {w : Bool} {s : Nat} (hg : o.guard = some (j, w)) (hd : a3S ops j = some s) : ∀ l : List Hy, (a2b ops o l).testBit s = true
 | [] => by simp [a2b, hg, hd]
 | x :: r => by
   have := a3D ops o hg hd r
   unfold a2b
   split <;> simp [Jx, this]
theorem a2G {o : Oper} {s : Nat} (h : o.dst = some s) : (c9a o).testBit s = true := by simp [c9a, h]
structure Apart (ops : Array Oper) (cx : Cx) (a b : Oper) : Prop where
 cls : a4e (w6 cx a.op) (w6 cx b.op) = false ∨ (cx.dyn = true /\ c3x ops a.op b.op = true) ∨ (c6x a = true /\ noG b = true)
 ab : ∀ s, a.dst = some s -> Away ops s b
 ba : ∀ s, b.dst = some s -> Away ops s a
theorem c8s {ops : Array Oper} {cx : Cx} {a b : Oper} (h : c4j ops cx a b = true) : Apart ops cx a b := by
 unfold c4j at h
 simp only [GP, JA, Ik] at h
 obtain ⟨⟨h1, h2⟩, h3⟩ := h
 have h2 := GE h2
 have h3 := GE h3
 refine ⟨h1, fun s hs => ?_, fun s hs => ?_⟩
 . have := b8b h2 s (a2G hs)
   simp only [Jx, Hw] at this
   refine ⟨fun z hz e => ?_, fun j w t hg hd e => ?_, fun e => ?_⟩
   . subst e; rw [a9b ops b s _ hz] at this; cases this.1
   . subst e; rw [a3D ops b hg hd] at this; cases this.1
   . rw [a2G e] at this; cases this.2
 . have := b8b h3 s (a2G hs)
   refine ⟨fun z hz e => ?_, fun j w t hg hd e => ?_, fun e => ?_⟩
   . subst e; rw [a9b ops a s _ hz] at this; cases this
   . subst e; rw [a3D ops a hg hd] at this; cases this
   . have h4 := b8b h2 s (a2G e)
     simp only [Jx, Hw] at h4
     rw [a2G hs] at h4; cases h4.2
theorem b1Z {i : Nat} : ∀ (l : List Edge), c4P i l = true -> ∀ e ∈ l, Region.binds .any e = true -> e.on < i
 | [], _, e, he => by cases he
 | x :: r, h, e, he => by
   simp only [c4P, GP, JA, Ik] at h
   intro hb
   rcases Ku.1 he with rfl | he
   . rcases h.1 with h1 | h1
     . rw [hb] at h1; cases h1
     . exact Nat.lt_of_lt_of_le (Lf _) (Ha h1)
   . exact b1Z r h.2 e he hb
theorem a9G (L : Nat -> Prop) (acc : List Nat) : ∀ (l : List Edge), (∀ e ∈ l, Region.binds .any e = true -> L e.on /\ ∀ j, (acc.getD e.on 0).testBit j = true -> L j) -> ∀ j, (a0R acc l).testBit j = true -> L j
 | [], _, j, h => by simp [a0R] at h
 | e :: r, hl, j, h => by
   unfold a0R at h
   have ih := a9G L acc r (fun e he => hl e (by simp [he])) j
   cases hb : Region.binds .any e with
   | false => rw [hb] at h; exact ih h
   | true =>
     rw [hb, cond_true] at h
     obtain ⟨h1, h2⟩ := hl e (by simp) hb
     simp only [Jx, JA] at h
     rcases h with h | h | h
     . have : j = e.on := by
        rw [Nat.one_shiftLeft, Nat.testBit_two_pow] at h
        simpa using (of_decide_eq_true h).symm
       rw [this]; exact h1
     . exact h2 j h
     . exact ih h
theorem b5a {ops : Array Oper} {cx : Cx} {o : Oper} {a : Nat} : ∀ (l : List Oper) (k : Nat), d2X ops cx o a k l = true -> ∀ j p, l[j]? = some p -> a.testBit (k + j) = true ∨ Apart ops cx p o
 | [], k, _, j, p, hp => by simp at hp
 | x :: r, k, h, j, p, hp => by
   simp only [d2X, GP, JA] at h
   rcases j with _ | j
   . simp at hp; subst hp
     rcases h.1 with h1 | h1
     . exact .inl h1
     . exact .inr (c8s h1)
   . have := b5a r (k + 1) h.2 j p (by simpa using hp)
     rwa [show k + 1 + j = k + (j + 1) by omega] at this
structure Ordered (ops : Array Oper) (cx : Cx) (l : List Oper) (acc : List Nat) : Prop where
 len : acc.length = l.length
 back : ∀ (i : Nat) o, l[i]? = some o -> ∀ e ∈ o.after, Region.binds .any e = true -> e.on < i
 ahead : ∀ (L : Nat -> Prop), (∀ (i : Nat) o, l[i]? = some o -> L i -> ∀ e ∈ o.after, Region.binds .any e = true -> L e.on) -> ∀ (i : Nat) o, l[i]? = some o -> (∀ e ∈ o.after, Region.binds .any e = true -> L e.on) -> ∀ j, (acc.getD i 0).testBit j = true -> L j
 pair : ∀ (i j : Nat) o p, l[i]? = some o -> l[j]? = some p -> j < i -> (acc.getD i 0).testBit j = true ∨ Apart ops cx p o
theorem b6q {ops : Array Oper} {cx : Cx} : ∀ (l prev : List Oper) (acc : List Nat), Ordered ops cx prev acc -> d2j ops cx l prev acc = true -> ∃ acc', Ordered ops cx (prev ++ l) acc'
 | [], prev, acc, ho, _ => ⟨acc, by simpa using ho⟩
 | o :: r, prev, acc, ho, h => by
   simp only [d2j, GP] at h
   obtain ⟨⟨h1, h2⟩, h3⟩ := h
   have key : Ordered ops cx (prev ++ [o]) (acc ++ [a0R acc o.after.toList]) := by
    have get : ∀ {i : Nat} {x : Oper}, (prev ++ [o])[i]? = some x -> prev[i]? = some x ∨ (i = prev.length /\ x = o) := by
     intro i x hx
     rcases Ir i prev.length with hl | hl
     . rw [GS hl] at hx; exact .inl hx
     . rw [GV hl] at hx
       have : i - prev.length = 0 := by
        rcases HU (i - prev.length) with h0 | h0
        . exact h0
        . rw [JD (by simp; omega)] at hx; cases hx
       rw [this] at hx; simp at hx
       exact .inr ⟨by omega, hx.symm⟩
    have hlt : ∀ {i : Nat} {x : Oper}, prev[i]? = some x -> i < prev.length := fun hx => (GD.1 hx).1
    have ga : ∀ {i : Nat}, i < prev.length -> (acc ++ [a0R acc o.after.toList]).getD i 0 = acc.getD i 0 := by
     intro i hi
     rw [GJ, GS (by rw [ho.len]; exact hi), ← GJ]
    have gl : (acc ++ [a0R acc o.after.toList]).getD prev.length 0 = a0R acc o.after.toList := by
     rw [GJ, GV (by rw [ho.len]; exact GB _), ho.len]; simp
    have hb := b1Z _ h1
    refine ⟨by simp [ho.len], fun i x hx => ?_, fun L hL i x hx hw j hj => ?_, fun i j x p hx hp hji => ?_⟩
    . rcases get hx with hx | ⟨rfl, rfl⟩
      . exact ho.back i x hx
      . exact fun e he hbd => hb e (by simpa using he) hbd
    . have hL' : ∀ (i : Nat) o, prev[i]? = some o -> L i -> ∀ e ∈ o.after, Region.binds .any e = true -> L e.on := fun i y hy => hL i y (by rw [GS (hlt hy)]; exact hy)
      rcases get hx with hx | ⟨rfl, rfl⟩
      . rw [ga (hlt hx)] at hj
        exact ho.ahead L hL' i x hx hw j hj
      . rw [gl] at hj
        refine a9G L acc _ (fun e he hbd => ?_) j hj
        have he' : e ∈ x.after := by simpa using he
        have hlt' := hb e he hbd
        refine ⟨hw e he' hbd, ?_⟩
        have hy : prev[e.on]? = some prev[e.on] := GH hlt'
        exact ho.ahead L hL' e.on _ hy (hL' e.on _ hy (hw e he' hbd))
    . rcases get hx with hx1 | ⟨rfl, rfl⟩
      . rw [ga (hlt hx1)]
        rcases get hp with hp | ⟨rfl, rfl⟩
        . exact ho.pair i j x p hx1 hp hji
        . have := hlt hx1; omega
      . rw [gl]
        rcases get hp with hp | ⟨rfl, rfl⟩
        . have := b5a prev 0 h2 j p hp
          rwa [HE] at this
        . omega
   obtain ⟨acc', ha⟩ := b6q r _ _ key h3
   exact ⟨acc', by simpa using ha⟩
theorem c4h {ops : Array Oper} {cx : Cx} (h : a6o cx ops = true) : ∃ acc, Ordered ops cx ops.toList acc := by
 have h0 : Ordered ops cx [] [] := ⟨rfl, fun i o ho => by simp at ho, fun L _ i o ho => by simp at ho, fun i j o p ho => by simp at ho⟩
 simpa using b6q ops.toList [] [] h0 h
section
variable {R : Type} {cx : Cx} {ops : Array Oper}
def Good (cx : Cx) (i : Oper) (slots : List D) (m : Mem) : Prop := ∀ t z, i.op = .load t z -> ∀ k s o, C9 cx.T slots 0 z = .ptr k s o -> ∃ b, m.box? k s = some b
def Grown (m m' : Mem) : Prop := ∀ k s b, m.box? k s = some b -> m'.box? k s = some b
theorem Good.put {x i : Oper} {slots : List D} {m m' : Mem} (h : Good cx i slots m) (hx : ∀ s, x.dst = some s -> Away ops s i) (hm : Grown m m') (d : D) : Good cx i (put slots x.dst d) m' := by
 intro t z hz k s o he
 have : C9 cx.T (En.put slots x.dst d) 0 z = C9 cx.T slots 0 z := by
  cases hd : x.dst with
  | none => rfl
  | some y => exact o0 slots y _ 0 z ((hx y hd).reads z (by rw [hz]; simp [Hh]))
 rw [this] at he
 obtain ⟨b, hb⟩ := h t z hz k s o he
 exact ⟨b, hm _ _ _ hb⟩
def isA (cx : Cx) (op : Op) : Bool := match w6 cx op with | .a => true | _ => false
theorem c7C {op : Op} (h : isA cx op = true) : ∃ t, op = .alloc t := by
 unfold isA w6 at h
 split at h <;> try cases h
 all_goals rename_i heq
 all_goals split at heq
 all_goals first | exact ⟨_, rfl⟩ | cases heq | (split at heq <;> first | cases heq | (split at heq <;> first | cases heq | (rw [Hk] at heq; split at heq <;> cases heq)))
theorem c2h {T : GF -> Option Ty} {dst : Nat} {oty t : GF} {slots : List D} {m : Mem} {dead : List Pos} {d : D} {m' : Mem} {dd : List Pos}
 (h : opK T dst oty slots (.alloc t) m dead (fun d m dd => some (d, m, dd)) = some (d, m', dd)) : Grown m m' := by
 simp only [opK] at h
 split at h
 . unfold a1C at h
   split at h
   . rename_i fr out
     split at h
     . rename_i hn
       obtain ⟨cs, d2, h⟩ := a2V _ _ _ _ _ h
       rw [B9] at h
       injection h with h
       injection h with h0 h
       injection h with h1 h2
       subst h1
       intro k s b hb
       rw [C5, if_neg]
       . exact hb
       . rintro ⟨rfl, rfl, _⟩
         simp only [Mem.box?] at hb
         rw [hn] at hb; cases hb
     . cases h
   . cases h
 . cases h
theorem a5P (hB : PureB cx) {x : Oper} (hx : isVal cx x.op = true ∨ isA cx x.op = true) {slots : List D} {m : Mem} {dead : List Pos} {d : D} {m' : Mem} {dd : List Pos}
 (h : ∀ (R' : Type) (K' : St -> Option R'), p6 cx ops x ⟨slots, m, dead⟩ K' = K' ⟨put slots x.dst d, m', dd⟩) : Grown m m' := by
 have h1 := h St some
 rcases hx with hx | hx
 . rw [C2 hB hx] at h1
   obtain ⟨e, _, h2⟩ := bind_some h1
   injection h2 with h2; injection h2 with _ h2 _; subst h2
   exact fun _ _ _ hb => hb
 . obtain ⟨t, ht⟩ := c7C hx
   rw [L4] at h1
   cases hw : U7 ops x slots with
   | none => rw [hw] at h1; cases h1
   | some b =>
     rw [hw] at h1
     cases b
     . simp only [a3M, U5] at h1
       injection h1 with h2; injection h2 with _ h2 _; subst h2
       exact fun _ _ _ hb => hb
     . simp only [a3M] at h1
       rw [Y5 x (by simp [S6, ht, w6])] at h1
       have hr : ∀ (R' : Type) (K' : Bool -> D -> Mem -> List Pos -> Option R'), runK cx x slots m dead K' = opK cx.T (x.dst.getD 0) x.type slots (.alloc t) m dead (K' false) := by
        intro R' K'; unfold runK; rw [ht]
       rw [hr, ← c1L cx] at h1
       obtain ⟨p, h3, h4⟩ := bind_some h1
       injection h4 with h4; injection h4 with _ h4 _
       obtain ⟨p1, p2, p3⟩ := p
       simp only at h4; subst h4
       exact c2h h3
theorem b9A {T : GF -> Option Ty} {t : GF} {a : D} {m m' : Mem} (hm : Grown m m') (hg : ∀ k s o, a = .ptr k s o -> ∃ b, m.box? k s = some b) (K : D -> Option R) : a0m T t a m' K = a0m T t a m K := by
 unfold a0m
 split
 . split
   . rename_i k s o
     obtain ⟨b, hb⟩ := hg k s o rfl
     rw [hb, hm _ _ _ hb]
   . rfl
   . rfl
 . rfl
theorem c6R {T : GF -> Option Ty} {t : GF} {m : Mem} {k s o : Nat} {K : D -> Option R} {r : R} (h : a0m T t (.ptr k s o) m K = some r) : ∃ b, m.box? k s = some b := by
 unfold a0m at h
 split at h
 . simp only at h
   split at h
   . rename_i b hb; exact ⟨b, hb⟩
   . cases h
 . cases h
def c1W (cx : Cx) (op : Op) : Bool := match w6 cx op with | .n => true | .r => true | _ => false
theorem a1t {op : Op} (h : c1W cx op = true) : isVal cx op = true := by
 unfold c1W at h; unfold isVal; cases hc : w6 cx op <;> simp [hc] at h ⊢
theorem c7p {op : Op} (h : c1W cx op = true) : isN cx op = true ∨ ∃ t z, op = .load t z := by
 unfold c1W at h
 unfold isN
 cases hc : w6 cx op with
 | n => exact .inl rfl
 | r =>
   refine .inr ?_
   unfold w6 at hc
   split at hc <;> try cases hc
   . exact ⟨_, _, rfl⟩
   . split at hc <;> first | cases hc | (split at hc <;> first | cases hc | (rw [Hk] at hc; split at hc <;> cases hc))
 | _ => rw [hc] at h; cases h
theorem a2j {o : Oper} {t : GF} {z : Hy} (hz : o.op = .load t z) (slots : List D) (m : Mem) : b4k cx o slots m = a0m cx.T t (C9 cx.T slots 0 z) m some := by
 unfold b4k runK
 rw [hz]
 simp only [opK, E7]
theorem b2p {i : Oper} (hi : c1W cx i.op = true) {slots : List D} {m m' : Mem} (hm : Grown m m') (hg : Good cx i slots m) : S7 cx ops i slots m' = S7 cx ops i slots m := by
 rcases c7p hi with h | ⟨t, z, hz⟩
 . exact a7B h _ _ _
 . unfold S7
   rw [a2j hz, a2j hz, b9A hm (hg t z hz)]
theorem b9d {i : Oper} {slots : List D} {m : Mem} {d : D} (hw : U7 ops i slots = some true) (h : S7 cx ops i slots m = some d) : Good cx i slots m := by
 intro t z hz k s o he
 unfold S7 at h
 rw [hw] at h
 simp only [a2j hz, he] at h
 exact c6R h
theorem b4Q {a b : Op} (h : a4e (w6 cx a) (w6 cx b) = false) :
 S6 cx a = true /\ S6 cx b = true /\ (isN cx a = true ∨ isN cx b = true ∨ (isVal cx a = true /\ isVal cx b = true) ∨ (c1W cx a = true /\ isA cx b = true) ∨ (isA cx a = true /\ c1W cx b = true)) := by
 unfold S6 isN isVal c1W isA
 cases ha : w6 cx a <;> cases hb : w6 cx b <;> rw [ha, hb] at h <;> simp [a4e] at h ⊢
theorem d6B (hB : PureB cx) {x i : Oper} (ha : Apart ops cx x i) (d7i : a4e (w6 cx x.op) (w6 cx i.op) = false) {slots : List D} {m : Mem} {dead : List Pos} (hg : Good cx i slots m) {K : St -> Option R} {r : R}
 (h : p6 cx ops x ⟨slots, m, dead⟩ (fun s => p6 cx ops i s K) = some r) : p6 cx ops i ⟨slots, m, dead⟩ (fun s => p6 cx ops x s K) = some r := by
 obtain ⟨hcx, hci, hcl⟩ := b4Q d7i
 have c8e : isN cx i.op = true -> p6 cx ops i ⟨slots, m, dead⟩ (fun s => p6 cx ops x s K) = some r := by
  intro hn
  obtain ⟨d, m', dd, h1, h2⟩ := Y4 hB hcx h
  rw [C2 hB (a5K hn)] at h1
  obtain ⟨e, h3, h4⟩ := bind_some h1
  rw [T1 ha.ab, a7B hn _ _ m] at h3
  rw [← c7l hB hcx (a5K hn) ha.ab ha.ba (.inl hn) slots m dead K h3]
  exact h
 have d4c : isVal cx x.op = true -> isN cx x.op = true ∨ isVal cx i.op = true -> p6 cx ops i ⟨slots, m, dead⟩ (fun s => p6 cx ops x s K) = some r := by
  intro hv hn
  rcases d0h hB hv hci ha.ab ha.ba hn slots m dead K with h1 | h1
  . rw [← h1]; exact h
  . rw [h1] at h; cases h
 rcases hcl with hn | hn | ⟨h1, h2⟩ | ⟨h1, h2⟩ | ⟨h1, h2⟩
 . exact d4c (a5K hn) (.inl hn)
 . exact c8e hn
 . exact d4c h1 (.inr h2)
 . -- x reads, i makes a variable
   rw [C2 hB (a1t h1)] at h
   obtain ⟨d, h3, h4⟩ := bind_some h
   rw [a2F ha.ab hci] at h4
   obtain ⟨e, m', dd, h5, h6⟩ := Y4 hB hci h4
   have hgr := a5P hB (.inr h2) h6
   rw [h6 R fun s => p6 cx ops x s K]
   rw [C2 hB (a1t h1), T1 ha.ba]
   have hx : S7 cx ops x slots m' = some d := by
    cases hw : U7 ops x slots with
    | none => unfold S7 at h3; rw [hw] at h3; cases h3
    | some b =>
      cases b with
      | false => unfold S7 at h3 ⊢; rw [hw] at h3 ⊢; exact h3
      | true => rw [b2p h1 hgr (b9d hw h3)]; exact h3
   rw [hx, Ij]
   exact h5
 . -- x makes a variable, i reads
   obtain ⟨d, m', dd, h3, h4⟩ := Y4 hB hcx h
   have hgr := a5P hB (.inr h1) h4
   rw [C2 hB (a1t h2), T1 ha.ab, b2p h2 hgr hg] at h3
   obtain ⟨e, h5, h6⟩ := bind_some h3
   rw [C2 hB (a1t h2), h5, Ij, a2F ha.ba hcx, h4]
   exact h6
theorem d3I {op : Op} (h : d1Q op = true) : ∃ t i, op = .load t (.tmp i) := by
 unfold d1Q at h
 split at h
 . exact ⟨_, _, rfl⟩
 . cases h
theorem c2u {op : Op} (h : isApp op = true) : ∃ c, op = .call c /\ c.callee = .builtin .append := by
 unfold isApp at h
 split at h
 . rename_i c
   split at h
   . rename_i hc; exact ⟨c, rfl, hc⟩
   . cases h
 . cases h
theorem b9T {op : Op} (cx : Cx) (h : isApp op = true) : w6 cx op = .w := by
 obtain ⟨c, rfl, hc⟩ := c2u h
 unfold w6
 simp only [hc]
theorem a8K {a b : Op} (h : c3x ops a b = true) : (∃ t i t' j v, a = .load t (.tmp i) /\ b = .store t' (.tmp j) v /\ a1E ops 20 i ≠ a1E ops 20 j) ∨ (∃ t i t' j v, a = .store t' (.tmp j) v /\ b = .load t (.tmp i) /\ a1E ops 20 i ≠ a1E ops 20 j) ∨
 (∃ t i, a = .load t (.tmp i) /\ isApp b = true) ∨ (∃ t i, b = .load t (.tmp i) /\ isApp a = true) := by
 unfold c3x at h
 rw [JA, JA, GP, GP] at h
 rcases h with h | ⟨h1, h2⟩ | ⟨h1, h2⟩
 . unfold d5T at h
   split at h
   . refine .inl ⟨_, _, _, _, _, rfl, rfl, fun e => ?_⟩
     rw [e] at h; simp at h
   . refine .inr (.inl ⟨_, _, _, _, _, rfl, rfl, fun e => ?_⟩)
     rw [e] at h; simp at h
   . cases h
 . obtain ⟨t, i, e⟩ := d3I h1
   exact .inr (.inr (.inl ⟨t, i, e, h2⟩))
 . obtain ⟨t, i, e⟩ := d3I h2
   exact .inr (.inr (.inr ⟨t, i, e, h1⟩))
theorem c7O {R : Type} {a : Att} {e : GF} {m : Mem} {dead : List Pos} {K : Mem -> List Pos -> Option R} {r : R} (hno : ∀ k s p e', a ≠ .own (.cell k s p) e') (h : a1l a e m dead K = some r) : ∃ dead', K m dead' = some r := by
 unfold a1l at h
 split at h
 . rename_i e'
   cases hb : GR e' e with
   | false => rw [hb] at h; cases h
   | true => rw [hb] at h; exact ⟨_, h⟩
 . rename_i p e'
   cases hb : (GR e' e && !P7 p dead) with
   | false => rw [hb] at h; cases h
   | true =>
     rw [hb, cond_true] at h
     cases p with
     | slot g => exact ⟨_, h⟩
     | cell k s i => exact absurd rfl (hno k s i e')
 . cases h
theorem c3r {T : GF -> Option Ty} {dst : Nat} {t t2 : GF} {s x : D} {m : Mem} {dead : List Pos} {p1 : D} {p2 : Mem} {p3 : List Pos} (hno : ∀ y k s' i e, s ≠ .v y (.own (.cell k s' i) e))
 (h : a3d T dst t t2 s x m dead (fun d m dd => some (d, m, dd)) = some (p1, p2, p3)) : p2 = m := by
 have fin : ∀ {a : Att} {e : GF} {b : Bool} {d : D}, (∀ k s p e', a ≠ .own (.cell k s p) e') -> a1l a e m dead (fun m' dead' => check b (some (d, m', dead'))) = some (p1, p2, p3) -> p2 = m := by
  intro a e b d hn h
  obtain ⟨dd, h⟩ := c7O hn h
  unfold check br at h
  cases b with
  | false => cases h
  | true =>
    rw [cond_true] at h
    injection h with h
    injection h with _ h
    injection h with h _
    exact h.symm
 unfold a3d at h
 split at h
 . split at h
   . split at h
     . split at h
       . cases h
       . split at h
         . rename_i xs a ys _ _ _
           split at h
           . cases hb : (GR _ _ && GR _ 1) with
             | false => rw [hb] at h; cases h
             | true => rw [hb, cond_true] at h; exact fin (fun k s p e' q => by subst q; exact hno _ _ _ _ _ rfl) h
           . cases h
         . split at h
           . cases hb : (GR _ _ && (GR _ _ && GR _ _)) with
             | false => rw [hb] at h; cases h
             | true => rw [hb, cond_true] at h; exact fin (fun k s p e' q => by subst q; exact hno _ _ _ _ _ rfl) h
           . cases h
         . split at h
           . cases hb : GR _ 1 with
             | false => rw [hb] at h; cases h
             | true => rw [hb, cond_true] at h; exact fin (fun k s p e' q => by subst q; exact hno _ _ _ _ _ rfl) h
           . cases h
         . cases h
     . cases h
   . cases h
 . cases h
theorem b7e {i : Oper} (hi : isApp i.op = true) {slots : List D} {m : Mem} {dead : List Pos} (hr : ∃ j y, b8q i.op = [.tmp j, y] /\ ∀ x k s p e, slots.getD j .any ≠ .v x (.own (.cell k s p) e)) {d : D} {m' : Mem} {dd : List Pos}
 (h : ∀ (R' : Type) (K' : St -> Option R'), p6 cx ops i ⟨slots, m, dead⟩ K' = K' ⟨put slots i.dst d, m', dd⟩) : m' = m := by
 have h1 := h St some
 rw [L4] at h1
 cases hw : U7 ops i slots with
 | none => rw [hw] at h1; cases h1
 | some b =>
   rw [hw] at h1
   cases b
   . simp only [a3M, U5] at h1
     injection h1 with h2; injection h2 with _ h2 _; exact h2.symm
   . simp only [a3M] at h1
     rw [Y5 i (by simp [S6, b9T cx hi])] at h1
     obtain ⟨c, hc, b3O⟩ := c2u hi
     obtain ⟨j, y, a0o, hno⟩ := hr
     have hrk : ∀ (R' : Type) (K' : Bool -> D -> Mem -> List Pos -> Option R'), runK cx i slots m dead K' = opK cx.T (i.dst.getD 0) i.type slots (.call c) m dead (K' false) := by
      intro R' K'; unfold runK; rw [hc]; simp only [b3O]
     rw [hrk, ← c1L cx] at h1
     obtain ⟨p, h3, h4⟩ := bind_some h1
     injection h4 with h4; injection h4 with _ h4 _
     obtain ⟨p1, p2, p3⟩ := p
     simp only at h4; subst h4
     have ha : c.args.toList = [.tmp j, y] := by rw [hc] at a0o; exact a0o
     simp only [opK, b3O, ha, E7] at h3
     have he : ∀ u, C9 cx.T slots u (.tmp j) = slots.getD j .any := fun u => by simp only [C9]
     rcases hat : c.argTypes.toList with _ | ⟨t, _ | ⟨t2, _ | ⟨t3, rest⟩⟩⟩ <;> rw [hat] at h3
     . cases h3
     . cases h3
     . have h3 : a3d cx.T (i.dst.getD 0) t t2 (C9 cx.T slots t (.tmp j)) (C9 cx.T slots t2 y) m dead (fun d m dd => some (d, m, dd)) = some (p1, p2, p3) := h3
       rw [he] at h3
       exact c3r hno h3
     . cases h3
theorem a8d {i : Oper} {t : GF} {j : Nat} {v : Hy} (hi : i.op = .store t (.tmp j) v) {slots : List D} {m : Mem} {dead : List Pos} {root : Nat} (hr : ∀ k q o, slots.getD j .any = .ptr k q o -> a0j root k q = true) {d : D} {m' : Mem} {dd : List Pos}
 (h : ∀ (R' : Type) (K' : St -> Option R'), p6 cx ops i ⟨slots, m, dead⟩ K' = K' ⟨put slots i.dst d, m', dd⟩) : ∀ k s, ¬ a0j root k s = true -> m'.box? k s = m.box? k s := by
 have h1 := h St some
 rw [L4] at h1
 cases hw : U7 ops i slots with
 | none => rw [hw] at h1; cases h1
 | some b =>
   rw [hw] at h1
   cases b
   . simp only [a3M, U5] at h1
     injection h1 with h2; injection h2 with _ h2 _; subst h2
     exact fun _ _ _ => rfl
   . simp only [a3M] at h1
     rw [Y5 i (by simp [S6, hi, w6])] at h1
     have hrk : ∀ (R' : Type) (K' : Bool -> D -> Mem -> List Pos -> Option R'), runK cx i slots m dead K' = opK cx.T (i.dst.getD 0) i.type slots (.store t (.tmp j) v) m dead (K' false) := by
      intro R' K'; unfold runK; rw [hi]
     rw [hrk, ← c1L cx] at h1
     obtain ⟨p, h3, h4⟩ := bind_some h1
     injection h4 with h4; injection h4 with _ h4 _
     obtain ⟨p1, p2, p3⟩ := p
     simp only at h4; subst h4
     simp only [opK, E7] at h3
     have he : C9 cx.T slots 0 (.tmp j) = slots.getD j .any := by simp only [C9]
     rw [he] at h3
     simp only [forceD_eq] at h3
     generalize b3D m (slots.getD j .any) (C9 cx.T slots t v) = dv at h3
     unfold b6H at h3
     split at h3
     . split at h3
       . rename_i k s o hd
         have d6O := hr k s o hd
         split at h3
         . rename_i bx hbx
           cases hc : (GR (cellsOf dv).length _ && Jb _ bx.cells.length) with
           | false => rw [hc] at h3; cases h3
           | true =>
             rw [hc, cond_true] at h3
             obtain ⟨cs, d2, h3⟩ := a2V _ _ _ _ _ h3
             rw [a6u, B9] at h3
             injection h3 with h3
             injection h3 with _ h3
             injection h3 with h3 _
             subst h3
             intro k' s' hne
             rw [C5, if_neg (fun e => hne (by rw [e.1, e.2.1]; exact d6O))]
         . cases h3
       . cases h3
     . cases h3
theorem c1e {x : Oper} {t : GF} {i : Nat} (hx : x.op = .load t (.tmp i)) {slots : List D} {m m' : Mem} {rx root : Nat} (hr : ∀ k q o, slots.getD i .any = .ptr k q o -> a0j rx k q = true) (hne : rx ≠ root)
 (hm : ∀ k s, ¬ a0j root k s = true -> m'.box? k s = m.box? k s) : S7 cx ops x slots m' = S7 cx ops x slots m := by
 unfold S7
 have he : C9 cx.T slots 0 (.tmp i) = slots.getD i .any := by simp only [C9]
 rw [a2j hx, a2j hx, he]
 have : a0m cx.T t (slots.getD i .any) m' some = a0m cx.T t (slots.getD i .any) m some := by
  unfold a0m
  split
  . split
    . rename_i k s o hd
      rw [hm k s (fun e => hne (b2g (hr k s o hd) e))]
    . rfl
    . rfl
  . rfl
 rw [this]
theorem d6z (hB : PureB cx) {x i : Oper} (ha : Apart ops cx x i) (hd : cx.dyn = true) (hf : c3x ops x.op i.op = true) {slots : List D} {m : Mem} {dead : List Pos} (hrx : RootOK cx ops x.op slots) (hri : RootOK cx ops i.op slots) {K : St -> Option R} {r : R}
 (h : p6 cx ops x ⟨slots, m, dead⟩ (fun s => p6 cx ops i s K) = some r) : p6 cx ops i ⟨slots, m, dead⟩ (fun s => p6 cx ops x s K) = some r := by
 have reads : ∀ {t : GF} {a : Nat}, x.op = .load t (.tmp a) -> S6 cx i.op = true -> (∀ (d : D) (m' : Mem) (dd : List Pos), (∀ (R' : Type) (K' : St -> Option R'), p6 cx ops i ⟨slots, m, dead⟩ K' = K' ⟨put slots i.dst d, m', dd⟩) -> S7 cx ops x slots m' = S7 cx ops x slots m) ->
  p6 cx ops i ⟨slots, m, dead⟩ (fun s => p6 cx ops x s K) = some r := by
  intro t a e1 hci hv
  have h1 : isVal cx x.op = true := by rw [e1]; rfl
  rw [C2 hB h1] at h
  obtain ⟨d, h3, h4⟩ := bind_some h
  rw [a2F ha.ab hci] at h4
  obtain ⟨e, m', dd, h5, h6⟩ := Y4 hB hci h4
  rw [h6 R fun s => p6 cx ops x s K]
  rw [C2 hB h1, T1 ha.ba, hv e m' dd h6, h3, Ij]
  exact h5
 have stores : ∀ {t : GF} {a : Nat}, i.op = .load t (.tmp a) -> S6 cx x.op = true -> (∀ (d : D) (m' : Mem) (dd : List Pos), (∀ (R' : Type) (K' : St -> Option R'), p6 cx ops x ⟨slots, m, dead⟩ K' = K' ⟨put slots x.dst d, m', dd⟩) -> S7 cx ops i slots m' = S7 cx ops i slots m) ->
  p6 cx ops i ⟨slots, m, dead⟩ (fun s => p6 cx ops x s K) = some r := by
  intro t a e2 hcx hv
  have h2 : isVal cx i.op = true := by rw [e2]; rfl
  obtain ⟨d, m', dd, h3, h4⟩ := Y4 hB hcx h
  rw [C2 hB h2, T1 ha.ab, hv d m' dd h4] at h3
  obtain ⟨e, h5, h6⟩ := bind_some h3
  rw [C2 hB h2, h5, Ij, a2F ha.ba hcx, h4]
  exact h6
 rcases a8K hf with ⟨t, a, t', b, v, e1, e2, hne⟩ | ⟨t, a, t', b, v, e1, e2, hne⟩ | ⟨t, a, e1, e2⟩ | ⟨t, a, e1, e2⟩
 . -- x reads, i stores
   obtain ⟨j1, q1, r1⟩ := hrx.root hd _ (.inl ⟨t, e1⟩)
   obtain ⟨j2, q2, r2⟩ := hri.root hd _ (.inr ⟨t', v, e2⟩)
   injection q1 with q1; subst q1
   injection q2 with q2; subst q2
   exact reads e1 (by rw [e2]; rfl) fun d m' dd h6 => c1e e1 r1 hne (a8d e2 r2 h6)
 . -- x stores, i reads
   obtain ⟨j1, q1, r1⟩ := hrx.root hd _ (.inr ⟨t', v, e1⟩)
   obtain ⟨j2, q2, r2⟩ := hri.root hd _ (.inl ⟨t, e2⟩)
   injection q1 with q1; subst q1
   injection q2 with q2; subst q2
   exact stores e2 (by rw [e1]; rfl) fun d m' dd h4 => c1e e2 r2 hne (a8d e1 r1 h4)
 . -- x reads, i appends
   exact reads e1 (by unfold S6; rw [b9T cx e2]) fun d m' dd h6 => by rw [b7e e2 (hri.app hd e2) h6]
 . -- x appends, i reads
   exact stores e1 (by unfold S6; rw [b9T cx e2]) fun d m' dd h4 => by rw [b7e e2 (hrx.app hd e2) h4]
theorem a5s (cx : Cx) {x i : Oper} {slots : List D} {d : D} (hx : ∀ s, x.dst = some s -> Away ops s i) {j : Nat} (hj : .tmp j ∈ i.op.operands.toList) : (En.put slots x.dst d).getD j .any = slots.getD j .any := by
 have h1 : (C9 cx.T (En.put slots x.dst d) 0 (.tmp j)) = C9 cx.T slots 0 (.tmp j) := by
  cases hxd : x.dst with
  | none => rfl
  | some y => exact o0 slots y _ 0 _ ((hx y hxd).reads _ hj)
 simpa only [C9] using h1
theorem a9B {op : Op} {j : Nat} {y : Hy} (h : isApp op = true) (ha : b8q op = [.tmp j, y]) : Operand.tmp j ∈ op.operands.toList := by
 obtain ⟨c, rfl, hc⟩ := c2u h
 have ha : c.args.toList = [.tmp j, y] := ha
 have hm : Operand.tmp j ∈ c.args := by rw [← LL, ha]; simp
 show Operand.tmp j ∈ c.operands.toList
 unfold IE
 rw [hc, LL]
 exact Array.mem_append.2 (.inr hm)
theorem RootOK.put {x i : Oper} {slots : List D} (h : RootOK cx ops i.op slots) (hx : ∀ s, x.dst = some s -> Away ops s i) (d : D) : RootOK cx ops i.op (put slots x.dst d) := by
 refine ⟨fun hd z hz => ?_, fun hd ha => ?_⟩
 . obtain ⟨j, rfl, hj⟩ := h.root hd z hz
   refine ⟨j, rfl, fun k q o he => hj k q o ?_⟩
   rw [← he]
   refine (a5s cx hx ?_).symm
   rcases hz with ⟨t, e⟩ | ⟨t, v, e⟩ <;> rw [e] <;> simp [Hh]
 . obtain ⟨j, y, e, hj⟩ := h.app hd ha
   refine ⟨j, y, e, fun x' k s p e' he => hj x' k s p e' ?_⟩
   rw [← he]
   exact (a5s cx hx (a9B ha e)).symm
theorem RootOK.unput {x i : Oper} {slots : List D} {d : D} (h : RootOK cx ops i.op (En.put slots x.dst d)) (hx : ∀ s, x.dst = some s -> Away ops s i) : RootOK cx ops i.op slots := by
 refine ⟨fun hd z hz => ?_, fun hd ha => ?_⟩
 . obtain ⟨j, rfl, hj⟩ := h.root hd z hz
   refine ⟨j, rfl, fun k q o he => hj k q o ?_⟩
   rw [← he]
   refine a5s cx hx ?_
   rcases hz with ⟨t, e⟩ | ⟨t, v, e⟩ <;> rw [e] <;> simp [Hh]
 . obtain ⟨j, y, e, hj⟩ := h.app hd ha
   refine ⟨j, y, e, fun x' k s p e' he => hj x' k s p e' ?_⟩
   rw [← he]
   exact a5s cx hx (a9B ha e)
theorem a6c {x i : Oper} (ha : a4e (w6 cx x.op) (w6 cx i.op) = false ∨ (cx.dyn = true /\ c3x ops x.op i.op = true)) : S6 cx x.op = true /\ S6 cx i.op = true := by
 rcases ha with h | ⟨_, h⟩
 . obtain ⟨h1, h2, _⟩ := b4Q h; exact ⟨h1, h2⟩
 . rcases a8K h with ⟨t, a, t', b, v, e1, e2, _⟩ | ⟨t, a, t', b, v, e1, e2, _⟩ | ⟨t, a, e1, e2⟩ | ⟨t, a, e1, e2⟩
   . rw [e1, e2]; exact ⟨rfl, rfl⟩
   . rw [e1, e2]; exact ⟨rfl, rfl⟩
   . rw [e1]; exact ⟨rfl, by unfold S6; rw [b9T cx e2]⟩
   . rw [e1]; exact ⟨by unfold S6; rw [b9T cx e2], rfl⟩
theorem d0j {x : Oper} (h : c6x x = true) : ∃ t, x.op = .move (.tmp t) /\ x.guard = none := by
 unfold c6x at h
 split at h
 . rename_i t e
   refine ⟨t, e, ?_⟩
   split at h
   . assumption
   . cases h
 . cases h
theorem b9U {x i : Oper} (ha : Apart ops cx x i) : S6 cx x.op = true := by
 rcases ha.cls with h | h | ⟨h, _⟩
 . exact (a6c (ops := ops) (.inl h)).1
 . exact (a6c (.inr h)).1
 . obtain ⟨t, e, _⟩ := d0j h
   rw [e]; rfl
theorem b0x {x : Oper} {t : Nat} (e : x.op = .move (.tmp t)) (hg : x.guard = none) (slots : List D) (m : Mem) (dead : List Pos) (K : St -> Option R) :
 p6 cx ops x ⟨slots, m, dead⟩ K = K ⟨put slots x.dst (slots.getD t .any), m, dead⟩ := by
 unfold p6
 rw [hg]
 simp only [a5A, runK, e, opK, evK, O7, cond_false, U6]
theorem b9c {i : Oper} (hg : noG i = true) (slots : List D) (m : Mem) (dead : List Pos) (K : St -> Option R) :
 p6 cx ops i ⟨slots, m, dead⟩ K = runK cx i slots m dead fun c d m' dead' => K ⟨put (cond c (slots.map a1V) slots) i.dst d, m', dead'⟩ := by
 have hg : i.guard = none := by
  unfold noG at hg
  split at hg
  . assumption
  . cases hg
 unfold p6
 rw [hg]
 simp only [a5A]
 congr 1
 funext c d m' dead'
 cases c
 . simp only [cond_false, U6]
 . simp only [cond_true, a2J, U6]
theorem c0I (s : Nat) (d : D) : a1V (b2V s d) = b2V s (a1V d) := by
 cases d with
 | v x a =>
   cases a with
   | no => rfl
   | nil e => rfl
   | own p e => cases p <;> rfl
 | _ => simp only [b2V, a1V]; (first | rfl | (split <;> rfl) | (cases D.noOwn _ <;> rfl))
theorem d5x {x i : Oper} (ha : Apart ops cx x i) (hm : c6x x = true) (hi : noG i = true) (slots : List D) (m : Mem) (dead : List Pos) (K : St -> Option R) :
 p6 cx ops x ⟨slots, m, dead⟩ (fun s => p6 cx ops i s K) = p6 cx ops i ⟨slots, m, dead⟩ (fun s => p6 cx ops x s K) := by
 obtain ⟨t, e, hg⟩ := d0j hm
 rw [b0x e hg, b9c hi, b9c hi]
 have G5 : ∀ F : Bool -> D -> Mem -> List Pos -> Option R, runK cx i (put slots x.dst (slots.getD t .any)) m dead F = runK cx i slots m dead F := by
  intro F
  cases hx : x.dst with
  | none => rfl
  | some s => exact runK_set cx i slots s _ m dead F (ha.ab s hx).reads
 rw [G5]
 congr 1
 funext c d m' dead'
 rw [b0x e hg]
 congr 2
 have hnd : ∀ s, i.dst = some s -> s ≠ t := fun s hs h => by
  have := (ha.ba s hs).reads (.tmp t) (by rw [e]; simp [Hh])
  subst h
  exact this rfl
 have a0y : ∀ Y : List D, (put Y i.dst d).getD t .any = Y.getD t .any := by
  intro Y
  cases hd : i.dst with
  | none => rfl
  | some s =>
    simp only [put, GJ]
    rw [JH (hnd s hd)]
 rw [a0y]
 have hdr : ∀ n : Nat, (slots.map a1V).getD n .any = a1V (slots.getD n .any) := by
  intro n
  simp only [GJ, Hz]
  cases slots[n]? <;> rfl
 cases hx : x.dst with
 | none => rfl
 | some s =>
   have hs : i.dst ≠ some s := (ha.ab s hx).dst
   cases c
   . simp only [cond_false]
     exact b0A _ _ _ _ _ hs
   . simp only [cond_true, hdr]
     show put ((slots.set s (b2V s (slots.getD t .any))).map a1V) i.dst d = _
     rw [List.map_set, c0I]
     exact b0A _ _ _ _ _ hs
theorem b2j (hB : PureB cx) {i : Oper} {K : St -> Option R} {r : R} (B : List Oper) : ∀ (A : List Oper) (slots : List D) (m : Mem) (dead : List Pos), (∀ x ∈ A, Apart ops cx x i) -> a7i cx ops (A ++ i :: B) ⟨slots, m, dead⟩ K = some r -> RootOK cx ops i.op slots
 | [], slots, m, dead, _, h => (a1i h).1
 | x :: A, slots, m, dead, hA, h => by
   simp only [IV, a7i] at h
   obtain ⟨_, h⟩ := a1i h
   have hax := hA x (by simp)
   obtain ⟨d, m', dd, h1, _⟩ := Y4 hB (b9U hax) h
   exact (b2j hB B A _ _ _ (fun y hy => hA y (by simp [hy])) h1).unput hax.ab
theorem c3n (hB : PureB cx) {i : Oper} {K : St -> Option R} {r : R} (B : List Oper) : ∀ (A : List Oper) (slots : List D) (m : Mem) (dead : List Pos), (∀ x ∈ A, Apart ops cx x i) -> Good cx i slots m ->
 a7i cx ops (A ++ i :: B) ⟨slots, m, dead⟩ K = some r -> p6 cx ops i ⟨slots, m, dead⟩ (fun s => a7i cx ops (A ++ B) s K) = some r
 | [], slots, m, dead, _, _, h => (a1i h).2
 | x :: A, slots, m, dead, hA, hg, h => by
   have hri := b2j hB B (x :: A) slots m dead hA h
   simp only [IV, a7i] at h ⊢
   obtain ⟨hrx, h⟩ := a1i h
   have hax := hA x (by simp)
   by_cases hmv : c6x x = true /\ noG i = true
   . obtain ⟨t, e, hgx⟩ := d0j hmv.1
     rw [b0x e hgx] at h
     have h3 := c3n hB B A _ _ _ (fun y hy => hA y (by simp [hy])) (by
      intro t3 z3 hz3 k s o he
      refine hg t3 _ hz3 k s o ?_
      rw [← he]
      cases hxd : x.dst with
      | none => rfl
      | some y => exact (o0 slots y _ 0 _ ((hax.ab y hxd).reads _ (by rw [hz3]; simp [Hh]))).symm) h
     have h4 : p6 cx ops x ⟨slots, m, dead⟩ (fun s => p6 cx ops i s fun s' => a7i cx ops (A ++ B) s' K) = some r := by
      rw [b0x e hgx]; exact h3
     rw [d5x hax hmv.1 hmv.2] at h4
     rw [← h4]
     congr 1
     funext s
     obtain ⟨sl, mm, dd⟩ := s
     show b3K cx ops x.op sl _ = _
     rw [e, c0K (by
      refine ⟨fun hd z hz => ?_, fun hd ha => ?_⟩
      . rcases hz with ⟨t', e'⟩ | ⟨t', v, e'⟩ <;> cases e'
      . cases ha)]
   have hcl : a4e (w6 cx x.op) (w6 cx i.op) = false ∨ (cx.dyn = true /\ c3x ops x.op i.op = true) := by
    rcases hax.cls with h | h | h
    . exact .inl h
    . exact .inr h
    . exact absurd h hmv
   obtain ⟨hcx, hci⟩ := a6c hcl
   obtain ⟨d, m', dd, h1, h2⟩ := Y4 hB hcx h
   have d6P : Good cx i (put slots x.dst d) m' := by
    by_cases hl : ∃ t z, i.op = .load t z
    . obtain ⟨t, z, hz⟩ := hl
      rcases hcl with d0V | ⟨hdy, b3P⟩
      . refine hg.put hax.ab (a5P hB ?_ h2) d
        have : w6 cx i.op = .r := by rw [hz]; rfl
        rw [this] at d0V
        unfold isVal isA
        cases hc : w6 cx x.op <;> rw [hc] at d0V <;> simp [a4e] at d0V ⊢
      . rcases a8K b3P with ⟨t1, a, t', b, v, e1, e2, hne⟩ | ⟨t1, a, t', b, v, e1, e2, hne⟩ | ⟨t1, a, e1, e2⟩ | ⟨t1, a, e1, e2⟩
        . rw [hz] at e2; cases e2
        rotate_left
        . rw [c1T hz] at e2; cases e2
        . intro t3 z3 hz3 k s o he
          rw [b7e e2 (hrx.app hdy e2) h2]
          refine hg t3 _ hz3 k s o ?_
          rw [← he]
          cases hxd : x.dst with
          | none => rfl
          | some y => exact (o0 slots y _ 0 _ ((hax.ab y hxd).reads _ (by rw [hz3]; simp [Hh]))).symm
        . obtain ⟨j1, q1, r1⟩ := hrx.root hdy _ (.inr ⟨t', v, e1⟩)
          injection q1 with q1; subst q1
          intro t3 z3 hz3 k s o he
          rw [hz3] at e2; injection e2 with _ e2; subst e2
          have hri2 := (hri.put hax.ab d)
          obtain ⟨j2, q2, r2⟩ := hri2.root hdy _ (.inl ⟨t3, hz3⟩)
          injection q2 with q2; subst q2
          have hr2 := r2 k s o (by simpa only [C9] using he)
          rw [a8d e1 r1 h2 _ _ (fun e => hne (b2g hr2 e))]
          refine hg t3 _ hz3 k s o ?_
          rw [← he]
          cases hxd : x.dst with
          | none => rfl
          | some y => exact (o0 slots y _ 0 _ ((hax.ab y hxd).reads _ (by rw [hz3]; simp [Hh]))).symm
    . intro t z hz
      exact absurd ⟨t, z, hz⟩ hl
   have h3 := c3n hB B A _ _ _ (fun y hy => hA y (by simp [hy])) d6P h1
   have h4 : p6 cx ops i ⟨slots, m, dead⟩ (fun s => p6 cx ops x s fun s' => a7i cx ops (A ++ B) s' K) = some r := by
    rcases hcl with d0V | ⟨hdy, b3P⟩
    . exact d6B hB hax d0V hg (by rw [h2]; exact h3)
    . exact d6z hB hax hdy b3P hrx hri (by rw [h2]; exact h3)
   obtain ⟨e, m2, d2, h5, h6⟩ := Y4 hB hci h4
   rw [h6]
   show b3K cx ops x.op (put slots i.dst e) _ = some r
   rw [c0K (hrx.put hax.ba e)]
   exact h5
def todo (listed : Array Bool) : Nat -> List Oper -> List Oper
 | _, [] => []
 | k, o :: r => cond (listed.getD k false) (todo listed (k + 1) r) (o :: todo listed (k + 1) r)
theorem b2u {listed : Array Bool} : ∀ (l : List Oper) (k i : Nat) (o : Oper), l[i]? = some o -> listed.getD (k + i) true = false ->
 ∃ A B, todo listed k l = A ++ o :: B /\ todo (listed.setIfInBounds (k + i) true) k l = A ++ B /\ ∀ x ∈ A, ∃ j, j < i /\ l[j]? = some x /\ listed.getD (k + j) false = false
 | [], k, i, o, h, _ => by simp at h
 | x :: r, k, 0, o, h, hn => by
   simp at h; subst h
   have hlt : k < listed.size := by
    rcases Ir k listed.size with h' | h'
    . exact h'
    . simp [GL, Array.getElem?_eq_none h'] at hn
   have hn' : listed.getD k false = false := by
    simp only [Nat.add_zero] at hn
    rw [GL, GQ hlt] at hn ⊢; exact hn
   refine ⟨[], todo listed (k + 1) r, ?_, ?_, fun x hx => by cases hx⟩
   . simp [todo, hn']
   . have h1 : (listed.setIfInBounds (k + 0) true).getD k false = true := by simp [GL, hlt]
     have h2 : ∀ (l : List Oper) (k' : Nat), k < k' -> todo (listed.setIfInBounds (k + 0) true) k' l = todo listed k' l := by
      intro l
      induction l with
      | nil => intro k' _; rfl
      | cons y l ih =>
        intro k' hk
        unfold todo
        rw [LM false (by omega), ih (k' + 1) (by omega)]
     have h3 : todo (listed.setIfInBounds (k + 0) true) k (x :: r) = cond ((listed.setIfInBounds (k + 0) true).getD k false) (todo (listed.setIfInBounds (k + 0) true) (k + 1) r) (x :: todo (listed.setIfInBounds (k + 0) true) (k + 1) r) := rfl
     rw [h3, h1, cond_true, h2 r (k + 1) (by omega)]
     rfl
 | x :: r, k, i + 1, o, h, hn => by
   obtain ⟨A, B, h1, h2, h3⟩ := b2u (listed := listed) r (k + 1) i o (by simpa using h) (by rw [show k + 1 + i = k + (i + 1) by omega]; exact hn)
   rw [show k + 1 + i = k + (i + 1) by omega] at h2
   have hs : (listed.setIfInBounds (k + (i + 1)) true).getD k false = listed.getD k false := LM false (by omega)
   unfold todo
   rw [hs]
   cases hx : listed.getD k false with
   | true =>
     refine ⟨A, B, by rw [cond_true]; exact h1, by rw [cond_true]; exact h2, fun y hy => ?_⟩
     obtain ⟨j, a1, a2, a3⟩ := h3 y hy
     exact ⟨j + 1, by omega, by simpa using a2, by rw [show k + (j + 1) = k + 1 + j by omega]; exact a3⟩
   | false =>
     refine ⟨x :: A, B, by rw [cond_false, h1]; rfl, by rw [cond_false, h2]; rfl, fun y hy => ?_⟩
     rcases Ku.1 hy with rfl | hy
     . exact ⟨0, by omega, by simp, hx⟩
     . obtain ⟨j, a1, a2, a3⟩ := h3 y hy
       exact ⟨j + 1, by omega, by simpa using a2, by rw [show k + (j + 1) = k + 1 + j by omega]; exact a3⟩
theorem c0n {listed : Array Bool} : ∀ (l : List Oper) (k : Nat), (∀ i, i < l.length -> listed.getD (k + i) false = true) -> todo listed k l = []
 | [], _, _ => rfl
 | x :: r, k, h => by
   unfold todo
   rw [show listed.getD k false = true from h 0 (by simp), cond_true]
   exact c0n r (k + 1) fun i hi => by rw [show k + 1 + i = k + (i + 1) by omega]; exact h (i + 1) (by simp; omega)
theorem b5Y {listed : Array Bool} : ∀ (l : List Oper) (k : Nat), (∀ i, i < l.length -> listed.getD (k + i) false = false) -> todo listed k l = l
 | [], _, _ => rfl
 | x :: r, k, h => by
   unfold todo
   rw [show listed.getD k false = false from h 0 (by simp), cond_false, b5Y r (k + 1) fun i hi => by rw [show k + 1 + i = k + (i + 1) by omega]; exact h (i + 1) (by simp; omega)]
def done (listed : Array Bool) : Nat := listed.toList.countP (· = true)
theorem c0X {listed : Array Bool} {i : Nat} (hi : i < listed.size) (h : listed.getD i true = false) : done (listed.setIfInBounds i true) = done listed + 1 := by
 have hf : listed[i] = false := by rw [GL, GQ hi] at h; simpa using h
 unfold done
 rw [Array.toList_setIfInBounds]
 have hl : listed.toList = listed.toList.take i ++ listed.toList[i]'(by simpa using hi) :: listed.toList.drop (i + 1) := by
  conv => lhs; rw [← List.take_append_drop i listed.toList, List.drop_eq_getElem_cons (by simpa using hi)]
 rw [List.set_eq_take_append_cons_drop, if_pos (by simpa using hi)]
 conv => rhs; rw [hl]
 simp [List.countP_append, hf]
 omega
theorem d3l (listed : Array Bool) : done listed <= listed.size := by
 unfold done; rw [← HZ]; exact List.countP_le_length
end
section
variable {R : Type} {P : Hb} {E : Env} {g : G} {w : GG} {cx : Cx} {ops : Array Oper}
theorem Sim.good {i : Oper} {slots : List D} {m : Mem} {dead : List Pos} {a : Act} (hs : Sim cx.T E g w ⟨slots, m, dead⟩ a) : Good cx i slots m := by
 intro t z _ k s o he
 have h := hs.slots.ev (T := cx.T) 0 z
 rw [he] at h
 generalize a.eval z = v at h
 cases h with
 | ptr k s o hk hd =>
   rw [hs.here.dom] at hd
   exact hd
theorem Sim.drew {st : St} {a : Act} (hs : Sim cx.T E g w st a) : ∃ g', Sim cx.T E g' w.drew st a /\ Tr E.d g w g' w.drew :=
 ⟨g.at_ w.heap.size .imm, ⟨b5S (Grows.drew w) (GB _) _ hs.here, fun s x hx => (hs.slots s x hx).keep (a1d (Grows.drew w) (GB _) _), hs.size, hs.defers⟩, c4Q (Grows.drew w) (GB _) _ _⟩
theorem c6W (hcx : CxOK P cx) {acc : List Nat} (ho : Ordered ops cx ops.toList acc) {n : Nat} {K : St -> Option R} {r : R} {Q : Exit -> Act -> GG -> Prop} :
 ∀ (fuel : Nat) (listed : Array Bool) (st : St) (a : Act) (w : GG) (E : Env) (g : G), fuel + done listed = ops.size -> listed.size = ops.size ->
  (∀ (i : Nat) o, ops.toList[i]? = some o -> listed.getD i false = true -> ∀ e ∈ o.after, Region.binds .any e = true -> listed.getD e.on false = true) ->
  Sim cx.T E g w st a -> a.tmps.size = n -> a7i cx ops (todo listed 0 ops.toList) st K = some r ->
  (∀ st' a' w', K st' = some r -> Then cx.T E g w n st' a' w' -> Q .normal a' w') -> wpAny P .any ops Q fuel listed a w := by
 have d0W : ∀ (listed : Array Bool), listed.size = ops.size -> Region.ready .any ops listed = [] -> ∀ j, j < ops.size -> listed.getD j false = true := by
  intro listed hsz hr j
  induction j using Kz with
  | _ j ih =>
    intro hj
    have hoj : ops[j]? = some ops[j] := GQ hj
    have hjl : j < listed.size := by rw [hsz]; exact hj
    cases hl : listed.getD j false with
    | true => rfl
    | false =>
      have : j ∈ Region.ready .any ops listed := Ks.2 ⟨by
       rw [GL, GQ hjl] at hl ⊢; exact hl, _, hoj, fun e he hb => by
       have hlt := ho.back j _ (by simp) e he hb
       exact ih e.on hlt (by omega)⟩
      rw [hr] at this; cases this
 have O9 : ∀ (listed : Array Bool) (st : St) (a : Act) (w : GG) (E : Env) (g : G), (∀ j, j < ops.size -> listed.getD j false = true) -> Sim cx.T E g w st a -> a.tmps.size = n -> a7i cx ops (todo listed 0 ops.toList) st K = some r ->
  (∀ st' a' w', K st' = some r -> Then cx.T E g w n st' a' w' -> Q .normal a' w') -> Q .normal a w := by
  intro listed st a w E g a0z hs hn h hq
  rw [c0n ops.toList 0 (fun i hi => by rw [HE]; exact a0z i (by rw [← HZ]; exact hi))] at h
  exact hq st a w h ⟨E, g, hs, rfl, Tr.refl _ _ _, hn⟩
 intro fuel
 induction fuel with
 | zero =>
   intro listed st a w E g hm hsz hcl hs hn h hq
   have a0z : ∀ j, j < ops.size -> listed.getD j false = true := by
    intro j hj
    have hjl : j < listed.size := by rw [hsz]; exact hj
    cases hl : listed.getD j false with
    | true => rfl
    | false =>
      have h1 := c0X (listed := listed) hjl (by rw [GL, GQ hjl] at hl ⊢; exact hl)
      have h2 := d3l (listed.setIfInBounds j true)
      rw [Array.size_setIfInBounds, hsz] at h2
      omega
   refine ⟨?_, O9 listed st a w E g a0z hs hn h hq⟩
   rcases hr : Region.ready .any ops listed with _ | ⟨j, l⟩
   . rfl
   . have hj : j ∈ Region.ready .any ops listed := by rw [hr]; exact List.mem_cons_self
     obtain ⟨hun, o, hoj, _⟩ := Ks.1 hj
     have hjs : j < ops.size := (Hr.1 hoj).1
     have h1 := a0z j hjs
     have hjl : j < listed.size := by rw [hsz]; exact hjs
     rw [GL, GQ hjl] at hun h1
     simp only [JK] at hun h1
     rw [hun] at h1; cases h1
 | succ fuel ih =>
   intro listed st a w E g hm hsz hcl hs hn h hq
   refine ⟨fun hr => O9 listed st a w E g (d0W listed hsz hr) hs hn h hq, fun i hi => ?_⟩
   obtain ⟨hun, o, hoi, hrd⟩ := Ks.1 hi
   have his : i < ops.size := (Hr.1 hoi).1
   have hol : ops.toList[i]? = some o := by simpa using hoi
   obtain ⟨A, B, h1, h2, h3⟩ := b2u (listed := listed) ops.toList 0 i o hol (by rw [HE]; exact hun)
   rw [HE] at h2
   rw [h1] at h
   obtain ⟨slots, m, dead⟩ := st
   have hap : ∀ x ∈ A, Apart ops cx x o := by
    intro x hx
    obtain ⟨j, b1, b2, b3⟩ := h3 x hx
    rw [HE] at b3
    rcases ho.pair i j o x hol b2 b1 with hb | hb
    . have := ho.ahead (fun k => listed.getD k false = true) (fun k y hy hk e he hbd => hcl k y hy hk e he hbd) i o hol (fun e he hbd => hrd e he hbd) j hb
      rw [b3] at this; cases this
    . exact hb
   have h4 := c3n hcx.B B A slots m dead hap hs.good h
   rw [← h2] at h4
   have d4d : ∀ (st' : St) (a' : Act) (w' : GG) (E' : Env) (g' : G), a7i cx ops (todo (listed.setIfInBounds i true) 0 ops.toList) st' K = some r -> Sim cx.T E' g' w' st' a' -> E'.d = E.d -> Tr E.d g w g' w' -> a'.tmps.size = n -> wpAny P .any ops Q fuel (listed.setIfInBounds i true) a' w' := by
    intro st' a' w' E' g' c1 c2 c3 c4 c5
    refine ih _ st' a' w' E' g' (by rw [c0X (by rw [hsz]; exact his) hun]; omega) (by simpa using hsz) (fun k y hy hk e he hbd => ?_) c2 c5 c1 fun st2 a2 w2 d1 d2 => hq st2 a2 w2 d1 (d2.trans c3 c4)
    have hset : ∀ k, (listed.setIfInBounds i true).getD k false = true ↔ k = i ∨ listed.getD k false = true := by
     intro k
     by_cases hki : k = i
     . subst hki; simp [GL, hsz, his]
     . rw [LM false (Ne.symm hki)]; simp [hki]
    rcases (hset k).1 hk with rfl | hk
    . rw [hol] at hy; injection hy with hy; subst hy
      exact (hset _).2 (.inr (hrd e he hbd))
    . exact (hset _).2 (.inr (hcl k y hy hk e he hbd))
   unfold Go.wpOp
   simp only [hoi]
   rcases b1i hcx hs h4 with ⟨hw, st', c1, c2⟩ | ⟨hw, st', c1, c2⟩
   . rw [if_pos hw]
     refine .inl ((c2 (fun v w' => ∃ E' g', Sim cx.T E' g' w' st' (a.put o.dst v) /\ E'.d = E.d /\ Tr E.d g w g' w') (fun v w' g' E' b1 b2 b3 => ⟨E', g', b1, b2, b3⟩)).2 _ Q ?_)
     rintro v w' ⟨E', g', b1, b2, b3⟩
     exact d4d st' _ w' E' g' c1 b1 b2 b3 (by rw [I0]; exact hn)
   . rw [hw]
     simp only [GZ, if_false]
     exact d4d st' _ w E g c1 c2 rfl (Tr.refl _ _ _) (by rw [I0]; exact hn)
theorem c7u (hm : P.follows .mixedOrders = true) (hcx : CxOK P cx) (h : a6o cx ops = true) : b9W P cx ops := by
 intro R n id st a w E g K r Q hs hn hk hq
 obtain ⟨acc, ho⟩ := c4h h
 obtain ⟨g1, h1, h2⟩ := hs.drew
 have hf : ∀ i, (Ls ops.size false).getD i false = false := by
  intro i
  rw [GL]
  rcases Ir i ops.size with hi | hi
  . rw [Ju, if_pos hi]; rfl
  . rw [Ju, if_neg (by omega)]; rfl
 refine wp_region_any hm (c6W hcx ho (n := n) (K := K) (r := r) ops.size _ st a w.drew E g1 ?_ (by simp) (fun i o _ hi => ?_) h1 hn ?_ fun st' a' w' c1 c2 => hq st' a' w' c1 (c2.trans rfl h2))
 . simp [done, List.countP_replicate]
 . rw [hf] at hi; cases hi
 . rw [b5Y ops.toList 0 (fun i hi => hf _)]; exact hk
end
end En
namespace En
open Go
section
variable {R : Type} {P : Hb} {E : Env} {g : G} {w : GG} {cx : Cx}
theorem d3W {dead dead' : List Pos} {x : D} {v : GK} (h : RepD E g w dead x v) : RepD E g w dead' x.bare v := by
 induction h with
 | v x a v h ha => exact .v _ _ _ h trivial
 | ptr k s o h1 h2 => exact .ptr k s o h1 h2
 | nilp => exact .nilp
 | eptr cs o b off us h hr => exact .eptr cs o b off us h hr
 | clos f caps us hn' hr ih =>
   refine .clos f _ us (by rw [t6]; exact hn') fun k y hy => ?_
   obtain ⟨z, hz, rfl⟩ := E9 _ k y hy
   exact ih k z hz
 | nilF => exact .nilF
 | fn n fs k s v h => exact .fn n fs k s v h
 | bld => exact .bld
 | agg ds us hn' hr ih =>
   refine .agg _ us (by rw [t6]; exact hn') fun k y hy => ?_
   obtain ⟨z, hz, rfl⟩ := E9 _ k y hy
   exact ih k z hz
 | tup ds us hn' hr ih =>
   refine .tup _ us (by rw [t6]; exact hn') fun k y hy => ?_
   obtain ⟨z, hz, rfl⟩ := E9 _ k y hy
   exact ih k z hz
 | any v => exact .any v
theorem b5g : ∀ (n : Nat) (K : List D -> Option R), b8A n K = K (IX n .any)
 | 0, K => rfl
 | n + 1, K => by simp only [b8A, b5g n, List.replicate_succ]
theorem c4K : ∀ (ds : List D) (n : Nat) (K : List D -> Option R), c9Z n ds K = K (ds ++ IX (n - ds.length) .any)
 | [], n, K => by simp only [c9Z, b5g]; rfl
 | d :: ds, n, K => by
   simp only [c9Z, c4K ds, IV, List.length_cons]
   rw [show n - 1 - ds.length = n - (ds.length + 1) by omega]
def c8T (tmps : Array GK) : LP -> Sem GK
 | .tmp t => pure (tmps.getD t undef)
 | .cell a t => do loadVar t (← asAddr (tmps.getD a undef))
theorem c2T (fn : Func) (tmps : Array GK) : results fn tmps = (do
 let vs ← fn.results.mapM (c8T tmps)
 pure (if h : vs.size = 1 then vs[0] else .tuple vs)) := rfl
theorem d3i (us : List GK) : (if h : us.toArray.size = 1 then us.toArray[0] else .tuple us.toArray) = b0n us := by
 match us with
 | [] => rfl
 | [u] => rfl
 | u :: u' :: us => simp [b0n]
theorem c3l {t : GF} {u v : GK} {w' : GG} (h : (Instr.loadAt t u).run P w = .ok v w') : (do loadVar t (← asAddr u)).run P w = .ok v w' := by
 unfold Instr.loadAt at h
 rw [GY] at h ⊢
 cases u with
 | pointer x =>
   cases x with
   | some a => exact h
   | none => simp [Instr.sureAddr] at h
 | _ => simp [Instr.sureAddr] at h
theorem c2y (hT : p7 P cx.T) {st : St} {a : Act} (hs : Sim cx.T E g w st a) (x : LP) {K : D -> Option R} {r : R} (h : d2x cx x st K = some r) :
 ∃ d u, K d = some r /\ (c8T a.tmps x).run P w = .ok u w /\ RepD E g w [] d u := by
 cases x with
 | tmp t =>
   simp only [d2x, O7, forceD_eq] at h
   refine ⟨_, _, h, rfl, ?_⟩
   have := hs.slots.ev (T := cx.T) 0 (.tmp t)
   exact d3W this
 | cell p ty =>
   simp only [d2x, O7] at h
   rw [← b8p] at h
   obtain ⟨d, h1, h2⟩ := bind_some h
   rw [forceD_eq] at h2
   have hp := hs.slots.ev (T := cx.T) 0 (.tmp p)
   obtain ⟨v, h3, h4⟩ := a9R (P := P) hT ty _ _ hp hs.here.mem d h1
   refine ⟨_, v, h2, ?_, d3W h4⟩
   exact c3l h3
theorem a9t (hT : p7 P cx.T) {st : St} {a : Act} (hs : Sim cx.T E g w st a) : ∀ (l : List LP) (K : List D -> Option R) (r : R), b3C cx l st K = some r ->
 ∃ rs us, K rs = some r /\ (l.mapM (c8T a.tmps)).run P w = .ok us w /\ RepDs E g w [] rs us
 | [], K, r, h => ⟨[], [], h, by simp, rfl, fun k y hk => by simp at hk⟩
 | x :: l, K, r, h => by
   simp only [b3C] at h
   obtain ⟨d, u, h1, h2, h3⟩ := c2y hT hs x h
   obtain ⟨rs, us, h4, h5, h6, h7⟩ := a9t hT hs l _ r h1
   refine ⟨d :: rs, u :: us, h4, ?_, by simp [h6], fun k y hk => ?_⟩
   . rw [List.mapM_cons]
     simp only [GY, h2, GT, h5, IG]
   . rcases k with _ | k
     . simp at hk; subst hk; simpa using h3
     . simpa using h7 k y (by simpa using hk)
theorem b9o (hT : p7 P cx.T) {st : St} {a : Act} (hs : Sim cx.T E g w st a) (fn : Func) {K : List D -> Option R} {r : R} (h : b3C cx fn.results.toList st K = some r) :
 ∃ rs us, K rs = some r /\ (results fn a.tmps).run P w = .ok (b0n us) w /\ RepDs E g w [] rs us := by
 obtain ⟨rs, us, h1, h2, h3⟩ := a9t hT hs _ K r h
 refine ⟨rs, us, h1, ?_, h3⟩
 rw [c2T, Array.mapM_eq_mapM_toList]
 simp only [GY, map_eq_pure_bind, h2, GT, IG]
 exact congrArg (fun v => Result.ok v w) (d3i us)
theorem a6i (hcx : CxOK P cx) {f : Hg} {fn : Func} {c : Code} (hf : P.funcs[f]? = some fn) (hb : fn.body = some c) (hro : G7 P cx c) (hl : v8 cx fn.ntmps c)
 {ds : List D} {us : List GK} (a0o : ds.length <= fn.ntmps) {m : Mem} (hh : Here cx.T E g w ([] :: m)) (hr : RepDs E g w [] ds us) {K : List D -> Mem -> Option R} {r : R} (h : g8 cx fn ds m K = some r)
 {post : Ending -> GG -> Prop} (hq : ∀ rs us' m' E' g' w', K rs m' = some r -> Here cx.T E' g' w' m' -> RepDs E' g' w' [] rs us' -> E'.d = E.d -> Tr E.d g w g' w' -> post (.returned (b0n us')) w') :
 Hq P f us.toArray w post := by
 refine calls_of_wp hf hb ?_
 unfold g8 at h
 rw [hb] at h
 simp only [c4K] at h
 have d7j : Sim cx.T E g w ⟨ds ++ IX (fn.ntmps - ds.length) .any, [] :: m, []⟩ { tmps := us.toArray ++ Ls (fn.ntmps - us.toArray.size) undef, defers := [] } := by
  refine ⟨hh, fun s x hx => ?_, by simp [hr.1], rfl⟩
  rcases Ir s ds.length with hlt | hge
  . rw [GS hlt] at hx
    have := hr.2 s x hx
    have e : (us.toArray ++ Ls (fn.ntmps - us.toArray.size) undef).getD s undef = us.getD s undef := by
     rw [GL, HF (by simp [hr.1]; exact hlt), GJ]; simp
    rw [e]; exact this
  . rw [GV hge, List.getElem?_replicate] at hx
    split at hx
    . injection hx with hx; subst hx; exact .any _
    . cases hx
 refine (d2E hcx c hro).1 _ fn.ntmps _ _ w E g _ r _ hl d7j (by simp [hr.1]; omega) h fun e st' a' w' hk ht => ?_
 obtain ⟨E', g', b1, b2, b3, b4⟩ := ht
 have fin : (b3C cx fn.results.toList st' fun rs => K rs st'.mem) = some r -> ∃ v, (results fn a'.tmps).run P w' = .ok v w' /\ post (.returned v) w' := by
  intro hk
  obtain ⟨rs, us', c1, c2, c3⟩ := b9o hcx.T b1 fn hk
  exact ⟨_, c2, hq rs us' st'.mem E' g' w' c1 b1.here c3 b2 b3⟩
 cases e with
 | normal => exact ⟨b1.defers, fin hk⟩
 | ret => exact ⟨b1.defers, fin hk⟩
 | exit i => cases hk
 | goto l => cases hk
def Perm.hid : Perm -> Perm
 | .imm => .imm
 | .low n => .low n
 | .own _ n => .low n
 | .box _ _ => .low 0
def G.hide (g : G) : G := { g with Γ := fun b => (g.Γ b).hid }
def G.settle (g : G) (n : Nat) (g' : G) : G := { g with Γ := fun b => if b < n then g.Γ b else (g'.Γ b).hid }
theorem c6P (p : Perm) : p.hid.still = true := by cases p <;> rfl
theorem a6y (p : Perm) : p.hid = .imm ∨ ∃ n, p.hid = .low n := by cases p <;> simp [Perm.hid]
theorem a1S (g : G) (b o : Nat) : j9 g.hide b o ↔ j9 g b o := by
 unfold j9 G.hide
 simp only
 cases g.Γ b <;> simp [Perm.hid]
theorem b4q {g g' : G} {n b o : Nat} (h : j9 g' b o) (hold : b < n -> g'.Γ b = g.hide.Γ b) : j9 (g.settle n g') b o := by
 unfold j9 G.settle
 simp only
 by_cases hb : b < n
 . rw [if_pos hb]
   have : j9 g.hide b o := by unfold j9 at h ⊢; rw [hold hb] at h; exact h
   exact (a1S g b o).1 this
 . rw [if_neg hb]
   have := (a1S g' b o).2 h
   exact this
mutual
def D.far : D -> Bool
 | .ptr _ _ _ => false
 | .fn _ _ _ _ => false
 | .clos _ caps => fars caps
 | .agg ds => fars ds
 | .tup ds => fars ds
 | _ => true
def fars : List D -> Bool
 | [] => true
 | d :: ds => d.far && fars ds
end
theorem a3V : ∀ (ds : List D), fars ds = true -> ∀ (i : Nat) y, ds[i]? = some y -> y.far = true
 | [], _, i, y, h => by simp at h
 | d :: ds, h, 0, y, hy => by simp only [fars, GP] at h; simp at hy; subst hy; exact h.1
 | d :: ds, h, i + 1, y, hy => by simp only [fars, GP] at h; exact a3V ds h.2 i y (by simpa using hy)
theorem RepD.far_ {E' : Env} {g' : G} {w' : GG} {dead dead' : List Pos} (hl : Later g w g' w') {x : D} {v : GK} (h : RepD E g w dead x v) : x.far = true -> RepD E' g' w' dead' x.bare v := by
 induction h with
 | v x a v h ha => exact fun _ => .v _ _ _ (h.later hl) trivial
 | ptr k s o h1 h2 => intro hf; cases hf
 | nilp => exact fun _ => .nilp
 | eptr cs o b off us h hr => exact fun _ => .eptr cs o b off us (fun k y hy => hl.st _ _ _ (h k y hy).1 (h k y hy).2) (fun k y hy => (hr k y hy).later hl)
 | clos f caps us hn' hr ih =>
   intro hf
   refine .clos f _ us (by rw [t6]; exact hn') fun k y hy => ?_
   obtain ⟨z, hz, rfl⟩ := E9 _ k y hy
   exact ih k z hz (a3V _ hf k z hz)
 | nilF => exact fun _ => .nilF
 | fn n fs k s v h => intro hf; cases hf
 | bld => exact fun _ => .bld
 | agg ds us hn' hr ih =>
   intro hf
   refine .agg _ us (by rw [t6]; exact hn') fun k y hy => ?_
   obtain ⟨z, hz, rfl⟩ := E9 _ k y hy
   exact ih k z hz (a3V _ hf k z hz)
 | tup ds us hn' hr ih =>
   intro hf
   refine .tup _ us (by rw [t6]; exact hn') fun k y hy => ?_
   obtain ⟨z, hz, rfl⟩ := E9 _ k y hy
   exact ih k z hz (a3V _ hf k z hz)
 | any v => exact fun _ => .any v
theorem RepDs.far_ {E' : Env} {g' : G} {w' : GG} {dead dead' : List Pos} (hl : Later g w g' w') {ds : List D} {us : List GK} (h : RepDs E g w dead ds us) (hf : fars ds = true) : RepDs E' g' w' dead' (bares ds) us :=
 ⟨by rw [h.1, t6], fun k y hk => by
  obtain ⟨z, hz, rfl⟩ := E9 _ k y hk
  exact (h.2 k z hz).far_ hl (a3V _ hf k z hz)⟩
theorem a0V (g : G) (w : GG) : Later g w g.hide w := ⟨rfl, fun b o v h1 h2 => ⟨(a1S g b o).2 h1, h2⟩, fun b x h1 h2 => ⟨by simp only [G.hide, h1, Perm.hid], h2⟩⟩
theorem c2M (hcx : CxOK P cx) {f : Hg} {fn : Func} {c : Code} (hf : P.funcs[f]? = some fn) (hb : fn.body = some c) (hro : G7 P cx c) (hl : v8 cx fn.ntmps c)
 {ds : List D} (a0o : ds.length <= fn.ntmps) (b3P : fars ds = true) (b3Q : bares ds = ds) {rf : List D -> Mem -> Option R} {r : R} (h : g8 cx fn ds [] rf = some r)
 {rs : List D} (hrs : ∀ rs' m, rf rs' m = some r -> fars rs' = true /\ bares rs' = rs) : F6 P cx.T f ds rs := by
 intro E g w us hsz hus
 have hh : Here cx.T ⟨0, t9 [[]]⟩ g.hide w ([] :: []) := by
  refine ⟨fun k s b hb => ?_, rfl, hsz.later (a0V g w), rfl⟩
  exfalso
  rcases k with _ | k
  . simp [Mem.box?, D7] at hb
  . simp [Mem.box?] at hb
 have hr : RepDs ⟨0, t9 [[]]⟩ g.hide w [] ds us := by
  have := hus.far_ (E' := ⟨0, t9 [[]]⟩) (dead' := []) (a0V g w) b3P
  rwa [b3Q] at this
 refine a6i hcx hf hb hro hl a0o hh hr h fun rs' us' m' E' g' w' h1 h2 h3 h4 h5 => ?_
 obtain ⟨h6, h7⟩ := hrs rs' m' h1
 have hold : ∀ b, b < w.heap.size -> g'.Γ b = g.hide.Γ b /\ w'.heap[b]? = w.heap[b]? := fun b hb => h5.hid b hb (a6y _)
 have hset : Later g' w' (g.settle w.heap.size g') w' := by
  refine ⟨?_, fun b o v a1 a2 => ⟨b4q a1 fun hb => (hold b hb).1, a2⟩, fun b x a1 a2 => ⟨?_, a2⟩⟩
  rotate_left
  . unfold G.settle
    simp only
    split
    . rename_i hb
      rw [(hold b hb).1] at a1
      simp only [G.hide] at a1
      cases hp : g.Γ b <;> rw [hp] at a1 <;> first | rfl | cases a1
    . rw [a1]; rfl
  show g.sz = g'.sz
  rw [h5.later.sz]; rfl
 refine ⟨us', g.settle w.heap.size g', rfl, fun E2 => ?_, ⟨⟨h5.os, h5.tape, h5.output, h5.size, fun b hb => (hold b hb).2⟩, fun b hb => ?_, fun b hb => ?_, rfl, rfl⟩⟩
 . have := h3.far_ (E' := E2) (dead' := []) hset h6
   rwa [h7] at this
 . unfold G.settle; simp only; rw [if_pos hb]
 . unfold G.settle; simp only; rw [if_neg (by omega)]; exact c6P _
end
end En
namespace En
open Go
structure Ent where
 f : Hg
 k : {R : Type} -> List D -> (List D -> Option R) -> Option R
def a5S : List Ent -> Hg -> Bool
 | [], _ => false
 | e :: r, g => cond (GR e.f g) true (a5S r g)
def a2y {R : Type} : List Ent -> Hg -> List D -> (List D -> Option R) -> Option R
 | [], _, _, _ => none
 | e :: r, g, ds, K => cond (GR e.f g) (e.k ds K) (a2y r g ds K)
structure Met where
 t : GF
 n : String
 f : Hg
def a3N : List Met -> GF -> String -> Option Hg
 | [], _, _ => none
 | e :: r, t, n => cond (GR e.t t) (cond (e.n == n) (some e.f) (a3N r t n)) (a3N r t n)
def d5 (fn : Func) : Code := fn.body.getD .skip
section
variable {P : Hb} {T : GF -> Option Ty} {cx : Cx}
structure EntOK (P : Hb) (T : GF -> Option Ty) (e : Ent) : Prop where
 goes : a7U P e.f
 ret : ∀ (R : Type) (ds : List D) (K : List D -> Option R) (r : R), e.k ds K = some r -> ∃ rs, K rs = some r /\ F6 P T e.f ds rs
 b : ∀ (R : Type) (ds : List D) (K : List D -> Option R), e.k ds K = (e.k ds some).bind K
def a8t (P : Hb) (T : GF -> Option Ty) : List Ent -> Prop
 | [] => True
 | e :: r => EntOK P T e /\ a8t P T r
def b8f (P : Hb) : List Met -> Prop
 | [] => True
 | e :: r => b7p P e.t e.n e.f /\ b8f P r
theorem c5y {R : Type} {g : Hg} {ds : List D} {K : List D -> Option R} {r : R} : ∀ (l : List Ent), a8t P T l -> a2y l g ds K = some r -> ∃ rs, K rs = some r /\ a7U P g /\ F6 P T g ds rs
 | [], _, h => by cases h
 | e :: l, ho, h => by
   unfold a2y at h
   cases hb : GR e.f g with
   | true =>
     have he := GE hb
     rw [hb, cond_true] at h
     obtain ⟨rs, h1, h2⟩ := ho.1.ret R ds K r h
     subst he
     exact ⟨rs, h1, ho.1.goes, h2⟩
   | false => rw [hb, cond_false] at h; exact c5y l ho.2 h
theorem c9W {R : Type} {g : Hg} {ds : List D} {K : List D -> Option R} : ∀ (l : List Ent), a8t P T l -> a2y l g ds K = (a2y l g ds some).bind K
 | [], _ => rfl
 | e :: l, ho => by
   unfold a2y
   cases GR e.f g with
   | true => exact ho.1.b R ds K
   | false => exact c9W l ho.2
theorem b7O {t : GF} {n : String} {f : Hg} : ∀ (l : List Met), b8f P l -> a3N l t n = some f -> b7p P t n f
 | [], _, h => by cases h
 | e :: l, ho, h => by
   unfold a3N at h
   cases hb : GR e.t t with
   | true =>
     have he := GE hb
     rw [hb, cond_true] at h
     cases hn : e.n == n with
     | true =>
       rw [hn, cond_true] at h
       injection h with h
       have hn := eq_of_beq hn
       subst he hn h
       exact ho.1
     | false => rw [hn, cond_false] at h; exact b7O l ho.2 h
   | false => rw [hb, cond_false] at h; exact b7O l ho.2 h
theorem d6 {f : Hg} {fn : Func} {c : Code} (hf : P.funcs[f]? = some fn) (hn : (fn.name == "runtime.NumGoroutine") = false) (hb : fn.body = some c) : a7U P f := by
 intro args w
 have hp : (program : Sem Hb).run P w = .ok P w := rfl
 simp only [callFunc, GY, hp, GT, hf, hn, hb, Option.isNone_some, GZ, if_false, IG]
theorem t8 {t : GF} {ty : Ty} (h1 : P.underlying t = some ty.desc) (h2 : (P.info? t).map (fun i => (i.zero, i.size, i.bytes)) = some (some ty.zero, ty.size, ty.nbytes)) (h3 : (ty.row || GR ty.size 1) = true) (h4 : eqOKB P t ty = true) : TyOK P t ty := by
 refine ⟨h1, ?_, fun h => ?_, h4⟩
 . cases hi : P.info? t with
   | none => rw [hi] at h2; cases h2
   | some i =>
     rw [hi] at h2
     injection h2 with h2
     injection h2 with a h2
     injection h2 with b c
     exact ⟨i, rfl, a, b, c⟩
 . rw [h, KY] at h3
   exact GE h3
def AllTo (p : Nat -> Prop) : Nat -> Prop
 | 0 => True
 | n + 1 => AllTo p n /\ p n
theorem AllTo.get {p : Nat -> Prop} : ∀ (n : Nat), AllTo p n -> ∀ k, k < n -> p k
 | 0, _, k, h => by omega
 | n + 1, ⟨h1, h2⟩, k, h => by
   by_cases hk : k = n
   . subst hk; exact h2
   . exact AllTo.get n h1 k (by omega)
def d4M (P : Hb) (T : GF -> Option Ty) (t : Nat) : Prop := ∀ ty, T t = some ty -> TyOK P t ty
theorem m9 {t : GF} {ty : Ty} (h : T t = some ty) (ho : TyOK P t ty) : d4M P T t := fun ty' h' => by rw [h] at h'; injection h' with h'; subst h'; exact ho
theorem c9 {t : GF} (h : T t = none) : d4M P T t := fun ty' h' => by rw [h] at h'; cases h'
def d4E (n : Nat) (T : GF -> Option Ty) (t : GF) : Option Ty := cond (GM t n) (T t) none
theorem c3C {n : Nat} (h : AllTo (d4M P T) n) : p7 P (d4E n T) := by
 intro t ty ht
 unfold d4E at ht
 cases hb : GM t n with
 | false => rw [hb] at ht; cases ht
 | true =>
   rw [hb, cond_true] at ht
   exact AllTo.get n h t (by have := Ha hb; omega) ty ht
theorem M0 {n rid : Nat} {b : Code} {ks xs : List Nat} (hr : U8 b = rid) (hk : cx.keep rid = ks) (hx : cx.keepX rid = xs)
 (h : ∀ (R : Type) (ds : List D) (m : Mem) (K : Ex -> List D -> Mem -> Option R) (r : R), cx.loopT rid ds m K = some r -> ∃ t, a0T (fun st K => codeK cx b st K) n ks xs t ds m K = some r) : V4 cx n b := by
 intro R ds m K r hh
 rw [hr] at hh ⊢
 rw [hk, hx]
 exact h R ds m K r hh
theorem C1 {n k : Nat} {fn : Func} (hk : (D6 (d5 fn)).length = k) (h : AllTo (fun i => V4 cx n (G1 fn i)) k) : v8 cx n (d5 fn) := by
 intro b hb
 obtain ⟨i, hi⟩ := List.getElem?_of_mem hb
 have hlt : i < k := by rw [← hk]; exact (GD.1 hi).1
 have := AllTo.get k h i hlt
 unfold G1 at this
 rw [GJ] at this
 have e : (D6 (fn.body.getD .skip))[i]? = some b := hi
 rw [e] at this
 exact this
theorem a0u (hm : P.follows .mixedOrders = true) (hcx : CxOK P cx) {c : Code} (h : (drawnOf c).all (a6o cx) = true) : G7 P cx c :=
 fun ops ho => c7u hm hcx (Ib.1 h ops ho)
theorem q6 (hm : P.follows .mixedOrders = true) (hcx : CxOK P cx) {f : Hg} {fn : Func} (hf : P.funcs[f]? = some fn) (hb : fn.body = some (d5 fn)) (hro : (drawnOf (d5 fn)).all (a6o cx) = true) (hl : v8 cx fn.ntmps (d5 fn))
 {ds : List D} (a0o : Jb ds.length fn.ntmps = true) (b3P : fars ds = true) (b3Q : bares ds = ds) {α : Type} {rf : List D -> Mem -> Option α} {r : α} (h : g8 cx fn ds [] rf = some r)
 {rs : List D} (hrs : ∀ rs' m, rf rs' m = some r -> fars rs' = true /\ bares rs' = rs) : F6 P cx.T f ds rs :=
 c2M hcx hf hb (a0u hm hcx hro) hl (Ha a0o) b3P b3Q h hrs
section
variable {R : Type}
theorem j4 {α : Type} {o : Option α} {K : α -> Option R} {r : R} (h : d3 o K = some r) : ∃ a, o = some a /\ K a = some r := by
 cases o with
 | none => cases h
 | some a => exact ⟨a, rfl, h⟩
theorem O2 {α β : Type} {o : Option (α × β)} {K : α -> β -> Option R} {r : R} (h : Q3 o K = some r) : ∃ a b, o = some (a, b) /\ K a b = some r := by
 rcases o with _ | ⟨a, b⟩
 . cases h
 . exact ⟨a, b, rfl, h⟩
theorem a2i {α β γ : Type} {o : Option (α × β × γ)} {K : α -> β -> γ -> Option R} {r : R} (h : a3n o K = some r) : ∃ a b c, o = some (a, b, c) /\ K a b c = some r := by
 rcases o with _ | ⟨a, b, c⟩
 . cases h
 . exact ⟨a, b, c, rfl, h⟩
theorem a0F {α β γ δ : Type} {o : Option (α × β × γ × δ)} {K : α -> β -> γ -> δ -> Option R} {r : R} (h : M8 o K = some r) : ∃ a b c d, o = some (a, b, c, d) /\ K a b c d = some r := by
 rcases o with _ | ⟨a, b, c, d⟩
 . cases h
 . exact ⟨a, b, c, d, rfl, h⟩
def T3 {R α β γ δ ε : Type} (o : Option (α × β × γ × δ × ε)) (K : α -> β -> γ -> δ -> ε -> Option R) : Option R := match o with | some (a, b, c, d, e) => K a b c d e | none => none
theorem O4 {R α β γ δ ε : Type} {o : Option (α × β × γ × δ × ε)} {K : α -> β -> γ -> δ -> ε -> Option R} {r : R} (h : T3 o K = some r) : ∃ a b c d e, o = some (a, b, c, d, e) /\ K a b c d e = some r := by
 rcases o with _ | ⟨a, b, c, d, e⟩
 . cases h
 . exact ⟨a, b, c, d, e, rfl, h⟩
theorem c3X {α α' α'' α3 α4 β R : Type} (o : Option (α × α' × α'' × α3 × α4)) (F : α -> α' -> α'' -> α3 -> α4 -> Option β) (K : β -> Option R) : (T3 o F).bind K = T3 o fun a b c d e => (F a b c d e).bind K := by rcases o with _ | ⟨a, b, c, d, e⟩ <;> rfl
def a5D {R a1 a2 a3 a4 a5 a6 a7 a8 a9 a10 : Type} (o : Option (a1 × a2 × a3 × a4 × a5 × a6 × a7 × a8 × a9 × a10)) (K : a1 -> a2 -> a3 -> a4 -> a5 -> a6 -> a7 -> a8 -> a9 -> a10 -> Option R) : Option R := match o with | some (a, b, c, d, e, f, g, h, i, j) => K a b c d e f g h i j | none => none
theorem b2L {R a1 a2 a3 a4 a5 a6 a7 a8 a9 a10 : Type} {o : Option (a1 × a2 × a3 × a4 × a5 × a6 × a7 × a8 × a9 × a10)} {K : a1 -> a2 -> a3 -> a4 -> a5 -> a6 -> a7 -> a8 -> a9 -> a10 -> Option R} {r : R} (h : a5D o K = some r) : ∃ a b c d e f g i j k, o = some (a, b, c, d, e, f, g, i, j, k) /\ K a b c d e f g i j k = some r := by
 rcases o with _ | ⟨a, b, c, d, e, f, g, i, j, k⟩
 . cases h
 . exact ⟨a, b, c, d, e, f, g, i, j, k, rfl, h⟩
theorem d2W {a1 a2 a3 a4 a5 a6 a7 a8 a9 a10 β R : Type} (o : Option (a1 × a2 × a3 × a4 × a5 × a6 × a7 × a8 × a9 × a10)) (F : a1 -> a2 -> a3 -> a4 -> a5 -> a6 -> a7 -> a8 -> a9 -> a10 -> Option β) (K : β -> Option R) : (a5D o F).bind K = a5D o fun a b c d e f g h i j => (F a b c d e f g h i j).bind K := by rcases o with _ | ⟨a, b, c, d, e, f, g, i, j, k⟩ <;> rfl
theorem I8 {α β : Type} (o : Option α) (F : α -> Option β) (K : β -> Option R) : (d3 o F).bind K = d3 o fun a => (F a).bind K := by cases o <;> rfl
theorem a6k {α α' β : Type} (o : Option (α × α')) (F : α -> α' -> Option β) (K : β -> Option R) : (Q3 o F).bind K = Q3 o fun a b => (F a b).bind K := by rcases o with _ | ⟨a, b⟩ <;> rfl
theorem c8B {α α' α'' β : Type} (o : Option (α × α' × α'')) (F : α -> α' -> α'' -> Option β) (K : β -> Option R) : (a3n o F).bind K = a3n o fun a b c => (F a b c).bind K := by rcases o with _ | ⟨a, b, c⟩ <;> rfl
end
end
end En
namespace En
open Go
inductive Ren (Pr : Nat -> Nat -> Nat -> Nat -> Prop) : D -> D -> Prop
 | v (x : V) : Ren Pr (.v x .no) (.v x .no)
 | nilp : Ren Pr .nilp .nilp
 | nilF : Ren Pr .nilF .nilF
 | bld : Ren Pr .bld .bld
 | any : Ren Pr .any .any
 | eptr (cs : List V) (o : Nat) : Ren Pr (.eptr cs o) (.eptr cs o)
 | ptr {k s k₁ s₁ : Nat} (o : Nat) (h : Pr k s k₁ s₁) : Ren Pr (.ptr k s o) (.ptr k₁ s₁ o)
 | fn {k s k₁ s₁ : Nat} (n : Int) (fs : List Hg) (h : Pr k s k₁ s₁) : Ren Pr (.fn n fs k s) (.fn n fs k₁ s₁)
 | clos (f : Hg) (cs cs₁ : List D) (hl : cs₁.length = cs.length) (h : ∀ (i : Nat) y y₁, cs[i]? = some y -> cs₁[i]? = some y₁ -> Ren Pr y y₁) : Ren Pr (.clos f cs) (.clos f cs₁)
 | agg (cs cs₁ : List D) (hl : cs₁.length = cs.length) (h : ∀ (i : Nat) y y₁, cs[i]? = some y -> cs₁[i]? = some y₁ -> Ren Pr y y₁) : Ren Pr (.agg cs) (.agg cs₁)
theorem Ren.flip {Pr : Nat -> Nat -> Nat -> Nat -> Prop} {d d₁ : D} (h : Ren Pr d d₁) : Ren (fun a b c e => Pr c e a b) d₁ d := by
 induction h with
 | v x => exact .v x
 | nilp => exact .nilp
 | nilF => exact .nilF
 | bld => exact .bld
 | any => exact .any
 | eptr cs o => exact .eptr cs o
 | ptr o h => exact .ptr o h
 | fn n fs h => exact .fn n fs h
 | clos f cs cs₁ hl h ih => exact .clos f cs₁ cs hl.symm fun i y y₁ h1 h2 => ih i y₁ y h2 h1
 | agg cs cs₁ hl h ih => exact .agg cs₁ cs hl.symm fun i y y₁ h1 h2 => ih i y₁ y h2 h1
theorem Ren.shift {Pr : Nat -> Nat -> Nat -> Nat -> Prop} {d d₁ : D} (h : Ren Pr d d₁) (k k₁ : Nat) : Ren (fun a b c e => ∃ a' c', a = a' + k /\ c = c' + k₁ /\ Pr a' b c' e) (d.shift k) (d₁.shift k₁) := by
 induction h with
 | v x => exact .v x
 | nilp => exact .nilp
 | nilF => exact .nilF
 | bld => exact .bld
 | any => exact .any
 | eptr cs o => exact .eptr cs o
 | ptr o h => exact .ptr o ⟨_, _, rfl, rfl, h⟩
 | fn n fs h => exact .fn n fs ⟨_, _, rfl, rfl, h⟩
 | clos f cs cs₁ hl h ih =>
   refine .clos f _ _ (by rw [G3, G3, hl]) fun i y y₁ h1 h2 => ?_
   obtain ⟨z, hz, rfl⟩ := N0 _ _ i y h1
   obtain ⟨z₁, hz₁, rfl⟩ := N0 _ _ i y₁ h2
   exact ih i z z₁ hz hz₁
 | agg cs cs₁ hl h ih =>
   refine .agg _ _ (by rw [G3, G3, hl]) fun i y y₁ h1 h2 => ?_
   obtain ⟨z, hz, rfl⟩ := N0 _ _ i y h1
   obtain ⟨z₁, hz₁, rfl⟩ := N0 _ _ i y₁ h2
   exact ih i z z₁ hz hz₁
section
variable {E E' : Env} {g g' : G} {w w' : GG} {dead dead' : List Pos}
theorem b7U {Pr : Nat -> Nat -> Nat -> Nat -> Prop} (hl : Later g w g' w') (hp : ∀ k s k₁ s₁, Pr k s k₁ s₁ -> k <= E.d -> E.dom k s -> k₁ <= E'.d /\ E'.dom k₁ s₁ /\ g'.J (E'.d - k₁) s₁ = g.J (E.d - k) s) {d d₁ : D} (h : Ren Pr d d₁) : ∀ {v : GK}, RepD E g w dead d v -> RepD E' g' w' dead' d₁ v := by
 induction h with
 | v x => intro v h; cases h with | v x a v h ha => exact .v _ _ _ (h.later hl) trivial
 | nilp => intro v h; cases h; exact .nilp
 | nilF => intro v h; cases h; exact .nilF
 | bld => intro v h; cases h; exact .bld
 | any => intro v h; exact .any _
 | eptr cs o => intro v h; cases h with | eptr cs o b off us h hr => exact .eptr cs o b off us (fun k y hy => hl.st _ _ _ (h k y hy).1 (h k y hy).2) (fun k y hy => (hr k y hy).later hl)
 | ptr o hq =>
   intro v h
   cases h with
   | ptr k s o a1 a2 =>
     obtain ⟨b1, b2, b3⟩ := hp _ _ _ _ hq a1 a2
     rw [← b3]
     exact .ptr _ _ o b1 b2
 | fn n fs hq =>
   intro v h
   cases h with
   | fn n fs k s v h =>
     refine .fn _ _ _ _ v (h.imp fun ⟨a1, a2⟩ => ?_)
     obtain ⟨b1, b2, b3⟩ := hp _ _ _ _ hq a1 a2
     exact ⟨⟨b1, b2⟩, b3⟩
 | clos f cs cs₁ hlen hq ih =>
   intro v h
   cases h with
   | clos f cs us hn hr =>
     refine .clos f cs₁ us (by rw [hn, hlen]) fun i y₁ hy₁ => ?_
     have hi : i < cs.length := by rw [← hlen]; exact (GD.1 hy₁).1
     exact ih i _ y₁ (GH hi) hy₁ (hr i _ (GH hi))
 | agg cs cs₁ hlen hq ih =>
   intro v h
   cases h with
   | agg cs us hn hr =>
     refine .agg cs₁ us (by rw [hn, hlen]) fun i y₁ hy₁ => ?_
     have hi : i < cs.length := by rw [← hlen]; exact (GD.1 hy₁).1
     exact ih i _ y₁ (GH hi) hy₁ (hr i _ (GH hi))
theorem RepDs.ren {Pr : Nat -> Nat -> Nat -> Nat -> Prop} (hl : Later g w g' w') (hp : ∀ k s k₁ s₁, Pr k s k₁ s₁ -> k <= E.d -> E.dom k s -> k₁ <= E'.d /\ E'.dom k₁ s₁ /\ g'.J (E'.d - k₁) s₁ = g.J (E.d - k) s) {ds ds₁ : List D} {us : List GK}
 (hlen : ds₁.length = ds.length) (h : ∀ (i : Nat) y y₁, ds[i]? = some y -> ds₁[i]? = some y₁ -> Ren Pr y y₁) (hr : RepDs E g w dead ds us) : RepDs E' g' w' dead' ds₁ us := by
 refine ⟨by rw [hr.1, hlen], fun i y₁ hy₁ => ?_⟩
 have hi : i < ds.length := by rw [← hlen]; exact (GD.1 hy₁).1
 exact b7U hl hp (h i _ y₁ (GH hi) hy₁) (hr.2 i _ (GH hi))
end
inductive CRen (Q : Nat -> Nat -> Nat -> Prop) : D -> D -> Prop
 | v (x : V) (a : Att) : CRen Q (.v x a) (.v x a)
 | bld : CRen Q .bld .bld
 | ren {c c₁ : D} (hb : c ≠ .bld) (hb₁ : c₁ ≠ .bld) (h1 : c.one = true) (h2 : c.flat = true) (h3 : c₁.one = true) (h4 : c₁.flat = true) (hv : ∀ x a, c ≠ .v x a) (h : Ren (fun k s k₁ s₁ => k₁ = 0 /\ Q k s s₁) c c₁) : CRen Q c c₁
structure BRen (Q : Nat -> Nat -> Nat -> Prop) (B B₁ : Bx) : Prop where
 ty : B₁.ty = B.ty
 len : B₁.cells.length = B.cells.length
 cell : ∀ (i : Nat) c c₁, B.cells[i]? = some c -> B₁.cells[i]? = some c₁ -> CRen Q c c₁
section
variable {ps : List (Nat × Nat)} {d0 : Nat}
def posOf (ps : List (Nat × Nat)) (d0 d s : Nat) : Option Nat := ps.findIdx? fun p => decide (d0 - p.1 = d) && decide (p.2 = s)
structure Places (ps : List (Nat × Nat)) (d0 : Nat) : Prop where
 le : ∀ (j : Nat) (p : Nat × Nat), ps[j]? = some p -> p.1 <= d0
 one : ∀ (i j : Nat) (p : Nat × Nat), ps[i]? = some p -> ps[j]? = some p -> i = j
theorem b3u {d s j : Nat} (h : posOf ps d0 d s = some j) : ∃ k, ps[j]? = some (k, s) /\ d = d0 - k := by
 unfold posOf at h
 obtain ⟨hj, h1, _⟩ := List.findIdx?_eq_some_iff_getElem.1 h
 simp only [GP, decide_eq_true_eq] at h1
 refine ⟨ps[j].1, ?_, h1.1.symm⟩
 rw [GH hj, ← h1.2]
theorem b3r (hp : Places ps d0) {j k s : Nat} (h : ps[j]? = some (k, s)) : posOf ps d0 (d0 - k) s = some j := by
 cases hq : posOf ps d0 (d0 - k) s with
 | none =>
   unfold posOf at hq
   rw [List.findIdx?_eq_none_iff] at hq
   have := hq _ (IC h)
   simp at this
 | some i =>
   obtain ⟨k', h1, h2⟩ := b3u hq
   have a1 := hp.le _ _ h
   have a2 := hp.le _ _ h1
   simp only at a1 a2
   have : k' = k := by omega
   subst this
   rw [hp.one i j _ h1 h]
theorem c2L (hp : Places ps d0) {k s : Nat} (hk : k <= d0) (h : ∀ j : Nat, ps[j]? ≠ some (k, s)) : posOf ps d0 (d0 - k) s = none := by
 cases hq : posOf ps d0 (d0 - k) s with
 | none => rfl
 | some i =>
   obtain ⟨k', h1, h2⟩ := b3u hq
   have a2 := hp.le _ _ h1
   simp only at a2
   have : k' = k := by omega
   subst this
   exact absurd h1 (h i)
def inP (ps : List (Nat × Nat)) (d0 : Nat) : APos -> Option APos
 | .cell d s i => (posOf ps d0 d s).map fun j => .cell 0 j i
 | .slot _ _ => none
def d4P (ps : List (Nat × Nat)) (d0 : Nat) : APos -> Option APos
 | .cell d j i => (match d with | 0 => (ps[j]?).map fun p => .cell (d0 - p.1) p.2 i | _ + 1 => none)
 | .slot _ _ => none
def Perm.view (ps : List (Nat × Nat)) (d0 : Nat) : Perm -> Perm
 | .imm => .imm
 | .low n => .low n
 | .own p n => (match inP ps d0 p with | some q => .own q n | none => .low n)
 | .box d s => (match posOf ps d0 d s with | some j => .box 0 j | none => .low 0)
def Perm.back (ps : List (Nat × Nat)) (d0 : Nat) : Perm -> Perm
 | .imm => .imm
 | .low n => .low n
 | .own p n => (match d4P ps d0 p with | some q => .own q n | none => .low n)
 | .box d j => (match d with | 0 => (match ps[j]? with | some p => .box (d0 - p.1) p.2 | none => .low 0) | _ + 1 => .low 0)
def G.view (g : G) (ps : List (Nat × Nat)) (d0 : Nat) : G :=
 { Γ := fun b => (g.Γ b).view ps d0, J := fun d s => match d with | 0 => (match ps[s]? with | some p => g.J (d0 - p.1) p.2 | none => 0) | d + 1 => g.J (d + 1) s, sz := g.sz }
def G.unview (g : G) (ps : List (Nat × Nat)) (d0 n : Nat) (g₂ : G) : G :=
 { Γ := fun b => bif decide (b < n) && ((g.Γ b).view ps d0).still then g.Γ b else (g₂.Γ b).back ps d0, J := g.J, sz := g.sz }
theorem a9N (g : G) (b o : Nat) : j9 (g.view ps d0) b o ↔ j9 g b o := by
 unfold j9 G.view
 simp only
 cases g.Γ b with
 | imm => exact KV
 | low n => exact KV
 | own p n => simp only [Perm.view]; cases inP ps d0 p <;> exact KV
 | box d s => simp only [Perm.view]; cases posOf ps d0 d s <;> simp
theorem b2E {p : Perm} (h : p.still = true) : p = .imm ∨ ∃ n, p = .low n := by cases p <;> simp [Perm.still] at h ⊢
structure Held (g : G) (w : GG) (ps : List (Nat × Nat)) (d0 : Nat) (g₂ : G) (w' : GG) : Prop where
 Γ : ∀ b, b < w.heap.size -> ((g.Γ b).view ps d0).still = true -> g₂.Γ b = (g.Γ b).view ps d0
 heap : ∀ b, b < w.heap.size -> ((g.Γ b).view ps d0).still = true -> w'.heap[b]? = w.heap[b]?
theorem U4 {g g₂ : G} {n b : Nat} (h1 : b < n) (h2 : ((g.Γ b).view ps d0).still = true) : (g.unview ps d0 n g₂).Γ b = g.Γ b := by
 unfold G.unview; simp [h1, h2]
theorem a1P {g g₂ : G} {n b : Nat} (h : ¬ (b < n /\ ((g.Γ b).view ps d0).still = true)) : (g.unview ps d0 n g₂).Γ b = (g₂.Γ b).back ps d0 := by
 unfold G.unview
 simp only
 cases hc : (decide (b < n) && ((g.Γ b).view ps d0).still) with
 | true => simp at hc; exact absurd hc h
 | false => rfl
theorem b4g {g g₂ : G} {w w' : GG} (hh : Held g w ps d0 g₂ w') {b o : Nat} (h : j9 g₂ b o) : j9 (g.unview ps d0 w.heap.size g₂) b o := by
 by_cases hc : b < w.heap.size /\ ((g.Γ b).view ps d0).still = true
 . have h1 := hh.Γ b hc.1 hc.2
   unfold j9
   rw [U4 hc.1 hc.2]
   have : j9 (g.view ps d0) b o := by
    unfold j9 at h ⊢
    rw [h1] at h
    exact h
   exact (a9N g b o).1 this
 . unfold j9 at h ⊢
   rw [a1P hc]
   cases hg : g₂.Γ b with
   | imm => trivial
   | low n => rw [hg] at h; exact h
   | own p n => rw [hg] at h; simp only [Perm.back]; cases d4P ps d0 p <;> exact h
   | box d s => rw [hg] at h; exact h.elim
theorem c2N {g g₂ : G} {w w' : GG} (hh : Held g w ps d0 g₂ w') {b : Nat} (h : g₂.Γ b = .imm) : (g.unview ps d0 w.heap.size g₂).Γ b = .imm := by
 by_cases hc : b < w.heap.size /\ ((g.Γ b).view ps d0).still = true
 . have h1 := hh.Γ b hc.1 hc.2
   rw [U4 hc.1 hc.2]
   rw [h1] at h
   cases hp : g.Γ b with
   | imm => rfl
   | low n => rw [hp] at h; cases h
   | own p n => rw [hp] at h; simp only [Perm.view] at h; split at h <;> cases h
   | box d s => rw [hp] at h; simp only [Perm.view] at h; split at h <;> cases h
 . rw [a1P hc, h]; rfl
theorem d0y (hp : Places ps d0) {g : G} {w : GG} {j k s i : Nat} {e : GF} {v : GK} (hj : ps[j]? = some (k, s)) (h : p8 g w (.cell (d0 - k) s i) e v) : p8 (g.view ps d0) w (.cell 0 j i) e v := by
 rcases h with h0 | ⟨b, n, cap, cur, h1, h2, h3, h4⟩
 . exact .inl h0
 . refine .inr ⟨b, n, cap, cur, h1, ?_, h3, h4⟩
   show (g.Γ b).view ps d0 = _
   rw [h2]
   simp only [Perm.view, inP, b3r hp hj, MQ]
   rfl
theorem c3w {g g₂ : G} {w w' : GG} (hsz : g₂.sz = g.sz) (hh : Held g w ps d0 g₂ w') {j k s i : Nat} {e : GF} {v : GK} (hj : ps[j]? = some (k, s)) (h : p8 g₂ w' (.cell 0 j i) e v) : p8 (g.unview ps d0 w.heap.size g₂) w' (.cell (d0 - k) s i) e v := by
 rcases h with h0 | ⟨b, n, cap, cur, h1, h2, h3, h4⟩
 . exact .inl h0
 . have hsz' : (g.unview ps d0 w.heap.size g₂).sz = g₂.sz := hsz.symm
   refine .inr ⟨b, n, cap, cur, h1, ?_, h3, by rw [hsz']; exact h4⟩
   rw [a1P]
   . rw [h2, hsz']
     simp only [Perm.back, d4P, hj, MQ]
   . rintro ⟨a1, a2⟩
     have := hh.Γ b a1 a2
     rw [h2] at this
     rw [← this] at a2
     cases a2
theorem a9Y {g g₂ : G} {w w' : GG} (hh : Held g w ps d0 g₂ w') {p : APos} (hp : inP ps d0 p = none) {e : GF} {v : GK} (h : p8 g w p e v) : p8 (g.unview ps d0 w.heap.size g₂) w' p e v := by
 rcases h with h0 | ⟨b, n, cap, cur, h1, h2, h3, h4⟩
 . exact .inl h0
 . have hb := J0 h3
   have hs : ((g.Γ b).view ps d0).still = true := by rw [h2]; simp only [Perm.view, hp]; rfl
   exact .inr ⟨b, n, cap, cur, h1, by rw [U4 hb hs]; exact h2, by rw [hh.heap b hb hs]; exact h3, h4⟩
end
end En
namespace En
open Go
def C0 : Nat -> List Bx -> Fr
 | _, [] => []
 | i, b :: r => (i, b) :: C0 (i + 1) r
theorem c1N (j : Nat) : ∀ (Bs : List Bx) (i : Nat), D7 j (C0 i Bs) = if i <= j then Bs[j - i]? else none
 | [], i => by simp [C0, D7]
 | b :: Bs, i => by
   rw [C0, I6, c1N j Bs (i + 1)]
   by_cases h : j = i
   . subst h; simp
   . rw [if_neg h]
     by_cases h2 : i + 1 <= j
     . rw [if_pos h2, if_pos (by omega)]
       rw [show j - i = (j - (i + 1)) + 1 by omega, Jd]
     . rw [if_neg h2, if_neg (by omega)]
theorem a5k (j : Nat) (Bs : List Bx) : D7 j (C0 0 Bs) = Bs[j]? := by rw [c1N]; simp
def D4 : List (Nat × Nat) -> List Bx -> Mem -> Mem
 | p :: ps, B :: Bs, m => D4 ps Bs (m.setBox p.1 p.2 B)
 | _, _, m => m
theorem P8 : ∀ (ps : List (Nat × Nat)) (Bs : List Bx) (m : Mem), (D4 ps Bs m).length = m.length
 | [], _, m => by simp [D4]
 | _ :: _, [], m => by simp [D4]
 | p :: ps, B :: Bs, m => by rw [D4, P8 ps Bs, D0]
theorem F7 {k s : Nat} : ∀ (ps : List (Nat × Nat)) (Bs : List Bx) (m : Mem), (∀ j : Nat, ps[j]? ≠ some (k, s)) -> (D4 ps Bs m).box? k s = m.box? k s
 | [], _, m, _ => by simp [D4]
 | _ :: _, [], m, _ => by simp [D4]
 | p :: ps, B :: Bs, m, h => by
   rw [D4, F7 ps Bs _ (fun j => by have := h (j + 1); simpa using this), C5, if_neg]
   rintro ⟨rfl, rfl, _⟩
   exact h 0 (by simp)
theorem a3b : ∀ (ps : List (Nat × Nat)) (Bs : List Bx) (m : Mem) (j k s : Nat) (B : Bx), (∀ (i j : Nat) (p : Nat × Nat), ps[i]? = some p -> ps[j]? = some p -> i = j) -> ps[j]? = some (k, s) -> Bs[j]? = some B -> k < m.length -> (D4 ps Bs m).box? k s = some B
 | [], _, m, j, k, s, B, _, h, _, _ => by simp at h
 | _ :: _, [], m, j, k, s, B, _, _, h, _ => by simp at h
 | p :: ps, B0 :: Bs, m, 0, k, s, B, ho, h, hB, hk => by
   simp at h hB
   subst h hB
   rw [D4, F7 ps Bs _ (fun j hj => by have := ho 0 (j + 1) (k, s) (by simp) (by simpa using hj); omega), C5, if_pos ⟨rfl, rfl, hk⟩]
 | p :: ps, B0 :: Bs, m, j + 1, k, s, B, ho, h, hB, hk => by
   rw [D4]
   exact a3b ps Bs _ j k s B (fun a b q h1 h2 => by have := ho (a + 1) (b + 1) q (by simpa using h1) (by simpa using h2); omega) (by simpa using h) (by simpa using hB) (by rw [D0]; exact hk)
section
variable {R : Type} {P : Hb} {T : GF -> Option Ty} {E E' : Env} {g g' : G} {w w' : GG} {cx : Cx}
theorem c9q {Q : Nat -> Nat -> Nat -> Prop} {c c₁ : D} (hc : CRen Q c c₁) {k s i k₁ s₁ : Nat} {u : GK} (hl : Later g w g' w') (hk₁ : k₁ <= E'.d) (hown : ∀ e, p8 g w (.cell (E.d - k) s i) e u -> p8 g' w' (.cell (E'.d - k₁) s₁ i) e u)
 (hp : ∀ a b j, Q a b j -> a + k <= E.d -> E.dom (a + k) b -> 0 + k₁ <= E'.d /\ E'.dom (0 + k₁) j /\ g'.J (E'.d - (0 + k₁)) j = g.J (E.d - (a + k)) b) (h : RepD E g w [] (w4 k s i c) u) : RepD E' g' w' [] (w4 k₁ s₁ i c₁) u := by
 cases hc with
 | v x a =>
   cases a with
   | no => cases h with | v x a v h ha => exact .v _ _ _ (h.later hl) trivial
   | nil e => cases h with | v x a v h ha => exact .v _ _ _ (h.later hl) ha
   | own p e =>
     cases h with
     | v x a v h ha =>
       rcases ha with ha | ⟨_, ha⟩
       . cases ha
       . exact .v _ _ _ (h.later hl) (.inr ⟨hk₁, hown e ha⟩)
 | bld => exact .any _
 | ren hb hb₁ h1 h2 h3 h4 hv hr =>
   have e1 : w4 k s i c = c.shift k := by
    cases c with
    | v x a => exact absurd rfl (hv x a)
    | bld => exact absurd rfl hb
    | _ => rfl
   have e2 : w4 k₁ s₁ i c₁ = c₁.shift k₁ := by
    cases c₁ with
    | v x a => cases hr; exact absurd rfl (hv _ _)
    | bld => exact absurd rfl hb₁
    | _ => rfl
   rw [e1] at h
   rw [e2]
   refine b7U hl ?_ (hr.shift k k₁) h
   rintro K b K₁ j ⟨a, c', rfl, rfl, rfl, hq⟩ h5 h6
   exact hp a b j hq h5 h6
theorem c5W {Q : Nat -> Nat -> Nat -> Prop} {c c₁ : D} (hc : CRen Q c c₁) {k s i k₁ s₁ : Nat} {u : GK} (hl : Later g w g' w') (hk₁ : k₁ <= E'.d) (hown : ∀ e, p8 g w (.cell (E.d - k) s i) e u -> p8 g' w' (.cell (E'.d - k₁) s₁ i) e u)
 (hp : ∀ a b j, Q a b j -> 0 + k <= E.d -> E.dom (0 + k) j -> a + k₁ <= E'.d /\ E'.dom (a + k₁) b /\ g'.J (E'.d - (a + k₁)) b = g.J (E.d - (0 + k)) j) (h : RepD E g w [] (w4 k s i c₁) u) : RepD E' g' w' [] (w4 k₁ s₁ i c) u := by
 cases hc with
 | v x a =>
   cases a with
   | no => cases h with | v x a v h ha => exact .v _ _ _ (h.later hl) trivial
   | nil e => cases h with | v x a v h ha => exact .v _ _ _ (h.later hl) ha
   | own p e =>
     cases h with
     | v x a v h ha =>
       rcases ha with ha | ⟨_, ha⟩
       . cases ha
       . exact .v _ _ _ (h.later hl) (.inr ⟨hk₁, hown e ha⟩)
 | bld => exact .any _
 | ren hb hb₁ h1 h2 h3 h4 hv hr =>
   have e1 : w4 k s i c₁ = c₁.shift k := by
    cases c₁ with
    | v x a => cases hr; exact absurd rfl (hv _ _)
    | bld => exact absurd rfl hb₁
    | _ => rfl
   have e2 : w4 k₁ s₁ i c = c.shift k₁ := by
    cases c with
    | v x a => exact absurd rfl (hv x a)
    | bld => exact absurd rfl hb
    | _ => rfl
   rw [e1] at h
   rw [e2]
   refine b7U hl ?_ (hr.flip.shift k k₁) h
   rintro K b K₁ j ⟨a, c', rfl, rfl, rfl, hq⟩ h5 h6
   exact hp c' j b hq h5 h6
theorem b1e {Q : Nat -> Nat -> Nat -> Prop} {c c₁ : D} (hc : CRen Q c c₁) : (c.one = true /\ c.flat = true -> c₁.one = true /\ c₁.flat = true) /\ (c₁.one = true /\ c₁.flat = true -> c.one = true /\ c.flat = true) /\ (c = .bld ↔ c₁ = .bld) := by
 cases hc with
 | v x a => exact ⟨id, id, KV⟩
 | bld => exact ⟨id, id, KV⟩
 | ren hb hb₁ h1 h2 h3 h4 hv hr => exact ⟨fun _ => ⟨h3, h4⟩, fun _ => ⟨h1, h2⟩, ⟨fun e => absurd e hb, fun e => absurd e hb₁⟩⟩
structure BRenX (Q : Nat -> Nat -> Nat -> Prop) (B B₁ : Bx) : Prop where
 ty : B₁.ty = B.ty
 len : B₁.cells.length = B.cells.length
 cell : ∀ (i : Nat) c c₁, B.cells[i]? = some c -> B₁.cells[i]? = some c₁ -> CRen Q c c₁ ∨ ∃ x a, c = .v x .no /\ c₁ = .v x a
theorem BRen.x {Q : Nat -> Nat -> Nat -> Prop} {B B₁ : Bx} (h : BRen Q B B₁) : BRenX Q B B₁ := ⟨h.ty, h.len, fun i c c₁ h1 h2 => .inl (h.cell i c c₁ h1 h2)⟩
theorem b2C (hcx : CxOK P cx) {f : Hg} {fn : Func} {c : Code} (hf : P.funcs[f]? = some fn) (hb : fn.body = some c) (hro : G7 P cx c) (hl : v8 cx fn.ntmps c)
 {ds ds₁ : List D} (a0o : ds₁.length <= fn.ntmps) {m : Mem} {ps : List (Nat × Nat)} {Bs₁ : List Bx} (Q4 : ∀ (i j : Nat) (p : Nat × Nat), ps[i]? = some p -> ps[j]? = some p -> i = j)
 (a0y : ∀ (j : Nat) (p : Nat × Nat), ps[j]? = some p -> ∃ B B₁, m.box? p.1 p.2 = some B /\ Bs₁[j]? = some B₁ /\ BRen (fun k s i => ps[i]? = some (p.1 + k, s)) B B₁) (hlen₁ : Bs₁.length = ps.length)
 (hlen : ds₁.length = ds.length) (hds : ∀ (i : Nat) y y₁, ds[i]? = some y -> ds₁[i]? = some y₁ -> Ren (fun k s k₁ s₁ => ∃ k', k = k' + 1 /\ k₁ = 1 /\ ps[s₁]? = some (k', s)) y y₁)
 {rf : List D -> Mem -> Option R} {r : R} (h : g8 cx fn ds₁ [C0 0 Bs₁] rf = some r) {rs : List D} {Bs' : List Bx} (hlen' : Bs'.length = ps.length)
 (hrs : ∀ rs' m', rf rs' m' = some r -> fars rs' = true /\ bares rs' = rs /\ ∃ own Bs₂, m' = [own, C0 0 Bs₂] /\ ∀ (j : Nat) (p : Nat × Nat) B', ps[j]? = some p -> Bs'[j]? = some B' -> ∃ B₂, Bs₂[j]? = some B₂ /\ BRenX (fun k s i => ps[i]? = some (p.1 + k, s)) B' B₂)
 (dst : Nat) : MemRet P cx.T f dst ds m rs (D4 ps Bs' m) := by
 intro E g w us hh hus
 have hp : Places ps E.d := ⟨fun j p hj => by
  obtain ⟨B, B₁, h1, _⟩ := a0y j p hj
  exact (hh.mem _ _ _ h1).le, Q4⟩
 have hB₁ : ∀ (j : Nat) (B₁ : Bx), Bs₁[j]? = some B₁ -> ∃ p, ps[j]? = some p := fun j B₁ hj => by
  have : j < ps.length := by rw [← hlen₁]; exact (GD.1 hj).1
  exact ⟨_, GH this⟩
 have hlat : Later g w (g.view ps E.d) w := ⟨rfl, fun b o v h1 h2 => ⟨(a9N g b o).2 h1, h2⟩, fun b x h1 h2 => ⟨by show (g.Γ b).view ps E.d = _; rw [h1]; rfl, h2⟩⟩
 have hJ : ∀ (j k s : Nat), ps[j]? = some (k, s) -> (g.view ps E.d).J 0 j = g.J (E.d - k) s := fun j k s hj => by
  show (match ps[j]? with | some p => g.J (E.d - p.1) p.2 | none => 0) = _
  rw [hj]
 have hh1 : Here cx.T ⟨1, t9 ([] :: [C0 0 Bs₁])⟩ (g.view ps E.d) w ([] :: [C0 0 Bs₁]) := by
  refine ⟨fun k s b hbx => ?_, rfl, hh.sk.later hlat, rfl⟩
  rcases k with _ | _ | k
  . simp [Mem.box?, D7] at hbx
  . have hbx : Bs₁[s]? = some b := by rw [← a5k]; exact hbx
    obtain ⟨⟨k', s'⟩, hj⟩ := hB₁ s b hbx
    obtain ⟨B, B₁, h1, h2, h3⟩ := a0y s _ hj
    rw [hbx] at h2
    injection h2 with h2
    subst h2
    have hr := hh.mem _ _ _ h1
    obtain ⟨cs, a1, a2, a3⟩ := hr.heap
    refine ⟨GB _, ?_, cs, ?_, by rw [a2, h3.len], fun i c₁ hc₁ => ?_⟩
    . show (g.Γ ((g.view ps E.d).J 0 s)).view ps E.d = _
      rw [hJ s k' s' hj, hr.perm]
      simp only [Perm.view, b3r hp hj]
    . show w.heap[(g.view ps E.d).J 0 s]? = _
      rw [hJ s k' s' hj, h3.ty]; exact a1
    . have hi : i < B.cells.length := by rw [← h3.len]; exact (GD.1 hc₁).1
      have hcc := GH hi
      have hcr := h3.cell i _ c₁ hcc hc₁
      obtain ⟨b1, b2, b3, b4⟩ := a3 i _ hcc
      obtain ⟨s1, _, s3⟩ := b1e hcr
      refine ⟨(s1 ⟨b1, b2⟩).1, (s1 ⟨b1, b2⟩).2, fun e => ?_, ?_⟩
      . show b5X ((g.view ps E.d).J 0 s) _
        rw [hJ s k' s' hj]; exact b3 (s3.2 e)
      . refine c9q hcr hlat (GB _) (fun e ho => d0y hp hj ho) ?_ b4
        intro a b j hq _ _
        obtain ⟨B2, B2', _, c2, _⟩ := a0y j _ hq
        refine ⟨GB _, ⟨B2', ?_⟩, ?_⟩
        . show D7 j (C0 0 Bs₁) = _
          rw [a5k]; exact c2
        . show (g.view ps E.d).J 0 j = _
          rw [hJ j _ _ hq, Mn]
  . simp [Mem.box?] at hbx
 have hr1 : RepDs ⟨1, t9 ([] :: [C0 0 Bs₁])⟩ (g.view ps E.d) w [] ds₁ us := by
  refine hus.ren hlat ?_ hlen hds
  rintro k s k₁ s₁ ⟨k', rfl, rfl, hq⟩ h5 h6
  obtain ⟨B2, B2', _, c2, _⟩ := a0y s₁ _ hq
  refine ⟨GB _, ⟨B2', ?_⟩, ?_⟩
  . show D7 s₁ (C0 0 Bs₁) = _
    rw [a5k]; exact c2
  . show (g.view ps E.d).J 0 s₁ = g.J (E.d + 1 - (k' + 1)) s
    rw [hJ _ _ _ hq, Lw]
 refine a6i hcx hf hb hro hl a0o hh1 hr1 h fun rs' us' m' E2 g2 w' q1 q2 q3 q4 q5 => ?_
 obtain ⟨r1, r2, own, Bs₂, rfl, r3⟩ := hrs rs' m' q1
 have held : Held g w ps E.d g2 w' := by
  refine ⟨fun b hb hs => (q5.hid b hb (b2E hs)).1, fun b hb hs => (q5.hid b hb (b2E hs)).2⟩
 have hJ2 : ∀ (j k s : Nat), ps[j]? = some (k, s) -> g2.J 0 j = g.J (E.d - k) s := fun j k s hj => by
  rw [q5.J 0 j (Nat.zero_lt_one), hJ j k s hj]
 have hsz2 : g2.sz = g.sz := q5.later.sz
 have b6u : Later g2 w' (g.unview ps E.d w.heap.size g2) w' := ⟨hsz2.symm, fun b o v h1 h2 => ⟨b4g held h1, h2⟩, fun b x h1 h2 => ⟨c2N held h1, h2⟩⟩
 have hlat' : Later g w (g.unview ps E.d w.heap.size g2) w' := (hlat.trans q5.later).trans b6u
 have d4e : ∀ (j : Nat) (p : Nat × Nat), ps[j]? = some p -> ∃ B₂, D7 j (C0 0 Bs₂) = some B₂ /\ ∃ B', Bs'[j]? = some B' /\ BRenX (fun k s i => ps[i]? = some (p.1 + k, s)) B' B₂ := fun j p hj => by
  have hj' : j < Bs'.length := by rw [hlen']; exact (GD.1 hj).1
  obtain ⟨B₂, h1, h2⟩ := r3 j p _ hj (GH hj')
  exact ⟨B₂, by rw [a5k]; exact h1, _, GH hj', h2⟩
 have hdm : t9 (D4 ps Bs' m) = t9 m := by
  funext k s
  by_cases hx : ∃ j : Nat, ps[j]? = some (k, s)
  . obtain ⟨j, hj⟩ := hx
    obtain ⟨B₂, _, B', h1, _⟩ := d4e j _ hj
    obtain ⟨B, _, h2, _⟩ := a0y j _ hj
    have h3 := a3b ps Bs' m j k s B' Q4 hj h1 (a4a _ _ _ _ h2)
    exact propext ⟨fun _ => ⟨_, h2⟩, fun _ => ⟨_, h3⟩⟩
  . have := F7 ps Bs' m (k := k) (s := s) (fun j hj => hx ⟨j, hj⟩)
    unfold t9; rw [this]
 refine ⟨us', g.unview ps E.d w.heap.size g2, E, rfl, ⟨hlat', rfl, fun _ _ h => h, fun _ _ _ _ => rfl, fun s e v ho => a9Y held rfl ho⟩, ⟨fun k s b hbx => ?_, ?_, hh.sk.later hlat', by rw [P8]; exact hh.len⟩, ?_, ?_⟩
 . by_cases hx : ∃ j : Nat, ps[j]? = some (k, s)
   . obtain ⟨j, hj⟩ := hx
     obtain ⟨B₂, hB₂, B', h1, h2⟩ := d4e j _ hj
     obtain ⟨B, _, h3, _⟩ := a0y j _ hj
     rw [a3b ps Bs' m j k s B' Q4 hj h1 (a4a _ _ _ _ h3)] at hbx
     injection hbx with hbx
     subst hbx
     have hr := hh.mem _ _ _ h3
     have hr2 := q2.mem 1 j B₂ hB₂
     have hd2 : E2.d = 1 := q4
     obtain ⟨cs, a1, a2, a3⟩ := hr2.heap
     rw [hd2, hJ2 j k s hj] at a1
     have hp2 := hr2.perm
     rw [hd2, hJ2 j k s hj] at hp2
     refine ⟨hr.le, ?_, cs, by rw [← h2.ty]; exact a1, by rw [a2, h2.len], fun i c hc => ?_⟩
     . show (g.unview ps E.d w.heap.size g2).Γ (g.J (E.d - k) s) = _
       rw [a1P]
       . rw [hp2]
         show (match ps[j]? with | some p => Perm.box (E.d - p.1) p.2 | none => .low 0) = _
         rw [hj]
       . rintro ⟨_, hs⟩
         rw [hr.perm] at hs
         simp only [Perm.view, b3r hp hj] at hs
         cases hs
     . have hi : i < B₂.cells.length := by rw [h2.len]; exact (GD.1 hc).1
       have hcc := GH hi
       have hcr := h2.cell i c _ hc hcc
       obtain ⟨b1, b2, b3, b4⟩ := a3 i _ hcc
       rcases hcr with hcr | ⟨x, a, e1, e2⟩
       rotate_left
       . rw [e2] at b1 b4
         subst e1
         refine ⟨b1, rfl, fun e => (by cases e), ?_⟩
         cases a with
         | no => exact .v _ _ _ ((O0 b4).later b6u) trivial
         | nil e => exact .v _ _ _ ((O0 b4).later b6u) trivial
         | own p e => exact .v _ _ _ ((O0 b4).later b6u) trivial
       obtain ⟨_, s2, s3⟩ := b1e hcr
       refine ⟨(s2 ⟨b1, b2⟩).1, (s2 ⟨b1, b2⟩).2, fun e => ?_, ?_⟩
       . have := b3 (s3.1 e)
         rw [hd2, hJ2 j k s hj] at this
         exact this
       . refine c5W hcr b6u hr.le (fun e ho => by rw [hd2] at ho; exact c3w hsz2 held hj ho) ?_ b4
         intro a b j' hq _ _
         obtain ⟨B3, B3', c1, _, _⟩ := a0y j' _ hq
         have hle := hp.le _ _ hq
         simp only at hle
         refine ⟨by omega, ?_, ?_⟩
         . rw [hh.dom, Mn]; exact ⟨_, c1⟩
         . show g.J (E.d - (a + k)) b = g2.J (E2.d - (0 + 1)) j'
           rw [hd2, hJ2 j' _ _ hq, Mn]
   . rw [F7 ps Bs' m (k := k) (s := s) (fun j hj => hx ⟨j, hj⟩)] at hbx
     have hr := hh.mem _ _ _ hbx
     obtain ⟨cs, a1, a2, a3⟩ := hr.heap
     have hn := c2L hp hr.le (fun j hj => hx ⟨j, hj⟩)
     have hlt := J0 a1
     have hs : ((g.Γ (g.J (E.d - k) s)).view ps E.d).still = true := by rw [hr.perm]; simp only [Perm.view, hn]; rfl
     refine ⟨hr.le, ?_, cs, ?_, a2, fun i c hc => ?_⟩
     . show (g.unview ps E.d w.heap.size g2).Γ (g.J (E.d - k) s) = _
       rw [U4 hlt hs]; exact hr.perm
     . show w'.heap[g.J (E.d - k) s]? = _
       rw [held.heap _ hlt hs]; exact a1
     . obtain ⟨b1, b2, b3, b4⟩ := a3 i c hc
       refine ⟨b1, b2, b3, ?_⟩
       exact a2E b2 b4 (by simp) (fun _ _ => true) hlat' rfl (fun _ _ h _ => h) (fun _ _ _ _ _ => rfl) (fun e v ho => a9Y held (by simp only [inP, hn, Option.map_none]) ho) (fun _ => true) (fun _ _ _ _ => rfl) (fun _ _ _ _ _ => rfl) (fun _ _ _ _ _ _ => rfl) (fun _ _ _ _ _ => rfl) (fun _ _ _ _ _ => rfl) rfl (fun _ _ => rfl)
 . rw [hdm]; exact hh.dom
 . have := q3.far_ (E' := E) (dead' := []) b6u r1
   rwa [r2] at this
 . refine ⟨q5.os, q5.tape, q5.output, q5.size, hlat', fun b hb hi => ?_, fun _ _ _ => rfl⟩
   have hs : ((g.Γ b).view ps E.d).still = true := by
    rcases hi with hi | ⟨n, hi⟩ <;> rw [hi] <;> rfl
   exact ⟨U4 hb hs, held.heap b hb hs⟩
end
end En
namespace En
open Go
structure MEnt where
 f : Hg
 k : {R : Type} -> Nat -> List D -> Mem -> (List D -> Mem -> Option R) -> Option R
def Y9 {R : Type} : List MEnt -> Hg -> Nat -> List D -> Mem -> (List D -> Mem -> Option R) -> Option R
 | [], _, _, _, _, _ => none
 | e :: r, g, dst, ds, m, K => cond (GR e.f g) (e.k dst ds m K) (Y9 r g dst ds m K)
def a1b (p : Nat × Nat) : List (Nat × Nat) -> Bool
 | [] => false
 | q :: r => cond (GR p.1 q.1) (cond (GR p.2 q.2) true (a1b p r)) (a1b p r)
def distinct : List (Nat × Nat) -> Bool
 | [] => true
 | p :: r => cond (a1b p r) false (distinct r)
def b0E {R : Type} : List (Nat × Nat) -> Mem -> (List Bx -> Option R) -> Option R
 | [], _, K => K []
 | p :: r, m, K => (match m.box? p.1 p.2 with | some B => b0E r m fun Bs => K (B :: Bs) | none => none)
def u9 {R : Type} (ps : List (Nat × Nat)) (m : Mem) (K : List Bx -> Option R) : Option R := cond (distinct ps) (b0E ps m K) none
def j3 {R : Type} : List (Nat × Nat) -> List Bx -> Mem -> (Mem -> Option R) -> Option R
 | p :: ps, B :: Bs, m, K => M6 m p.1 p.2 B fun m => j3 ps Bs m K
 | _, _, m, K => K m
def D.calm : D -> Bool
 | .v _ _ => true
 | .bld => true
 | .nilp => true
 | .nilF => true
 | .eptr _ _ => true
 | _ => false
def b3l : List Bx -> Bool
 | [] => true
 | B :: r => B.cells.all D.calm && b3l r
section
variable {R : Type} {P : Hb} {T : GF -> Option Ty} {cx : Cx}
theorem a4l {p : Nat × Nat} : ∀ (l : List (Nat × Nat)), a1b p l = false -> ∀ j : Nat, l[j]? ≠ some p
 | [], _, j, h => by simp at h
 | q :: r, h, j, hj => by
   unfold a1b at h
   have hr : a1b p r = false := by
    cases h1 : GR p.1 q.1 <;> cases h2 : GR p.2 q.2 <;> rw [h1, h2] at h <;> simp at h <;> exact h
   rcases j with _ | j
   . simp at hj; subst hj
     simp at h
   . exact a4l r hr j (by simpa using hj)
theorem a9w : ∀ (l : List (Nat × Nat)), distinct l = true -> ∀ (i j : Nat) (p : Nat × Nat), l[i]? = some p -> l[j]? = some p -> i = j
 | [], _, i, j, p, h, _ => by simp at h
 | q :: r, h, i, j, p, h1, h2 => by
   unfold distinct at h
   cases hq : a1b q r with
   | true => rw [hq] at h; cases h
   | false =>
     rw [hq, cond_false] at h
     rcases i with _ | i <;> rcases j with _ | j
     . rfl
     . simp at h1; subst h1; exact absurd (by simpa using h2) (a4l r hq j)
     . simp at h2; subst h2; exact absurd (by simpa using h1) (a4l r hq i)
     . have := a9w r h i j p (by simpa using h1) (by simpa using h2)
       omega
theorem a7O {m : Mem} : ∀ (ps : List (Nat × Nat)) (K : List Bx -> Option R) (r : R), b0E ps m K = some r -> ∃ Bs, (∀ (j : Nat) (p : Nat × Nat), ps[j]? = some p -> ∃ B, m.box? p.1 p.2 = some B /\ Bs[j]? = some B) /\ Bs.length = ps.length /\ K Bs = some r
 | [], K, r, h => ⟨[], fun j p hj => by simp at hj, rfl, h⟩
 | p :: ps, K, r, h => by
   unfold b0E at h
   split at h
   . rename_i B hB
     obtain ⟨Bs, h1, h2, h3⟩ := a7O ps _ r h
     refine ⟨B :: Bs, fun j q hj => ?_, by simp [h2], h3⟩
     rcases j with _ | j
     . simp at hj; subst hj; exact ⟨B, hB, rfl⟩
     . simpa using h1 j q (by simpa using hj)
   . cases h
theorem g4 {ps : List (Nat × Nat)} {m : Mem} {K : List Bx -> Option R} {r : R} (h : u9 ps m K = some r) :
 ∃ Bs, (∀ (i j : Nat) (p : Nat × Nat), ps[i]? = some p -> ps[j]? = some p -> i = j) /\ (∀ (j : Nat) (p : Nat × Nat), ps[j]? = some p -> ∃ B, m.box? p.1 p.2 = some B /\ Bs[j]? = some B) /\ Bs.length = ps.length /\ K Bs = some r := by
 unfold u9 at h
 rcases g5 h with ⟨h1, h⟩ | ⟨_, h⟩
 . obtain ⟨Bs, a, b, c⟩ := a7O ps K r h
   exact ⟨Bs, a9w ps h1, a, b, c⟩
 . cases h
theorem d9 : ∀ (ps : List (Nat × Nat)) (Bs : List Bx) (m : Mem) (K : Mem -> Option R), j3 ps Bs m K = K (D4 ps Bs m)
 | [], _, m, K => by simp [j3, D4]
 | _ :: _, [], m, K => by simp [j3, D4]
 | p :: ps, B :: Bs, m, K => by simp only [j3, D4, B9, d9 ps Bs]
def c9X (ps : List (Nat × Nat)) (y y₁ : D) : Prop := Ren (fun k s k₁ s₁ => ∃ k', k = k' + 1 /\ k₁ = 1 /\ ps[s₁]? = some (k', s)) y y₁
def ARens (ps : List (Nat × Nat)) : List D -> List D -> Prop
 | [], [] => True
 | y :: ys, y₁ :: ys₁ => c9X ps y y₁ /\ ARens ps ys ys₁
 | _, _ => False
theorem ARens.get {ps : List (Nat × Nat)} : ∀ {l l₁ : List D}, ARens ps l l₁ -> l₁.length = l.length /\ ∀ (i : Nat) y y₁, l[i]? = some y -> l₁[i]? = some y₁ -> c9X ps y y₁
 | [], [], _ => ⟨rfl, fun i y y₁ h => by simp at h⟩
 | y :: ys, y₁ :: ys₁, ⟨h1, h2⟩ => by
   obtain ⟨a, b⟩ := ARens.get h2
   refine ⟨by simp [a], fun i z z₁ hz hz₁ => ?_⟩
   rcases i with _ | i
   . simp at hz hz₁; subst hz hz₁; exact h1
   . exact b i z z₁ (by simpa using hz) (by simpa using hz₁)
theorem g6 {ps : List (Nat × Nat)} {k s j : Nat} (o : Nat) (h : ps[j]? = some (k, s)) : c9X ps (.ptr (k + 1) s o) (.ptr 1 j o) := .ptr o ⟨k, rfl, rfl, h⟩
theorem L3 {ps : List (Nat × Nat)} {cs cs₁ : List D} (h : ARens ps cs cs₁) : c9X ps (.agg cs) (.agg cs₁) := .agg cs cs₁ h.get.1 h.get.2
theorem d7 {ps : List (Nat × Nat)} (x : V) : c9X ps (.v x .no) (.v x .no) := .v x
def ViewRet (P : Hb) (T : GF -> Option Ty) (f : Hg) (ds₁ : List D) (Bs : List Bx) (rs : List D) (Bs' : List Bx) : Prop :=
 ∀ (ps : List (Nat × Nat)) (ds : List D) (m : Mem) (dst : Nat), (∀ (i j : Nat) (p : Nat × Nat), ps[i]? = some p -> ps[j]? = some p -> i = j) ->
  (∀ (j : Nat) (p : Nat × Nat), ps[j]? = some p -> ∃ B, m.box? p.1 p.2 = some B /\ Bs[j]? = some B) -> Bs.length = ps.length -> ARens ps ds ds₁ -> MemRet P T f dst ds m rs (D4 ps Bs' m)
theorem b2v {Q : Nat -> Nat -> Nat -> Prop} {c : D} (h : c.calm = true) : CRen Q c c := by
 cases c with
 | v x a => exact .v x a
 | bld => exact .bld
 | nilp => exact .ren (by simp) (by simp) rfl rfl rfl rfl (by simp) .nilp
 | nilF => exact .ren (by simp) (by simp) rfl rfl rfl rfl (by simp) .nilF
 | eptr cs o => exact .ren (by simp) (by simp) rfl rfl rfl rfl (by simp) (.eptr cs o)
 | _ => cases h
theorem b4X : ∀ (Bs : List Bx), b3l Bs = true -> ∀ (j : Nat) B, Bs[j]? = some B -> ∀ {Q : Nat -> Nat -> Nat -> Prop}, BRen Q B B
 | [], _, j, B, h => by simp at h
 | B :: Bs, h, j, B', hj => by
   simp only [b3l, GP] at h
   rcases j with _ | j
   . simp at hj; subst hj
     refine ⟨rfl, rfl, fun i c c₁ h1 h2 => ?_⟩
     rw [h1] at h2
     injection h2 with h2
     subst h2
     exact b2v (Ib.1 h.1 c (IC h1))
   . exact b4X Bs h.2 j B' (by simpa using hj)
structure MEntOK (P : Hb) (T : GF -> Option Ty) (e : MEnt) : Prop where
 goes : a7U P e.f
 ret : ∀ (R : Type) (dst : Nat) (ds : List D) (m : Mem) (K : List D -> Mem -> Option R) (r : R), e.k dst ds m K = some r -> ∃ rs m', K rs m' = some r /\ MemRet P T e.f dst ds m rs m'
def a7P (P : Hb) (T : GF -> Option Ty) : List MEnt -> Prop
 | [] => True
 | e :: r => MEntOK P T e /\ a7P P T r
theorem c0B {g : Hg} {dst : Nat} {ds : List D} {m : Mem} {K : List D -> Mem -> Option R} {r : R} : ∀ (l : List MEnt), a7P P T l -> Y9 l g dst ds m K = some r -> ∃ rs m', K rs m' = some r /\ a7U P g /\ MemRet P T g dst ds m rs m'
 | [], _, h => by cases h
 | e :: l, ho, h => by
   unfold Y9 at h
   cases hb : GR e.f g with
   | true =>
     have he := GE hb
     rw [hb, cond_true] at h
     obtain ⟨rs, m', h1, h2⟩ := ho.1.ret R dst ds m K r h
     subst he
     exact ⟨rs, m', h1, ho.1.goes, h2⟩
   | false => rw [hb, cond_false] at h; exact c0B l ho.2 h
structure SEnt where
 f : Hg
 k : {R : Type} -> List D -> Mem -> (List D -> Option R) -> Option R
def b3v {R : Type} : List SEnt -> Hg -> List D -> Mem -> (List D -> Option R) -> Option R
 | [], _, _, _, _ => none
 | e :: r, g, ds, m, K => cond (GR e.f g) (e.k ds m K) (b3v r g ds m K)
structure SEntOK (P : Hb) (T : GF -> Option Ty) (e : SEnt) : Prop where
 goes : a7U P e.f
 ret : ∀ (R : Type) (ds : List D) (m : Mem) (K : List D -> Option R) (r : R), e.k ds m K = some r -> ∃ rs, K rs = some r /\ b3h P T e.f ds m rs
 b : ∀ (R : Type) (ds : List D) (m : Mem) (K : List D -> Option R), e.k ds m K = (e.k ds m some).bind K
def b0u (P : Hb) (T : GF -> Option Ty) : List SEnt -> Prop
 | [] => True
 | e :: r => SEntOK P T e /\ b0u P T r
theorem b8W {g : Hg} {ds : List D} {m : Mem} {K : List D -> Option R} {r : R} : ∀ (l : List SEnt), b0u P T l -> b3v l g ds m K = some r -> ∃ rs, K rs = some r /\ a7U P g /\ b3h P T g ds m rs
 | [], _, h => by cases h
 | e :: l, ho, h => by
   unfold b3v at h
   cases hb : GR e.f g with
   | true =>
     have he := GE hb
     rw [hb, cond_true] at h
     obtain ⟨rs, h1, h2⟩ := ho.1.ret R ds m K r h
     subst he
     exact ⟨rs, h1, ho.1.goes, h2⟩
   | false => rw [hb, cond_false] at h; exact b8W l ho.2 h
theorem c5h {g : Hg} {ds : List D} {m : Mem} {K : List D -> Option R} : ∀ (l : List SEnt), b0u P T l -> b3v l g ds m K = (b3v l g ds m some).bind K
 | [], _ => rfl
 | e :: l, ho => by
   unfold b3v
   cases GR e.f g with
   | true => exact ho.1.b R ds m K
   | false => exact c5h l ho.2
theorem c9k {es : List Ent} {me : List MEnt} {ms : List Met} {ss : List SEnt} (hT : p7 P cx.T) (hes : a8t P cx.T es) (hme : a7P P cx.T me) (hms : b8f P ms) (hss : b0u P cx.T ss) (h1 : cx.isPure = a5S es) (h2 : ∀ (R : Type) (g : Hg) (ds : List D) (K : List D -> Option R), cx.pureK g ds K = a2y es g ds K)
 (h3 : ∀ (R : Type) (g : Hg) (dst : Nat) (ds : List D) (m : Mem) (K : List D -> Mem -> Option R), cx.memK g dst ds m K = Y9 me g dst ds m K) (h4 : cx.meth = a3N ms) (h5 : ∀ (R : Type) (g : Hg) (ds : List D) (m : Mem) (K : List D -> Option R), cx.stillK g ds m K = b3v ss g ds m K) : CxOK P cx := by
 refine ⟨hT, fun R g ds K r _ h => ?_, fun R g dst ds m K r _ _ h => ?_, fun R g ds m K r _ h => ?_, ⟨fun R g ds K => ?_, fun R g ds m K => ?_⟩, fun t n f h => ?_⟩
 . rw [h2] at h; exact c5y es hes h
 . rw [h3] at h; exact c0B me hme h
 . rw [h5] at h; exact b8W ss hss h
 . rw [h2, h2]; exact c9W es hes
 . rw [h5, h5]; exact c5h ss hss
 . rw [h4] at h; exact b7O ms hms h
theorem L2 {es : List Ent} {me : List MEnt} {ms : List Met} (hT : p7 P cx.T) (hes : a8t P cx.T es) (hme : a7P P cx.T me) (hms : b8f P ms) (h1 : cx.isPure = a5S es) (h2 : ∀ (R : Type) (g : Hg) (ds : List D) (K : List D -> Option R), cx.pureK g ds K = a2y es g ds K)
 (h3 : ∀ (R : Type) (g : Hg) (dst : Nat) (ds : List D) (m : Mem) (K : List D -> Mem -> Option R), cx.memK g dst ds m K = Y9 me g dst ds m K) (h4 : cx.meth = a3N ms) (h5 : ∀ (R : Type) (g : Hg) (ds : List D) (m : Mem) (K : List D -> Option R), cx.stillK g ds m K = none := by intros; rfl) : CxOK P cx :=
 c9k (ss := []) hT hes hme hms trivial h1 h2 h3 h4 h5
end
end En
namespace En
open Go
def d1E {R a1 a2 a3 a4 a5 a6 : Type} (o : Option (a1 × a2 × a3 × a4 × a5 × a6)) (K : a1 -> a2 -> a3 -> a4 -> a5 -> a6 -> Option R) : Option R := match o with | some (x1, x2, x3, x4, x5, x6) => K x1 x2 x3 x4 x5 x6 | none => none
theorem c6D {R a1 a2 a3 a4 a5 a6 : Type} {o : Option (a1 × a2 × a3 × a4 × a5 × a6)} {K : a1 -> a2 -> a3 -> a4 -> a5 -> a6 -> Option R} {r : R} (h : d1E o K = some r) : ∃ x1 x2 x3 x4 x5 x6, o = some (x1, x2, x3, x4, x5, x6) /\ K x1 x2 x3 x4 x5 x6 = some r := by
 rcases o with _ | ⟨x1, x2, x3, x4, x5, x6⟩
 . cases h
 . exact ⟨x1, x2, x3, x4, x5, x6, rfl, h⟩
theorem d3c {R a1 a2 a3 a4 a5 a6 : Type} (x1 : a1) (x2 : a2) (x3 : a3) (x4 : a4) (x5 : a5) (x6 : a6) (K : a1 -> a2 -> a3 -> a4 -> a5 -> a6 -> Option R) : d1E (some (x1, x2, x3, x4, x5, x6)) K = K x1 x2 x3 x4 x5 x6 := id rfl
def c7B {R a1 a2 a3 a4 a5 a6 a7 : Type} (o : Option (a1 × a2 × a3 × a4 × a5 × a6 × a7)) (K : a1 -> a2 -> a3 -> a4 -> a5 -> a6 -> a7 -> Option R) : Option R := match o with | some (x1, x2, x3, x4, x5, x6, x7) => K x1 x2 x3 x4 x5 x6 x7 | none => none
theorem b5q {R a1 a2 a3 a4 a5 a6 a7 : Type} {o : Option (a1 × a2 × a3 × a4 × a5 × a6 × a7)} {K : a1 -> a2 -> a3 -> a4 -> a5 -> a6 -> a7 -> Option R} {r : R} (h : c7B o K = some r) : ∃ x1 x2 x3 x4 x5 x6 x7, o = some (x1, x2, x3, x4, x5, x6, x7) /\ K x1 x2 x3 x4 x5 x6 x7 = some r := by
 rcases o with _ | ⟨x1, x2, x3, x4, x5, x6, x7⟩
 . cases h
 . exact ⟨x1, x2, x3, x4, x5, x6, x7, rfl, h⟩
theorem c5v {R a1 a2 a3 a4 a5 a6 a7 : Type} (x1 : a1) (x2 : a2) (x3 : a3) (x4 : a4) (x5 : a5) (x6 : a6) (x7 : a7) (K : a1 -> a2 -> a3 -> a4 -> a5 -> a6 -> a7 -> Option R) : c7B (some (x1, x2, x3, x4, x5, x6, x7)) K = K x1 x2 x3 x4 x5 x6 x7 := id rfl
def H9 {R a1 a2 a3 a4 a5 a6 a7 a8 : Type} (o : Option (a1 × a2 × a3 × a4 × a5 × a6 × a7 × a8)) (K : a1 -> a2 -> a3 -> a4 -> a5 -> a6 -> a7 -> a8 -> Option R) : Option R := match o with | some (x1, x2, x3, x4, x5, x6, x7, x8) => K x1 x2 x3 x4 x5 x6 x7 x8 | none => none
theorem O3 {R a1 a2 a3 a4 a5 a6 a7 a8 : Type} {o : Option (a1 × a2 × a3 × a4 × a5 × a6 × a7 × a8)} {K : a1 -> a2 -> a3 -> a4 -> a5 -> a6 -> a7 -> a8 -> Option R} {r : R} (h : H9 o K = some r) : ∃ x1 x2 x3 x4 x5 x6 x7 x8, o = some (x1, x2, x3, x4, x5, x6, x7, x8) /\ K x1 x2 x3 x4 x5 x6 x7 x8 = some r := by
 rcases o with _ | ⟨x1, x2, x3, x4, x5, x6, x7, x8⟩
 . cases h
 . exact ⟨x1, x2, x3, x4, x5, x6, x7, x8, rfl, h⟩
theorem c8V {a1 a2 a3 a4 a5 a6 a7 a8 b R : Type} (o : Option (a1 × a2 × a3 × a4 × a5 × a6 × a7 × a8)) (F : a1 -> a2 -> a3 -> a4 -> a5 -> a6 -> a7 -> a8 -> Option b) (K : b -> Option R) : (H9 o F).bind K = H9 o fun x1 x2 x3 x4 x5 x6 x7 x8 => (F x1 x2 x3 x4 x5 x6 x7 x8).bind K := by
 rcases o with _ | ⟨x1, x2, x3, x4, x5, x6, x7, x8⟩ <;> rfl
theorem N7 {R a1 a2 a3 a4 a5 a6 a7 a8 : Type} (x1 : a1) (x2 : a2) (x3 : a3) (x4 : a4) (x5 : a5) (x6 : a6) (x7 : a7) (x8 : a8) (K : a1 -> a2 -> a3 -> a4 -> a5 -> a6 -> a7 -> a8 -> Option R) : H9 (some (x1, x2, x3, x4, x5, x6, x7, x8)) K = K x1 x2 x3 x4 x5 x6 x7 x8 := id rfl
def c2V {R a1 a2 a3 a4 a5 a6 a7 a8 a9 : Type} (o : Option (a1 × a2 × a3 × a4 × a5 × a6 × a7 × a8 × a9)) (K : a1 -> a2 -> a3 -> a4 -> a5 -> a6 -> a7 -> a8 -> a9 -> Option R) : Option R := match o with | some (x1, x2, x3, x4, x5, x6, x7, x8, x9) => K x1 x2 x3 x4 x5 x6 x7 x8 x9 | none => none
theorem b5A {R a1 a2 a3 a4 a5 a6 a7 a8 a9 : Type} {o : Option (a1 × a2 × a3 × a4 × a5 × a6 × a7 × a8 × a9)} {K : a1 -> a2 -> a3 -> a4 -> a5 -> a6 -> a7 -> a8 -> a9 -> Option R} {r : R} (h : c2V o K = some r) : ∃ x1 x2 x3 x4 x5 x6 x7 x8 x9, o = some (x1, x2, x3, x4, x5, x6, x7, x8, x9) /\ K x1 x2 x3 x4 x5 x6 x7 x8 x9 = some r := by
 rcases o with _ | ⟨x1, x2, x3, x4, x5, x6, x7, x8, x9⟩
 . cases h
 . exact ⟨x1, x2, x3, x4, x5, x6, x7, x8, x9, rfl, h⟩
theorem c4G {R a1 a2 a3 a4 a5 a6 a7 a8 a9 : Type} (x1 : a1) (x2 : a2) (x3 : a3) (x4 : a4) (x5 : a5) (x6 : a6) (x7 : a7) (x8 : a8) (x9 : a9) (K : a1 -> a2 -> a3 -> a4 -> a5 -> a6 -> a7 -> a8 -> a9 -> Option R) : c2V (some (x1, x2, x3, x4, x5, x6, x7, x8, x9)) K = K x1 x2 x3 x4 x5 x6 x7 x8 x9 := id rfl
def a9r {R a1 a2 a3 a4 a5 a6 a7 a8 a9 a10 a11 a12 a13 : Type} (o : Option (a1 × a2 × a3 × a4 × a5 × a6 × a7 × a8 × a9 × a10 × a11 × a12 × a13)) (K : a1 -> a2 -> a3 -> a4 -> a5 -> a6 -> a7 -> a8 -> a9 -> a10 -> a11 -> a12 -> a13 -> Option R) : Option R := match o with | some (x1, x2, x3, x4, x5, x6, x7, x8, x9, x10, x11, x12, x13) => K x1 x2 x3 x4 x5 x6 x7 x8 x9 x10 x11 x12 x13 | none => none
theorem b2d {R a1 a2 a3 a4 a5 a6 a7 a8 a9 a10 a11 a12 a13 : Type} {o : Option (a1 × a2 × a3 × a4 × a5 × a6 × a7 × a8 × a9 × a10 × a11 × a12 × a13)} {K : a1 -> a2 -> a3 -> a4 -> a5 -> a6 -> a7 -> a8 -> a9 -> a10 -> a11 -> a12 -> a13 -> Option R} {r : R} (h : a9r o K = some r) : ∃ x1 x2 x3 x4 x5 x6 x7 x8 x9 x10 x11 x12 x13, o = some (x1, x2, x3, x4, x5, x6, x7, x8, x9, x10, x11, x12, x13) /\ K x1 x2 x3 x4 x5 x6 x7 x8 x9 x10 x11 x12 x13 = some r := by
 rcases o with _ | ⟨x1, x2, x3, x4, x5, x6, x7, x8, x9, x10, x11, x12, x13⟩
 . cases h
 . exact ⟨x1, x2, x3, x4, x5, x6, x7, x8, x9, x10, x11, x12, x13, rfl, h⟩
theorem b1n {R a1 a2 a3 a4 a5 a6 a7 a8 a9 a10 a11 a12 a13 : Type} (x1 : a1) (x2 : a2) (x3 : a3) (x4 : a4) (x5 : a5) (x6 : a6) (x7 : a7) (x8 : a8) (x9 : a9) (x10 : a10) (x11 : a11) (x12 : a12) (x13 : a13) (K : a1 -> a2 -> a3 -> a4 -> a5 -> a6 -> a7 -> a8 -> a9 -> a10 -> a11 -> a12 -> a13 -> Option R) : a9r (some (x1, x2, x3, x4, x5, x6, x7, x8, x9, x10, x11, x12, x13)) K = K x1 x2 x3 x4 x5 x6 x7 x8 x9 x10 x11 x12 x13 := id rfl
def b9C {R a1 a2 a3 a4 a5 a6 a7 a8 a9 a10 a11 a12 a13 a14 a15 a16 a17 : Type} (o : Option (a1 × a2 × a3 × a4 × a5 × a6 × a7 × a8 × a9 × a10 × a11 × a12 × a13 × a14 × a15 × a16 × a17)) (K : a1 -> a2 -> a3 -> a4 -> a5 -> a6 -> a7 -> a8 -> a9 -> a10 -> a11 -> a12 -> a13 -> a14 -> a15 -> a16 -> a17 -> Option R) : Option R := match o with | some (x1, x2, x3, x4, x5, x6, x7, x8, x9, x10, x11, x12, x13, x14, x15, x16, x17) => K x1 x2 x3 x4 x5 x6 x7 x8 x9 x10 x11 x12 x13 x14 x15 x16 x17 | none => none
theorem c3J {R a1 a2 a3 a4 a5 a6 a7 a8 a9 a10 a11 a12 a13 a14 a15 a16 a17 : Type} {o : Option (a1 × a2 × a3 × a4 × a5 × a6 × a7 × a8 × a9 × a10 × a11 × a12 × a13 × a14 × a15 × a16 × a17)} {K : a1 -> a2 -> a3 -> a4 -> a5 -> a6 -> a7 -> a8 -> a9 -> a10 -> a11 -> a12 -> a13 -> a14 -> a15 -> a16 -> a17 -> Option R} {r : R} (h : b9C o K = some r) : ∃ x1 x2 x3 x4 x5 x6 x7 x8 x9 x10 x11 x12 x13 x14 x15 x16 x17, o = some (x1, x2, x3, x4, x5, x6, x7, x8, x9, x10, x11, x12, x13, x14, x15, x16, x17) /\ K x1 x2 x3 x4 x5 x6 x7 x8 x9 x10 x11 x12 x13 x14 x15 x16 x17 = some r := by
 rcases o with _ | ⟨x1, x2, x3, x4, x5, x6, x7, x8, x9, x10, x11, x12, x13, x14, x15, x16, x17⟩
 . cases h
 . exact ⟨x1, x2, x3, x4, x5, x6, x7, x8, x9, x10, x11, x12, x13, x14, x15, x16, x17, rfl, h⟩
theorem c0m {R a1 a2 a3 a4 a5 a6 a7 a8 a9 a10 a11 a12 a13 a14 a15 a16 a17 : Type} (x1 : a1) (x2 : a2) (x3 : a3) (x4 : a4) (x5 : a5) (x6 : a6) (x7 : a7) (x8 : a8) (x9 : a9) (x10 : a10) (x11 : a11) (x12 : a12) (x13 : a13) (x14 : a14) (x15 : a15) (x16 : a16) (x17 : a17) (K : a1 -> a2 -> a3 -> a4 -> a5 -> a6 -> a7 -> a8 -> a9 -> a10 -> a11 -> a12 -> a13 -> a14 -> a15 -> a16 -> a17 -> Option R) : b9C (some (x1, x2, x3, x4, x5, x6, x7, x8, x9, x10, x11, x12, x13, x14, x15, x16, x17)) K = K x1 x2 x3 x4 x5 x6 x7 x8 x9 x10 x11 x12 x13 x14 x15 x16 x17 := id rfl
def b6n {R a1 a2 a3 a4 a5 a6 a7 a8 a9 a10 a11 a12 a13 a14 a15 a16 a17 a18 : Type} (o : Option (a1 × a2 × a3 × a4 × a5 × a6 × a7 × a8 × a9 × a10 × a11 × a12 × a13 × a14 × a15 × a16 × a17 × a18)) (K : a1 -> a2 -> a3 -> a4 -> a5 -> a6 -> a7 -> a8 -> a9 -> a10 -> a11 -> a12 -> a13 -> a14 -> a15 -> a16 -> a17 -> a18 -> Option R) : Option R := match o with | some (x1, x2, x3, x4, x5, x6, x7, x8, x9, x10, x11, x12, x13, x14, x15, x16, x17, x18) => K x1 x2 x3 x4 x5 x6 x7 x8 x9 x10 x11 x12 x13 x14 x15 x16 x17 x18 | none => none
theorem b1o {R a1 a2 a3 a4 a5 a6 a7 a8 a9 a10 a11 a12 a13 a14 a15 a16 a17 a18 : Type} {o : Option (a1 × a2 × a3 × a4 × a5 × a6 × a7 × a8 × a9 × a10 × a11 × a12 × a13 × a14 × a15 × a16 × a17 × a18)} {K : a1 -> a2 -> a3 -> a4 -> a5 -> a6 -> a7 -> a8 -> a9 -> a10 -> a11 -> a12 -> a13 -> a14 -> a15 -> a16 -> a17 -> a18 -> Option R} {r : R} (h : b6n o K = some r) : ∃ x1 x2 x3 x4 x5 x6 x7 x8 x9 x10 x11 x12 x13 x14 x15 x16 x17 x18, o = some (x1, x2, x3, x4, x5, x6, x7, x8, x9, x10, x11, x12, x13, x14, x15, x16, x17, x18) /\ K x1 x2 x3 x4 x5 x6 x7 x8 x9 x10 x11 x12 x13 x14 x15 x16 x17 x18 = some r := by
 rcases o with _ | ⟨x1, x2, x3, x4, x5, x6, x7, x8, x9, x10, x11, x12, x13, x14, x15, x16, x17, x18⟩
 . cases h
 . exact ⟨x1, x2, x3, x4, x5, x6, x7, x8, x9, x10, x11, x12, x13, x14, x15, x16, x17, x18, rfl, h⟩
theorem b2R {R a1 a2 a3 a4 a5 a6 a7 a8 a9 a10 a11 a12 a13 a14 a15 a16 a17 a18 : Type} (x1 : a1) (x2 : a2) (x3 : a3) (x4 : a4) (x5 : a5) (x6 : a6) (x7 : a7) (x8 : a8) (x9 : a9) (x10 : a10) (x11 : a11) (x12 : a12) (x13 : a13) (x14 : a14) (x15 : a15) (x16 : a16) (x17 : a17) (x18 : a18) (K : a1 -> a2 -> a3 -> a4 -> a5 -> a6 -> a7 -> a8 -> a9 -> a10 -> a11 -> a12 -> a13 -> a14 -> a15 -> a16 -> a17 -> a18 -> Option R) : b6n (some (x1, x2, x3, x4, x5, x6, x7, x8, x9, x10, x11, x12, x13, x14, x15, x16, x17, x18)) K = K x1 x2 x3 x4 x5 x6 x7 x8 x9 x10 x11 x12 x13 x14 x15 x16 x17 x18 := id rfl
end En
namespace En
open Go
def ty3 : Ty := { desc := .int .i64, cks := [(.int .i64)], nbytes := 8 }
def ty4 : Ty := { desc := .bool, cks := [.bool], nbytes := 1 }
def ty5 : Ty := { desc := .int .u8, cks := [(.int .u8)], nbytes := 1 }
def ty9 : Ty := { desc := .string, cks := [.str], nbytes := 16 }
def d5W : Ty := { desc := .interface #[], cks := [.iface], nbytes := 16 }
def d4R : Ty := { desc := .slice 5, cks := [(.bytes 5)], nbytes := 24 }
def d5c : Ty := { desc := .struct #[⟨ "CLA", 3, 0, false, "", "", 0⟩, ⟨ "INS", 3, 1, false, "", "", 8⟩, ⟨ "P1", 3, 2, false, "", "", 16⟩, ⟨ "P2", 3, 3, false, "", "", 24⟩, ⟨ "Data", 22, 4, false, "", "", 32⟩, ⟨ "Le", 3, 5, false, "", "", 56⟩, ⟨ "Long", 4, 6, false, "", "", 64⟩], cks := [(.int .i64), (.int .i64), (.int .i64), (.int .i64), (.bytes 5), (.int .i64), .bool], nbytes := 72 }
def d4w : Ty := { desc := .struct #[⟨ "Data", 22, 0, false, "", "", 0⟩, ⟨ "SW", 3, 1, false, "", "", 24⟩], cks := [(.bytes 5), (.int .i64)], nbytes := 32 }
def d5p : Ty := { desc := .int .i64, cks := [(.int .i64)], nbytes := 8 }
def d5H : Ty := { desc := .slice 3, cks := [(.slc 3)], nbytes := 24 }
def d6v : Ty := { desc := .struct #[⟨ "Channel", 3, 0, false, "", "", 0⟩, ⟨ "Secure", 4, 1, false, "", "", 8⟩, ⟨ "Chained", 4, 2, false, "", "", 9⟩, ⟨ "Proprietary", 4, 3, false, "", "", 10⟩], cks := [(.int .i64), .bool, .bool, .bool], nbytes := 16, eqb := true }
def d6f : Ty := { desc := .int .u64, cks := [(.int .u64)], nbytes := 8 }
def d5G : Ty := { desc := .pointer 80, cks := [.ptr], nbytes := 8 }
def d5U : Ty := { desc := .pointer 82, cks := [.ptr], nbytes := 8 }
def d6a : Ty := { desc := .pointer 24, cks := [.ptr], nbytes := 8 }
def d6e : Ty := { desc := .pointer 99, cks := [.ptr], nbytes := 8 }
def d5A : Ty := { desc := .pointer 102, cks := [.ptr], nbytes := 8 }
def d6x : Ty := { desc := .slice 22, cks := [(.slc 22)], nbytes := 24 }
def d6h : Ty := { desc := .struct #[⟨ "sum", 3, 0, false, "", "smartcard/tone", 0⟩, ⟨ "own", 3, 1, false, "", "smartcard/tone", 8⟩, ⟨ "other", 3, 2, false, "", "smartcard/tone", 16⟩, ⟨ "expect", 3, 3, false, "", "smartcard/tone", 24⟩, ⟨ "next", 3, 4, false, "", "smartcard/tone", 32⟩, ⟨ "sent", 22, 5, false, "", "smartcard/tone", 40⟩, ⟨ "sentSeq", 3, 6, false, "", "smartcard/tone", 64⟩, ⟨ "pieces", 75, 7, false, "", "smartcard/tone", 72⟩, ⟨ "in", 22, 8, false, "", "smartcard/tone", 96⟩], cks := [(.int .i64), (.int .i64), (.int .i64), (.int .i64), (.int .i64), (.bytes 5), (.int .i64), (.slc 22), (.bytes 5)], nbytes := 120 }
def d6t : Ty := { desc := .struct #[⟨ "counters", 78, 0, true, "", "smartcard/tone", 0⟩, ⟨ "state", 3, 9, false, "", "smartcard/tone", 120⟩, ⟨ "failures", 3, 10, false, "", "smartcard/tone", 128⟩, ⟨ "offered", 22, 11, false, "", "smartcard/tone", 136⟩, ⟨ "complete", 4, 12, false, "", "smartcard/tone", 160⟩, ⟨ "cause", 27, 13, false, "", "smartcard/tone", 168⟩], cks := [(.int .i64), (.int .i64), (.int .i64), (.int .i64), (.int .i64), (.bytes 5), (.int .i64), (.slc 22), (.bytes 5), (.int .i64), (.int .i64), (.bytes 5), .bool, (.int .i64)], nbytes := 176 }
def d6G : Ty := { desc := .struct #[⟨ "counters", 78, 0, true, "", "smartcard/tone", 0⟩, ⟨ "state", 3, 9, false, "", "smartcard/tone", 120⟩, ⟨ "asked", 22, 10, false, "", "smartcard/tone", 128⟩], cks := [(.int .i64), (.int .i64), (.int .i64), (.int .i64), (.int .i64), (.bytes 5), (.int .i64), (.slc 22), (.bytes 5), (.int .i64), (.bytes 5)], nbytes := 152 }
def d5o : Ty := { desc := .struct #[⟨ "NAD", 3, 0, false, "", "", 0⟩, ⟨ "Kind", 3, 1, false, "", "", 8⟩, ⟨ "Seq", 3, 2, false, "", "", 16⟩, ⟨ "More", 4, 3, false, "", "", 24⟩, ⟨ "Code", 3, 4, false, "", "", 32⟩, ⟨ "Answer", 4, 5, false, "", "", 40⟩, ⟨ "Inf", 22, 6, false, "", "", 48⟩], cks := [(.int .i64), (.int .i64), (.int .i64), .bool, (.int .i64), .bool, (.bytes 5)], nbytes := 72 }
def d5q : Ty := { desc := .func #[5] #[22] false, cks := [.func], nbytes := 8 }
def d6o : Ty := { desc := .struct #[⟨ "cla", 3, 0, false, "", "smartcard/tzero", 0⟩, ⟨ "ins", 3, 1, false, "", "smartcard/tzero", 8⟩, ⟨ "p1", 3, 2, false, "", "smartcard/tzero", 16⟩, ⟨ "p2", 3, 3, false, "", "smartcard/tzero", 24⟩, ⟨ "p3", 3, 4, false, "", "smartcard/tzero", 32⟩], cks := [(.int .i64), (.int .i64), (.int .i64), (.int .i64), (.int .i64)], nbytes := 40, eqb := true }
def d5I : Ty := { desc := .struct #[⟨ "made", 4, 0, false, "", "smartcard/tzero", 0⟩, ⟨ "c", 24, 1, false, "", "smartcard/tzero", 8⟩, ⟨ "busy", 4, 8, false, "", "smartcard/tzero", 80⟩, ⟨ "phase", 95, 9, false, "", "smartcard/tzero", 88⟩, ⟨ "head", 97, 10, false, "", "smartcard/tzero", 96⟩, ⟨ "ins", 4, 15, false, "", "smartcard/tzero", 136⟩, ⟨ "rest", 4, 16, false, "", "smartcard/tzero", 137⟩, ⟨ "left", 3, 17, false, "", "smartcard/tzero", 144⟩, ⟨ "sw1", 5, 18, false, "", "smartcard/tzero", 152⟩, ⟨ "data", 22, 19, false, "", "smartcard/tzero", 160⟩, ⟨ "done", 4, 20, false, "", "smartcard/tzero", 184⟩, ⟨ "r", 26, 21, false, "", "smartcard/tzero", 192⟩, ⟨ "failed", 4, 23, false, "", "smartcard/tzero", 224⟩], cks := [.bool, (.int .i64), (.int .i64), (.int .i64), (.int .i64), (.bytes 5), (.int .i64), .bool, .bool, .func, (.int .i64), (.int .i64), (.int .i64), (.int .i64), (.int .i64), .bool, .bool, (.int .i64), (.int .u8), (.bytes 5), .bool, (.bytes 5), (.int .i64), .bool], nbytes := 232 }
def d3u : Ty := { desc := .map 3 4, cks := [.map], nbytes := 8 }
def d3K : Ty := { desc := .struct #[⟨ "in", 100, 0, false, "", "smartcard/tzero", 0⟩, ⟨ "phase", 95, 1, false, "", "smartcard/tzero", 8⟩, ⟨ "got", 22, 2, false, "", "smartcard/tzero", 16⟩, ⟨ "head", 97, 3, false, "", "smartcard/tzero", 40⟩, ⟨ "c", 24, 8, false, "", "smartcard/tzero", 80⟩, ⟨ "incoming", 4, 15, false, "", "smartcard/tzero", 152⟩, ⟨ "data", 22, 16, false, "", "smartcard/tzero", 160⟩, ⟨ "sw", 3, 17, false, "", "smartcard/tzero", 184⟩], cks := [.map, .func, (.bytes 5), (.int .i64), (.int .i64), (.int .i64), (.int .i64), (.int .i64), (.int .i64), (.int .i64), (.int .i64), (.int .i64), (.bytes 5), (.int .i64), .bool, .bool, (.bytes 5), (.int .i64)], nbytes := 192 }
def d4a : Ty := { desc := .pointer 78, cks := [.ptr], nbytes := 8 }
def d3G : Ty := { desc := .interface #[("smartcard/block.control", 111), ("smartcard/block.parse", 128), ("smartcard/block.words", 156)], cks := [.iface], nbytes := 16 }
def T0 (t : GF) : Option Ty :=
 (match GM t 80 with
 | true => (match GM t 40 with
  | true => (match GM t 18 with
   | true => (match GM t 9 with
    | true => (match GM t 5 with
     | true => (match GM t 3 with
      | true => (match GM t 2 with
       | true => none
       | false => none)
      | false => (match GM t 4 with
       | true => (match t == 3 with | true => some ty3 | false => none)
       | false => (match t == 4 with | true => some ty4 | false => none)))
     | false => (match GM t 7 with
      | true => (match GM t 6 with
       | true => (match t == 5 with | true => some ty5 | false => none)
       | false => none)
      | false => (match GM t 8 with
       | true => none
       | false => none)))
    | false => (match GM t 13 with
     | true => (match GM t 11 with
      | true => (match GM t 10 with
       | true => (match t == 9 with | true => some ty9 | false => none)
       | false => none)
      | false => (match GM t 12 with
       | true => none
       | false => none))
     | false => (match GM t 15 with
      | true => (match GM t 14 with
       | true => none
       | false => none)
      | false => (match GM t 16 with
       | true => none
       | false => (match GM t 17 with
        | true => none
        | false => none)))))
   | false => (match GM t 27 with
    | true => (match GM t 22 with
     | true => (match GM t 20 with
      | true => (match GM t 19 with
       | true => none
       | false => none)
      | false => (match GM t 21 with
       | true => (match t == 20 with | true => some d5W | false => none)
       | false => none))
     | false => (match GM t 24 with
      | true => (match GM t 23 with
       | true => (match t == 22 with | true => some d4R | false => none)
       | false => none)
      | false => (match GM t 25 with
       | true => (match t == 24 with | true => some d5c | false => none)
       | false => (match GM t 26 with
        | true => none
        | false => (match t == 26 with | true => some d4w | false => none)))))
    | false => (match GM t 32 with
     | true => (match GM t 30 with
      | true => (match GM t 29 with
       | true => (match t == 27 with | true => some d5p | false => none)
       | false => none)
      | false => (match GM t 31 with
       | true => none
       | false => none))
     | false => (match GM t 36 with
      | true => (match GM t 34 with
       | true => (match t == 32 with | true => some d5H | false => none)
       | false => none)
      | false => (match GM t 38 with
       | true => none
       | false => (match GM t 39 with
        | true => none
        | false => none))))))
  | false => (match GM t 59 with
   | true => (match GM t 50 with
    | true => (match GM t 46 with
     | true => (match GM t 42 with
      | true => (match GM t 41 with
       | true => none
       | false => none)
      | false => (match GM t 44 with
       | true => (match t == 42 with | true => some d6v | false => none)
       | false => none))
     | false => (match GM t 48 with
      | true => (match GM t 47 with
       | true => none
       | false => none)
      | false => (match GM t 49 with
       | true => none
       | false => none)))
    | false => (match GM t 54 with
     | true => (match GM t 52 with
      | true => (match GM t 51 with
       | true => none
       | false => none)
      | false => (match GM t 53 with
       | true => none
       | false => (match t == 53 with | true => some d6f | false => none)))
     | false => (match GM t 56 with
      | true => (match GM t 55 with
       | true => none
       | false => (match t == 55 with | true => some d5G | false => none))
      | false => (match GM t 57 with
       | true => none
       | false => (match GM t 58 with
        | true => (match t == 57 with | true => some d5U | false => none)
        | false => none)))))
   | false => (match GM t 70 with
    | true => (match GM t 64 with
     | true => (match GM t 62 with
      | true => (match GM t 61 with
       | true => none
       | false => none)
      | false => (match GM t 63 with
       | true => none
       | false => (match t == 63 with | true => some d6a | false => none)))
     | false => (match GM t 66 with
      | true => (match GM t 65 with
       | true => none
       | false => (match t == 65 with | true => some d6e | false => none))
      | false => (match GM t 67 with
       | true => none
       | false => (match GM t 68 with
        | true => (match t == 67 with | true => some d5A | false => none)
        | false => none))))
    | false => (match GM t 75 with
     | true => (match GM t 73 with
      | true => (match GM t 71 with
       | true => none
       | false => none)
      | false => (match GM t 74 with
       | true => none
       | false => none))
     | false => (match GM t 77 with
      | true => (match GM t 76 with
       | true => (match t == 75 with | true => some d6x | false => none)
       | false => none)
      | false => (match GM t 78 with
       | true => none
       | false => (match GM t 79 with
        | true => (match t == 78 with | true => some d6h | false => none)
        | false => none)))))))
 | false => (match GM t 120 with
  | true => (match GM t 99 with
   | true => (match GM t 89 with
    | true => (match GM t 84 with
     | true => (match GM t 82 with
      | true => (match GM t 81 with
       | true => (match t == 80 with | true => some d6t | false => none)
       | false => none)
      | false => (match GM t 83 with
       | true => (match t == 82 with | true => some d6G | false => none)
       | false => none))
     | false => (match GM t 87 with
      | true => (match GM t 86 with
       | true => (match t == 84 with | true => some d5o | false => none)
       | false => none)
      | false => (match GM t 88 with
       | true => none
       | false => none)))
    | false => (match GM t 94 with
     | true => (match GM t 91 with
      | true => (match GM t 90 with
       | true => none
       | false => none)
      | false => (match GM t 92 with
       | true => none
       | false => none))
     | false => (match GM t 96 with
      | true => (match GM t 95 with
       | true => none
       | false => (match t == 95 with | true => some d5q | false => none))
      | false => (match GM t 97 with
       | true => none
       | false => (match GM t 98 with
        | true => (match t == 97 with | true => some d6o | false => none)
        | false => none)))))
   | false => (match GM t 110 with
    | true => (match GM t 103 with
     | true => (match GM t 101 with
      | true => (match GM t 100 with
       | true => (match t == 99 with | true => some d5I | false => none)
       | false => (match t == 100 with | true => some d3u | false => none))
      | false => (match GM t 102 with
       | true => none
       | false => (match t == 102 with | true => some d3K | false => none)))
     | false => (match GM t 105 with
      | true => (match GM t 104 with
       | true => none
       | false => none)
      | false => (match GM t 107 with
       | true => (match t == 105 with | true => some d4a | false => none)
       | false => (match GM t 108 with
        | true => none
        | false => none))))
    | false => (match GM t 114 with
     | true => (match GM t 112 with
      | true => (match GM t 111 with
       | true => none
       | false => none)
      | false => (match GM t 113 with
       | true => none
       | false => none))
     | false => (match GM t 116 with
      | true => (match GM t 115 with
       | true => none
       | false => none)
      | false => (match GM t 118 with
       | true => none
       | false => (match GM t 119 with
        | true => none
        | false => none))))))
  | false => (match GM t 141 with
   | true => (match GM t 129 with
    | true => (match GM t 124 with
     | true => (match GM t 122 with
      | true => (match GM t 121 with
       | true => none
       | false => none)
      | false => (match GM t 123 with
       | true => none
       | false => (match t == 123 with | true => some d3G | false => none)))
     | false => (match GM t 126 with
      | true => (match GM t 125 with
       | true => none
       | false => none)
      | false => (match GM t 127 with
       | true => none
       | false => (match GM t 128 with
        | true => none
        | false => none))))
    | false => (match GM t 135 with
     | true => (match GM t 133 with
      | true => (match GM t 130 with
       | true => none
       | false => none)
      | false => (match GM t 134 with
       | true => none
       | false => none))
     | false => (match GM t 138 with
      | true => (match GM t 136 with
       | true => none
       | false => none)
      | false => (match GM t 139 with
       | true => none
       | false => (match GM t 140 with
        | true => none
        | false => none)))))
   | false => (match GM t 150 with
    | true => (match GM t 145 with
     | true => (match GM t 143 with
      | true => (match GM t 142 with
       | true => none
       | false => none)
      | false => (match GM t 144 with
       | true => none
       | false => none))
     | false => (match GM t 147 with
      | true => (match GM t 146 with
       | true => none
       | false => none)
      | false => (match GM t 148 with
       | true => none
       | false => (match GM t 149 with
        | true => none
        | false => none))))
    | false => (match GM t 154 with
     | true => (match GM t 152 with
      | true => (match GM t 151 with
       | true => none
       | false => none)
      | false => (match GM t 153 with
       | true => none
       | false => none))
     | false => (match GM t 156 with
      | true => (match GM t 155 with
       | true => none
       | false => none)
      | false => (match GM t 157 with
       | true => none
       | false => (match GM t 159 with
        | true => none
        | false => none))))))))
def T (t : GF) : Option Ty := d4E 160 T0 t
theorem d7d : TyOK Tryz.prog 3 ty3 := t8 (by kernel_rfl) (by kernel_rfl) (by kernel_rfl) (by kernel_rfl)
theorem d7a : TyOK Tryz.prog 4 ty4 := t8 (by kernel_rfl) (by kernel_rfl) (by kernel_rfl) (by kernel_rfl)
theorem d7c : TyOK Tryz.prog 5 ty5 := t8 (by kernel_rfl) (by kernel_rfl) (by kernel_rfl) (by kernel_rfl)
theorem d7e : TyOK Tryz.prog 9 ty9 := t8 (by kernel_rfl) (by kernel_rfl) (by kernel_rfl) (by kernel_rfl)
theorem d5r : TyOK Tryz.prog 20 d5W := t8 (by kernel_rfl) (by kernel_rfl) (by kernel_rfl) (by kernel_rfl)
theorem d5X : TyOK Tryz.prog 22 d4R := t8 (by kernel_rfl) (by kernel_rfl) (by kernel_rfl) (by kernel_rfl)
theorem d6F : TyOK Tryz.prog 24 d5c := t8 (by kernel_rfl) (by kernel_rfl) (by kernel_rfl) (by kernel_rfl)
theorem d6g : TyOK Tryz.prog 26 d4w := t8 (by kernel_rfl) (by kernel_rfl) (by kernel_rfl) (by kernel_rfl)
theorem d5B : TyOK Tryz.prog 27 d5p := t8 (by kernel_rfl) (by kernel_rfl) (by kernel_rfl) (by kernel_rfl)
theorem d6j : TyOK Tryz.prog 32 d5H := t8 (by kernel_rfl) (by kernel_rfl) (by kernel_rfl) (by kernel_rfl)
theorem d6u : TyOK Tryz.prog 42 d6v := t8 (by kernel_rfl) (by kernel_rfl) (by kernel_rfl) (by kernel_rfl)
theorem d6A : TyOK Tryz.prog 53 d6f := t8 (by kernel_rfl) (by kernel_rfl) (by kernel_rfl) (by kernel_rfl)
theorem d6m : TyOK Tryz.prog 55 d5G := t8 (by kernel_rfl) (by kernel_rfl) (by kernel_rfl) (by kernel_rfl)
theorem d6i : TyOK Tryz.prog 57 d5U := t8 (by kernel_rfl) (by kernel_rfl) (by kernel_rfl) (by kernel_rfl)
theorem d5C : TyOK Tryz.prog 63 d6a := t8 (by kernel_rfl) (by kernel_rfl) (by kernel_rfl) (by kernel_rfl)
theorem d5K : TyOK Tryz.prog 65 d6e := t8 (by kernel_rfl) (by kernel_rfl) (by kernel_rfl) (by kernel_rfl)
theorem d5y : TyOK Tryz.prog 67 d5A := t8 (by kernel_rfl) (by kernel_rfl) (by kernel_rfl) (by kernel_rfl)
theorem d5s : TyOK Tryz.prog 75 d6x := t8 (by kernel_rfl) (by kernel_rfl) (by kernel_rfl) (by kernel_rfl)
theorem d5N : TyOK Tryz.prog 78 d6h := t8 (by kernel_rfl) (by kernel_rfl) (by kernel_rfl) (by kernel_rfl)
theorem d6b : TyOK Tryz.prog 80 d6t := t8 (by kernel_rfl) (by kernel_rfl) (by kernel_rfl) (by kernel_rfl)
theorem d6E : TyOK Tryz.prog 82 d6G := t8 (by kernel_rfl) (by kernel_rfl) (by kernel_rfl) (by kernel_rfl)
theorem d5t : TyOK Tryz.prog 84 d5o := t8 (by kernel_rfl) (by kernel_rfl) (by kernel_rfl) (by kernel_rfl)
theorem d5S : TyOK Tryz.prog 95 d5q := t8 (by kernel_rfl) (by kernel_rfl) (by kernel_rfl) (by kernel_rfl)
theorem d6s : TyOK Tryz.prog 97 d6o := t8 (by kernel_rfl) (by kernel_rfl) (by kernel_rfl) (by kernel_rfl)
theorem d5v : TyOK Tryz.prog 99 d5I := t8 (by kernel_rfl) (by kernel_rfl) (by kernel_rfl) (by kernel_rfl)
theorem d4z : TyOK Tryz.prog 100 d3u := t8 (by kernel_rfl) (by kernel_rfl) (by kernel_rfl) (by kernel_rfl)
theorem d4y : TyOK Tryz.prog 102 d3K := t8 (by kernel_rfl) (by kernel_rfl) (by kernel_rfl) (by kernel_rfl)
theorem d4J : TyOK Tryz.prog 105 d4a := t8 (by kernel_rfl) (by kernel_rfl) (by kernel_rfl) (by kernel_rfl)
theorem d4B : TyOK Tryz.prog 123 d3G := t8 (by kernel_rfl) (by kernel_rfl) (by kernel_rfl) (by kernel_rfl)
theorem a6l : p7 Tryz.prog T := c3C (n := 160) (T := T0) (h := ⟨⟨⟨⟨⟨⟨⟨⟨⟨⟨⟨⟨⟨⟨⟨⟨⟨⟨⟨⟨⟨⟨⟨⟨⟨⟨⟨⟨⟨⟨⟨⟨⟨⟨⟨⟨⟨⟨⟨⟨⟨⟨⟨⟨⟨⟨⟨⟨⟨⟨⟨⟨⟨⟨⟨⟨⟨⟨⟨⟨⟨⟨⟨⟨⟨⟨⟨⟨⟨⟨⟨⟨⟨⟨⟨⟨⟨⟨⟨⟨⟨⟨⟨⟨⟨⟨⟨⟨⟨⟨⟨⟨⟨⟨⟨⟨⟨⟨⟨⟨⟨⟨⟨⟨⟨⟨⟨⟨⟨⟨⟨⟨⟨⟨⟨⟨⟨⟨⟨⟨⟨⟨⟨⟨⟨⟨⟨⟨⟨⟨⟨⟨⟨⟨⟨⟨⟨⟨⟨⟨⟨⟨⟨⟨⟨⟨⟨⟨⟨⟨⟨⟨⟨⟨⟨⟨⟨⟨⟨⟨trivial,
 c9 (by kernel_rfl)⟩,
 c9 (by kernel_rfl)⟩,
 c9 (by kernel_rfl)⟩,
 m9 (by kernel_rfl) d7d⟩,
 m9 (by kernel_rfl) d7a⟩,
 m9 (by kernel_rfl) d7c⟩,
 c9 (by kernel_rfl)⟩,
 c9 (by kernel_rfl)⟩,
 c9 (by kernel_rfl)⟩,
 m9 (by kernel_rfl) d7e⟩,
 c9 (by kernel_rfl)⟩,
 c9 (by kernel_rfl)⟩,
 c9 (by kernel_rfl)⟩,
 c9 (by kernel_rfl)⟩,
 c9 (by kernel_rfl)⟩,
 c9 (by kernel_rfl)⟩,
 c9 (by kernel_rfl)⟩,
 c9 (by kernel_rfl)⟩,
 c9 (by kernel_rfl)⟩,
 c9 (by kernel_rfl)⟩,
 m9 (by kernel_rfl) d5r⟩,
 c9 (by kernel_rfl)⟩,
 m9 (by kernel_rfl) d5X⟩,
 c9 (by kernel_rfl)⟩,
 m9 (by kernel_rfl) d6F⟩,
 c9 (by kernel_rfl)⟩,
 m9 (by kernel_rfl) d6g⟩,
 m9 (by kernel_rfl) d5B⟩,
 c9 (by kernel_rfl)⟩,
 c9 (by kernel_rfl)⟩,
 c9 (by kernel_rfl)⟩,
 c9 (by kernel_rfl)⟩,
 m9 (by kernel_rfl) d6j⟩,
 c9 (by kernel_rfl)⟩,
 c9 (by kernel_rfl)⟩,
 c9 (by kernel_rfl)⟩,
 c9 (by kernel_rfl)⟩,
 c9 (by kernel_rfl)⟩,
 c9 (by kernel_rfl)⟩,
 c9 (by kernel_rfl)⟩,
 c9 (by kernel_rfl)⟩,
 c9 (by kernel_rfl)⟩,
 m9 (by kernel_rfl) d6u⟩,
 c9 (by kernel_rfl)⟩,
 c9 (by kernel_rfl)⟩,
 c9 (by kernel_rfl)⟩,
 c9 (by kernel_rfl)⟩,
 c9 (by kernel_rfl)⟩,
 c9 (by kernel_rfl)⟩,
 c9 (by kernel_rfl)⟩,
 c9 (by kernel_rfl)⟩,
 c9 (by kernel_rfl)⟩,
 c9 (by kernel_rfl)⟩,
 m9 (by kernel_rfl) d6A⟩,
 c9 (by kernel_rfl)⟩,
 m9 (by kernel_rfl) d6m⟩,
 c9 (by kernel_rfl)⟩,
 m9 (by kernel_rfl) d6i⟩,
 c9 (by kernel_rfl)⟩,
 c9 (by kernel_rfl)⟩,
 c9 (by kernel_rfl)⟩,
 c9 (by kernel_rfl)⟩,
 c9 (by kernel_rfl)⟩,
 m9 (by kernel_rfl) d5C⟩,
 c9 (by kernel_rfl)⟩,
 m9 (by kernel_rfl) d5K⟩,
 c9 (by kernel_rfl)⟩,
 m9 (by kernel_rfl) d5y⟩,
 c9 (by kernel_rfl)⟩,
 c9 (by kernel_rfl)⟩,
 c9 (by kernel_rfl)⟩,
 c9 (by kernel_rfl)⟩,
 c9 (by kernel_rfl)⟩,
 c9 (by kernel_rfl)⟩,
 c9 (by kernel_rfl)⟩,
 m9 (by kernel_rfl) d5s⟩,
 c9 (by kernel_rfl)⟩,
 c9 (by kernel_rfl)⟩,
 m9 (by kernel_rfl) d5N⟩,
 c9 (by kernel_rfl)⟩,
 m9 (by kernel_rfl) d6b⟩,
 c9 (by kernel_rfl)⟩,
 m9 (by kernel_rfl) d6E⟩,
 c9 (by kernel_rfl)⟩,
 m9 (by kernel_rfl) d5t⟩,
 c9 (by kernel_rfl)⟩,
 c9 (by kernel_rfl)⟩,
 c9 (by kernel_rfl)⟩,
 c9 (by kernel_rfl)⟩,
 c9 (by kernel_rfl)⟩,
 c9 (by kernel_rfl)⟩,
 c9 (by kernel_rfl)⟩,
 c9 (by kernel_rfl)⟩,
 c9 (by kernel_rfl)⟩,
 c9 (by kernel_rfl)⟩,
 m9 (by kernel_rfl) d5S⟩,
 c9 (by kernel_rfl)⟩,
 m9 (by kernel_rfl) d6s⟩,
 c9 (by kernel_rfl)⟩,
 m9 (by kernel_rfl) d5v⟩,
 m9 (by kernel_rfl) d4z⟩,
 c9 (by kernel_rfl)⟩,
 m9 (by kernel_rfl) d4y⟩,
 c9 (by kernel_rfl)⟩,
 c9 (by kernel_rfl)⟩,
 m9 (by kernel_rfl) d4J⟩,
 c9 (by kernel_rfl)⟩,
 c9 (by kernel_rfl)⟩,
 c9 (by kernel_rfl)⟩,
 c9 (by kernel_rfl)⟩,
 c9 (by kernel_rfl)⟩,
 c9 (by kernel_rfl)⟩,
 c9 (by kernel_rfl)⟩,
 c9 (by kernel_rfl)⟩,
 c9 (by kernel_rfl)⟩,
 c9 (by kernel_rfl)⟩,
 c9 (by kernel_rfl)⟩,
 c9 (by kernel_rfl)⟩,
 c9 (by kernel_rfl)⟩,
 c9 (by kernel_rfl)⟩,
 c9 (by kernel_rfl)⟩,
 c9 (by kernel_rfl)⟩,
 c9 (by kernel_rfl)⟩,
 m9 (by kernel_rfl) d4B⟩,
 c9 (by kernel_rfl)⟩,
 c9 (by kernel_rfl)⟩,
 c9 (by kernel_rfl)⟩,
 c9 (by kernel_rfl)⟩,
 c9 (by kernel_rfl)⟩,
 c9 (by kernel_rfl)⟩,
 c9 (by kernel_rfl)⟩,
 c9 (by kernel_rfl)⟩,
 c9 (by kernel_rfl)⟩,
 c9 (by kernel_rfl)⟩,
 c9 (by kernel_rfl)⟩,
 c9 (by kernel_rfl)⟩,
 c9 (by kernel_rfl)⟩,
 c9 (by kernel_rfl)⟩,
 c9 (by kernel_rfl)⟩,
 c9 (by kernel_rfl)⟩,
 c9 (by kernel_rfl)⟩,
 c9 (by kernel_rfl)⟩,
 c9 (by kernel_rfl)⟩,
 c9 (by kernel_rfl)⟩,
 c9 (by kernel_rfl)⟩,
 c9 (by kernel_rfl)⟩,
 c9 (by kernel_rfl)⟩,
 c9 (by kernel_rfl)⟩,
 c9 (by kernel_rfl)⟩,
 c9 (by kernel_rfl)⟩,
 c9 (by kernel_rfl)⟩,
 c9 (by kernel_rfl)⟩,
 c9 (by kernel_rfl)⟩,
 c9 (by kernel_rfl)⟩,
 c9 (by kernel_rfl)⟩,
 c9 (by kernel_rfl)⟩,
 c9 (by kernel_rfl)⟩,
 c9 (by kernel_rfl)⟩,
 c9 (by kernel_rfl)⟩,
 c9 (by kernel_rfl)⟩)
abbrev cxO (es : List Ent) (ms : List MEnt) : Cx := { T := T, isPure := a5S es, pureK := fun g ds K => a2y es g ds K, memK := fun g dst ds m K => Y9 ms g dst ds m K, meth := a3N [], keep := fun _ => [], keepX := fun _ => [], loopT := fun _ _ _ _ => none, jumps := 9 }
theorem g7 {es : List Ent} {ms : List MEnt} (a : a8t Tryz.prog T es) (b : a7P Tryz.prog T ms) : CxOK Tryz.prog (cxO es ms) := L2 (es := es) (me := ms) (ms := []) a6l a b trivial rfl (fun _ _ _ _ => rfl) (fun _ _ _ _ _ _ => rfl) rfl
end En
namespace En
open Go
section
variable {P : Hb} {T : GF -> Option Ty} {E : Env} {g : G} {w : GG}
structure Calm (x : Nat) (w w' : GG) : Prop where
 os : w'.os = w.os
 tape : w'.tape = w.tape
 output : w'.output = w.output
 size : w'.heap.size = w.heap.size
 other : ∀ b, b ≠ x -> w'.heap[b]? = w.heap[b]?
 cell : ∀ o, w'.cell? ⟨x, o, none⟩ = w.cell? ⟨x, o, none⟩
end
end En
namespace En
open Go Go.RowKit
end En
section
open Go.RowKit
theorem m6 {a b : Int} (h : a = b) : JS (.int .i64 a) = JS (.int .i64 b) := by rw [h]
theorem c9o {a b : Bool} (h : a = b) : JS (.bool a) = JS (.bool b) := by rw [h]
theorem b3J {w w1 : GG} (hb : Below w.heap.size w w1) : (∀ b o, b < w.heap.size -> w1.cell? ⟨b, o, none⟩ = w.cell? ⟨b, o, none⟩) /\ (∀ b o, b < w.heap.size -> w1.frozen? ⟨b, o, none⟩ = w.frozen? ⟨b, o, none⟩) :=
 ⟨fun b o h => hb.cell (p := ⟨b, o, none⟩) h, fun b o h => hb.frozen (p := ⟨b, o, none⟩) h⟩
theorem Below.drewN' {B : Nat} {a w : GG} (h : Below B a w) (n : Nat) : Below B a (w.drewN n) := ⟨h.os, h.tape, h.output, h.size, h.block⟩
def u8 (b : UInt8) : GK := .int .u8 (b.toNat : Int)
def At (w : GG) (A : Option Addr) (k : Nat) (v : GK) : Prop := ∃ b off, A = some ⟨b, off, none⟩ /\ w.cell? ⟨b, off + k, none⟩ = some v
theorem At.keep {w w' : GG} {A : Option Addr} {k : Nat} {v : GK} (h : At w A k v) (hk : ∀ p : Addr, p.block < w.heap.size -> w'.cell? p = w.cell? p) : At w' A k v := by
 obtain ⟨b, off, rfl, hc⟩ := h
 exact ⟨b, off, rfl, (hk _ (World.block_lt_of_cell? w _ hc)).trans hc⟩
theorem At.below {w w' : GG} {A : Option Addr} {k : Nat} {v : GK} (h : At w A k v) (hb : Below w.heap.size w w') : At w' A k v := h.keep fun _ hp => hb.cell hp
structure Rd (w : GG) (A : Option Addr) (n c : Nat) (vs : List GK) : Prop where
 len : vs.length = n
 cap : n <= c
 max : c <= maxLen
 at_ : ∀ k v, vs[k]? = some v -> At w A k v
abbrev IsB (w : GG) (A : Option Addr) (n c : Nat) (xs : List UInt8) : Prop := Rd w A n c (xs.map u8)
section
variable {w w' : GG} {A : Option Addr} {n c : Nat} {vs : List GK} {xs : List UInt8}
theorem Rd.nil : Rd w none 0 0 [] := ⟨rfl, GB _, Hl _, fun k v h => by simp at h⟩
theorem Rd.empty (A : Option Addr) (hc : c <= maxLen) : Rd w A 0 c [] := ⟨rfl, Hl _, hc, fun k v h => by simp at h⟩
theorem Rd.keep (h : Rd w A n c vs) (hk : ∀ p : Addr, p.block < w.heap.size -> w'.cell? p = w.cell? p) : Rd w' A n c vs :=
 ⟨h.len, h.cap, h.max, fun k v hv => (h.at_ k v hv).keep hk⟩
theorem Rd.below (h : Rd w A n c vs) (hb : Below w.heap.size w w') : Rd w' A n c vs := h.keep fun _ hp => hb.cell hp
theorem Rd.drew (h : Rd w A n c vs) : Rd w.drew A n c vs := ⟨h.len, h.cap, h.max, h.at_⟩
theorem Rd.drewN (h : Rd w A n c vs) (k : Nat) : Rd (w.drewN k) A n c vs := ⟨h.len, h.cap, h.max, h.at_⟩
theorem Rd.alloc (h : Rd w A n c vs) (o : Obj) : Rd (w.alloc o) A n c vs := h.keep fun p hp => World.cell?_alloc_lt w o p hp
theorem Rd.len63 (h : Rd w A n c vs) : n <= 9223372036854775807 /\ c <= 9223372036854775807 := by
 have h1 := h.cap; have h2 := h.max; unfold maxLen at h2; omega
theorem IsB.len (h : IsB w A n c xs) : xs.length = n := by simpa using Rd.len h
theorem IsB.at_ (h : IsB w A n c xs) {k : Nat} (hk : k < n) : ∃ x b off, Hid (xs[k]? = some x) /\ A = some ⟨b, off, none⟩ /\ w.cell? ⟨b, off + k, none⟩ = some (.int .u8 (x.toNat : Int)) /\ (x.toNat : Int) < 256 := by
 have hl : k < xs.length := by have := IsB.len h; omega
 obtain ⟨b, off, hA, hc⟩ := Rd.at_ h k (u8 xs[k]) (by simp [hl])
 exact ⟨xs[k], b, off, GH hl, hA, hc, by have := UInt8.toNat_lt xs[k]; omega⟩
theorem IsB.cells (h : IsB w A n c xs) (hn : 0 < n) : ∃ b off, A = some ⟨b, off, none⟩ /\ ∀ k x, xs[k]? = some x -> w.cell? ⟨b, off + k, none⟩ = some (.int .u8 (x.toNat : Int)) := by
 obtain ⟨x, b, off, _, rfl, _⟩ := IsB.at_ h hn
 refine ⟨b, off, rfl, fun k y hk => ?_⟩
 obtain ⟨b', off', hA, hc⟩ := Rd.at_ h k (u8 y) (by simp [hk])
 injection hA with hA
 injection hA with e1 e2
 subst e1 e2
 exact hc
theorem Rd.cut (h : Rd w A n c vs) {k : Nat} (hk : k <= n) : Rd w (if c = k then A else A.map (·.add k)) (n - k) (c - k) (vs.drop k) := by
 refine ⟨by rw [List.length_drop, h.len], by have := h.cap; omega, by have := h.max; omega, fun j v hv => ?_⟩
 rw [List.getElem?_drop] at hv
 obtain ⟨b, off, rfl, hc⟩ := h.at_ _ v hv
 have hkj : k + j < n := by have := (GD.1 hv).1; rw [h.len] at this; exact this
 have c2l := h.cap
 rw [if_neg (by omega)]
 by_cases h0 : k = 0
 . subst h0; exact ⟨b, off, by simp [Addr.add], by simpa using hc⟩
 . exact ⟨b, off + k, by simp [Addr.add, h0], by rw [Nat.add_assoc]; exact hc⟩
theorem Rd.take (h : Rd w A n c vs) {k : Nat} (hk : k <= n) : Rd w A k c (vs.take k) := by
 refine ⟨by rw [HN, h.len]; omega, by have := h.cap; omega, h.max, fun j v hv => ?_⟩
 by_cases hj : j < k
 . rw [List.getElem?_take_of_lt hj] at hv
   exact h.at_ j v hv
 . rw [JD (by rw [HN]; omega)] at hv; cases hv
theorem IsB.cut (h : IsB w A n c xs) {k : Nat} (hk : k <= n) : IsB w (if c = k then A else A.map (·.add k)) (n - k) (c - k) (xs.drop k) := by
 have := Rd.cut h hk
 rwa [← List.map_drop] at this
theorem IsB.take (h : IsB w A n c xs) {k : Nat} (hk : k <= n) : IsB w A k c (xs.take k) := by
 have := Rd.take h hk
 rwa [← List.map_take] at this
end
structure IsBB (w : GG) (A : Option Addr) (n c : Nat) (ls : List (List UInt8)) : Prop where
 len : ls.length = n
 cap : n <= c
 max : c <= maxLen
 at_ : ∀ k l, ls[k]? = some l -> ∃ A' n' c', At w A k (.slice A' n' c') /\ IsB w A' n' c' l
theorem IsBB.keep {w w' : GG} {A : Option Addr} {n c : Nat} {ls : List (List UInt8)} (h : IsBB w A n c ls) (hk : ∀ p : Addr, p.block < w.heap.size -> w'.cell? p = w.cell? p) : IsBB w' A n c ls :=
 ⟨h.len, h.cap, h.max, fun k l hl => let ⟨A', n', c', h1, h2⟩ := h.at_ k l hl; ⟨A', n', c', h1.keep hk, Rd.keep h2 hk⟩⟩
theorem IsBB.below {w w' : GG} {A : Option Addr} {n c : Nat} {ls : List (List UInt8)} (h : IsBB w A n c ls) (hb : Below w.heap.size w w') : IsBB w' A n c ls := h.keep fun _ hp => hb.cell hp
theorem b9Q (w : GG) (vs : List GK) (e : GF) (k : Nat) : (w.alloc (.cells vs.toArray e)).cell? ⟨w.heap.size, k, none⟩ = vs[k]? := by
 rw [cell_of_row _ _ k vs.toArray e (0, 0) (heap_alloc_new w _)]; simp
theorem IsBB.lit1 {w : GG} {e : GF} {A : Option Addr} {n c : Nat} {xs : List UInt8} (h : IsB w A n c xs) :
 IsBB (w.alloc (.cells #[.slice A n c] e)) (some ⟨w.heap.size, 0, none⟩) 1 1 [xs] := by
 refine ⟨rfl, GB _, by unfold maxLen; omega, fun k l hl => ?_⟩
 obtain ⟨hk, rfl⟩ := GD.1 hl
 simp at hk
 subst hk
 exact ⟨A, n, c, ⟨w.heap.size, 0, rfl, by simp⟩, h.alloc _⟩
theorem IsBB.lit2 {w : GG} {e : GF} {A A' : Option Addr} {n c n' c' : Nat} {xs ys : List UInt8} (h : IsB w A n c xs) (h' : IsB w A' n' c' ys) :
 IsBB (w.alloc (.cells #[.slice A n c, .slice A' n' c'] e)) (some ⟨w.heap.size, 0, none⟩) 2 2 [xs, ys] := by
 refine ⟨rfl, GB _, by unfold maxLen; omega, fun k l hl => ?_⟩
 have hk : k = 0 ∨ k = 1 := by have := (GD.1 hl).1; simp at this; omega
 rcases hk with rfl | rfl
 . simp at hl; subst hl
   exact ⟨A, n, c, ⟨w.heap.size, 0, rfl, by simp⟩, h.alloc _⟩
 . simp at hl; subst hl
   exact ⟨A', n', c', ⟨w.heap.size, 0, rfl, by simp⟩, h'.alloc _⟩
abbrev Own (w : GG) (B : Nat) (e : GF) (A : Option Addr) (n c : Nat) (vs : List GK) : Prop := w.ownsRow B e 1 (.slice A n c) n vs
section
variable {w w' : GG} {B n c : Nat} {e : GF} {A : Option Addr} {vs : List GK}
theorem Own.rd (h : Own w B e A n c vs) : Rd w A n c vs := by
 have hl := h.1
 rcases h.2 with ⟨hv, hn⟩ | ⟨g, cap, cur, hv, hb, hg, hnc, hcm, hcs, htk⟩
 . injection hv with h1 h2 h3
   subst h1 h2 h3
   have : vs = [] := Ja (by simpa using hl)
   subst this
   exact Rd.nil
 . injection hv with h1 h2 h3
   subst h1 h3
   refine ⟨by simpa using hl, hnc, hcm, fun k v hk => ⟨g, 0, rfl, ?_⟩⟩
   have hlt : k < n * 1 := by have := (GD.1 hk).1; rw [hl] at this; exact this
   rw [HE, World.ownsRow.cellAt h k hlt]
   exact hk
theorem Own.nil (B : Nat) (e : GF) : Own w B e none 0 0 [] := World.ownsRow_nil w B e 1
theorem Own.form {v : GK} (h : w.ownsRow B e 1 v n vs) : ∃ A c, v = .slice A n c /\ Own w B e A n c vs /\ (∀ k, v.ownBlock = some k -> B <= k /\ k < w.heap.size) := by
 have hlt := h.lt
 rcases h.2 with ⟨hv, hn⟩ | ⟨g, cap, cur, hv, _⟩
 . subst hv hn; exact ⟨none, 0, rfl, h, hlt⟩
 . subst hv; exact ⟨_, _, rfl, h, hlt⟩
theorem Own.block (h : Own w B e A n c vs) : ∀ k, (IM A n c).ownBlock = some k -> B <= k := fun k hk => (h.lt k hk).1
theorem Own.below (h : Own w B e A n c vs) (hb : Below w.heap.size w w') : Own w' B e A n c vs := by
 refine ⟨h.1, ?_⟩
 rcases h.2 with h2 | ⟨g, cap, cur, hv, hg, hh, r⟩
 . exact .inl h2
 . refine .inr ⟨g, cap, cur, hv, hg, ?_, r⟩
   rw [hb.block g (Hr.1 hh).1]; exact hh
theorem Own.base (h : Own w B e A n c vs) {B' : Nat} (hB : B' <= B) : Own w B' e A n c vs := by
 refine ⟨h.1, ?_⟩
 rcases h.2 with h2 | ⟨g, cap, cur, hv, hg, hh, r⟩
 . exact .inl h2
 . exact .inr ⟨g, cap, cur, hv, by omega, hh, r⟩
end
theorem b4b {P : Hb} (w : GG) (B : Nat) (t ty e : GF) (i : LJ) (z : GK) (bytes : Nat) (ht : P.underlying t = some (.slice e)) (hi : P.info? e = some i) (hz : i.zero = some z)
 (a5J : i.size = 1) (hby : i.bytes = bytes) (hzs : z.cells.size = 1)
 (A : Option Addr) (n c : Nat) (xs : List GK) (hown : Own w B e A n c xs)
 (A' : Option Addr) (m c' : Nat) (news : List GK) (hr : Rd w A' m c' news) (h1 : ∀ u ∈ news, u.oneCell' = true)
 (b3R : (n + m) * bytes <= 140737488355328) (hb0 : 0 < bytes) (c2m : B <= w.heap.size) :
 ∃ A2 c2 w', (Is #[t, t] ty #[.slice A n c, .slice A' m c']).run P w = .ok (.slice A2 (n + m) c2) w' /\ Own w' B e A2 (n + m) c2 (xs ++ news) /\ w.grownBy w' (IM A n c).ownBlock /\
  ((IM A2 (n + m) c2).ownBlock = (IM A n c).ownBlock ∨ (IM A2 (n + m) c2).ownBlock = some w.heap.size) := by
 have h63 : n + m <= maxLen := by
  have h2 : (n + m) * 1 <= (n + m) * bytes := Nat.mul_le_mul_left _ hb0
  unfold maxLen; omega
 by_cases hm : m = 0
 . subst hm
   have hn : news = [] := Ja hr.len
   subst hn
   refine ⟨A, c, w, ?_, by simpa using hown, World.grownBy.refl w _, .inl rfl⟩
   rcases hown.2 with ⟨hv, hn0⟩ | ⟨g, cap, cur, hv, _, _, hnc, _⟩
   . injection hv with a1 a2 a3
     subst a1 a2 a3
     cases A' <;> simp [Is, Hc ht, sizeOf, typeInfo, hi, Kv, JU, loadCells, loadCellsFrom]
   . injection hv with a1 a2 a3
     subst a1 a3
     cases A' <;> simp [Is, Hc ht, sizeOf, typeInfo, hi, Kv, JU, hnc, storeCells, loadCells, loadCellsFrom]
 . have c2i : 0 < news.length := by rw [hr.len]; omega
   obtain ⟨b, off, rfl, _⟩ := hr.at_ 0 _ (GH c2i)
   have d6Q : ∀ j u, news[j]? = some u -> w.cell? ((⟨b, off, none⟩ : Addr).add j) = some u := by
    intro j u hu
    obtain ⟨b', off', he, hc⟩ := hr.at_ j u hu
    injection he with he
    injection he with e1 e2
    subst e1 e2
    by_cases hj : j = 0
    . subst hj; simpa [Addr.add] using hc
    . simpa [Addr.add, hj] using hc
   obtain ⟨v', w', G5, h2, h3, _, h5⟩ := run_append_own_at (P := P) w B t ty e i z 1 bytes ht hi hz a5J hby hzs (by omega) (.slice A n c) n xs hown ⟨b, off, none⟩ m c' news (by rw [hr.len]; omega) d6Q h1 h63 b3R c2m
   obtain ⟨A2, c2, rfl, h6, _⟩ := Own.form h2
   exact ⟨A2, c2, w', G5, h6, h3, h5⟩
theorem b7W {P : Hb} (w : GG) {o : Oper} {a : Act} {K : Act -> GG -> Prop} {Q : Exit -> Act -> GG -> Prop} (s x : Hy) (t : GF)
 (ho : o.op = .call { callee := .builtin .append, args := #[s, x], argTypes := #[t, t] })
 (B : Nat) (e : GF) (i : LJ) (z : GK) (bytes : Nat) (ht : P.underlying t = some (.slice e)) (hi : P.info? e = some i) (hz : i.zero = some z)
 (a5J : i.size = 1) (hby : i.bytes = bytes) (hzs : z.cells.size = 1)
 (A : Option Addr) (n c : Nat) (xs : List GK) (hs : a.eval s = .slice A n c) (hown : Own w B e A n c xs)
 (A' : Option Addr) (m c' : Nat) (news : List GK) (hx : a.eval x = .slice A' m c') (hr : Rd w A' m c' news) (h1 : ∀ u ∈ news, u.oneCell' = true)
 (b3R : (n + m) * bytes <= 140737488355328) (hb0 : 0 < bytes) (c2m : B <= w.heap.size)
 (h : ∀ A2 c2 w', Own w' B e A2 (n + m) c2 (xs ++ news) -> w.grownBy w' (IM A n c).ownBlock -> ((IM A2 (n + m) c2).ownBlock = (IM A n c).ownBlock ∨ (IM A2 (n + m) c2).ownBlock = some w.heap.size) -> K (a.put o.dst (.slice A2 (n + m) c2)) w') : o.wp P a w K Q := by
 obtain ⟨A2, c2, w', G5, h2, h3, h4⟩ := b4b (P := P) w B t o.type e i z bytes ht hi hz a5J hby hzs A n c xs hown A' m c' news hr h1 b3R hb0 c2m
 unfold Oper.wp execOp
 simp only [ho, resolve, invoke, builtin, GY, IG, GT, List.map_toArray, Jt, List.map_nil, hs, hx, G5]
 exact h A2 c2 w' h2 h3 h4
theorem O8 {P : Hb} (w : GG) {ops : Array Oper} {rest : List Oper} {o : Oper} {a : Act} {Q : Exit -> Act -> GG -> Prop} (hgd : o.guard = none) (s x : Hy) (t : GF)
 (ho : o.op = .call { callee := .builtin .append, args := #[s, x], argTypes := #[t, t] })
 (B : Nat) (e : GF) (i : LJ) (z : GK) (bytes : Nat) (ht : P.underlying t = some (.slice e)) (hi : P.info? e = some i) (hz : i.zero = some z)
 (a5J : i.size = 1) (hby : i.bytes = bytes) (hzs : z.cells.size = 1)
 (A : Option Addr) (n c : Nat) (xs : List GK) (hs : a.eval s = .slice A n c) (hown : Own w B e A n c xs)
 (A' : Option Addr) (m c' : Nat) (news : List GK) (hx : a.eval x = .slice A' m c') (hr : Rd w A' m c' news) (h1 : ∀ u ∈ news, u.oneCell' = true)
 (b3R : (n + m) * bytes <= 140737488355328) (hb0 : 0 < bytes) (c2m : B <= w.heap.size)
 (h : ∀ A2 c2 w', Own w' B e A2 (n + m) c2 (xs ++ news) -> w.grownBy w' (IM A n c).ownBlock -> ((IM A2 (n + m) c2).ownBlock = (IM A n c).ownBlock ∨ (IM A2 (n + m) c2).ownBlock = some w.heap.size) -> wpList P ops Q rest (a.put o.dst (.slice A2 (n + m) c2)) w') : wpList P ops Q (o :: rest) a w :=
 wpList_plain hgd fun _ hK => b7W w s x t ho B e i z bytes ht hi hz a5J hby hzs A n c xs hs hown A' m c' news hx hr h1 b3R hb0 c2m fun A2 c2 w' h2 h3 h4 => hK _ _ (h A2 c2 w' h2 h3 h4)
theorem b7j (xs : List UInt8) : ∀ u ∈ xs.map u8, u.oneCell' = true := by
 intro u hu
 obtain ⟨b, _, rfl⟩ := List.mem_map.1 hu
 rfl
theorem B1 {B : Nat} {a : GG} {b : Nat} (hB : B <= b) : ∀ (vs : List GK) (o : Nat) (w : GG), Below B a w -> Below B a (w.setCells b o vs)
 | [], _, _, h => h
 | v :: vs, o, _, h => B1 hB vs (o + 1) _ (h.setCell hB v)
theorem a0Z {w : GG} {b : Nat} {cs : Array GK} {t : GF} (h : w.heap[b]? = some (.cells cs t (0, 0))) : w.there b 0 cs.size := fun j hj => by
 rw [HE]
 exact ⟨by rw [cell_of_row w b j cs t _ h]; simp [hj], frozen_of_row w b j cs t h⟩
theorem a8L {P : Hb} {fn : Func} {p : Tmp} {ty : GF} (h : fn.results = #[.cell p ty]) (tmps : Array GK) (w : GG) (b o : Nat) (cs : List GK) (d : TypeDesc)
 (hp : tmps.getD p undef = .pointer (some ⟨b, o, none⟩)) (hc : w.rangeAt b o cs)
 (hu : P.underlying ty = some d) (hd : d.isRow = true) (hi : (P.info? ty).map (·.size) = some cs.length) :
 (results fn tmps).run P w = .ok (.agg cs.toArray) w := by
 have hp' : tmps[p]?.getD undef = .pointer (some ⟨b, o, none⟩) := by simpa using hp
 simp [results, h, hp', asAddr, MR w b o ty cs d hc hu hd hi]
theorem results_cell_tmp {P : Hb} {fn : Func} {p q : Tmp} {ty : GF} (h : fn.results = #[.cell p ty, .tmp q]) (tmps : Array GK) (w : GG) (b o : Nat) (cs : List GK) (d : TypeDesc)
 (hp : tmps.getD p undef = .pointer (some ⟨b, o, none⟩)) (hc : w.rangeAt b o cs)
 (hu : P.underlying ty = some d) (hd : d.isRow = true) (hi : (P.info? ty).map (·.size) = some cs.length) :
 (results fn tmps).run P w = .ok (.tuple #[.agg cs.toArray, tmps.getD q undef]) w := by
 have hp' : tmps[p]?.getD undef = .pointer (some ⟨b, o, none⟩) := by simpa using hp
 simp [results, h, hp', asAddr, MR w b o ty cs d hc hu hd hi]
theorem B4 {w : GG} {b n : Nat} {cs : Array GK} {t : GF} (h : w.heap[b]? = some (.cells cs t (0, 0))) (hn : cs.size = n) : w.there b 0 n := by
 subst hn; exact a0Z h
theorem a4m {P : Hb} {w : GG} {A : Option Addr} {n c : Nat} {xs : List UInt8} (h : IsB w A n c xs) (src e dst : GF) (hs : P.underlying src = some (.slice e)) (he : P.underlying e = some (.int .u8)) (hd : P.underlying dst = some .string) :
 (convert src dst (.slice A n c)).run P w = .ok (.string ⟨xs.toArray⟩) w := by
 rw [run_convert_bytes_string w src dst e _ n c hs he hd]
 have hl := IsB.len h
 by_cases h0 : n = 0
 . subst h0
   have : xs = [] := Ja hl
   subst this
   cases A <;> simp [Conv.bytesToString, loadCells, loadCellsFrom] <;> rfl
 . have c2i : 0 < (xs.map u8).length := by rw [II]; omega
   obtain ⟨b, off, rfl, _⟩ := Rd.at_ h 0 _ (GH c2i)
   have hm : xs.map u8 = (xs.map fun b => (b.toNat : Int)).map (JW .u8) := by rw [List.map_map]; rfl
   have d6R : (loadCells ⟨b, off, none⟩ n).run P w = .ok ((xs.map fun b => (b.toNat : Int)).map (JW .u8)).toArray w := by
    have := run_loadCells_list (P := P) w ⟨b, off, none⟩ (xs.map u8) (fun j v hj => by
     obtain ⟨b', off', hA, hc⟩ := Rd.at_ h j v hj
     injection hA with hA
     injection hA with e1 e2
     subst e1 e2
     rw [Addr.add_mid]; exact hc)
    rw [II, hl, hm] at this
    exact this
   rw [run_bytesToString w _ n c _ d6R, foldl_push_bytes]
   simp [ByteArray.empty, ByteArray.emptyWithCapacity, Function.comp_def]
   rfl
theorem b6g {α : Type} {l : List α} {k : Nat} {x : α} (h : Hid (l[k]? = some x)) : l.take (k + 1) = l.take k ++ [x] := by
 obtain ⟨hk, rfl⟩ := GD.1 h.out
 exact List.take_succ_eq_append_getElem hk
end
end Go.Proofs.YtfafflepalgcnaaGreat
