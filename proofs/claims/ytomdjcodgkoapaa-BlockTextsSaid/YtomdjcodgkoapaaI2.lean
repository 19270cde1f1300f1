/- Several texts in one. -/
import Derived.Test.YtomdjcodgkoapaaI1
import Derived.ScopeJumps
import Derived.Orders
import Derived.KernelRfl
import Derived.Test.YtomdjcodgkoapaaProg
import Derived.WalkKit
import Derived.Test.YtomdjcodgkoapaaRows
import Derived.Lib.Builder
import Derived.Laws.Externs
import Derived.WalkSpells
import Derived.WalkLawsBesides
import Derived.Lib.Hide
import Derived.Deep.Draws
import Derived.Deep.AppendLies
import Derived.Maps.AppendAt
import Derived.Deep.MidRow
import Derived.Deep.LoopGhost
import Derived.Deep.DeepMust
import Derived.Lib.AppendZeros
import Derived.Lib.SliceRun
import Derived.Lib.UnsafeStr
import Derived.Shelf.RegionOpenPlain
import Derived.Shelf.Strings.OnBuilder
import Derived.Laws.BitsAllLaws

set_option linter.unusedSimpArgs false
set_option linter.unusedVariables false
set_option linter.unusedSectionVars false
/- The engine, part t: what an operation reads and writes; operations that may change places. No world in sight. -/
namespace Go.Proofs.Ytomdjcodgkoapaa.En
open Go
set_option linter.unusedVariables false

section
variable {R : Type} {T : TypeId → Option Ty}
theorem putK_eq (slots : List D) (dst : Option Nat) (d : D) (K : List D → Option R) : putK slots dst d K = K (match dst with | some s => slots.set s (slotD s d) | none => slots) := by
  unfold putK
  cases dst with
  | none => rfl
  | some s => cases d <;> simp only [forceA_eq, setK_eq, slotD]
def put (slots : List D) (dst : Option Nat) (d : D) : List D := match dst with | some s => slots.set s (slotD s d) | none => slots
theorem putK_put (slots : List D) (dst : Option Nat) (d : D) (K : List D → Option R) : putK slots dst d K = K (put slots dst d) := putK_eq slots dst d K
/-- No operand is the temporary x. -/
def Free (x : Nat) (z : Operand) : Prop := z ≠ .tmp x
theorem evalD_set (slots : List D) (x : Nat) (v : D) (h : TypeId) (z : Operand) (hz : Free x z) : evalD T (slots.set x v) h z = evalD T slots h z := by
  cases z with
  | tmp t =>
    have : x ≠ t := fun e => hz (by rw [e])
    simp [evalD, List.getD_eq_getElem?_getD, List.getElem?_set_ne this]
  | _ => rfl
theorem partsK_set (slots : List D) (x : Nat) (v : D) : ∀ (ps : List (Nat × Operand)) (K : List (Nat × D) → Option R), (∀ p ∈ ps, Free x p.2) → partsK T (slots.set x v) ps K = partsK T slots ps K
  | [], K, _ => rfl
  | (i, z) :: ps, K, h => by
    simp only [partsK, evK_eq]
    rw [evalD_set slots x v 0 z (h (i, z) (by simp)), partsK_set slots x v ps _ (fun p hp => h p (by simp [hp]))]
theorem evO_set (slots : List D) (x : Nat) (v : D) (z : Option Operand) (K : Option D → Option R) (h : ∀ y, z = some y → Free x y) : evO T (slots.set x v) z K = evO T slots z K := by
  cases z with
  | none => rfl
  | some z => simp only [evO, evK_eq]; rw [evalD_set slots x v 0 z (h z rfl)]
theorem capsK_set (slots : List D) (x : Nat) (v : D) : ∀ (zs : List Operand) (K : List D → Option R), (∀ z ∈ zs, Free x z) → capsK T (slots.set x v) zs K = capsK T slots zs K
  | [], K, _ => rfl
  | z :: zs, K, h => by
    simp only [capsK, evK_eq, forceD_eq]
    rw [evalD_set slots x v 0 z (h z (by simp)), capsK_set slots x v zs _ (fun p hp => h p (by simp [hp]))]
theorem argsK_set (slots : List D) (x : Nat) (v : D) : ∀ (zs : List Operand) (ts : List TypeId) (K : List D → Option R), (∀ z ∈ zs, Free x z) → argsK T (slots.set x v) ts zs K = argsK T slots ts zs K
  | [], ts, K, _ => by cases ts <;> rfl
  | z :: zs, [], K, h => by
    simp only [argsK, evK_eq, forceD_eq]
    rw [evalD_set slots x v 0 z (h z (by simp)), argsK_set slots x v zs [] _ (fun p hp => h p (by simp [hp]))]
  | z :: zs, t :: ts, K, h => by
    simp only [argsK, evK_eq, forceD_eq]
    rw [evalD_set slots x v t z (h z (by simp)), argsK_set slots x v zs ts _ (fun p hp => h p (by simp [hp]))]
theorem opK_set (dst : Nat) (oty : TypeId) (slots : List D) (x : Nat) (v : D) (op : Op) (m : Mem) (dead : List Pos) (K : D → Mem → List Pos → Option R) (h : ∀ z ∈ op.operands.toList, Free x z) :
    opK T dst oty (slots.set x v) op m dead K = opK T dst oty slots op m dead K := by
  cases op <;> simp only [opK, evK_eq]
  case pick c a b =>
    rw [evalD_set _ _ _ _ _ (h c (by simp [Op.operands])), evalD_set _ _ _ _ _ (h a (by simp [Op.operands])), evalD_set _ _ _ _ _ (h b (by simp [Op.operands]))]
  case build t ps => exact partsK_set _ _ _ _ _ (fun p hp => h p.2 (by simp [Op.operands]; exact ⟨p.1, by simpa using hp⟩))
  case buildSlice t l ps => exact partsK_set _ _ _ _ _ (fun p hp => h p.2 (by simp [Op.operands]; exact ⟨p.1, by simpa using hp⟩))
  case makeFunc fn first caps =>
    cases fn <;> simp only
    split
    · exact capsK_set _ _ _ _ _ (fun z hz => h z (by simp [Op.operands]; exact .inr (by simpa using hz)))
    · rfl
  case slice t y lo hi mx =>
    rw [evalD_set _ _ _ _ _ (h y (by simp [Op.operands])), evO_set _ _ _ _ _ (fun z hz => h z (by simp [Op.operands, hz]))]
    congr 1
    funext d1
    rw [evO_set _ _ _ _ _ (fun z hz => h z (by simp [Op.operands, hz]))]
    congr 1
    funext d2
    rw [evO_set _ _ _ _ _ (fun z hz => h z (by simp [Op.operands, hz]))]
  case call c =>
    obtain ⟨cal, ⟨args⟩, ⟨ats⟩⟩ := c
    simp only
    split
    · rw [evalD_set _ _ _ _ _ (h _ (by simp [Op.operands, Call.operands]))]
    · rw [evalD_set _ _ _ _ _ (h _ (by simp [Op.operands, Call.operands])), evalD_set _ _ _ _ _ (h _ (by simp [Op.operands, Call.operands]))]
    · rw [evalD_set _ _ _ _ _ (h _ (by simp [Op.operands, Call.operands])), evalD_set _ _ _ _ _ (h _ (by simp [Op.operands, Call.operands]))]
    · rw [evalD_set _ _ _ _ _ (h _ (by simp [Op.operands, Call.operands])), evalD_set _ _ _ _ _ (h _ (by simp [Op.operands, Call.operands]))]
    · rfl
  all_goals
    repeat rw [evalD_set _ _ _ _ _ (h _ (by simp [Op.operands]))]
theorem runK_set (cx : Cx) (o : Oper) (slots : List D) (x : Nat) (v : D) (m : Mem) (dead : List Pos) (K : Bool → D → Mem → List Pos → Option R) (h : ∀ z ∈ o.op.operands.toList, Free x z) :
    runK cx o (slots.set x v) m dead K = runK cx o slots m dead K := by
  unfold runK
  cases hop : o.op <;> simp only
  case call c =>
    rw [hop] at h
    obtain ⟨cal, ⟨args⟩, ⟨ats⟩⟩ := c
    cases cal with
    | builtin b => simp only; exact opK_set _ _ _ _ _ _ _ _ _ h
    | value f =>
      simp only [evK_eq]
      rw [evalD_set _ _ _ _ _ (h f (by simp [Op.operands, Call.operands]))]
      split
      · exact argsK_set _ _ _ _ _ _ (fun z hz => h z (by simp [Op.operands, Call.operands, hz]))
      · rfl
    | invoke f nm =>
      simp only [evK_eq]
      rw [evalD_set _ _ _ _ _ (h f (by simp [Op.operands, Call.operands]))]
      split
      · split
        · split
          · exact argsK_set _ _ _ _ _ _ (fun z hz => h z (by simp [Op.operands, Call.operands, hz]))
          · rfl
        · rfl
      · rfl
  all_goals exact opK_set _ _ _ _ _ _ _ _ _ (by rw [hop] at h; exact h)

/-! Values that need no memory, or only read it -/
theorem partsK_b {α : Type} (slots : List D) : ∀ (ps : List (Nat × Operand)) (F : List (Nat × D) → Option α) (K : α → Option R), (partsK T slots ps F).bind K = partsK T slots ps fun l => (F l).bind K
  | [], _, _ => rfl
  | (i, x) :: ps, F, K => by simp only [partsK, evK_eq]; exact partsK_b slots ps _ K
theorem evO_b {α : Type} (slots : List D) (z : Option Operand) (F : Option D → Option α) (K : α → Option R) : (evO T slots z F).bind K = evO T slots z fun l => (F l).bind K := by
  cases z <;> simp only [evO, evK_eq]
theorem capsK_b {α : Type} (slots : List D) : ∀ (ps : List Operand) (F : List D → Option α) (K : α → Option R), (capsK T slots ps F).bind K = capsK T slots ps fun l => (F l).bind K
  | [], _, _ => rfl
  | x :: ps, F, K => by simp only [capsK, evK_eq, forceD_eq]; exact capsK_b slots ps _ K
theorem argsK_b {α : Type} (slots : List D) : ∀ (zs : List Operand) (ts : List TypeId) (F : List D → Option α) (K : α → Option R), (argsK T slots ts zs F).bind K = argsK T slots ts zs fun l => (F l).bind K
  | [], ts, _, _ => by cases ts <;> rfl
  | x :: ps, [], F, K => by simp only [argsK, evK_eq, forceD_eq]; exact argsK_b slots ps [] _ K
  | x :: ps, t :: ts, F, K => by simp only [argsK, evK_eq, forceD_eq]; exact argsK_b slots ps ts _ K
theorem buildSliceK_b (dst : Nat) (t : TypeId) (len : Nat) (ps : List (Nat × D)) (K : D → Option R) : (buildSliceK T dst t len ps some).bind K = buildSliceK T dst t len ps K := by
  unfold buildSliceK
  split
  · split
    · split
      · rw [cond_b]
        congr 1
        split
        · split
          · split
            · rw [cond_b]; rfl
            · rfl
          · split <;> rfl
          · rfl
        · rfl
      · rfl
    · rfl
  · rfl
theorem makeSliceK_b (dst : Nat) (t : TypeId) (l c : D) (K : D → Option R) : (makeSliceK T dst t l c some).bind K = makeSliceK T dst t l c K := by
  unfold makeSliceK
  split
  · split
    · split
      · rw [cond_b, check_b]
        congr 2
        split
        · split <;> rfl
        · split <;> rfl
        · rfl
      · rfl
    · rfl
  · rfl
/-- Operations that only read: class n, r. -/
def isVal (cx : Cx) (op : Op) : Bool := match clsOf cx op with | .n => true | .r => true | _ => false
def isN (cx : Cx) (op : Op) : Bool := match clsOf cx op with | .n => true | _ => false
end

section
variable {R : Type} {T : TypeId → Option Ty}
/-- Calls of pure functions give their results to whatever comes behind. -/
def PureB (cx : Cx) : Prop := ∀ (R : Type) (g : FuncId) (ds : List D) (K : List D → Option R), cx.pureK g ds K = (cx.pureK g ds some).bind K
def valO (T : TypeId → Option Ty) (dst : Nat) (oty : TypeId) (slots : List D) (op : Op) (m : Mem) : Option D := opK T dst oty slots op m [] fun d _ _ => some d
theorem opK_val (cx : Cx) (dst : Nat) (oty : TypeId) (slots : List D) (op : Op) (hv : isVal cx op = true) (m : Mem) (dead : List Pos) (K : D → Mem → List Pos → Option R) :
    opK T dst oty slots op m dead K = (valO T dst oty slots op m).bind fun d => K d m dead := by
  unfold valO
  cases op <;> simp only [isVal, clsOf, reduceCtorEq, Bool.false_eq_true] at hv <;> simp only [opK, evK_eq, Option.bind_some, Option.bind_none]
  case pick c a b =>
    split
    · rename_i x0 a0 heq
      cases x0 <;> simp only [V.unBool, Option.bind_none]
      rename_i t
      cases t <;> rfl
    · rfl
  case build t ps =>
    rw [partsK_b]
    congr 1
    funext l
    rw [← buildK_b t l fun d => K d m dead]
  case buildSlice t l ps =>
    rw [partsK_b]
    congr 1
    funext l
    rw [← buildSliceK_b _ t _ l fun d => K d m dead]
  case load t a => rw [← loadK_b t _ m fun d => K d m dead]
  case nilCheck x => split <;> rfl
  case binOp => rw [← binK_b _ _ _ _ _ fun d => K d m dead]
  case unOp => rw [← unK_b _ _ fun d => K d m dead]
  case convert => rw [← convK_b _ _ _ fun d => K d m dead]
  case makeInterface t x =>
    split
    · split <;> rfl
    · rfl
  case makeFunc fn first caps =>
    cases fn <;> simp only [Option.bind_none]
    split
    · rw [capsK_b]; rfl
    · rfl
  case makeSlice => rw [← makeSliceK_b _ _ _ _ fun d => K d m dead]
  case slice t x lo hi mx =>
    rw [evO_b]; congr 1; funext a
    rw [evO_b]; congr 1; funext b
    rw [evO_b]; congr 1; funext c
    rw [← sliceK_b _ _ _ _ _ fun d => K d m dead]
  case fieldAddr => rw [← fieldAddrK_b _ _ _ fun d => K d m dead]
  case field => rw [← fieldK_b _ _ _ fun d => K d m dead]
  case indexAddr => rw [← indexAddrK_b _ _ _ fun d => K d m dead]
  case index => rw [← indexK_b _ _ _ fun d => K d m dead]
  case extract x i =>
    split
    · split
      · simp only [forceD_eq]; rfl
      · rfl
    · rfl
  case call c =>
    obtain ⟨cal, ⟨args⟩, ⟨ats⟩⟩ := c
    simp only
    split
    · rw [← lenK_b _ _ fun d => K d m dead]
    · simp at hv
    · rw [← minmaxK_b _ _ fun d => K d m dead]
    · rw [← minmaxK_b _ _ fun d => K d m dead]
    · rfl
theorem valO_mem (cx : Cx) (dst : Nat) (oty : TypeId) (slots : List D) (op : Op) (hv : isN cx op = true) (m m' : Mem) : valO T dst oty slots op m = valO T dst oty slots op m' := by
  unfold valO
  cases op <;> simp only [isN, clsOf, reduceCtorEq, Bool.false_eq_true] at hv <;> simp only [opK]
  case makeFunc fn first caps => cases fn <;> rfl
  case call c =>
    obtain ⟨cal, ⟨args⟩, ⟨ats⟩⟩ := c
    simp only
    split
    · rfl
    · simp at hv
    · rfl
    · rfl
    · rfl
/-- The value of an operation that only reads, calls of pure functions among them. -/
def valR (cx : Cx) (o : Oper) (slots : List D) (m : Mem) : Option D := runK cx o slots m [] fun _ d _ _ => some d
theorem runK_val (cx : Cx) (hB : PureB cx) (o : Oper) (slots : List D) (hv : isVal cx o.op = true) (m : Mem) (dead : List Pos) (K : Bool → D → Mem → List Pos → Option R) :
    runK cx o slots m dead K = (valR cx o slots m).bind fun d => K false d m dead := by
  unfold valR runK
  cases hop : o.op <;> simp only
  case call c =>
    rw [hop] at hv
    obtain ⟨cal, ⟨args⟩, ⟨ats⟩⟩ := c
    cases cal with
    | builtin b =>
      simp only
      rw [opK_val cx _ _ _ _ hv m dead (K false)]
      rfl
    | value f =>
      cases f <;> simp only [isVal, clsOf, reduceCtorEq, Bool.false_eq_true] at hv
      rename_i f
      simp only [evK]
      rw [argsK_b]
      congr 1
      funext xs
      simp only [forceL_eq, callK]
      cases hp : cx.isPure f with
      | true =>
        simp only
        rw [hB _ f _ fun rs => K false (resD rs) m dead, hB _ f _ fun rs => some (resD rs)]
        cases cx.pureK f (xs ++ List.map argD []) some <;> rfl
      | false => rw [hp] at hv; simp at hv
    | invoke f nm => simp [isVal, clsOf] at hv
  all_goals
    rw [hop] at hv
    rw [opK_val cx _ _ _ _ hv m dead (K false)]
    rfl
theorem valR_set (cx : Cx) (o : Oper) (slots : List D) (x : Nat) (v : D) (m : Mem) (h : ∀ z ∈ o.op.operands.toList, Free x z) : valR cx o (slots.set x v) m = valR cx o slots m :=
  runK_set cx o slots x v m [] _ h
theorem valR_mem (cx : Cx) (o : Oper) (slots : List D) (hv : isN cx o.op = true) (m m' : Mem) : valR cx o slots m = valR cx o slots m' := by
  unfold valR runK
  cases hop : o.op <;> simp only
  case call c =>
    rw [hop] at hv
    obtain ⟨cal, ⟨args⟩, ⟨ats⟩⟩ := c
    cases cal with
    | builtin b => exact valO_mem cx _ _ _ _ hv m m'
    | value f =>
      cases f <;> simp only [isN, clsOf, reduceCtorEq, Bool.false_eq_true] at hv
      rename_i f
      simp only [evK]
      congr 1
      funext xs
      simp only [forceL_eq, callK]
      cases hp : cx.isPure f with
      | true => rfl
      | false => rw [hp] at hv; simp at hv
    | invoke f nm => simp [isN, clsOf] at hv
  all_goals
    rw [hop] at hv
    exact valO_mem cx _ _ _ _ hv m m'

/-! Steps -/
/-- An operation that is wanted or not, its guard being known. -/
def wants (ops : Array Oper) (o : Oper) (slots : List D) : Option Bool :=
  match o.guard with
  | none => some true
  | some (j, want) => (match dstOf ops j with | some s => (match slots.getD s .any with | .v (.bool b) _ => some (b == want) | .tup _ => some false | _ => none) | none => none)
theorem getD_set_self {slots : List D} {s : Nat} {d : D} (h : slots.getD s .any = d) (hd : d ≠ .any) : slots.set s d = slots := by
  apply List.ext_getElem?
  intro k
  rw [List.getElem?_set]
  split
  · rename_i e
    subst e
    rw [List.getD_eq_getElem?_getD] at h
    cases hk : slots[s]? with
    | none => rw [hk] at h; exact absurd h.symm hd
    | some x =>
      rw [hk] at h
      simp at h
      subst h
      have := (List.getElem?_eq_some_iff.1 hk).1
      simp [this]
  · rfl
def actK (cx : Cx) (b : Bool) (o : Oper) (st : St) (K : St → Option R) : Option R := match b with | true => takeK cx o st K | false => skipK o st K
theorem stepK_eq (cx : Cx) (ops : Array Oper) (o : Oper) (st : St) (K : St → Option R) :
    stepK cx ops o st K = match wants ops o st.slots with | some b => actK cx b o st K | none => none := by
  unfold stepK wants
  obtain ⟨slots, mem, dead⟩ := st
  cases hg : o.guard with
  | none => rfl
  | some p =>
    obtain ⟨j, want⟩ := p
    simp only
    cases hd : dstOf ops j with
    | none => rfl
    | some s =>
      simp only [getK_eq, setK_eq]
      generalize hx : slots.getD s .any = dx
      cases dx with
      | v x a =>
        cases x with
        | bool b =>
          simp only [V.unBool]
          have hself : slots.set s (.v (.bool b) a) = slots := getD_set_self hx (by simp)
          cases b <;> cases want <;> simp only [br, cond_true, cond_false, hself] <;> rfl
        | _ => rfl
      | _ => rfl
end
end Go.Proofs.Ytomdjcodgkoapaa.En

/- The engine, part u: operations of a region may change places where nothing binds them. No world in sight. -/
namespace Go.Proofs.Ytomdjcodgkoapaa.En
open Go
set_option linter.unusedVariables false
section
variable {R : Type} {cx : Cx} {ops : Array Oper}

def notC (cx : Cx) (op : Op) : Bool := match clsOf cx op with | .c => false | _ => true
theorem notC_of_val {op : Op} (h : isVal cx op = true) : notC cx op = true := by
  unfold isVal at h; unfold notC; cases hc : clsOf cx op <;> simp [hc] at h ⊢
theorem runK_flag (o : Oper) (hc : notC cx o.op = true) (slots : List D) (m : Mem) (dead : List Pos) (K : Bool → D → Mem → List Pos → Option R) :
    runK cx o slots m dead K = runK cx o slots m dead fun _ => K false := by
  unfold runK
  cases hop : o.op <;> simp only
  case call c =>
    rw [hop] at hc
    obtain ⟨cal, ⟨args⟩, ⟨ats⟩⟩ := c
    cases cal with
    | builtin b => rfl
    | value f =>
      cases f <;> simp only [notC, clsOf, Bool.false_eq_true] at hc
      rename_i f
      cases hp : cx.isPure f with
      | true => simp only [evK, callK, hp]
      | false => rw [hp] at hc; simp at hc
    | invoke f nm => simp [notC, clsOf] at hc
theorem wants_set {slots : List D} {x : Nat} {v : D} {o : Oper} (h : ∀ j w s, o.guard = some (j, w) → dstOf ops j = some s → s ≠ x) : wants ops o (slots.set x v) = wants ops o slots := by
  unfold wants
  cases hg : o.guard with
  | none => rfl
  | some p =>
    obtain ⟨j, w⟩ := p
    simp only
    cases hd : dstOf ops j with
    | none => rfl
    | some s =>
      have := h j w s hg hd
      simp only [List.getD_eq_getElem?_getD, List.getElem?_set_ne (Ne.symm this)]
/-- Reads nothing of slot x, and does not write it. -/
structure Away (ops : Array Oper) (x : Nat) (o : Oper) : Prop where
  reads : ∀ z ∈ o.op.operands.toList, Free x z
  guard : ∀ j w s, o.guard = some (j, w) → dstOf ops j = some s → s ≠ x
  dst : o.dst ≠ some x
theorem put_set (slots : List D) (dst : Option Nat) (d : D) (x : Nat) (v : D) (h : dst ≠ some x) : put (slots.set x v) dst d = (put slots dst d).set x v := by
  cases dst with
  | none => rfl
  | some s =>
    simp only [put]
    exact List.set_comm _ _ (fun e => h (by rw [e]))
theorem takeK_eq (o : Oper) (hc : notC cx o.op = true) (slots : List D) (m : Mem) (dead : List Pos) (K : St → Option R) :
    takeK cx o ⟨slots, m, dead⟩ K = runK cx o slots m dead fun _ d m' dead' => K ⟨put slots o.dst d, m', dead'⟩ := by
  simp only [takeK]
  rw [runK_flag o hc]
  simp only [cond_false, putK_put]
theorem skipK_eq (o : Oper) (slots : List D) (m : Mem) (dead : List Pos) (K : St → Option R) : skipK o ⟨slots, m, dead⟩ K = K ⟨put slots o.dst (.tup []), m, dead⟩ := by
  simp only [skipK, putK_put]
theorem step_set {x : Nat} {o : Oper} (ha : Away ops x o) (hc : notC cx o.op = true) (slots : List D) (v : D) (m : Mem) (dead : List Pos) (K : St → Option R) :
    stepK cx ops o ⟨slots.set x v, m, dead⟩ K = stepK cx ops o ⟨slots, m, dead⟩ fun s => K ⟨s.slots.set x v, s.mem, s.dead⟩ := by
  rw [stepK_eq, stepK_eq, wants_set ha.guard]
  cases wants ops o slots with
  | none => rfl
  | some b =>
    cases b
    · simp only [actK, skipK_eq, put_set _ _ _ _ _ ha.dst]
    · simp only [actK, takeK_eq o hc, runK_set cx o slots x v m dead _ ha.reads, put_set _ _ _ _ _ ha.dst]
theorem step_congr {o : Oper} (hc : notC cx o.op = true) (slots : List D) (m : Mem) (dead : List Pos) {K K' : St → Option R} (h : ∀ d m' dd, K ⟨put slots o.dst d, m', dd⟩ = K' ⟨put slots o.dst d, m', dd⟩) :
    stepK cx ops o ⟨slots, m, dead⟩ K = stepK cx ops o ⟨slots, m, dead⟩ K' := by
  rw [stepK_eq, stepK_eq]
  cases wants ops o slots with
  | none => rfl
  | some b =>
    cases b
    · simp only [actK, skipK_eq, h]
    · simp only [actK, takeK_eq o hc, h]
/-- The value of an operation that only reads, its guard in sight. -/
def valS (cx : Cx) (ops : Array Oper) (o : Oper) (slots : List D) (m : Mem) : Option D :=
  match wants ops o slots with
  | none => none
  | some true => valR cx o slots m
  | some false => some (.tup [])
theorem step_val (hB : PureB cx) {o : Oper} (hv : isVal cx o.op = true) (slots : List D) (m : Mem) (dead : List Pos) (K : St → Option R) :
    stepK cx ops o ⟨slots, m, dead⟩ K = (valS cx ops o slots m).bind fun d => K ⟨put slots o.dst d, m, dead⟩ := by
  rw [stepK_eq]
  unfold valS
  cases wants ops o slots with
  | none => rfl
  | some b =>
    cases b
    · simp only [actK, skipK_eq]; rfl
    · simp only [actK, takeK_eq o (notC_of_val hv)]
      rw [runK_val cx hB o slots hv]
theorem valS_set {x : Nat} {o : Oper} (ha : Away ops x o) (slots : List D) (v : D) (m : Mem) : valS cx ops o (slots.set x v) m = valS cx ops o slots m := by
  unfold valS
  rw [wants_set ha.guard, valR_set cx o slots x v m ha.reads]
theorem valS_mem {o : Oper} (hv : isN cx o.op = true) (slots : List D) (m m' : Mem) : valS cx ops o slots m = valS cx ops o slots m' := by
  unfold valS
  rw [valR_mem cx o slots hv m m']
theorem isVal_of_N {op : Op} (h : isN cx op = true) : isVal cx op = true := by
  unfold isN at h; unfold isVal; cases hc : clsOf cx op <;> simp [hc] at h ⊢
theorem put_away {o i : Oper} (ha : ∀ x, o.dst = some x → Away ops x i) (slots : List D) (d : D) (m : Mem) : valS cx ops i (put slots o.dst d) m = valS cx ops i slots m := by
  cases h : o.dst with
  | none => rfl
  | some x => exact valS_set (ha x h) slots _ m
theorem step_put {o i : Oper} (ha : ∀ x, o.dst = some x → Away ops x i) (hc : notC cx i.op = true) (slots : List D) (d : D) (m : Mem) (dead : List Pos) (K : St → Option R) :
    stepK cx ops i ⟨put slots o.dst d, m, dead⟩ K = stepK cx ops i ⟨slots, m, dead⟩ fun s => K ⟨put s.slots o.dst d, s.mem, s.dead⟩ := by
  cases h : o.dst with
  | none => rfl
  | some x => exact step_set (ha x h) hc slots _ m dead K
/-- x, which only reads, and then i: or the other way round. -/
theorem swap_val (hB : PureB cx) {x i : Oper} (hx : isVal cx x.op = true) (hi : notC cx i.op = true) (hxi : ∀ s, x.dst = some s → Away ops s i) (hix : ∀ s, i.dst = some s → Away ops s x)
    (hn : isN cx x.op = true ∨ isVal cx i.op = true) (slots : List D) (m : Mem) (dead : List Pos) (K : St → Option R) :
    stepK cx ops x ⟨slots, m, dead⟩ (fun s => stepK cx ops i s K) = stepK cx ops i ⟨slots, m, dead⟩ (fun s => stepK cx ops x s K) ∨ stepK cx ops x ⟨slots, m, dead⟩ (fun s => stepK cx ops i s K) = none := by
  rw [step_val hB hx]
  cases hd : valS cx ops x slots m with
  | none => exact .inr rfl
  | some d =>
    refine .inl ?_
    simp only [Option.bind_some]
    rw [step_put hxi hi]
    rcases hn with hn | hn
    · refine step_congr hi _ _ _ fun e m' dd => ?_
      rw [step_val hB hx, put_away hix, valS_mem hn slots m' m, hd]
      rfl
    · rw [step_val hB hn, step_val hB hn]
      cases valS cx ops i slots m with
      | none => rfl
      | some e =>
        simp only [Option.bind_some]
        rw [step_val hB hx, put_away hix, hd]
        rfl
/-- The end of a step: what comes behind it holds somewhere. -/
theorem swap_val' (hB : PureB cx) {x i : Oper} (hx : notC cx x.op = true) (hi : isVal cx i.op = true) (hxi : ∀ s, x.dst = some s → Away ops s i) (hix : ∀ s, i.dst = some s → Away ops s x)
    (hn : isN cx i.op = true ∨ isVal cx x.op = true) (slots : List D) (m : Mem) (dead : List Pos) (K : St → Option R) {e : D} (he : valS cx ops i slots m = some e) :
    stepK cx ops x ⟨slots, m, dead⟩ (fun s => stepK cx ops i s K) = stepK cx ops i ⟨slots, m, dead⟩ (fun s => stepK cx ops x s K) := by
  rw [step_val hB hi, he]
  simp only [Option.bind_some]
  rw [step_put hix hx]
  rcases hn with hn | hn
  · refine step_congr hx _ _ _ fun d m' dd => ?_
    rw [step_val hB hi, put_away hxi, valS_mem hn slots m' m, he]
    rfl
  · rw [step_val hB hn, step_val hB hn]
    cases valS cx ops x slots m with
    | none => rfl
    | some d =>
      simp only [Option.bind_some]
      rw [step_val hB hi, put_away hxi, he]
      rfl
theorem cellsK_out {R : Type} (k : Nat) : ∀ (ds : List D) (dead : List Pos) (K : List D → List Pos → Option R) (r : R), cellsK k ds dead K = some r → ∃ cs dd, K cs dd = some r
  | [], dead, K, r, h => ⟨_, _, h⟩
  | d :: ds, dead, K, r, h => by
    unfold cellsK at h
    rcases cond_some h with ⟨_, h⟩ | ⟨_, h⟩
    · split at h
      · simp only [forceA_eq] at h; obtain ⟨_, _, h⟩ := cellsK_out k ds _ _ r h; exact ⟨_, _, h⟩
      · split at h
        · simp only [forceD_eq] at h; obtain ⟨_, _, h⟩ := cellsK_out k ds _ _ r h; exact ⟨_, _, h⟩
        · cases h
    · cases h
end
end Go.Proofs.Ytomdjcodgkoapaa.En

/- The engine, part v: contracts of functions; one operation, calls among them. -/
namespace Go.Proofs.Ytomdjcodgkoapaa.En
open Go
set_option linter.unusedVariables false

section
variable {R : Type} {cx : Cx} {ops : Array Oper}
theorem cellsK_b {α : Type} (k : Nat) : ∀ (ds : List D) (dead : List Pos) (F : List D → List Pos → Option α) (K : α → Option R), (cellsK k ds dead F).bind K = cellsK k ds dead fun a b => (F a b).bind K
  | [], _, _, _ => rfl
  | d :: ds, dead, F, K => by
    unfold cellsK
    rw [cond_b]
    congr 1
    split
    · simp only [forceA_eq]; exact cellsK_b k ds _ _ K
    · split
      · simp only [forceD_eq]; exact cellsK_b k ds _ _ K
      · rfl
theorem newBoxK_b {α : Type} (s : Nat) (t : TypeId) (ds : List D) (m : Mem) (dead : List Pos) (F : Mem → List Pos → Option α) (K : α → Option R) : (newBoxK s t ds m dead F).bind K = newBoxK s t ds m dead fun a b => (F a b).bind K := by
  unfold newBoxK
  split
  · split
    · rw [cellsK_b]; simp only [memPutK_eq]
    · rfl
  · rfl
theorem useUpK_b {α : Type} (a : Att) (e : TypeId) (m : Mem) (dead : List Pos) (F : Mem → List Pos → Option α) (K : α → Option R) : (useUpK a e m dead F).bind K = useUpK a e m dead fun a b => (F a b).bind K := by
  unfold useUpK
  split
  · rw [cond_b]; rfl
  · rw [cond_b]
    congr 1
    split
    · rfl
    · split
      · split
        · simp only [setK_eq, memPutK_eq]
        · rfl
      · rfl
  · rfl
theorem opK_b (cx : Cx) {T : TypeId → Option Ty} (dst : Nat) (oty : TypeId) (slots : List D) (op : Op) (m : Mem) (dead : List Pos) (K : D → Mem → List Pos → Option R) :
    (opK T dst oty slots op m dead fun d m dd => some (d, m, dd)).bind (fun p => K p.1 p.2.1 p.2.2) = opK T dst oty slots op m dead K := by
  cases hv : isVal cx op with
  | true =>
    rw [opK_val cx dst oty slots op hv m dead K, opK_val cx dst oty slots op hv m dead fun d m dd => some (d, m, dd)]
    cases valO T dst oty slots op m <;> rfl
  | false =>
    cases op <;> simp only [opK, evK_eq, Option.bind_none]
    case alloc t =>
      split
      · rw [newBoxK_b]; rfl
      · rfl
    case box t x =>
      split
      · rw [newBoxK_b]; rfl
      · rfl
    case store t x y =>
      unfold storeK
      split
      · split
        · split
          · rw [cond_b, cellsK_b]
            simp only [setRK_eq, memPutK_eq]
            rfl
          · rfl
        · rfl
      · rfl
    case call c =>
      obtain ⟨cal, ⟨args⟩, ⟨ats⟩⟩ := c
      simp only
      split
      · simp [isVal, clsOf] at hv
      · unfold appendK
        split
        · split
          · split
            · split
              · rfl
              · split
                · split
                  · rw [cond_b, useUpK_b]; simp only [check_b]; rfl
                  · rfl
                · split
                  · rw [cond_b, useUpK_b]; simp only [check_b]; rfl
                  · rfl
                · split
                  · rw [cond_b, useUpK_b]; simp only [check_b]; rfl
                  · rfl
                · rfl
            · rfl
          · rfl
        · rfl
      · simp [isVal, clsOf] at hv
      · simp [isVal, clsOf] at hv
      · rfl
    all_goals simp [isVal, clsOf] at hv
/-- An operation has one outcome. -/
theorem runK_fun (hB : PureB cx) {o : Oper} (hc : notC cx o.op = true) {slots : List D} {m : Mem} {dead : List Pos} {K : Bool → D → Mem → List Pos → Option R} {r : R} (h : runK cx o slots m dead K = some r) :
    ∃ d m' dd, K false d m' dd = some r ∧ ∀ (R' : Type) (K' : Bool → D → Mem → List Pos → Option R'), runK cx o slots m dead K' = K' false d m' dd := by
  cases hv : isVal cx o.op with
  | true =>
    rw [runK_val cx hB o slots hv] at h
    obtain ⟨d, h1, h⟩ := bind_some h
    refine ⟨d, m, dead, h, fun R' K' => ?_⟩
    rw [runK_val cx hB o slots hv, h1]; rfl
  | false =>
    have key : ∀ (op : Op), o.op = op → (∀ c, op = .call c → ∃ b, c.callee = .builtin b) → ∃ d m' dd, K false d m' dd = some r ∧ ∀ (R' : Type) (K' : Bool → D → Mem → List Pos → Option R'), runK cx o slots m dead K' = K' false d m' dd := by
      intro op hop hcal
      have hrun : ∀ (R' : Type) (K' : Bool → D → Mem → List Pos → Option R'), runK cx o slots m dead K' = opK cx.T (o.dst.getD 0) o.type slots op m dead (K' false) := by
        intro R' K'
        unfold runK
        rw [hop]
        cases op <;> simp only
        rename_i c
        obtain ⟨b, hb⟩ := hcal c rfl
        rw [hb]
      rw [hrun, ← opK_b cx] at h
      obtain ⟨p, h1, h2⟩ := bind_some h
      refine ⟨p.1, p.2.1, p.2.2, h2, fun R' K' => ?_⟩
      rw [hrun, ← opK_b cx, h1]; rfl
    refine key o.op rfl fun c hcc => ?_
    rw [hcc] at hc hv
    obtain ⟨cal, args, ats⟩ := c
    cases cal with
    | builtin b => exact ⟨b, rfl⟩
    | value f =>
      exfalso
      cases f <;> simp only [notC, clsOf, Bool.false_eq_true] at hc
      rename_i f
      cases hp : cx.isPure f with
      | true => simp [isVal, clsOf, hp] at hv
      | false => rw [hp] at hc; simp at hc
    | invoke f nm => simp [notC, clsOf] at hc
theorem step_fun (hB : PureB cx) {o : Oper} (hc : notC cx o.op = true) {slots : List D} {m : Mem} {dead : List Pos} {K : St → Option R} {r : R} (h : stepK cx ops o ⟨slots, m, dead⟩ K = some r) :
    ∃ d m' dd, K ⟨put slots o.dst d, m', dd⟩ = some r ∧ ∀ (R' : Type) (K' : St → Option R'), stepK cx ops o ⟨slots, m, dead⟩ K' = K' ⟨put slots o.dst d, m', dd⟩ := by
  rw [stepK_eq] at h
  cases hw : wants ops o slots with
  | none => rw [hw] at h; cases h
  | some b =>
    rw [hw] at h
    cases b
    · simp only [actK, skipK_eq] at h
      exact ⟨_, _, _, h, fun R' K' => by rw [stepK_eq, hw]; simp only [actK, skipK_eq]⟩
    · simp only [actK, takeK_eq o hc] at h
      obtain ⟨d, m', dd, h1, h2⟩ := runK_fun hB hc h
      exact ⟨d, m', dd, h1, fun R' K' => by rw [stepK_eq, hw]; simp only [actK, takeK_eq o hc]; exact h2 R' _⟩
end

section
variable {P : Program} {T : TypeId → Option Ty} {E : Env} {g : G} {w w' : World} {dead : List Pos}
/-- Several data over several values. -/
def RepDs (E : Env) (g : G) (w : World) (dead : List Pos) (ds : List D) (us : List Value) : Prop := us.length = ds.length ∧ ∀ (k : Nat) y, ds[k]? = some y → RepD E g w dead y (us.getD k undef)
def retV (us : List Value) : Value := match us with | [u] => u | us => .tuple us.toArray
theorem resD_rep {rs : List D} {us : List Value} (h : RepDs E g w dead rs us) : RepD E g w dead (resD rs) (retV us) := by
  obtain ⟨hl, hr⟩ := h
  match rs, us, hl with
  | [], [], _ => exact .tup [] _ rfl fun k y h => by simp at h
  | [d], [u], _ => exact hr 0 d rfl
  | d :: d' :: rs, u :: u' :: us, hl =>
    refine .tup _ _ (by simpa using hl) fun k y hk => ?_
    simpa using hr k y hk
/-- The function is one of the program's, with a body. -/
def Goes (P : Program) (f : FuncId) : Prop := ∀ (args : Array Value) (w : World), (callFunc f args).run P w = .ok (.enter f args) w
def Perm.still : Perm → Bool
  | .imm => true
  | .low _ => true
  | _ => false
/-- What a call leaves that has touched nothing of what was there. -/
structure PureTr (g : G) (w : World) (g' : G) (w' : World) : Prop where
  grows : Grows w w'
  old : ∀ b, b < w.heap.size → g'.Γ b = g.Γ b
  new : ∀ b, w.heap.size ≤ b → (g'.Γ b).still = true
  J : g'.J = g.J
  sz : g'.sz = g.sz
def PureRet (P : Program) (T : TypeId → Option Ty) (f : FuncId) (ds rs : List D) : Prop :=
  ∀ (E : Env) (g : G) (w : World) (us : List Value), g.sz = sizes T → RepDs E g w [] ds us →
    Calls P f us.toArray w fun e w' => ∃ us' g', e = .returned (retV us') ∧ (∀ E' : Env, RepDs E' g' w' [] rs us') ∧ PureTr g w g' w'
/-- Slots' owners are left alone. -/
def KeepsS (E : Env) (g : G) (w : World) (E' : Env) (g' : G) (w' : World) : Prop :=
  Later g w g' w' ∧ E'.d = E.d ∧ (∀ k s, E.dom k s → E'.dom k s) ∧ (∀ k s, k ≤ E.d → E.dom k s → g'.J (E.d - k) s = g.J (E.d - k) s) ∧ (∀ s e v, OwnAt g w (.slot E.d s) e v → OwnAt g' w' (.slot E.d s) e v)
/-- As a callee sees it. -/
def inner (E : Env) (m : Mem) : Env := { d := E.d + 1, dom := memDom ([] :: m) }
def MemRet (P : Program) (T : TypeId → Option Ty) (f : FuncId) (dst : Nat) (ds : List D) (m : Mem) (rs : List D) (m' : Mem) : Prop :=
  ∀ (E : Env) (g : G) (w : World) (us : List Value), Here T E g w m → RepDs (inner E m) g w [] ds us →
    Calls P f us.toArray w fun e w' => ∃ us' g' E', e = .returned (retV us') ∧ KeepsS E g w E' g' w' ∧ Here T E' g' w' m' ∧ RepDs E' g' w' [] rs us' ∧ Tr E.d g w g' w'
/-- A method's function. -/
def MethOK (P : Program) (t : TypeId) (name : String) (f : FuncId) : Prop := ∀ (v : Value) (w : World), (method (P.types.size + Made.depth) t v name).run P w = .ok (f, v) w
structure CxOK (P : Program) (cx : Cx) : Prop where
  T : TypesOK P cx.T
  pure : ∀ (R : Type) (g : FuncId) (ds : List D) (K : List D → Option R) (r : R), cx.isPure g = true → cx.pureK g ds K = some r → ∃ rs, K rs = some r ∧ Goes P g ∧ PureRet P cx.T g ds rs
  mem : ∀ (R : Type) (g : FuncId) (dst : Nat) (ds : List D) (m : Mem) (K : List D → Mem → Option R) (r : R), cx.isPure g = false → cx.memK g dst ds m K = some r → ∃ rs m', K rs m' = some r ∧ Goes P g ∧ MemRet P cx.T g dst ds m rs m'
  B : PureB cx
  meth : ∀ t name f, cx.meth t name = some f → MethOK P t name f
theorem PureTr.later {g' : G} (h : PureTr g w g' w') : Later g w g' w' :=
  ⟨h.sz, fun b o v h1 h2 => by
    have hx := cell_lt h2
    refine ⟨?_, by rw [cell_of_heap (h.grows.old b hx)]; exact h2⟩
    unfold Stable at h1 ⊢
    rw [h.old b hx]; exact h1⟩
theorem PureTr.own {g' : G} (h : PureTr g w g' w') {q : APos} {e : TypeId} {v : Value} (ho : OwnAt g w q e v) : OwnAt g' w' q e v := by
  rcases ho with h0 | ⟨x, n, cap, cur, h1, h2, h3, h4⟩
  · exact .inl h0
  · have hx := heap_lt h3
    refine .inr ⟨x, n, cap, cur, h1, by rw [h.old x hx, h.sz]; exact h2, by rw [h.grows.old x hx]; exact h3, ?_⟩
    rw [h.sz]; exact h4
theorem PureTr.keeps {g' : G} (h : PureTr g w g' w') : Keeps E g w dead E g' w' dead :=
  ⟨h.later, rfl, fun _ _ h => h, fun _ _ _ _ => by rw [h.J], fun _ h => h, fun _ _ _ _ _ ho => h.own ho⟩
theorem PureTr.here {g' : G} (h : PureTr g w g' w') {m : Mem} (hh : Here T E g w m) : Here T E g' w' m := by
  refine ⟨fun k s b hb => ?_, hh.dom, by rw [h.sz]; exact hh.sz, hh.len⟩
  have hr := hh.mem k s b hb
  obtain ⟨us, h1, h2, h3⟩ := hr.heap
  have hx := heap_lt h1
  refine ⟨hr.le, by rw [h.J, h.old _ hx]; exact hr.perm, us, by rw [h.J, h.grows.old _ hx]; exact h1, h2, fun i c hc => ?_⟩
  obtain ⟨a1, a2, a3, a4⟩ := h3 i c hc
  exact ⟨a1, a2, by rw [h.J]; exact a3, a4.keep h.keeps⟩
theorem PureTr.tr {g' : G} (h : PureTr g w g' w') (d : Nat) : Tr d g w g' w' :=
  ⟨h.grows.os, h.grows.tape, h.grows.output, h.grows.size, h.later, fun b hb _ => ⟨h.old b hb, h.grows.old b hb⟩, fun _ _ _ => by rw [h.J]⟩

/-! As a callee sees its arguments -/
theorem shifts_get (k : Nat) : ∀ (ds : List D) (i : Nat) y, (D.shifts k ds)[i]? = some y → ∃ z, ds[i]? = some z ∧ y = z.shift k
  | [], i, y, h => by simp [D.shifts] at h
  | d :: ds, 0, y, h => by simp [D.shifts] at h; exact ⟨d, by simp, h.symm⟩
  | d :: ds, i + 1, y, h => by
    simp [D.shifts] at h; obtain ⟨z, a, b⟩ := shifts_get k ds i y h; exact ⟨z, by simpa using a, b⟩
theorem shifts_length (k : Nat) : ∀ ds : List D, (D.shifts k ds).length = ds.length
  | [] => rfl
  | d :: ds => by simp [D.shifts, shifts_length k ds]
theorem inner_rep {m : Mem} {x : D} {v : Value} (h : RepD E g w dead x v) (hd : E.dom = memDom m) : RepD (inner E m) g w [] (argD x) v := by
  unfold argD
  induction h with
  | v x a v h ha => exact .v _ _ _ h trivial
  | ptr k s o h1 h2 =>
    have := RepD.ptr (E := inner E m) (g := g) (w := w) (dead := []) (k + 1) s o (by show k + 1 ≤ E.d + 1; omega) (by
      rw [hd] at h2
      obtain ⟨b, hb⟩ := h2
      exact ⟨b, hb⟩)
    have e : (inner E m).d - (k + 1) = E.d - k := by show E.d + 1 - (k + 1) = _; omega
    rw [e] at this
    exact this
  | nilp => exact .nilp
  | eptr cs o b off us h hr => exact .eptr cs o b off us h hr
  | clos f caps us hn hr ih =>
    refine .clos f _ us (by rw [shifts_length, bares_length]; exact hn) fun k y hy => ?_
    obtain ⟨z, hz, rfl⟩ := shifts_get _ _ k y hy
    obtain ⟨z', hz', rfl⟩ := bares_get _ k z hz
    exact ih k z' hz'
  | nilF => exact .nilF
  | bld => exact .bld
  | agg ds us hn hr ih =>
    refine .agg _ us (by rw [shifts_length, bares_length]; exact hn) fun k y hy => ?_
    obtain ⟨z, hz, rfl⟩ := shifts_get _ _ k y hy
    obtain ⟨z', hz', rfl⟩ := bares_get _ k z hz
    exact ih k z' hz'
  | tup ds us hn hr ih =>
    refine .tup _ us (by rw [shifts_length, bares_length]; exact hn) fun k y hy => ?_
    obtain ⟨z, hz, rfl⟩ := shifts_get _ _ k y hy
    obtain ⟨z', hz', rfl⟩ := bares_get _ k z hz
    exact ih k z' hz'
  | any v => exact .any v
theorem argsK_sound {R : Type} {m : Mem} {slots : List D} {a : Act} (hd : E.dom = memDom m) (hs : RepS E g w dead slots a) : ∀ (zs : List Operand) (ts : List TypeId) (K : List D → Option R) (r : R), argsK T slots ts zs K = some r →
    ∃ ds, RepDs (inner E m) g w [] ds (zs.map a.eval) ∧ K ds = some r
  | [], ts, K, r, h => ⟨[], ⟨rfl, fun k y h => by simp at h⟩, by cases ts <;> exact h⟩
  | z :: zs, [], K, r, h => by
    simp only [argsK, evK_eq, forceD_eq] at h
    obtain ⟨ds, ⟨h1, h2⟩, h3⟩ := argsK_sound hd hs zs [] _ r h
    refine ⟨argD (evalD T slots 0 z) :: ds, ⟨by simp [h1], fun k y hk => ?_⟩, h3⟩
    rcases k with _ | k
    · simp at hk; subst hk; simpa using inner_rep (hs.ev 0 z) hd
    · simpa using h2 k y (by simpa using hk)
  | z :: zs, t :: ts, K, r, h => by
    simp only [argsK, evK_eq, forceD_eq] at h
    obtain ⟨ds, ⟨h1, h2⟩, h3⟩ := argsK_sound hd hs zs ts _ r h
    refine ⟨argD (evalD T slots t z) :: ds, ⟨by simp [h1], fun k y hk => ?_⟩, h3⟩
    rcases k with _ | k
    · simp at hk; subst hk; simpa using inner_rep (hs.ev t z) hd
    · simpa using h2 k y (by simpa using hk)
theorem RepDs.append {ds ds' : List D} {us us' : List Value} (h : RepDs E g w dead ds us) (h' : RepDs E g w dead ds' us') : RepDs E g w dead (ds ++ ds') (us ++ us') := by
  refine ⟨by simp [h.1, h'.1], fun k y hk => ?_⟩
  rcases Nat.lt_or_ge k ds.length with hl | hl
  · rw [List.getElem?_append_left hl] at hk
    have := h.2 k y hk
    rw [List.getD_eq_getElem?_getD, List.getElem?_append_left (by rw [h.1]; exact hl), ← List.getD_eq_getElem?_getD]
    exact this
  · rw [List.getElem?_append_right hl] at hk
    have := h'.2 _ y hk
    rw [List.getD_eq_getElem?_getD, List.getElem?_append_right (by rw [h.1]; exact hl), h.1, ← List.getD_eq_getElem?_getD]
    exact this
/-- The frame's state over a world. -/
structure Sim (T : TypeId → Option Ty) (E : Env) (g : G) (w : World) (st : St) (a : Act) : Prop where
  here : Here T E g w st.mem
  slots : RepS E g w st.dead st.slots a
  size : a.tmps.size = st.slots.length
  defers : a.defers = []
theorem RepS.put_ {slots : List D} {a : Act} (hs : RepS E g w dead slots a) (hsz : a.tmps.size = slots.length) (dst : Option Nat) {d : D} {v : Value} (hd : RepD E g w dead d v) : RepS E g w dead (put slots dst d) (a.put dst v) := by
  cases dst with
  | none => exact hs
  | some s =>
    intro k x hk
    simp only [put, Act.put] at hk ⊢
    rw [List.getElem?_set] at hk
    split at hk
    · rename_i e
      subst e
      split at hk
      · rename_i hlt
        injection hk with hk; subst hk
        have : (a.tmps.setIfInBounds s v).getD s undef = v := by simp [Array.getD_eq_getD_getElem?, (by omega : s < a.tmps.size)]
        rw [this]
        cases d with
        | v x at_ =>
          cases at_ with
          | nil e =>
            cases hd with | v x a v h ha => exact .v _ _ _ h (.inr ⟨trivial, .inl ha⟩)
          | no => exact hd
          | own p e => exact hd
        | _ => exact hd
      · cases hk
    · rename_i e
      have := hs k x hk
      have e2 : (a.tmps.setIfInBounds s v).getD k undef = a.tmps.getD k undef := by
        simp only [Array.getD_eq_getD_getElem?]
        rw [Array.getElem?_setIfInBounds_ne e]
      rw [e2]; exact this
theorem put_length (slots : List D) (dst : Option Nat) (d : D) : (put slots dst d).length = slots.length := by cases dst <;> simp [put]
theorem actput_size (a : Act) (dst : Option Nat) (v : Value) : (a.put dst v).tmps.size = a.tmps.size := by cases dst <;> simp [Act.put]
theorem actput_defers (a : Act) (dst : Option Nat) (v : Value) : (a.put dst v).defers = a.defers := by cases dst <;> rfl
/-- What one operation does. -/
def StepOut (P : Program) (T : TypeId → Option Ty) (E : Env) (g : G) (w : World) (a : Act) (o : Oper) (st' : St) : Prop :=
  ∀ (Ok : Value → World → Prop), (∀ v w' g' E', Sim T E' g' w' st' (a.put o.dst v) → E'.d = E.d → Tr E.d g w g' w' → Ok v w') →
    (∃ v w', Ok v w') ∧ ∀ (next : Act → World → Prop) (Q : Exit → Act → World → Prop), (∀ v w', Ok v w' → next (a.put o.dst v) w') → o.wp P a w next Q
theorem stepOut_of_res {m' : Mem} {dead' : List Pos} {slots : List D} {m : Mem} {a : Act} {o : Oper} {d : D} (hs : Sim T E g w ⟨slots, m, dead⟩ a) (h : Res P T E g w m dead o a d m' dead') : StepOut P T E g w a o ⟨put slots o.dst d, m', dead'⟩ := by
  intro Ok hOk
  obtain ⟨v, w', g', E', h1, h2, h3, h4, h5⟩ := h
  have hok := hOk v w' g' E' ⟨h3, RepS.put_ (fun s x hx => (hs.slots s x hx).keep h2) hs.size o.dst h4, by rw [actput_size, hs.size, put_length], by rw [actput_defers]; exact hs.defers⟩ h2.d h5
  exact ⟨⟨v, w', hok⟩, fun next Q hn => wp_of_runs h1 (hn v w' hok)⟩
theorem exec_call {o : Oper} {a : Act} {c : Call} (hop : o.op = .call c) {f : Operand} (hf : c.callee = .value f) {g0 : FuncId} {caps : Array Value} (hv : a.eval f = .func (.func g0) #[] caps) (hg : Goes P g0) :
    (execOp a.eval o).run P w = .ok (.enter g0 (c.args.map a.eval ++ caps)) w := by
  simp only [execOp, hop, resolve, hf, hv, Deferred.ofValue, Sem.run_bind, Sem.run_pure, Result.andThen_ok, invoke]
  have := hg (#[] ++ c.args.map a.eval ++ caps) w
  simpa using this
theorem exec_invoke {o : Oper} {a : Act} {c : Call} (hop : o.op = .call c) {f : Operand} {nm : String} (hf : c.callee = .invoke f nm) {t : TypeId} {u : Value} (hv : a.eval f = .iface t u) {g0 : FuncId} (hm : MethOK P t nm g0) (hg : Goes P g0) :
    (execOp a.eval o).run P w = .ok (.enter g0 (#[u] ++ c.args.map a.eval)) w := by
  have h1 := hm u w
  have h2 := hg (#[u] ++ c.args.map a.eval) w
  have hx : (#[a.eval f] ++ c.args.map a.eval).extract 1 (#[a.eval f] ++ c.args.map a.eval).size = c.args.map a.eval := by
    apply Array.ext'
    simp
    exact List.take_of_length_le (by simp)
  simp only [execOp, hop, resolve, hf, Sem.run_bind, Sem.run_pure, Result.andThen_ok, invoke]
  have h0 : (#[a.eval f] ++ c.args.map a.eval)[0]? = some (.iface t u) := by rw [Array.getElem?_append_left (by simp), hv]; rfl
  have hp : (program : Sem Program).run P w = .ok P w := rfl
  simp only [h0, hx, callMethod, Sem.run_bind, hp, Result.andThen_ok, h1, h2]
end
end Go.Proofs.Ytomdjcodgkoapaa.En

/- The engine, part w: one operation is sound, whatever it is; regions in the order of the text. -/
namespace Go.Proofs.Ytomdjcodgkoapaa.En
open Go
set_option linter.unusedVariables false
section
variable {R : Type} {P : Program} {T : TypeId → Option Ty} {E : Env} {g : G} {w w' : World} {dead : List Pos}

def dropD (d : D) : D :=
  match d with
  | .v x a => (match a with
    | .own p e => (match p with | .slot g => .v x (.own (.slot g) e) | _ => .v x .no)
    | a => .v x a)
  | d => cond d.noOwn d .any
theorem dropK_eq : ∀ (slots : List D) (K : List D → Option R), dropK slots K = K (slots.map dropD)
  | [], K => rfl
  | d :: r, K => by
    unfold dropK
    cases d with
    | v x a =>
      cases a with
      | own p e => cases p <;> simp only [dropK_eq r, dropD, List.map_cons]
      | no => simp only [dropK_eq r, dropD, List.map_cons]
      | nil e => simp only [dropK_eq r, dropD, List.map_cons]
    | _ => simp only [dropK_eq r, dropD, List.map_cons]; (first | rfl | (split <;> rfl) | (cases D.noOwn _ <;> rfl))
theorem noOwn_keep {E' : Env} {g' : G} (hk : KeepsS E g w E' g' w') {x : D} {v : Value} (h : RepD E g w dead x v) : x.noOwn = true → RepD E' g' w' dead x v := by
  obtain ⟨hl, hd, hdom, hJ, _⟩ := hk
  induction h with
  | v x a v h ha =>
    intro hn
    cases a with
    | own p e => simp [D.noOwn] at hn
    | no => exact .v _ _ _ (h.later hl) trivial
    | nil e => exact .v _ _ _ (h.later hl) ha
  | ptr k s o h1 h2 =>
    intro _
    have := hJ k s h1 h2
    rw [← this, ← hd]
    exact .ptr k s o (by rw [hd]; exact h1) (hdom k s h2)
  | nilp => intro _; exact .nilp
  | eptr cs o b off us h hr => intro _; exact .eptr cs o b off us (fun k y hy => hl.st _ _ _ (h k y hy).1 (h k y hy).2) (fun k y hy => (hr k y hy).later hl)
  | clos f caps us hn' hr ih => intro hn; exact .clos f caps us hn' fun i y hy => ih i y hy (noOwns_get _ hn i y hy)
  | nilF => intro _; exact .nilF
  | bld => intro _; exact .bld
  | agg ds us hn' hr ih => intro hn; exact .agg ds us hn' fun i y hy => ih i y hy (noOwns_get _ hn i y hy)
  | tup ds us hn' hr ih => intro hn; exact .tup ds us hn' fun i y hy => ih i y hy (noOwns_get _ hn i y hy)
  | any v => intro _; exact .any v
theorem dropD_rep {E' : Env} {g' : G} (hk : KeepsS E g w E' g' w') {x : D} {v : Value} (h : RepD E g w dead x v) : RepD E' g' w' dead (dropD x) v := by
  cases x with
  | v y a =>
    cases a with
    | no => exact noOwn_keep hk h rfl
    | nil e => exact noOwn_keep hk h rfl
    | own p e =>
      cases h with
      | v y a v h ha =>
        cases p with
        | cell k s i => exact .v _ _ _ (h.later hk.1) trivial
        | slot s =>
          refine .v _ _ _ (h.later hk.1) ?_
          rcases ha with ha | ⟨_, ha⟩
          · exact .inl ha
          · refine .inr ⟨trivial, ?_⟩
            rw [hk.2.1]
            exact hk.2.2.2.2 s e v ha
  | _ =>
    simp only [dropD, Bool.cond_eq_ite]
    split
    · rename_i hn; exact noOwn_keep hk h hn
    · exact .any _
theorem enter_out {st' : St} {a : Act} {o : Oper} {f : FuncId} {args : Array Value} (hx : (execOp a.eval o).run P w = .ok (.enter f args) w) {post : Value → World → Prop}
    (hc : Calls P f args w fun e w' => ∃ v, e = .returned v ∧ post v w')
    (hp : ∀ v w', post v w' → ∃ g' E', Sim T E' g' w' st' (a.put o.dst v) ∧ E'.d = E.d ∧ Tr E.d g w g' w') : StepOut P T E g w a o st' := by
  intro Ok hOk
  refine ⟨?_, fun next Q hn => ?_⟩
  · obtain ⟨e, w', fr, ⟨v, _, hpv⟩, _⟩ := hc []
    obtain ⟨g', E', h1, h2, h3⟩ := hp v w' hpv
    exact ⟨v, w', hOk v w' g' E' h1 h2 h3⟩
  · unfold Oper.wp
    rw [hx]
    refine hc.mono fun e w' ⟨v, he, hpv⟩ => ?_
    subst he
    obtain ⟨g', E', h1, h2, h3⟩ := hp v w' hpv
    exact hn v w' (hOk v w' g' E' h1 h2 h3)
theorem call_sound {cx : Cx} (hcx : CxOK P cx) {slots : List D} {m : Mem} {a : Act} (hs : Sim cx.T E g w ⟨slots, m, dead⟩ a) {o : Oper} {f : FuncId} {ds : List D} {us : List Value}
    (hx : (execOp a.eval o).run P w = .ok (.enter f us.toArray) w ∨ Goes P f → (execOp a.eval o).run P w = .ok (.enter f us.toArray) w) (hr : RepDs (inner E m) g w [] ds us) {K : St → Option R} {r : R}
    (h : callK cx f (o.dst.getD 0) ds m dead (fun c d m' dead' => cond c (dropK slots fun slots => putK slots o.dst d fun slots => K ⟨slots, m', dead'⟩) (putK slots o.dst d fun slots => K ⟨slots, m', dead'⟩)) = some r) :
    ∃ st', K st' = some r ∧ StepOut P cx.T E g w a o st' := by
  unfold callK at h
  cases hp : cx.isPure f with
  | true =>
    rw [hp] at h
    simp only [cond_false, putK_put] at h
    obtain ⟨rs, h1, hg, hret⟩ := hcx.pure _ f ds _ r hp h
    refine ⟨_, h1, enter_out (post := fun v w' => ∃ us' g', v = retV us' ∧ (∀ E' : Env, RepDs E' g' w' [] rs us') ∧ PureTr g w g' w') (hx (.inr hg)) ((hret (inner E m) g w us hs.here.sz hr).mono fun e w' ⟨us', g', he, h2, h3⟩ => ⟨_, he, us', g', rfl, h2, h3⟩) ?_⟩
    rintro v w' ⟨us', g', rfl, h2, h3⟩
    refine ⟨g', E, ⟨h3.here hs.here, RepS.put_ (fun s x hx => (hs.slots s x hx).keep h3.keeps) hs.size o.dst (resD_rep (h2 E)).weaken, by rw [actput_size, hs.size, put_length], by rw [actput_defers]; exact hs.defers⟩, rfl, h3.tr _⟩
  | false =>
    rw [hp] at h
    simp only [cond_true, dropK_eq, putK_put] at h
    obtain ⟨rs, m', h1, hg, hret⟩ := hcx.mem _ f _ ds m _ r hp h
    refine ⟨_, h1, enter_out (post := fun v w' => ∃ us' g' E', v = retV us' ∧ KeepsS E g w E' g' w' ∧ Here cx.T E' g' w' m' ∧ RepDs E' g' w' [] rs us' ∧ Tr E.d g w g' w') (hx (.inr hg)) ((hret E g w us hs.here hr).mono fun e w' ⟨us', g', E', he, h2, h3, h4, h5⟩ => ⟨_, he, us', g', E', rfl, h2, h3, h4, h5⟩) ?_⟩
    rintro v w' ⟨us', g', E', rfl, h2, h3, h4, h5⟩
    refine ⟨g', E', ⟨h3, RepS.put_ (fun s x hx => ?_) (by rw [List.length_map]; exact hs.size) o.dst (resD_rep h4).weaken, by rw [actput_size, hs.size, put_length, List.length_map], by rw [actput_defers]; exact hs.defers⟩, h2.2.1, h5⟩
    rw [List.getElem?_map, Option.map_eq_some_iff] at hx
    obtain ⟨z, hz, rfl⟩ := hx
    exact dropD_rep h2 (hs.slots s z hz)
/-- One operation that is wanted. -/
theorem take_sound {cx : Cx} (hcx : CxOK P cx) {slots : List D} {m : Mem} {a : Act} (hs : Sim cx.T E g w ⟨slots, m, dead⟩ a) {o : Oper} {K : St → Option R} {r : R} (h : takeK cx o ⟨slots, m, dead⟩ K = some r) :
    ∃ st', K st' = some r ∧ StepOut P cx.T E g w a o st' := by
  simp only [takeK] at h
  have plain : ∀ (op : Op), o.op = op → opK cx.T (o.dst.getD 0) o.type slots op m dead (fun d m' dead' => putK slots o.dst d fun slots => K ⟨slots, m', dead'⟩) = some r → ∃ st', K st' = some r ∧ StepOut P cx.T E g w a o st' := by
    intro op hop h
    subst hop
    obtain ⟨d, m', dead', h1, h2⟩ := opK_sound hcx.T hs.here hs.slots o h
    rw [putK_put] at h2
    exact ⟨_, h2, stepOut_of_res hs h1⟩
  unfold runK at h
  cases hop : o.op <;> rw [hop] at h <;> simp only [cond_false] at h
  case call c =>
    cases hcal : c.callee with
    | builtin b => rw [hcal] at h; exact plain _ hop h
    | value f =>
      rw [hcal] at h
      simp only [evK_eq] at h
      have hf := hs.slots.ev (T := cx.T) 0 f
      generalize hd : evalD cx.T slots 0 f = df at h hf
      cases df <;> simp only [reduceCtorEq] at h
      rename_i g0 caps
      simp only [forceL_eq] at h
      obtain ⟨ds, h1, h2⟩ := argsK_sound hs.here.dom hs.slots _ _ _ _ h
      generalize hv : a.eval f = vf at hf
      cases hf with
      | clos _ _ us hn hr =>
        have hcaps : RepDs (inner E m) g w [] (caps.map argD) us.toList := by
          refine ⟨by simpa using hn, fun k y hk => ?_⟩
          rw [List.getElem?_map, Option.map_eq_some_iff] at hk
          obtain ⟨z, hz, rfl⟩ := hk
          have := inner_rep (hr k z hz) hs.here.dom
          simpa using this
        refine call_sound hcx hs (us := c.args.toList.map a.eval ++ us.toList) (fun hg => ?_) (h1.append hcaps) h2
        rcases hg with hg | hg
        · exact hg
        · rw [exec_call hop hcal hv hg]
          congr 2
          simp
    | invoke f nm =>
      rw [hcal] at h
      simp only [evK_eq] at h
      have hf := hs.slots.ev (T := cx.T) 0 f
      generalize hd : evalD cx.T slots 0 f = df at h hf
      cases df <;> simp only [reduceCtorEq] at h
      rename_i x at_
      cases x <;> simp only [reduceCtorEq] at h
      rename_i t y
      split at h
      case h_2 => cases h
      rename_i g0 hm
      obtain ⟨ds, h1, h2⟩ := argsK_sound hs.here.dom hs.slots _ _ _ _ h
      generalize hv : a.eval f = vf at hf
      cases hf with
      | v _ _ _ hvv _ =>
      cases hvv with
      | iface t y u hu =>
        have hrec : RepDs (inner E m) g w [] [recvD y] [u] := by
          refine ⟨rfl, fun k z hk => ?_⟩
          have : k = 0 := by have := (List.getElem?_eq_some_iff.1 hk).1; simp at this; omega
          subst this
          simp at hk; subst hk
          unfold recvD
          split
          · rename_i cs
            cases hu with
            | agg cs us hn hr =>
              refine .agg _ us (by simpa using hn) fun k z hk => ?_
              rw [List.getElem?_map, Option.map_eq_some_iff] at hk
              obtain ⟨z', hz', rfl⟩ := hk
              exact .v _ _ _ (hr k z' hz') trivial
          · exact .v _ _ _ hu trivial
        refine call_sound hcx hs (ds := recvD y :: ds) (us := u :: c.args.toList.map a.eval) (fun hg => ?_) (hrec.append h1) h2
        rcases hg with hg | hg
        · exact hg
        · rw [exec_invoke hop hcal hv (hcx.meth _ _ _ hm) hg]
          congr 2
          simp
  all_goals exact plain _ hop h
/-- One operation of a region. -/
theorem step_sound {cx : Cx} (hcx : CxOK P cx) {ops : Array Oper} {slots : List D} {m : Mem} {a : Act} (hs : Sim cx.T E g w ⟨slots, m, dead⟩ a) {o : Oper} {K : St → Option R} {r : R} (h : stepK cx ops o ⟨slots, m, dead⟩ K = some r) :
    (Region.wanted o (yielded ops a.tmps) = true ∧ ∃ st', K st' = some r ∧ StepOut P cx.T E g w a o st') ∨
    (Region.wanted o (yielded ops a.tmps) = false ∧ ∃ st', K st' = some r ∧ Sim cx.T E g w st' (a.put o.dst undef)) := by
  rw [stepK_eq] at h
  have hw : ∀ b, wants ops o slots = some b → Region.wanted o (yielded ops a.tmps) = b := by
    intro b hb
    unfold wants at hb
    unfold Region.wanted
    cases hg : o.guard with
    | none => rw [hg] at hb; simpa using hb
    | some p =>
      obtain ⟨j, want⟩ := p
      rw [hg] at hb
      simp only at hb ⊢
      cases hd : dstOf ops j with
      | none => rw [hd] at hb; cases hb
      | some s =>
        rw [hd] at hb
        simp only at hb
        split at hb
        · rename_i b' a' hsl
          injection hb with hb; subst hb
          have hx : slots[s]? = some (.v (.bool b') a') := by
            rw [List.getD_eq_getElem?_getD] at hsl
            cases hq : slots[s]? with
            | none => rw [hq] at hsl; cases hsl
            | some z => rw [hq] at hsl; simp at hsl; rw [hsl]
          have hv := (hs.slots s _ hx).bool_inv
          have hlt : s < a.tmps.size := by have := (List.getElem?_eq_some_iff.1 hx).1; have := hs.size; simp only at this; omega
          have hd' : (ops[j]?).bind (·.dst) = some s := by
            unfold dstOf at hd
            cases ho : ops[j]? with
            | none => rw [ho] at hd; cases hd
            | some oo => rw [ho] at hd; simpa using hd
          have hy : yielded ops a.tmps j = some b' := by
            unfold yielded
            rw [hd']
            have : a.tmps[s]? = some (.bool b') := by
              rw [Array.getD_eq_getD_getElem?, Array.getElem?_eq_getElem hlt] at hv
              rw [Array.getElem?_eq_getElem hlt]
              simpa using hv
            simp [this]
          rw [hy]
          cases b' <;> cases want <;> rfl
        · rename_i ds' hsl
          injection hb with hb; subst hb
          have hx : slots[s]? = some (.tup ds') := by
            rw [List.getD_eq_getElem?_getD] at hsl
            cases hq : slots[s]? with
            | none => rw [hq] at hsl; cases hsl
            | some z => rw [hq] at hsl; simp at hsl; rw [hsl]
          have hv := hs.slots s _ hx
          have hlt : s < a.tmps.size := by have := (List.getElem?_eq_some_iff.1 hx).1; have := hs.size; simp only at this; omega
          have hd' : (ops[j]?).bind (·.dst) = some s := by
            unfold dstOf at hd
            cases ho : ops[j]? with
            | none => rw [ho] at hd; cases hd
            | some oo => rw [ho] at hd; simpa using hd
          have hy : yielded ops a.tmps j = none := by
            unfold yielded
            rw [hd']
            rw [Array.getD_eq_getD_getElem?, Array.getElem?_eq_getElem hlt] at hv
            rw [Option.getD_some] at hv
            generalize hq : a.tmps[s] = q at hv
            have h3 : a.tmps[s]? = some q := by rw [Array.getElem?_eq_getElem hlt, hq]
            cases hv
            simp [h3]
          rw [hy]
          cases want <;> rfl
        · cases hb
  cases hwv : wants ops o slots with
  | none => rw [hwv] at h; cases h
  | some b =>
    rw [hwv] at h
    cases b with
    | true => exact .inl ⟨hw _ hwv, take_sound hcx hs h⟩
    | false =>
      simp only [actK, skipK_eq] at h
      exact .inr ⟨hw _ hwv, _, h, ⟨hs.here, RepS.put_ hs.slots hs.size o.dst (.tup [] #[] rfl fun k y h => by simp at h), by rw [actput_size, hs.size, put_length], by rw [actput_defers]; exact hs.defers⟩⟩
end
end Go.Proofs.Ytomdjcodgkoapaa.En

/- The engine, part x: owners known by their slots; what a loop's head keeps. -/
namespace Go.Proofs.Ytomdjcodgkoapaa.En
open Go
set_option linter.unusedVariables false
section
variable {R : Type} {P : Program} {T : TypeId → Option Ty} {E E' : Env} {g g' : G} {w w' : World} {dead : List Pos}

/-! Slots' owners under other names -/
def G.ren (g : G) (d : Nat) (ρ : Nat → Option Nat) : G :=
  { g with Γ := fun b => match g.Γ b with
    | .own (.slot d' s) n => if d' = d then (match ρ s with | some s' => .own (.slot d s') n | none => .low n) else .own (.slot d' s) n
    | p => p }
theorem ren_stable (g : G) (d : Nat) (ρ : Nat → Option Nat) (b o : Nat) : Stable (g.ren d ρ) b o ↔ Stable g b o := by
  unfold Stable G.ren
  simp only
  cases h : g.Γ b with
  | own p n =>
    cases p with
    | slot d' s =>
      simp only
      by_cases hd : d' = d
      · rw [if_pos hd]; cases ρ s <;> exact Iff.rfl
      · rw [if_neg hd]
    | cell d' s i => exact Iff.rfl
  | _ => exact Iff.rfl
theorem ren_later (g : G) (d : Nat) (ρ : Nat → Option Nat) (w : World) : Later g w (g.ren d ρ) w := ⟨rfl, fun b o v h1 h2 => ⟨(ren_stable g d ρ b o).2 h1, h2⟩⟩
theorem ren_tr (g : G) (d : Nat) (ρ : Nat → Option Nat) (w : World) (d' : Nat) : Tr d' g w (g.ren d ρ) w :=
  ⟨rfl, rfl, rfl, Nat.le_refl _, ren_later g d ρ w, fun b _ hi => ⟨by unfold G.ren; simp only; rcases hi with hi | ⟨n, hi⟩ <;> rw [hi], rfl⟩, fun _ _ _ => rfl⟩
theorem ren_slot {d : Nat} {ρ : Nat → Option Nat} {q s : Nat} {e : TypeId} {v : Value} (h : OwnAt g w (.slot d q) e v) (hρ : ρ q = some s) : OwnAt (g.ren d ρ) w (.slot d s) e v := by
  rcases h with h0 | ⟨b, n, cap, cur, h1, h2, h3, h4⟩
  · exact .inl h0
  · refine .inr ⟨b, n, cap, cur, h1, ?_, h3, h4⟩
    unfold G.ren
    simp only [h2, if_pos, hρ]
theorem ren_cell {d : Nat} {ρ : Nat → Option Nat} {d' s i : Nat} {e : TypeId} {v : Value} (h : OwnAt g w (.cell d' s i) e v) : OwnAt (g.ren d ρ) w (.cell d' s i) e v := by
  rcases h with h0 | ⟨b, n, cap, cur, h1, h2, h3, h4⟩
  · exact .inl h0
  · refine .inr ⟨b, n, cap, cur, h1, ?_, h3, h4⟩
    unfold G.ren
    simp only [h2]
theorem ren_box {d : Nat} {ρ : Nat → Option Nat} {b d' s : Nat} (h : g.Γ b = .box d' s) : (g.ren d ρ).Γ b = .box d' s := by unfold G.ren; simp only [h]

/-- Data without owners' marks, where pointers go on to lead somewhere. -/
theorem rep_move (ok : Nat → Nat → Bool) (hl : Later g w g' w') (hd : E'.d = E.d) (hdom : ∀ k s, E.dom k s → ok k s = true → E'.dom k s) (hJ : ∀ k s, k ≤ E.d → E.dom k s → ok k s = true → g'.J (E.d - k) s = g.J (E.d - k) s)
    (okD : D → Bool) (h1 : ∀ k s o, okD (.ptr k s o) = true → ok k s = true) (h2 : ∀ f caps, okD (.clos f caps) = true → ∀ (i : Nat) y, caps[i]? = some y → okD y = true) (h3 : ∀ ds, okD (.agg ds) = true → ∀ (i : Nat) y, ds[i]? = some y → okD y = true) (h4 : ∀ ds, okD (.tup ds) = true → ∀ (i : Nat) y, ds[i]? = some y → okD y = true)
    {x : D} {v : Value} (h : RepD E g w dead x v) : x.noOwn = true → okD x = true → RepD E' g' w' [] x v := by
  induction h with
  | v x a v h ha =>
    intro hn _
    cases a with
    | own p e => simp [D.noOwn] at hn
    | no => exact .v _ _ _ (h.later hl) trivial
    | nil e => exact .v _ _ _ (h.later hl) ha
  | ptr k s o a1 a2 =>
    intro _ ho
    have ho := h1 _ _ _ ho
    have := hJ k s a1 a2 ho
    rw [← this, ← hd]
    exact .ptr k s o (by rw [hd]; exact a1) (hdom k s a2 ho)
  | nilp => intro _ _; exact .nilp
  | eptr cs o b off us h hr => intro _ _; exact .eptr cs o b off us (fun k y hy => hl.st _ _ _ (h k y hy).1 (h k y hy).2) (fun k y hy => (hr k y hy).later hl)
  | clos f caps us hn' hr ih => intro hn ho; exact .clos f caps us hn' fun i y hy => ih i y hy (noOwns_get _ hn i y hy) (h2 _ _ ho i y hy)
  | nilF => intro _ _; exact .nilF
  | bld => intro _ _; exact .bld
  | agg ds us hn' hr ih => intro hn ho; exact .agg ds us hn' fun i y hy => ih i y hy (noOwns_get _ hn i y hy) (h3 _ ho i y hy)
  | tup ds us hn' hr ih => intro hn ho; exact .tup ds us hn' fun i y hy => ih i y hy (noOwns_get _ hn i y hy) (h4 _ ho i y hy)
  | any v => intro _ _; exact .any v
theorem hangsL_get (ks : List Nat) (k : Nat) : ∀ (ds : List D), hangsL ks k ds = false → ∀ (i : Nat) y, ds[i]? = some y → y.hangs ks k = false
  | [], _, i, y, h => by simp at h
  | d :: ds, h, 0, y, hy => by simp only [hangsL, Bool.or_eq_false_iff] at h; simp at hy; subst hy; exact h.1
  | d :: ds, h, i + 1, y, hy => by simp only [hangsL, Bool.or_eq_false_iff] at h; exact hangsL_get ks k ds h.2 i y (by simpa using hy)
/-- A cell's datum, its variable being kept. -/
theorem cell_move {k s i : Nat} {c : D} {u : Value} (hf : c.flat = true) (h : RepD E g w dead (loadCell k s i c) u) (hdead : Pos.cell k s i ∉ dead) (ok : Nat → Nat → Bool) (hl : Later g w g' w') (hd : E'.d = E.d) (hdom : ∀ k s, E.dom k s → ok k s = true → E'.dom k s)
    (hJ : ∀ k s, k ≤ E.d → E.dom k s → ok k s = true → g'.J (E.d - k) s = g.J (E.d - k) s) (hown : ∀ e v, OwnAt g w (.cell (E.d - k) s i) e v → OwnAt g' w' (.cell (E.d - k) s i) e v)
    (okD : D → Bool) (h1 : ∀ k s o, okD (.ptr k s o) = true → ok k s = true) (h2 : ∀ f caps, okD (.clos f caps) = true → ∀ (i : Nat) y, caps[i]? = some y → okD y = true) (h3 : ∀ ds, okD (.agg ds) = true → ∀ (i : Nat) y, ds[i]? = some y → okD y = true) (h4 : ∀ ds, okD (.tup ds) = true → ∀ (i : Nat) y, ds[i]? = some y → okD y = true)
    (hok : okD (c.shift k) = true) (h0 : ∀ x a, okD (.v x a) = true) : RepD E' g' w' [] (loadCell k s i c) u := by
  have gen : ∀ {x : D}, RepD E g w dead x u → x.noOwn = true → okD x = true → RepD E' g' w' [] x u := fun hx hn ho => rep_move ok hl hd hdom hJ okD h1 h2 h3 h4 hx hn ho
  cases c with
  | v x a =>
    cases a with
    | own p e =>
      cases h with
      | v x a v h ha =>
        refine .v _ _ _ (h.later hl) ?_
        rcases ha with ha | ⟨ha1, ha2⟩
        · exact absurd ha hdead
        · exact .inr ⟨by show k ≤ E'.d; rw [hd]; exact ha1, by show OwnAt g' w' (.cell (E'.d - k) s i) e u; rw [hd]; exact hown e u ha2⟩
    | no => exact gen h rfl (h0 _ _)
    | nil e => exact gen h rfl (h0 _ _)
  | bld => exact .any _
  | _ => exact gen h (noOwn_shift k _ hf) hok
/-- The boxes, whatever owners slots have. -/
theorem ren_mem {d : Nat} {ρ : Nat → Option Nat} {m : Mem} (hm : MemRep E g w m) : MemRep E (g.ren d ρ) w m := by
  intro k s b hb
  have hr := hm k s b hb
  obtain ⟨us, h1, h2, h3⟩ := hr.heap
  refine ⟨hr.le, ren_box hr.perm, us, h1, h2, fun i c hc => ?_⟩
  obtain ⟨a1, a2, a3, a4⟩ := h3 i c hc
  exact ⟨a1, a2, a3, cell_move a2 a4 (by simp) (fun _ _ => true) (ren_later g d ρ w) rfl (fun _ _ h _ => h) (fun _ _ _ _ _ => rfl) (fun e v h => ren_cell h) (fun _ => true) (fun _ _ _ _ => rfl) (fun _ _ _ _ _ _ => rfl) (fun _ _ _ _ _ => rfl) (fun _ _ _ _ _ => rfl) rfl (fun _ _ => rfl)⟩

/-! Handing on -/
/-- Data of slots, handed on one after the other. -/
def handL (ok : D → Bool) (dead : List Pos) : List Pos → List (Nat × D) → List D
  | _, [] => []
  | seen, (s, d) :: r =>
    match d with
    | .v x a => (match a with
      | .own p e => (match p with
        | .slot g => cond (hasP (.slot g) dead || hasP (.slot g) seen) (.v x .no :: handL ok dead seen r) (.v x (.own (.slot s) e) :: handL ok dead (.slot g :: seen) r)
        | _ => .v x .no :: handL ok dead seen r)
      | a => .v x a :: handL ok dead seen r)
    | d => cond (ok d) (d :: handL ok dead seen r) (.any :: handL ok dead seen r)
/-- The owners' names behind it. -/
def rhoL (dead : List Pos) : List Pos → List (Nat × D) → Nat → Option Nat
  | _, [], _ => none
  | seen, (s, d) :: r, q =>
    match d with
    | .v x a => (match a with
      | .own p e => (match p with
        | .slot g => cond (hasP (.slot g) dead || hasP (.slot g) seen) (rhoL dead seen r q) (if q = g then some s else rhoL dead (.slot g :: seen) r q)
        | _ => rhoL dead seen r q)
      | a => rhoL dead seen r q)
    | d => rhoL dead seen r q
def numbered : Nat → List D → List (Nat × D)
  | _, [] => []
  | s, d :: r => (s, d) :: numbered (s + 1) r
theorem canonK_eq (dead : List Pos) : ∀ (l : List D) (s : Nat) (seen : List Pos) (K : List D → Option R), canonK dead s seen l K = K (handL D.noOwn dead seen (numbered s l))
  | [], s, seen, K => rfl
  | d :: r, s, seen, K => by
    unfold canonK numbered handL
    cases d with
    | v x a =>
      cases a with
      | own p e =>
        cases p with
        | slot q => simp only [canonK_eq dead r]; cases (hasP (.slot q) dead || hasP (.slot q) seen) <;> rfl
        | cell a b c => simp only [canonK_eq dead r]
      | no => simp only [canonK_eq dead r]
      | nil e => simp only [canonK_eq dead r]
    | _ => simp only [canonK_eq dead r]; (first | rfl | (cases D.noOwn _ <;> rfl))
def picks (slots : List D) (ks : List Nat) : List (Nat × D) := ks.map fun s => (s, slots.getD s .any)
theorem pickL_eq (all : List Nat) (slots : List D) (dead : List Pos) : ∀ (ks : List Nat) (seen : List Pos) (K : List D → Option R), pickL all slots dead ks seen K = K (handL (fun d => d.noOwn && !d.hangs all 0) dead seen (picks slots ks))
  | [], seen, K => rfl
  | s :: r, seen, K => by
    unfold pickL picks
    rw [List.map_cons]
    unfold handL
    rw [getK_eq]
    generalize slots.getD s .any = d
    have ih := pickL_eq all slots dead r
    unfold picks at ih
    cases d with
    | v x a =>
      cases a with
      | own p e =>
        cases p with
        | slot q => simp only [ih]; cases (hasP (.slot q) dead || hasP (.slot q) seen) <;> rfl
        | cell a b c => simp only [ih]
      | no => simp only [ih]
      | nil e => simp only [ih]
    | _ => simp only [ih]; (first | rfl | (cases (D.noOwn _ && !D.hangs all 0 _) <;> rfl))
/-- How a datum is handed on to slot s, where the owners' names are ρ's. -/
inductive Hand (ok : D → Bool) (dead : List Pos) (ρ : Nat → Option Nat) (s : Nat) : D → D → Prop
  | keep (x : V) (a : Att) (h : ∀ p e, a ≠ .own p e) : Hand ok dead ρ s (.v x a) (.v x a)
  | drop (x : V) (a : Att) : Hand ok dead ρ s (.v x a) (.v x .no)
  | own (x : V) (q : Nat) (e : TypeId) (h : Pos.slot q ∉ dead) (hρ : ρ q = some s) : Hand ok dead ρ s (.v x (.own (.slot q) e)) (.v x (.own (.slot s) e))
  | same (d : D) (h : ok d = true) : Hand ok dead ρ s d d
  | lost (d : D) : Hand ok dead ρ s d .any
theorem handL_hand (ok : D → Bool) (dead : List Pos) : ∀ (l : List (Nat × D)) (seen : List Pos), (handL ok dead seen l).length = l.length ∧
    ∀ (k : Nat) s d d', l[k]? = some (s, d) → (handL ok dead seen l)[k]? = some d' → Hand ok dead (fun q => if hasP (.slot q) seen then none else rhoL dead seen l q) s d d'
  | [], seen => ⟨rfl, fun k s d d' h => by simp at h⟩
  | (s0, d0) :: r, seen => by
    -- the rest, where no new name was seen
    have plain : ∀ (d1 : D), handL ok dead seen ((s0, d0) :: r) = d1 :: handL ok dead seen r → (∀ q, rhoL dead seen ((s0, d0) :: r) q = rhoL dead seen r q) → Hand ok dead (fun q => if hasP (.slot q) seen then none else rhoL dead seen ((s0, d0) :: r) q) s0 d0 d1 →
        (handL ok dead seen ((s0, d0) :: r)).length = ((s0, d0) :: r).length ∧ ∀ (k : Nat) s d d', ((s0, d0) :: r)[k]? = some (s, d) → (handL ok dead seen ((s0, d0) :: r))[k]? = some d' → Hand ok dead (fun q => if hasP (.slot q) seen then none else rhoL dead seen ((s0, d0) :: r) q) s d d' := by
      intro d1 h1 h2 h3
      obtain ⟨i1, i2⟩ := handL_hand ok dead r seen
      rw [h1]
      refine ⟨by simp [i1], fun k s d d' hk hk' => ?_⟩
      rcases k with _ | k
      · simp at hk hk'
        obtain ⟨rfl, rfl⟩ := hk
        subst hk'
        exact h3
      · have := i2 k s d d' (by simpa using hk) (by simpa using hk')
        have e : (fun q => if hasP (.slot q) seen then none else rhoL dead seen ((s0, d0) :: r) q) = fun q => if hasP (.slot q) seen then none else rhoL dead seen r q := by
          funext q; rw [h2]
        rw [e]; exact this
    cases d0 with
    | v x a =>
      cases a with
      | no => exact plain (.v x .no) rfl (fun _ => rfl) (.keep x .no (by simp))
      | nil e => exact plain (.v x (.nil e)) rfl (fun _ => rfl) (.keep x (.nil e) (by simp))
      | own p e =>
        cases p with
        | cell a b c => exact plain (.v x .no) rfl (fun _ => rfl) (.drop x _)
        | slot g =>
          cases hs : (hasP (.slot g) dead || hasP (.slot g) seen) with
          | true => exact plain (.v x .no) (by simp only [handL, hs, cond_true]) (fun q => by simp only [rhoL, hs, cond_true]) (.drop x _)
          | false =>
            have hs' := hs
            simp only [Bool.or_eq_false_iff] at hs'
            obtain ⟨i1, i2⟩ := handL_hand ok dead r (.slot g :: seen)
            have h1 : handL ok dead seen ((s0, .v x (.own (.slot g) e)) :: r) = .v x (.own (.slot s0) e) :: handL ok dead (.slot g :: seen) r := by simp only [handL, hs, cond_false]
            have h2 : ∀ q, rhoL dead seen ((s0, .v x (.own (.slot g) e)) :: r) q = if q = g then some s0 else rhoL dead (.slot g :: seen) r q := fun q => by simp only [rhoL, hs, cond_false]
            rw [h1]
            refine ⟨by simp [i1], fun k s d d' hk hk' => ?_⟩
            rcases k with _ | k
            · simp at hk hk'
              obtain ⟨rfl, rfl⟩ := hk
              subst hk'
              refine .own x g e (fun hh => by rw [(hasP_iff _ _).2 hh] at hs'; cases hs'.1) ?_
              simp [hs'.2, h2]
            · have := i2 k s d d' (by simpa using hk) (by simpa using hk')
              have hle : ∀ q s, (if hasP (.slot q) (.slot g :: seen) then none else rhoL dead (.slot g :: seen) r q) = some s → (if hasP (.slot q) seen then none else rhoL dead seen ((s0, .v x (.own (.slot g) e)) :: r) q) = some s := by
                intro q s hq
                split at hq
                · cases hq
                · rename_i hn
                  have hn' : ¬ (Pos.slot q ∈ Pos.slot g :: seen) := fun hh => hn ((hasP_iff _ _).2 hh)
                  have hqg : q ≠ g := fun e0 => hn' (by rw [e0]; simp)
                  have hqs : ¬ hasP (.slot q) seen = true := fun hh => hn' (List.mem_cons_of_mem _ ((hasP_iff _ _).1 hh))
                  rw [if_neg hqs, h2, if_neg hqg]
                  exact hq
              cases this with
              | keep x a h => exact .keep x a h
              | drop x a => exact .drop x a
              | own x q e h hρ => exact .own x q e h (hle _ _ hρ)
              | same d h => exact .same d h
              | lost d => exact .lost d
    | _ =>
      refine (if hok : ok _ = true then plain _ (by simp only [handL, hok, cond_true]) (fun _ => rfl) (.same _ hok) else plain .any (by have hok' := Bool.eq_false_iff.2 hok; simp only [handL, hok', cond_false]) (fun _ => rfl) (.lost _))
theorem hand_rep {ok : D → Bool} (hok : ∀ d, ok d = true → d.noOwn = true) {ρ : Nat → Option Nat} {s : Nat} {d d' : D} {v : Value} (hh : Hand ok dead ρ s d d') (h : RepD E g w dead d v) : RepD E (g.ren E.d ρ) w [] d' v := by
  have hl := ren_later g E.d ρ w
  cases hh with
  | keep x a hn =>
    cases h with
    | v x a v h ha =>
      cases a with
      | own p e => exact absurd rfl (hn p e)
      | no => exact .v _ _ _ (h.later hl) trivial
      | nil e => exact .v _ _ _ (h.later hl) ha
  | drop x a => exact .v _ _ _ ((repV_of h).later hl) trivial
  | own x q e hq hρ =>
    cases h with
    | v x a v h ha =>
      refine .v _ _ _ (h.later hl) ?_
      rcases ha with ha | ⟨_, ha⟩
      · exact absurd ha hq
      · exact .inr ⟨trivial, ren_slot ha hρ⟩
  | same d hn => exact rep_move (fun _ _ => true) hl rfl (fun _ _ h _ => h) (fun _ _ _ _ _ => rfl) (fun _ => true) (fun _ _ _ _ => rfl) (fun _ _ _ _ _ _ => rfl) (fun _ _ _ _ _ => rfl) (fun _ _ _ _ _ => rfl) h (hok d hn) rfl
  | lost d => exact .any _
theorem numbered_get : ∀ (l : List D) (s k : Nat), (numbered s l)[k]? = (l[k]?).map fun d => (s + k, d)
  | [], s, k => by simp [numbered]
  | d :: r, s, 0 => by simp [numbered]
  | d :: r, s, k + 1 => by
    simp only [numbered, List.getElem?_cons_succ]
    rw [numbered_get r (s + 1) k]
    congr 1
    funext d
    rw [show s + 1 + k = s + (k + 1) by omega]
theorem numbered_length : ∀ (l : List D) (s : Nat), (numbered s l).length = l.length
  | [], _ => rfl
  | d :: r, s => by simp [numbered, numbered_length r]
/-- Behind a region. -/
theorem canon_sound {st : St} {a : Act} (hs : Sim T E g w st a) {K : St → Option R} {r : R} (h : canonSt st K = some r) : ∃ st' g', K st' = some r ∧ Sim T E g' w st' a ∧ Tr E.d g w g' w ∧ st'.slots.length = st.slots.length := by
  obtain ⟨slots, mem, dead⟩ := st
  unfold canonSt at h
  cases dead with
  | nil => exact ⟨_, g, h, hs, Tr.refl _ _ _, rfl⟩
  | cons p q =>
    simp only [canonK_eq] at h
    obtain ⟨h1, h2⟩ := handL_hand D.noOwn (p :: q) (numbered 0 slots) []
    refine ⟨_, _, h, ⟨⟨ren_mem hs.here.mem, hs.here.dom, hs.here.sz, hs.here.len⟩, fun k x hk => ?_, by rw [hs.size, h1, numbered_length], hs.defers⟩, ren_tr g E.d (fun q' => if hasP (.slot q') [] then none else rhoL (p :: q) [] (numbered 0 slots) q') w E.d, by show (handL D.noOwn (p :: q) [] (numbered 0 slots)).length = _; rw [h1, numbered_length]⟩
    have hkl := (List.getElem?_eq_some_iff.1 hk).1
    simp only at hkl
    rw [h1, numbered_length] at hkl
    have hn : (numbered 0 slots)[k]? = some (k, slots[k]) := by rw [numbered_get, List.getElem?_eq_getElem hkl]; simp
    exact hand_rep (fun _ h => h) (h2 k k slots[k] x hn hk) (hs.slots k _ (List.getElem?_eq_getElem hkl))

/-! What a loop's head keeps -/
def spreadL : Nat → Nat → List Nat → List D → List D
  | 0, _, _, _ => []
  | n + 1, s, k :: ks, d :: ds => cond (Nat.beq s k) (d :: spreadL n (s + 1) ks ds) (.any :: spreadL n (s + 1) (k :: ks) (d :: ds))
  | n + 1, s, ks, ds => .any :: spreadL n (s + 1) ks ds
theorem spreadK_eq : ∀ (n s : Nat) (ks : List Nat) (ds : List D) (K : List D → Option R), spreadK n s ks ds K = K (spreadL n s ks ds)
  | 0, _, _, _, _ => rfl
  | n + 1, s, [], ds, K => by simp only [spreadK, spreadL, spreadK_eq n]
  | n + 1, s, k :: ks, [], K => by simp only [spreadK, spreadL, spreadK_eq n]
  | n + 1, s, k :: ks, d :: ds, K => by simp only [spreadK, spreadL, spreadK_eq n]; cases Nat.beq s k <;> rfl
theorem spreadL_length : ∀ (n s : Nat) (ks : List Nat) (ds : List D), (spreadL n s ks ds).length = n
  | 0, _, _, _ => rfl
  | n + 1, s, [], ds => by simp [spreadL, spreadL_length n]
  | n + 1, s, k :: ks, [] => by simp [spreadL, spreadL_length n]
  | n + 1, s, k :: ks, d :: ds => by
    unfold spreadL
    cases Nat.beq s k <;> simp [spreadL_length n]
theorem spreadL_get : ∀ (n s : Nat) (ks : List Nat) (ds : List D) (j : Nat) (x : D), (spreadL n s ks ds)[j]? = some x → x = .any ∨ ∃ i : Nat, ks[i]? = some (s + j) ∧ ds[i]? = some x
  | 0, s, ks, ds, j, x, h => by simp [spreadL] at h
  | n + 1, s, [], ds, j, x, h => by
    rcases j with _ | j
    · simp [spreadL] at h; exact .inl h.symm
    · have := spreadL_get n (s + 1) [] ds j x (by simpa [spreadL] using h)
      rcases this with h | ⟨i, h1, h2⟩
      · exact .inl h
      · simp at h1
  | n + 1, s, k :: ks, [], j, x, h => by
    rcases j with _ | j
    · simp [spreadL] at h; exact .inl h.symm
    · have := spreadL_get n (s + 1) (k :: ks) [] j x (by simpa [spreadL] using h)
      rcases this with h | ⟨i, h1, h2⟩
      · exact .inl h
      · simp at h2
  | n + 1, s, k :: ks, d :: ds, j, x, h => by
    unfold spreadL at h
    cases hb : Nat.beq s k with
    | true =>
      obtain rfl := Nat.eq_of_beq_eq_true hb
      rw [hb, cond_true] at h
      rcases j with _ | j
      · simp at h; exact .inr ⟨0, by simp, by simp [h]⟩
      · rcases spreadL_get n (s + 1) ks ds j x (by simpa using h) with h | ⟨i, h1, h2⟩
        · exact .inl h
        · exact .inr ⟨i + 1, by rw [List.getElem?_cons_succ, h1]; congr 1; omega, by simpa using h2⟩
    | false =>
      rw [hb, cond_false] at h
      rcases j with _ | j
      · simp at h; exact .inl h.symm
      · rcases spreadL_get n (s + 1) (k :: ks) (d :: ds) j x (by simpa using h) with h | ⟨i, h1, h2⟩
        · exact .inl h
        · exact .inr ⟨i, by rw [h1]; congr 1; omega, h2⟩
theorem keepB_out (ks : List Nat) : ∀ (fr : Fr) (K : Fr → Option R) (r : R), keepB ks fr K = some r → ∃ fr', K fr' = some r ∧ ∀ s, frGet s fr' = (if hasN s ks = true then frGet s fr else none) ∧ ∀ b, frGet s fr' = some b → hangsL ks 0 b.cells = false
  | [], K, r, h => ⟨[], h, fun s => ⟨by simp [frGet], fun b hb => by simp [frGet] at hb⟩⟩
  | (s, b) :: fr, K, r, h => by
    unfold keepB at h
    rcases cond_some h with ⟨hc, h⟩ | ⟨hc, h⟩
    · simp only [Bool.and_eq_true, Bool.not_eq_true'] at hc
      obtain ⟨fr', h1, h2⟩ := keepB_out ks fr _ r h
      refine ⟨(s, b) :: fr', h1, fun t => ?_⟩
      rw [frGet_cons, frGet_cons]
      by_cases ht : t = s
      · subst ht
        simp only [if_true, hc.1]
        exact ⟨trivial, fun b' hb' => by injection hb' with hb'; subst hb'; exact hc.2⟩
      · simp only [ht, if_false]
        exact h2 t
    · rcases cond_some h with ⟨hc2, h⟩ | ⟨hc2, h⟩
      · cases h
      · obtain ⟨fr', h1, h2⟩ := keepB_out ks fr _ r h
        refine ⟨fr', h1, fun t => ?_⟩
        rw [frGet_cons]
        by_cases ht : t = s
        · subst ht
          have := h2 t
          simp only [hc2, Bool.false_eq_true, if_false] at this ⊢
          exact this
        · simp only [ht, if_false]
          exact h2 t
mutual
theorem hangs_shift (ks : List Nat) (k : Nat) : ∀ d : D, d.hangs ks 0 = false → (d.shift k).hangs ks 0 = false
  | .v _ _, _ => rfl
  | .ptr k' s o, h => by
    simp only [D.shift, D.hangs] at h ⊢
    rcases Nat.eq_zero_or_pos (k' + k) with h0 | h0
    · have : k' = 0 := by omega
      subst this
      rw [show 0 + k = 0 by omega]; exact h
    · rw [beq_ne (by omega)]; rfl
  | .nilp, _ => rfl
  | .eptr _ _, _ => rfl
  | .clos f caps, h => hangsL_shift ks k caps h
  | .nilF, _ => rfl
  | .bld, _ => rfl
  | .agg ds, h => hangsL_shift ks k ds h
  | .tup ds, h => hangsL_shift ks k ds h
  | .any, _ => rfl
theorem hangsL_shift (ks : List Nat) (k : Nat) : ∀ ds : List D, hangsL ks 0 ds = false → hangsL ks 0 (D.shifts k ds) = false
  | [], _ => rfl
  | d :: ds, h => by
    simp only [hangsL, Bool.or_eq_false_iff] at h
    simp only [D.shifts, hangsL, Bool.or_eq_false_iff]
    exact ⟨hangs_shift ks k d h.1, hangsL_shift ks k ds h.2⟩
end
mutual
theorem hangs_out (ks : List Nat) (k : Nat) : ∀ d : D, (d.shift (k + 1)).hangs ks 0 = false
  | .v _ _ => rfl
  | .ptr k' s o => by simp only [D.shift, D.hangs]; rw [beq_ne (by omega)]; rfl
  | .nilp => rfl
  | .eptr _ _ => rfl
  | .clos f caps => hangsL_out ks k caps
  | .nilF => rfl
  | .bld => rfl
  | .agg ds => hangsL_out ks k ds
  | .tup ds => hangsL_out ks k ds
  | .any => rfl
theorem hangsL_out (ks : List Nat) (k : Nat) : ∀ ds : List D, hangsL ks 0 (D.shifts (k + 1) ds) = false
  | [] => rfl
  | d :: ds => by
    simp only [D.shifts, hangsL, Bool.or_eq_false_iff]
    exact ⟨hangs_out ks k d, hangsL_out ks k ds⟩
end
def weakFr (ks : List Nat) : Fr → Fr
  | [] => []
  | (s, b) :: r => cond (hasN (s + 100000) ks) ((s, ⟨b.ty, b.cells.map weakD⟩) :: weakFr ks r) ((s, b) :: weakFr ks r)
theorem weakK_eq (ks : List Nat) : ∀ (fr : Fr) (K : Fr → Option R), weakK ks fr K = K (weakFr ks fr)
  | [], K => rfl
  | (s, b) :: r, K => by
    unfold weakK weakFr
    simp only [forceL_eq, weakK_eq ks r]
    cases hasN (s + 100000) ks <;> rfl
theorem weakFr_get (ks : List Nat) (t : Nat) : ∀ (fr : Fr), (frGet t (weakFr ks fr) = none ↔ frGet t fr = none) ∧ ∀ b', frGet t (weakFr ks fr) = some b' → ∃ b, frGet t fr = some b ∧ b'.ty = b.ty ∧ (b'.cells = b.cells ∨ b'.cells = b.cells.map weakD)
  | [] => ⟨Iff.rfl, fun b' h => by cases h⟩
  | (s, b) :: r => by
    obtain ⟨i1, i2⟩ := weakFr_get ks t r
    unfold weakFr
    cases hasN (s + 100000) ks with
    | true =>
      simp only [cond_true, frGet_cons]
      by_cases h : t = s
      · simp only [h, if_true]
        exact ⟨by simp, fun b' hb => by injection hb with hb; subst hb; exact ⟨b, rfl, rfl, .inr rfl⟩⟩
      · simp only [h, if_false]; exact ⟨i1, i2⟩
    | false =>
      simp only [cond_false, frGet_cons]
      by_cases h : t = s
      · simp only [h, if_true]
        exact ⟨by simp, fun b' hb => by injection hb with hb; subst hb; exact ⟨b, rfl, rfl, .inl rfl⟩⟩
      · simp only [h, if_false]; exact ⟨i1, i2⟩
theorem Sim.weak {slots : List D} {fr : Fr} {out : Mem} {a : Act} (ks : List Nat) (hs : Sim T E g w ⟨slots, fr :: out, dead⟩ a) : Sim T E g w ⟨slots, weakFr ks fr :: out, dead⟩ a := by
  refine ⟨⟨fun k s b' hb => ?_, ?_, hs.here.sz, hs.here.len⟩, hs.slots, hs.size, hs.defers⟩
  · rcases k with _ | k
    · obtain ⟨b, h1, h2, h3⟩ := (weakFr_get ks s fr).2 b' hb
      have hr := hs.here.mem 0 s b h1
      rcases h3 with h3 | h3
      · have : b' = b := by cases b; cases b'; simp_all
        rw [this]; exact hr
      · obtain ⟨us, b1, b2, b3⟩ := hr.heap
        refine ⟨hr.le, hr.perm, us, by rw [h2]; exact b1, by rw [b2, h3]; simp, fun i c' hc => ?_⟩
        rw [h3, List.getElem?_map, Option.map_eq_some_iff] at hc
        obtain ⟨c, hc, rfl⟩ := hc
        obtain ⟨a1, a2, a3, a4⟩ := b3 i c hc
        cases c with
        | v x at_ =>
          cases at_ with
          | own p e =>
            refine ⟨a1, rfl, fun e => (by cases e), ?_⟩
            exact .v _ _ _ (repV_of a4) trivial
          | no => exact ⟨a1, a2, a3, a4⟩
          | nil e => exact ⟨a1, a2, a3, a4⟩
        | _ => exact ⟨a1, a2, a3, a4⟩
    · exact hs.here.mem (k + 1) s b' hb
  · rw [hs.here.dom]
    funext k s
    rcases k with _ | k
    · have h1 := (weakFr_get ks s fr).1
      have e1 : memDom (fr :: out) 0 s = ∃ b, frGet s fr = some b := rfl
      have e2 : memDom (weakFr ks fr :: out) 0 s = ∃ b, frGet s (weakFr ks fr) = some b := rfl
      rw [e1, e2]
      cases ha : frGet s fr with
      | none => rw [h1.2 ha]
      | some x =>
        cases hb : frGet s (weakFr ks fr) with
        | none => rw [h1.1 hb] at ha; cases ha
        | some y => simp
    · rfl
theorem wdeadK_eq (slots : List D) : ∀ (ks : List Nat) (dead : List Pos) (K : List Pos → Option R), wdeadK slots ks dead K = K (wdead slots ks dead)
  | [], dead, K => rfl
  | k :: ks, dead, K => by
    unfold wdeadK wdead
    rw [getK_eq]
    cases Nat.ble 200000 k with
    | false => exact wdeadK_eq slots ks dead K
    | true =>
      simp only [cond_true]
      generalize slots.getD (k - 200000) .any = d
      cases d with
      | v x a => cases a <;> simp only [wdeadK_eq slots ks]
      | _ => exact wdeadK_eq slots ks dead K
theorem wdead_mem (slots : List D) {p : Pos} : ∀ (ks : List Nat) (dead : List Pos), p ∈ dead → p ∈ wdead slots ks dead
  | [], dead, h => h
  | k :: ks, dead, h => by
    have ih := wdead_mem slots ks dead h
    unfold wdead
    cases Nat.ble 200000 k with
    | false => exact ih
    | true =>
      simp only [cond_true]
      split
      · exact List.mem_cons_of_mem _ ih
      · exact ih
theorem keep_sound {slots : List D} {m : Mem} {a : Act} (hs : Sim T E g w ⟨slots, m, dead⟩ a) {ks : List Nat} {K : List D → Mem → Option R} {r : R} (h : keepK ks ⟨slots, m, dead⟩ K = some r) :
    ∃ ds m' g' E', K ds m' = some r ∧ Sim T E' g' w ⟨spreadL slots.length 0 ks ds, m', []⟩ a ∧ E'.d = E.d ∧ Tr E.d g w g' w := by
  unfold keepK at h
  cases m with
  | nil => cases h
  | cons fr out =>
    simp only [wdeadK_eq, pickL_eq] at h
    have hdd : ∀ p, p ∈ dead → p ∈ wdead slots ks dead := fun p hp => wdead_mem slots ks dead hp
    generalize wdead slots ks dead = dead' at h hdd
    obtain ⟨fr', h1, h2⟩ := keepB_out ks fr _ r h
    obtain ⟨h3, h4⟩ := handL_hand (fun d => d.noOwn && !d.hangs ks 0) dead' (picks slots ks) []
    generalize hρ : (fun q => if hasP (.slot q) [] then none else rhoL dead' [] (picks slots ks) q) = ρ at h4
    generalize hds : handL (fun d => d.noOwn && !d.hangs ks 0) dead' [] (picks slots ks) = ds at h1 h3 h4
    let E' : Env := { d := E.d, dom := memDom (fr' :: out) }
    let okp : Nat → Nat → Bool := fun k s => !Nat.beq k 0 || hasN s ks
    let okD : D → Bool := fun d => !d.hangs ks 0
    have hdom : ∀ k s, E.dom k s → okp k s = true → E'.dom k s := by
      intro k s hd ho
      obtain ⟨b, hb⟩ := hs.here.keeps_dom hd
      rcases k with _ | k
      · refine ⟨b, ?_⟩
        simp only [okp, Nat.beq_refl, Bool.not_true, Bool.false_or] at ho
        show frGet s fr' = some b
        rw [(h2 s).1, if_pos ho]; exact hb
      · exact ⟨b, hb⟩
    have o1 : ∀ k s o, okD (.ptr k s o) = true → okp k s = true := by
      intro k s o ho
      simp only [okD, okp, D.hangs, Bool.not_eq_true', Bool.and_eq_false_iff, Bool.not_eq_false'] at ho ⊢
      rcases ho with ho | ho
      · rw [ho]; rfl
      · rw [ho]; simp
    have o2 : ∀ f caps, okD (.clos f caps) = true → ∀ (i : Nat) y, caps[i]? = some y → okD y = true := by
      intro f caps ho i y hy
      simp only [okD, Bool.not_eq_true'] at ho ⊢
      exact hangsL_get ks 0 caps ho i y hy
    have o3 : ∀ ds, okD (.agg ds) = true → ∀ (i : Nat) y, ds[i]? = some y → okD y = true := by
      intro ds ho i y hy
      simp only [okD, Bool.not_eq_true'] at ho ⊢
      exact hangsL_get ks 0 ds ho i y hy
    have o4 : ∀ ds, okD (.tup ds) = true → ∀ (i : Nat) y, ds[i]? = some y → okD y = true := by
      intro ds ho i y hy
      simp only [okD, Bool.not_eq_true'] at ho ⊢
      exact hangsL_get ks 0 ds ho i y hy
    have hlat := ren_later g E.d ρ w
    rw [weakK_eq] at h1
    refine ⟨ds, weakFr ks fr' :: out, g.ren E.d ρ, E', h1, Sim.weak ks ⟨⟨fun k s b hb => ?_, rfl, hs.here.sz, hs.here.len⟩, fun j x hj => ?_, by rw [hs.size, spreadL_length], hs.defers⟩, rfl, ren_tr g E.d ρ w E.d⟩
    · -- the variables
      have hb0 : Mem.box? (fr :: out) k s = some b := by
        rcases k with _ | k
        · have := (h2 s).1
          have hb' : frGet s fr' = some b := hb
          rw [hb'] at this
          split at this
          · exact this.symm
          · cases this
        · exact hb
      have hr := hs.here.mem k s b hb0
      obtain ⟨us, b1, b2, b3⟩ := hr.heap
      refine ⟨hr.le, ren_box hr.perm, us, b1, b2, fun i c hc => ?_⟩
      obtain ⟨a1, a2, a3, a4⟩ := b3 i c hc
      refine ⟨a1, a2, a3, cell_move a2 a4 (by simp) okp hlat rfl hdom (fun _ _ _ _ _ => rfl) (fun e v h => ren_cell h) okD o1 o2 o3 o4 ?_ (fun _ _ => rfl)⟩
      rcases k with _ | k
      · have := hangsL_get ks 0 _ ((h2 s).2 b hb) i c hc
        simp only [okD, Bool.not_eq_true']
        exact hangs_shift ks 0 c this
      · simp only [okD, Bool.not_eq_true']
        exact hangs_out ks k c
    · -- the slots
      simp only at hj
      rcases spreadL_get _ _ _ _ j x hj with rfl | ⟨i, k1, k2⟩
      · exact .any _
      · rw [Nat.zero_add] at k1
        have hp : (picks slots ks)[i]? = some (j, slots.getD j .any) := by simp [picks, k1]
        have hh := h4 i j _ x hp k2
        have hd : RepD E g w dead (slots.getD j .any) (a.tmps.getD j undef) := by
          rw [List.getD_eq_getElem?_getD]
          cases hq : slots[j]? with
          | none => exact .any _
          | some z => exact hs.slots j z hq
        generalize slots.getD j .any = d0 at hh hd
        generalize a.tmps.getD j undef = v0 at hd
        cases hh with
        | keep x a hn =>
          cases hd with
          | v x a v h ha =>
            cases a with
            | own p e => exact absurd rfl (hn p e)
            | no => exact .v _ _ _ (h.later hlat) trivial
            | nil e => exact .v _ _ _ (h.later hlat) ha
        | drop x a => exact .v _ _ _ ((repV_of hd).later hlat) trivial
        | own x q e hq hρ =>
          cases hd with
          | v x a v h ha =>
            refine .v _ _ _ (h.later hlat) ?_
            rcases ha with ha | ⟨_, ha⟩
            · exact absurd (hdd _ ha) hq
            · exact .inr ⟨trivial, ren_slot ha hρ⟩
        | same d hn =>
          simp only [Bool.and_eq_true] at hn
          exact rep_move (E := E) (E' := E') okp hlat rfl hdom (fun _ _ _ _ _ => rfl) okD o1 o2 o3 o4 hd hn.1 hn.2
        | lost d => exact .any _
end
end Go.Proofs.Ytomdjcodgkoapaa.En

/- The engine, part y: code. -/
namespace Go.Proofs.Ytomdjcodgkoapaa.En
open Go
set_option linter.unusedVariables false
section
variable {R : Type} {P : Program} {T : TypeId → Option Ty} {E : Env} {g : G} {w : World}

def exOf : Ex → Exit
  | .normal => .normal
  | .exit id => .exit id
  | .goto l => .goto l
  | .ret => .ret
/-- What may come behind a piece of a run that began at g, w with n temporaries. -/
def Then (T : TypeId → Option Ty) (E : Env) (g : G) (w : World) (n : Nat) (st' : St) (a' : Act) (w' : World) : Prop :=
  ∃ E' g', Sim T E' g' w' st' a' ∧ E'.d = E.d ∧ Tr E.d g w g' w' ∧ a'.tmps.size = n
/-- What the check says. -/
def RootOK (cx : Cx) (ops : Array Oper) (op : Op) (slots : List D) : Prop :=
  cx.dyn = true → ∀ z, (∃ t, op = .load t z) ∨ (∃ t v, op = .store t z v) → ∃ j, z = .tmp j ∧ ∀ k q o, slots.getD j .any = .ptr k q o → k = 0 ∧ q = rootN ops 20 j
theorem rootZ_some {ops : Array Oper} {slots : List D} {z : Operand} {K : Option R} {r : R} (h : rootZ ops slots z K = some r) : (∃ j, z = .tmp j ∧ ∀ k q o, slots.getD j .any = .ptr k q o → k = 0 ∧ q = rootN ops 20 j) ∧ K = some r := by
  unfold rootZ at h
  split at h
  · rename_i j
    rw [getK_eq] at h
    split at h
    · rename_i k q o hd
      cases hb : Nat.beq k 0 && Nat.beq q (rootN ops 20 j) with
      | false => rw [hb] at h; cases h
      | true =>
        rw [hb, cond_true] at h
        rw [Bool.and_eq_true] at hb
        refine ⟨⟨j, rfl, fun k' q' o' he => ?_⟩, h⟩
        rw [hd] at he
        injection he with e1 e2
        subst e1; subst e2
        exact ⟨Nat.eq_of_beq_eq_true hb.1, Nat.eq_of_beq_eq_true hb.2⟩
    · rename_i hd
      exact ⟨⟨j, rfl, fun k q o he => absurd he (hd k q o)⟩, h⟩
  · cases h
theorem rootK_some {cx : Cx} {ops : Array Oper} {op : Op} {slots : List D} {K : Option R} {r : R} (h : rootK cx ops op slots K = some r) : RootOK cx ops op slots ∧ K = some r := by
  unfold rootK at h
  split at h
  · rename_i hd
    exact ⟨fun e => (by rw [hd] at e; cases e), h⟩
  · split at h
    · obtain ⟨h1, h2⟩ := rootZ_some h
      refine ⟨fun _ z hz => ?_, h2⟩
      rcases hz with ⟨t, e⟩ | ⟨t, v, e⟩
      · injection e with _ e; subst e; exact h1
      · cases e
    · obtain ⟨h1, h2⟩ := rootZ_some h
      refine ⟨fun _ z hz => ?_, h2⟩
      rcases hz with ⟨t, e⟩ | ⟨t, v, e⟩
      · cases e
      · injection e with _ e; subst e; exact h1
    · rename_i h1 h2
      refine ⟨fun _ z hz => ?_, h⟩
      rcases hz with ⟨t, e⟩ | ⟨t, v, e⟩
      · exact absurd e (h1 t z)
      · exact absurd e (h2 t z v)
theorem rootZ_of {ops : Array Oper} {slots : List D} {j : Nat} (h : ∀ k q o, slots.getD j .any = .ptr k q o → k = 0 ∧ q = rootN ops 20 j) (K : Option R) : rootZ ops slots (.tmp j) K = K := by
  unfold rootZ
  simp only [getK_eq]
  split
  · rename_i k q o hd
    obtain ⟨rfl, rfl⟩ := h k q o hd
    simp
  · rfl
theorem rootK_of {cx : Cx} {ops : Array Oper} {op : Op} {slots : List D} (h : RootOK cx ops op slots) (K : Option R) : rootK cx ops op slots K = K := by
  unfold rootK
  split
  · rfl
  · rename_i hd
    split
    · rename_i t z
      obtain ⟨j, rfl, hj⟩ := h hd z (.inl ⟨t, rfl⟩)
      exact rootZ_of hj K
    · rename_i t z v
      obtain ⟨j, rfl, hj⟩ := h hd z (.inr ⟨t, v, rfl⟩)
      exact rootZ_of hj K
    · rfl
theorem ops_sound {cx : Cx} (hcx : CxOK P cx) {ops : Array Oper} {Q : Exit → Act → World → Prop} {n : Nat} : ∀ (l : List Oper) (st : St) (a : Act) (w : World) (E : Env) (g : G) (K : St → Option R) (r : R), Sim cx.T E g w st a → a.tmps.size = n → opsK cx ops l st K = some r →
    (∀ st' a' w', K st' = some r → Then cx.T E g w n st' a' w' → Q .normal a' w') → wpList P ops Q l a w
  | [], st, a, w, E, g, K, r, hs, hn, h, hq => hq st a w h ⟨E, g, hs, rfl, Tr.refl _ _ _, hn⟩
  | o :: l, st, a, w, E, g, K, r, hs, hn, h, hq => by
    obtain ⟨slots, m, dead⟩ := st
    unfold wpList
    obtain ⟨_, h⟩ := rootK_some h
    rcases step_sound hcx hs h with ⟨hw, st', h1, h2⟩ | ⟨hw, st', h1, h2⟩
    · rw [if_pos hw]
      refine .inl ((h2 (fun v w' => ∃ E' g', Sim cx.T E' g' w' st' (a.put o.dst v) ∧ E'.d = E.d ∧ Tr E.d g w g' w') (fun v w' g' E' b1 b2 b3 => ⟨E', g', b1, b2, b3⟩)).2 _ Q ?_)
      rintro v w' ⟨E', g', b1, b2, b3⟩
      refine ops_sound hcx l st' _ w' E' g' K r b1 (by rw [actput_size]; exact hn) h1 fun st2 a2 w2 c1 ⟨E2, g2, c2, c3, c4, c5⟩ => hq st2 a2 w2 c1 ⟨E2, g2, c2, c3.trans b2, b3.trans (by rw [← b2]; exact c4), c5⟩
    · rw [hw]
      simp only [Bool.false_eq_true, if_false]
      exact ops_sound hcx l st' _ w E g K r h2 (by rw [actput_size]; exact hn) h1 hq

/-! Labels -/
theorem label_none : ∀ (c : Code) (l : Nat), hasLabel l c = false → findLabel c l = none
  | .seq a b, l, h => by
    simp only [hasLabel, Bool.or_eq_false_iff] at h
    unfold findLabel
    rw [label_none a l h.1]
    exact label_none b l h.2
  | .label l', l, h => by
    have hne : l' ≠ l := fun e => by subst e; simp [hasLabel] at h
    simp [findLabel, hne]
  | .skip, l, h => rfl
  | .region _ _ _, l, h => rfl
  | .cond _ _ _, l, h => rfl
  | .block _ _, l, h => rfl
  | .loop _, l, h => rfl
  | .rangeFunc _ _ _ _, l, h => rfl
  | .exit _, l, h => rfl
  | .scope _, l, h => rfl
  | .goto _, l, h => rfl
  | .ret, l, h => rfl
  | .refuse _, l, h => rfl
/-- A scope with jumps to any of its labels; each jump has less left than the one before. -/
theorem wp_scope_all {c : Code} {Q : Exit → Act → World → Prop} {a : Act} {w : World} (J : Nat → Nat → Act → World → Prop)
    (first : c.wp P (fun e a w => match e with | .goto l => (∃ n, J n l a w) ∨ (findLabel c l = none ∧ Q (.goto l) a w) | e => Q e a w) a w)
    (pass : ∀ n l a w, J n l a w → ∃ rest, findLabel c l = some rest ∧ rest.wp P (fun e a w => match e with | .goto l => (∃ n', n' < n ∧ J n' l a w) ∨ (findLabel c l = none ∧ Q (.goto l) a w) | e => Q e a w) a w) : (Code.scope c).wp P Q a w := by
  intro b k cs
  have key : ∀ n l a w, J n l a w → ∃ rest, findLabel c l = some rest ∧ ∃ e a' w', Q e a' w' ∧ Arrives P (lone (b.at a (.code rest :: .inScope c :: k)) cs w) b k cs e a' w' := by
    intro n
    induction n using Nat.strongRecOn with
    | _ n ih =>
      intro l a w hJ
      obtain ⟨rest, hf, hw⟩ := pass n l a w hJ
      refine ⟨rest, hf, ?_⟩
      obtain ⟨e, a₁, w₁, hq, harr⟩ := hw b (.inScope c :: k) cs
      cases e with
      | normal => exact ⟨.normal, a₁, w₁, hq, Steps.trans harr (.one step_inScope)⟩
      | exit id => exact ⟨.exit id, a₁, w₁, hq, fun k' hk => harr k' (by simp [exitTo, hk])⟩
      | goto l' =>
        rcases hq with ⟨n', hlt, hJ'⟩ | ⟨hn, hq⟩
        · obtain ⟨rest', hf', e₂, a₂, w₂, hq₂, harr₂⟩ := ih n' hlt l' a₁ w₁ hJ'
          exact ⟨e₂, a₂, w₂, hq₂, .of_steps (harr _ (by simp [gotoIn, hf'])) harr₂⟩
        · exact ⟨.goto l', a₁, w₁, hq, fun k' hk => harr k' (by simp [gotoIn, hn, hk])⟩
      | ret => exact ⟨_, a₁, w₁, hq, harr⟩
      | panic ch => exact ⟨_, a₁, w₁, hq, harr⟩
      | outgrown => exact ⟨_, a₁, w₁, hq, harr⟩
  obtain ⟨e, a₁, w₁, hq, harr⟩ := first b (.inScope c :: k) cs
  cases e with
  | normal => exact ⟨.normal, a₁, w₁, hq, .head step_scope (Steps.trans harr (.one step_inScope))⟩
  | exit id => exact ⟨.exit id, a₁, w₁, hq, fun k' hk => .head step_scope (harr k' (by simp [exitTo, hk]))⟩
  | goto l' =>
    rcases hq with ⟨n', hJ'⟩ | ⟨hn, hq⟩
    · obtain ⟨rest', hf', e₂, a₂, w₂, hq₂, harr₂⟩ := key n' l' a₁ w₁ hJ'
      exact ⟨e₂, a₂, w₂, hq₂, .of_steps (.head step_scope (harr _ (by simp [gotoIn, hf']))) harr₂⟩
    · exact ⟨.goto l', a₁, w₁, hq, fun k' hk => .head step_scope (harr k' (by simp [gotoIn, hn, hk]))⟩
  | ret => exact ⟨_, a₁, w₁, hq, .of_steps (.one step_scope) harr⟩
  | panic ch => exact ⟨_, a₁, w₁, hq, .of_steps (.one step_scope) harr⟩
  | outgrown => exact ⟨_, a₁, w₁, hq, .of_steps (b := b) (k := k) (cs := cs) (e := .outgrown) (.one step_scope) harr⟩

/-! Loops -/
def LoopOK (cx : Cx) (n : Nat) (b : Code) : Prop :=
  ∀ (R : Type) (ds : List D) (m : Mem) (K : Ex → List D → Mem → Option R) (r : R), cx.loopT (ridOf b) ds m K = some r → ∃ t, loopK (fun st K => codeK cx b st K) n (cx.keep (ridOf b)) (cx.keepX (ridOf b)) t ds m K = some r
def LoopsOK (cx : Cx) (n : Nat) (c : Code) : Prop := ∀ b ∈ loopsOf c, LoopOK cx n b
/-- A region that draws its order is sound if it is so in the order of the text. -/
def RegionOK (P : Program) (cx : Cx) (ops : Array Oper) : Prop :=
  ∀ (R : Type) (n : Nat) (id : Nat) (st : St) (a : Act) (w : World) (E : Env) (g : G) (K : St → Option R) (r : R) (Q : Exit → Act → World → Prop), Sim cx.T E g w st a → a.tmps.size = n → opsK cx ops ops.toList st K = some r →
    (∀ st' a' w', K st' = some r → Then cx.T E g w n st' a' w' → Q .normal a' w') → (Code.region id ops true).wp P Q a w
def RegionsOK (P : Program) (cx : Cx) (c : Code) : Prop := ∀ ops ∈ drawnOf c, RegionOK P cx ops
theorem least {p : Nat → Prop} (h : ∃ n, p n) : ∃ n, p n ∧ ∀ k, p k → n ≤ k := by
  obtain ⟨n, hn⟩ := h
  induction n using Nat.strongRecOn with
  | _ n ih =>
    by_cases hx : ∃ k, k < n ∧ p k
    · obtain ⟨k, hk, hp⟩ := hx; exact ih k hk hp
    · refine ⟨n, hn, fun k hk => ?_⟩
      rcases Nat.lt_or_ge k n with h | h
      · exact absurd ⟨k, h, hk⟩ hx
      · exact h
/-- A loop, each round having less left than the one before. -/
theorem wp_loop_n {c : Code} {Q : Exit → Act → World → Prop} {a : Act} {w : World} (I : Nat → Act → World → Prop) (h0 : ∃ n, I n a w)
    (round : ∀ n a w, I n a w → c.wp P (Exit.then (fun a' w' => ∃ n', n' < n ∧ I n' a' w') Q) a w) : (Code.loop c).wp P Q a w := by
  have hl : ∀ a w, ∃ m, (∃ n, I n a w) → I m a w ∧ ∀ k, I k a w → m ≤ k := by
    intro a w
    by_cases h : ∃ n, I n a w
    · obtain ⟨m, h1, h2⟩ := least h
      exact ⟨m, fun _ => ⟨h1, h2⟩⟩
    · exact ⟨0, fun hh => absurd hh h⟩
  let μ : Act → World → Nat := fun a w => Classical.choose (hl a w)
  have hμ : ∀ a w, (∃ n, I n a w) → I (μ a w) a w ∧ ∀ k, I k a w → μ a w ≤ k := fun a w => Classical.choose_spec (hl a w)
  refine wp_loop (fun a w => ∃ n, I n a w) μ h0 fun a w hI => ?_
  obtain ⟨h1, h2⟩ := hμ a w hI
  refine Code.wp_mono (fun e a' w' q => ?_) (round _ a w h1)
  cases e with
  | normal =>
    obtain ⟨n', hlt, hn'⟩ := q
    exact ⟨⟨n', hn'⟩, Nat.lt_of_le_of_lt ((hμ a' w' ⟨n', hn'⟩).2 n' hn') hlt⟩
  | exit id => exact q
  | goto l => exact q
  | ret => exact q
  | panic ch => exact q
  | outgrown => exact q
theorem Then.trans {E' : Env} {g' : G} {w' w'' : World} {n : Nat} {st : St} {a : Act} (h : Then T E' g' w' n st a w'') (hd : E'.d = E.d) (ht : Tr E.d g w g' w') : Then T E g w n st a w'' := by
  obtain ⟨E2, g2, a1, a2, a3, a4⟩ := h
  exact ⟨E2, g2, a1, a2.trans hd, ht.trans (by rw [← hd]; exact a3), a4⟩
/-- What is shown of each piece of code. -/
def CodeOK (P : Program) (cx : Cx) (c : Code) : Prop :=
  ∀ (R : Type) (n : Nat) (st : St) (a : Act) (w : World) (E : Env) (g : G) (K : Ex → St → Option R) (r : R) (Q : Exit → Act → World → Prop), LoopsOK cx n c → Sim cx.T E g w st a → a.tmps.size = n → codeK cx c st K = some r →
    (∀ e st' a' w', K e st' = some r → Then cx.T E g w n st' a' w' → Q (exOf e) a' w') → c.wp P Q a w
def FromOK (P : Program) (cx : Cx) (c : Code) : Prop :=
  ∀ (R : Type) (n : Nat) (l : Nat) (st : St) (a : Act) (w : World) (E : Env) (g : G) (K : Ex → St → Option R) (r : R) (Q : Exit → Act → World → Prop), LoopsOK cx n c → hasLabel l c = true → Sim cx.T E g w st a → a.tmps.size = n → fromK cx l c st K = some r →
    (∀ e st' a' w', K e st' = some r → Then cx.T E g w n st' a' w' → Q (exOf e) a' w') → ∃ rest, findLabel c l = some rest ∧ rest.wp P Q a w
theorem seq_then {Q : Exit → Act → World → Prop} {x : Code} {a : Act} {w : World} {next : Act → World → Prop} (h : x.wp P (fun e a w => match e with | .normal => next a w | e => Q e a w) a w) : x.wp P (Exit.then next Q) a w :=
  Code.wp_mono (fun e a w q => by cases e <;> exact q) h
theorem code_ok {cx : Cx} (hcx : CxOK P cx) : ∀ (c : Code), RegionsOK P cx c → CodeOK P cx c ∧ FromOK P cx c := by
  intro c
  induction c with
  | skip => exact fun _ => ⟨fun R n st a w E g K r Q hl hs hn h hq => wp_skip (hq _ st a w h ⟨E, g, hs, rfl, Tr.refl _ _ _, hn⟩), fun R n l st a w E g K r Q hl hh => by simp [hasLabel] at hh⟩
  | region id ops draw =>
    intro hro
    refine ⟨fun R n st a w E g K r Q hl hs hn h hq => ?_, fun R n l st a w E g K r Q hl hh => by simp [hasLabel] at hh⟩
    simp only [codeK] at h
    have hend : ∀ st' a' w', (canonSt st' fun st' => K .normal st') = some r → Then cx.T E g w n st' a' w' → Q .normal a' w' := by
      rintro st' a' w' hk ⟨E', g', b1, b2, b3, b4⟩
      obtain ⟨st2, g2, c1, c2, c3, _⟩ := canon_sound b1 hk
      exact hq .normal st2 a' w' c1 ⟨E', g2, c2, b2, b3.trans (by rw [← b2]; exact c3), b4⟩
    cases draw with
    | false => exact wp_region_list (ops_sound hcx ops.toList st a w E g _ r hs hn h hend)
    | true => exact hro ops (by simp [drawnOf]) R n id st a w E g _ r Q hs hn h hend
  | seq x y ihx ihy =>
    intro hro
    have hrx : RegionsOK P cx x := fun o ho => hro o (by simp [drawnOf, ho])
    have hry : RegionsOK P cx y := fun o ho => hro o (by simp [drawnOf, ho])
    refine ⟨fun R n st a w E g K r Q hl hs hn h hq => ?_, fun R n l st a w E g K r Q hl hh hs hn h hq => ?_⟩
    · have hlx : LoopsOK cx n x := fun b hb => hl b (by simp [loopsOf, hb])
      have hly : LoopsOK cx n y := fun b hb => hl b (by simp [loopsOf, hb])
      simp only [codeK] at h
      refine wp_seq (seq_then ((ihx hrx).1 R n st a w E g _ r _ hlx hs hn h fun e st' a' w' hk ht => ?_))
      cases e with
      | normal =>
        obtain ⟨E', g', b1, b2, b3, b4⟩ := ht
        exact (ihy hry).1 R n st' a' w' E' g' K r Q hly b1 b4 hk fun e st2 a2 w2 c1 c2 => hq e st2 a2 w2 c1 (c2.trans b2 b3)
      | exit i => exact hq _ st' a' w' hk ht
      | goto i => exact hq _ st' a' w' hk ht
      | ret => exact hq _ st' a' w' hk ht
    · have hlx : LoopsOK cx n x := fun b hb => hl b (by simp [loopsOf, hb])
      have hly : LoopsOK cx n y := fun b hb => hl b (by simp [loopsOf, hb])
      simp only [fromK] at h
      cases hlx' : hasLabel l x with
      | true =>
        rw [hlx', cond_true] at h
        obtain ⟨rest, h1, h2⟩ := (ihx hrx).2 R n l st a w E g _ r (fun e a w => match e with | .normal => y.wp P Q a w | e => Q e a w) hlx hlx' hs hn h fun e st' a' w' hk ht => by
          cases e with
          | normal =>
            obtain ⟨E', g', b1, b2, b3, b4⟩ := ht
            exact (ihy hry).1 R n st' a' w' E' g' K r Q hly b1 b4 hk fun e st2 a2 w2 c1 c2 => hq e st2 a2 w2 c1 (c2.trans b2 b3)
          | exit i => exact hq _ st' a' w' hk ht
          | goto i => exact hq _ st' a' w' hk ht
          | ret => exact hq _ st' a' w' hk ht
        exact ⟨.seq rest y, by simp [findLabel, h1], wp_seq (seq_then h2)⟩
      | false =>
        rw [hlx', cond_false] at h
        have hly' : hasLabel l y = true := by simpa [hasLabel, hlx'] using hh
        obtain ⟨rest, h1, h2⟩ := (ihy hry).2 R n l st a w E g K r Q hly hly' hs hn h hq
        exact ⟨rest, by simp [findLabel, label_none x l hlx', h1], h2⟩
  | cond c x y ihx ihy =>
    intro hro
    have hrx : RegionsOK P cx x := fun o ho => hro o (by simp [drawnOf, ho])
    have hry : RegionsOK P cx y := fun o ho => hro o (by simp [drawnOf, ho])
    refine ⟨fun R n st a w E g K r Q hl hs hn h hq => ?_, fun R n l st a w E g K r Q hl hh => by simp [hasLabel] at hh⟩
    have hlx : LoopsOK cx n x := fun b hb => hl b (by simp [loopsOf, hb])
    have hly : LoopsOK cx n y := fun b hb => hl b (by simp [loopsOf, hb])
    obtain ⟨slots, mem, dead⟩ := st
    simp only [codeK] at h
    split at h
    · rename_i heq
      cases heq
      rename_i t
      simp only [getK_eq, setK_eq] at h
      generalize hx : slots.getD t .any = dx at h
      cases dx <;> simp only [reduceCtorEq] at h
      rename_i v0 at_
      cases v0 <;> simp only [V.unBool, reduceCtorEq] at h
      rename_i b
      have hself : slots.set t (.v (.bool b) at_) = slots := getD_set_self hx (by simp)
      have hev : a.eval (.tmp t) = .bool b := by
        have := hs.slots.ev (T := cx.T) 0 (.tmp t)
        simp only [evalD, hx] at this
        exact this.bool_inv
      cases b
      · simp only [br, cond_false, hself] at h
        exact wp_cond_false hev ((ihy hry).1 R n _ a w E g K r Q hly hs hn h hq)
      · simp only [br, cond_true, hself] at h
        exact wp_cond_true hev ((ihx hrx).1 R n _ a w E g K r Q hlx hs hn h hq)
    · rename_i heq
      cases heq
      rename_i v
      cases v
      · exact wp_cond_false rfl ((ihy hry).1 R n _ a w E g K r Q hly hs hn h hq)
      · exact wp_cond_true rfl ((ihx hrx).1 R n _ a w E g K r Q hlx hs hn h hq)
    · cases h
  | block id x ih =>
    intro hro
    have hrx : RegionsOK P cx x := fun o ho => hro o (by simpa [drawnOf] using ho)
    refine ⟨fun R n st a w E g K r Q hl hs hn h hq => ?_, fun R n l st a w E g K r Q hl hh => by simp [hasLabel] at hh⟩
    simp only [codeK] at h
    refine wp_block ((ih hrx).1 R n st a w E g _ r _ (fun b hb => hl b (by simpa [loopsOf] using hb)) hs hn h fun e st' a' w' hk ht => ?_)
    cases e with
    | normal => exact hq .normal st' a' w' hk ht
    | exit i =>
      simp only [exOf, Exit.inBlock]
      simp only at hk
      by_cases hi : i = id
      · subst hi
        simp only [Nat.beq_refl, cond_true] at hk
        rw [if_pos rfl]; exact hq .normal st' a' w' hk ht
      · rw [beq_ne hi] at hk
        rw [if_neg hi]; exact hq (.exit i) st' a' w' hk ht
    | goto i => exact hq (.goto i) st' a' w' hk ht
    | ret => exact hq .ret st' a' w' hk ht
  | loop x ih =>
    intro hro
    have hrx : RegionsOK P cx x := fun o ho => hro o (by simpa [drawnOf] using ho)
    refine ⟨fun R n st a w E g K r Q hl hs hn h hq => ?_, fun R n l st a w E g K r Q hl hh => by simp [hasLabel] at hh⟩
    obtain ⟨slots, mem, dead⟩ := st
    simp only [codeK] at h
    have hsn : slots.length = n := by rw [← hn]; exact hs.size.symm
    rw [hsn] at h
    obtain ⟨ds, m', g', E', h1, h2, h3, h4⟩ := keep_sound hs h
    rw [hsn] at h2
    obtain ⟨t, h5⟩ := hl x (by simp [loopsOf]) R ds m' _ r h1
    refine wp_loop_n (fun t a w' => ∃ ds m E' g', loopK (fun st K => codeK cx x st K) n (cx.keep (ridOf x)) (cx.keepX (ridOf x)) t ds m (fun e ds m => spreadK n 0 (cx.keepX (ridOf x)) ds fun slots => K e ⟨slots, m, []⟩) = some r ∧ Sim cx.T E' g' w' ⟨spreadL n 0 (cx.keep (ridOf x)) ds, m, []⟩ a ∧ E'.d = E.d ∧ Tr E.d g w g' w' ∧ a.tmps.size = n) ⟨t, ds, m', E', g', h5, h2, h3, h4, hn⟩ ?_
    rintro t a1 w1 ⟨ds1, m1, E1, g1, k1, k2, k3, k4, k5⟩
    cases t with
    | zero => cases k1
    | succ t =>
      simp only [loopK, roundK, spreadK_eq] at k1
      refine seq_then ((ih hrx).1 R n _ a1 w1 E1 g1 _ r _ (fun b hb => hl b (by simp [loopsOf, hb])) k2 k5 k1 fun e st' a' w' hk ht => ?_)
      obtain ⟨E2, g2, b1, b2, b3, b4⟩ := ht
      obtain ⟨slots', mem', dead'⟩ := st'
      have hsn' : slots'.length = n := by rw [← b4]; exact b1.size.symm
      have htr : Tr E.d g w g2 w' := k4.trans (by rw [← k3]; exact b3)
      -- an end of the loop
      have out : ∀ e', (keepK (cx.keepX (ridOf x)) ⟨slots', mem', dead'⟩ fun ds m => K e' ⟨spreadL n 0 (cx.keepX (ridOf x)) ds, m, []⟩) = some r → Q (exOf e') a' w' := by
        intro e' hk
        obtain ⟨ds3, m3, g3, E3, c1, c2, c3, c4⟩ := keep_sound b1 hk
        rw [hsn'] at c2
        exact hq e' _ a' w' c1 ⟨E3, g3, c2, by rw [c3, b2, k3], htr.trans (by rw [← k3, ← b2]; exact c4), b4⟩
      cases e with
      | normal =>
        obtain ⟨ds3, m3, g3, E3, c1, c2, c3, c4⟩ := keep_sound b1 hk
        rw [hsn'] at c2
        exact ⟨t, Nat.lt_succ_self t, ds3, m3, E3, g3, by simp only [spreadK_eq]; exact c1, c2, by rw [c3, b2, k3], htr.trans (by rw [← k3, ← b2]; exact c4), b4⟩
      | exit i => exact out _ hk
      | goto i => exact out _ hk
      | ret => exact out _ hk
  | rangeFunc f ps qs b _ _ => exact fun _ => ⟨fun R n st a w E g K r Q hl hs hn h hq => by simp [codeK] at h, fun R n l st a w E g K r Q hl hh => by simp [hasLabel] at hh⟩
  | exit id => exact fun _ => ⟨fun R n st a w E g K r Q hl hs hn h hq => wp_exit (hq (.exit id) st a w h ⟨E, g, hs, rfl, Tr.refl _ _ _, hn⟩), fun R n l st a w E g K r Q hl hh => by simp [hasLabel] at hh⟩
  | scope x ih =>
    intro hro
    have hrx : RegionsOK P cx x := fun o ho => hro o (by simpa [drawnOf] using ho)
    refine ⟨fun R n st a w E g K r Q hl hs hn h hq => ?_, fun R n l st a w E g K r Q hl hh => by simp [hasLabel] at hh⟩
    have hlx : LoopsOK cx n x := fun b hb => hl b (by simpa [loopsOf] using hb)
    simp only [codeK] at h
    refine wp_scope_all (fun t l a' w' => ∃ st' E' g', jumpK (fun l st K => fromK cx l x st K) (fun l => hasLabel l x) t l st' K = some r ∧ hasLabel l x = true ∧ Sim cx.T E' g' w' st' a' ∧ E'.d = E.d ∧ Tr E.d g w g' w' ∧ a'.tmps.size = n) ?_ ?_
    · refine (ih hrx).1 R n st a w E g _ r _ hlx hs hn h fun e st' a' w' hk ht => ?_
      cases e with
      | normal => exact hq _ st' a' w' hk ht
      | exit i => exact hq _ st' a' w' hk ht
      | ret => exact hq _ st' a' w' hk ht
      | goto l =>
        simp only at hk
        obtain ⟨E2, g2, b1, b2, b3, b4⟩ := ht
        cases hh : hasLabel l x with
        | true => rw [hh] at hk; exact .inl ⟨_, st', E2, g2, hk, hh, b1, b2, b3, b4⟩
        | false => rw [hh] at hk; exact .inr ⟨label_none x l hh, hq (.goto l) st' a' w' hk ⟨E2, g2, b1, b2, b3, b4⟩⟩
    · rintro t l a1 w1 ⟨st1, E1, g1, k1, k2, k3, k4, k5, k6⟩
      cases t with
      | zero => cases k1
      | succ t =>
        simp only [jumpK] at k1
        refine (ih hrx).2 R n l st1 a1 w1 E1 g1 _ r _ hlx k2 k3 k6 k1 fun e st' a' w' hk ht => ?_
        have ht' := ht.trans k4 k5
        cases e with
        | normal => exact hq _ st' a' w' hk ht'
        | exit i => exact hq _ st' a' w' hk ht'
        | ret => exact hq _ st' a' w' hk ht'
        | goto l' =>
          simp only at hk
          obtain ⟨E2, g2, b1, b2, b3, b4⟩ := ht'
          cases hh : hasLabel l' x with
          | true => rw [hh] at hk; exact .inl ⟨t, Nat.lt_succ_self t, st', E2, g2, hk, hh, b1, b2, b3, b4⟩
          | false => rw [hh] at hk; exact .inr ⟨label_none x l' hh, hq (.goto l') st' a' w' hk ⟨E2, g2, b1, b2, b3, b4⟩⟩
  | label l0 =>
    exact fun _ => ⟨fun R n st a w E g K r Q hl hs hn h hq => wp_label (hq .normal st a w h ⟨E, g, hs, rfl, Tr.refl _ _ _, hn⟩), fun R n l st a w E g K r Q hl hh hs hn h hq => ⟨.skip, by
      have := Nat.eq_of_beq_eq_true hh
      subst this
      simp [findLabel], wp_skip (hq .normal st a w h ⟨E, g, hs, rfl, Tr.refl _ _ _, hn⟩)⟩⟩
  | goto l => exact fun _ => ⟨fun R n st a w E g K r Q hl hs hn h hq => wp_goto (hq (.goto l) st a w h ⟨E, g, hs, rfl, Tr.refl _ _ _, hn⟩), fun R n l st a w E g K r Q hl hh => by simp [hasLabel] at hh⟩
  | ret => exact fun _ => ⟨fun R n st a w E g K r Q hl hs hn h hq => wp_ret (hq .ret st a w h ⟨E, g, hs, rfl, Tr.refl _ _ _, hn⟩), fun R n l st a w E g K r Q hl hh => by simp [hasLabel] at hh⟩
  | refuse why => exact fun _ => ⟨fun R n st a w E g K r Q hl hs hn h hq => by simp [codeK] at h, fun R n l st a w E g K r Q hl hh => by simp [hasLabel] at hh⟩
end
end Go.Proofs.Ytomdjcodgkoapaa.En

/- The engine, part z: regions that draw their order. -/
namespace Go.Proofs.Ytomdjcodgkoapaa.En
open Go
set_option linter.unusedVariables false

/-! The check -/
def readsM (ops : Array Oper) (o : Oper) : List Operand → Nat
  | [] => (match o.guard with | some (j, _) => (match dstOf ops j with | some s => 1 <<< s | none => 0) | none => 0)
  | x :: r => (match x with | .tmp t => (1 <<< t) ||| readsM ops o r | _ => readsM ops o r)
def dstM (o : Oper) : Nat := match o.dst with | some s => 1 <<< s | none => 0
def clash2 : Cls → Cls → Bool
  | .c, _ => true
  | _, .c => true
  | .n, _ => false
  | _, .n => false
  | .r, .r => false
  | .r, .a => false
  | .a, .r => false
  | _, _ => true
/-- A load and a store that go to different variables of the text. -/
def farM (ops : Array Oper) (a b : Op) : Bool :=
  match a, b with
  | .load _ (.tmp i), .store _ (.tmp j) _ => !Nat.beq (rootN ops 20 i) (rootN ops 20 j)
  | .store _ (.tmp j) _, .load _ (.tmp i) => !Nat.beq (rootN ops 20 i) (rootN ops 20 j)
  | _, _ => false
def apartM (ops : Array Oper) (cx : Cx) (a b : Oper) : Bool :=
  (!clash2 (clsOf cx a.op) (clsOf cx b.op) || (cx.dyn && farM ops a.op b.op)) && Nat.beq (dstM a &&& (readsM ops b b.op.operands.toList ||| dstM b)) 0 && Nat.beq (dstM b &&& readsM ops a a.op.operands.toList) 0
def aheadE (acc : List Nat) : List Edge → Nat
  | [] => 0
  | e :: r => cond (Region.binds .any e) ((1 <<< e.on) ||| (acc.getD e.on 0 ||| aheadE acc r)) (aheadE acc r)
def backE (i : Nat) : List Edge → Bool
  | [] => true
  | e :: r => (!Region.binds .any e || Nat.blt e.on i) && backE i r
def chkP (ops : Array Oper) (cx : Cx) (o : Oper) (a : Nat) : Nat → List Oper → Bool
  | _, [] => true
  | j, p :: ps => (Nat.testBit a j || apartM ops cx p o) && chkP ops cx o a (j + 1) ps
/-- acc: what is ahead of each operation of prev. -/
def chkO (ops : Array Oper) (cx : Cx) : List Oper → List Oper → List Nat → Bool
  | [], _, _ => true
  | o :: r, prev, acc => backE prev.length o.after.toList && chkP ops cx o (aheadE acc o.after.toList) 0 prev && chkO ops cx r (prev ++ [o]) (acc ++ [aheadE acc o.after.toList])
def orderB (cx : Cx) (ops : Array Oper) : Bool := chkO ops cx ops.toList [] []

theorem bit_and {a b : Nat} (h : a &&& b = 0) (t : Nat) (ha : a.testBit t = true) : b.testBit t = false := by
  have := congrArg (fun n => Nat.testBit n t) h
  simpa [ha] using this
theorem readsM_op (ops : Array Oper) (o : Oper) (t : Nat) : ∀ l : List Operand, .tmp t ∈ l → (readsM ops o l).testBit t = true
  | [], h => by cases h
  | x :: r, h => by
    rcases List.mem_cons.1 h with h | h
    · subst h; simp [readsM, Nat.testBit_or]
    · have := readsM_op ops o t r h
      unfold readsM
      split <;> simp [Nat.testBit_or, this]
theorem readsM_guard (ops : Array Oper) (o : Oper) {j : Nat} {w : Bool} {s : Nat} (hg : o.guard = some (j, w)) (hd : dstOf ops j = some s) : ∀ l : List Operand, (readsM ops o l).testBit s = true
  | [] => by simp [readsM, hg, hd]
  | x :: r => by
    have := readsM_guard ops o hg hd r
    unfold readsM
    split <;> simp [Nat.testBit_or, this]
theorem dstM_some {o : Oper} {s : Nat} (h : o.dst = some s) : (dstM o).testBit s = true := by simp [dstM, h]
structure Apart (ops : Array Oper) (cx : Cx) (a b : Oper) : Prop where
  cls : clash2 (clsOf cx a.op) (clsOf cx b.op) = false ∨ (cx.dyn = true ∧ farM ops a.op b.op = true)
  ab : ∀ s, a.dst = some s → Away ops s b
  ba : ∀ s, b.dst = some s → Away ops s a
theorem apart_of {ops : Array Oper} {cx : Cx} {a b : Oper} (h : apartM ops cx a b = true) : Apart ops cx a b := by
  unfold apartM at h
  simp only [Bool.and_eq_true, Bool.or_eq_true, Bool.not_eq_true'] at h
  obtain ⟨⟨h1, h2⟩, h3⟩ := h
  have h2 := Nat.eq_of_beq_eq_true h2
  have h3 := Nat.eq_of_beq_eq_true h3
  refine ⟨h1, fun s hs => ?_, fun s hs => ?_⟩
  · have := bit_and h2 s (dstM_some hs)
    simp only [Nat.testBit_or, Bool.or_eq_false_iff] at this
    refine ⟨fun z hz e => ?_, fun j w t hg hd e => ?_, fun e => ?_⟩
    · subst e; rw [readsM_op ops b s _ hz] at this; cases this.1
    · subst e; rw [readsM_guard ops b hg hd] at this; cases this.1
    · rw [dstM_some e] at this; cases this.2
  · have := bit_and h3 s (dstM_some hs)
    refine ⟨fun z hz e => ?_, fun j w t hg hd e => ?_, fun e => ?_⟩
    · subst e; rw [readsM_op ops a s _ hz] at this; cases this
    · subst e; rw [readsM_guard ops a hg hd] at this; cases this
    · have h4 := bit_and h2 s (dstM_some e)
      simp only [Nat.testBit_or, Bool.or_eq_false_iff] at h4
      rw [dstM_some hs] at h4; cases h4.2
theorem backE_spec {i : Nat} : ∀ (l : List Edge), backE i l = true → ∀ e ∈ l, Region.binds .any e = true → e.on < i
  | [], _, e, he => by cases he
  | x :: r, h, e, he => by
    simp only [backE, Bool.and_eq_true, Bool.or_eq_true, Bool.not_eq_true'] at h
    intro hb
    rcases List.mem_cons.1 he with rfl | he
    · rcases h.1 with h1 | h1
      · rw [hb] at h1; cases h1
      · exact Nat.lt_of_lt_of_le (Nat.lt_succ_self _) (Nat.le_of_ble_eq_true h1)
    · exact backE_spec r h.2 e he hb
theorem aheadE_spec (L : Nat → Prop) (acc : List Nat) : ∀ (l : List Edge), (∀ e ∈ l, Region.binds .any e = true → L e.on ∧ ∀ j, (acc.getD e.on 0).testBit j = true → L j) → ∀ j, (aheadE acc l).testBit j = true → L j
  | [], _, j, h => by simp [aheadE] at h
  | e :: r, hl, j, h => by
    unfold aheadE at h
    have ih := aheadE_spec L acc r (fun e he => hl e (by simp [he])) j
    cases hb : Region.binds .any e with
    | false => rw [hb] at h; exact ih h
    | true =>
      rw [hb, cond_true] at h
      obtain ⟨h1, h2⟩ := hl e (by simp) hb
      simp only [Nat.testBit_or, Bool.or_eq_true] at h
      rcases h with h | h | h
      · have : j = e.on := by
          rw [Nat.one_shiftLeft, Nat.testBit_two_pow] at h
          simpa using (of_decide_eq_true h).symm
        rw [this]; exact h1
      · exact h2 j h
      · exact ih h
theorem chkP_spec {ops : Array Oper} {cx : Cx} {o : Oper} {a : Nat} : ∀ (l : List Oper) (k : Nat), chkP ops cx o a k l = true → ∀ j p, l[j]? = some p → a.testBit (k + j) = true ∨ Apart ops cx p o
  | [], k, _, j, p, hp => by simp at hp
  | x :: r, k, h, j, p, hp => by
    simp only [chkP, Bool.and_eq_true, Bool.or_eq_true] at h
    rcases j with _ | j
    · simp at hp; subst hp
      rcases h.1 with h1 | h1
      · exact .inl h1
      · exact .inr (apart_of h1)
    · have := chkP_spec r (k + 1) h.2 j p (by simpa using hp)
      rwa [show k + 1 + j = k + (j + 1) by omega] at this
/-- Edges go back; an operation may be done ahead of those of the text that it does not wait for, if all that it waits for are done. -/
structure Ordered (ops : Array Oper) (cx : Cx) (l : List Oper) (acc : List Nat) : Prop where
  len : acc.length = l.length
  back : ∀ (i : Nat) o, l[i]? = some o → ∀ e ∈ o.after, Region.binds .any e = true → e.on < i
  ahead : ∀ (L : Nat → Prop), (∀ (i : Nat) o, l[i]? = some o → L i → ∀ e ∈ o.after, Region.binds .any e = true → L e.on) → ∀ (i : Nat) o, l[i]? = some o → (∀ e ∈ o.after, Region.binds .any e = true → L e.on) → ∀ j, (acc.getD i 0).testBit j = true → L j
  pair : ∀ (i j : Nat) o p, l[i]? = some o → l[j]? = some p → j < i → (acc.getD i 0).testBit j = true ∨ Apart ops cx p o
theorem chkO_spec {ops : Array Oper} {cx : Cx} : ∀ (l prev : List Oper) (acc : List Nat), Ordered ops cx prev acc → chkO ops cx l prev acc = true → ∃ acc', Ordered ops cx (prev ++ l) acc'
  | [], prev, acc, ho, _ => ⟨acc, by simpa using ho⟩
  | o :: r, prev, acc, ho, h => by
    simp only [chkO, Bool.and_eq_true] at h
    obtain ⟨⟨h1, h2⟩, h3⟩ := h
    have key : Ordered ops cx (prev ++ [o]) (acc ++ [aheadE acc o.after.toList]) := by
      have get : ∀ {i : Nat} {x : Oper}, (prev ++ [o])[i]? = some x → prev[i]? = some x ∨ (i = prev.length ∧ x = o) := by
        intro i x hx
        rcases Nat.lt_or_ge i prev.length with hl | hl
        · rw [List.getElem?_append_left hl] at hx; exact .inl hx
        · rw [List.getElem?_append_right hl] at hx
          have : i - prev.length = 0 := by
            rcases Nat.eq_zero_or_pos (i - prev.length) with h0 | h0
            · exact h0
            · rw [List.getElem?_eq_none (by simp; omega)] at hx; cases hx
          rw [this] at hx; simp at hx
          exact .inr ⟨by omega, hx.symm⟩
      have hlt : ∀ {i : Nat} {x : Oper}, prev[i]? = some x → i < prev.length := fun hx => (List.getElem?_eq_some_iff.1 hx).1
      have ga : ∀ {i : Nat}, i < prev.length → (acc ++ [aheadE acc o.after.toList]).getD i 0 = acc.getD i 0 := by
        intro i hi
        rw [List.getD_eq_getElem?_getD, List.getElem?_append_left (by rw [ho.len]; exact hi), ← List.getD_eq_getElem?_getD]
      have gl : (acc ++ [aheadE acc o.after.toList]).getD prev.length 0 = aheadE acc o.after.toList := by
        rw [List.getD_eq_getElem?_getD, List.getElem?_append_right (by rw [ho.len]; exact Nat.le_refl _), ho.len]; simp
      have hb := backE_spec _ h1
      refine ⟨by simp [ho.len], fun i x hx => ?_, fun L hL i x hx hw j hj => ?_, fun i j x p hx hp hji => ?_⟩
      · rcases get hx with hx | ⟨rfl, rfl⟩
        · exact ho.back i x hx
        · exact fun e he hbd => hb e (by simpa using he) hbd
      · have hL' : ∀ (i : Nat) o, prev[i]? = some o → L i → ∀ e ∈ o.after, Region.binds .any e = true → L e.on := fun i y hy => hL i y (by rw [List.getElem?_append_left (hlt hy)]; exact hy)
        rcases get hx with hx | ⟨rfl, rfl⟩
        · rw [ga (hlt hx)] at hj
          exact ho.ahead L hL' i x hx hw j hj
        · rw [gl] at hj
          refine aheadE_spec L acc _ (fun e he hbd => ?_) j hj
          have he' : e ∈ x.after := by simpa using he
          have hlt' := hb e he hbd
          refine ⟨hw e he' hbd, ?_⟩
          have hy : prev[e.on]? = some prev[e.on] := List.getElem?_eq_getElem hlt'
          exact ho.ahead L hL' e.on _ hy (hL' e.on _ hy (hw e he' hbd))
      · rcases get hx with hx1 | ⟨rfl, rfl⟩
        · rw [ga (hlt hx1)]
          rcases get hp with hp | ⟨rfl, rfl⟩
          · exact ho.pair i j x p hx1 hp hji
          · have := hlt hx1; omega
        · rw [gl]
          rcases get hp with hp | ⟨rfl, rfl⟩
          · have := chkP_spec prev 0 h2 j p hp
            rwa [Nat.zero_add] at this
          · omega
    obtain ⟨acc', ha⟩ := chkO_spec r _ _ key h3
    exact ⟨acc', by simpa using ha⟩
theorem ordered_of {ops : Array Oper} {cx : Cx} (h : orderB cx ops = true) : ∃ acc, Ordered ops cx ops.toList acc := by
  have h0 : Ordered ops cx [] [] := ⟨rfl, fun i o ho => by simp at ho, fun L _ i o ho => by simp at ho, fun i j o p ho => by simp at ho⟩
  simpa using chkO_spec ops.toList [] [] h0 h

section
variable {R : Type} {cx : Cx} {ops : Array Oper}
/-- What is loaded is there. -/
def Good (cx : Cx) (i : Oper) (slots : List D) (m : Mem) : Prop := ∀ t z, i.op = .load t z → ∀ k s o, evalD cx.T slots 0 z = .ptr k s o → ∃ b, m.box? k s = some b
def Grown (m m' : Mem) : Prop := ∀ k s b, m.box? k s = some b → m'.box? k s = some b
theorem Good.put {x i : Oper} {slots : List D} {m m' : Mem} (h : Good cx i slots m) (hx : ∀ s, x.dst = some s → Away ops s i) (hm : Grown m m') (d : D) : Good cx i (put slots x.dst d) m' := by
  intro t z hz k s o he
  have : evalD cx.T (En.put slots x.dst d) 0 z = evalD cx.T slots 0 z := by
    cases hd : x.dst with
    | none => rfl
    | some y => exact evalD_set slots y _ 0 z ((hx y hd).reads z (by rw [hz]; simp [Op.operands]))
  rw [this] at he
  obtain ⟨b, hb⟩ := h t z hz k s o he
  exact ⟨b, hm _ _ _ hb⟩
def isA (cx : Cx) (op : Op) : Bool := match clsOf cx op with | .a => true | _ => false
theorem isA_alloc {op : Op} (h : isA cx op = true) : ∃ t, op = .alloc t := by
  unfold isA clsOf at h
  split at h <;> try cases h
  all_goals rename_i heq
  all_goals split at heq
  all_goals first | exact ⟨_, rfl⟩ | cases heq | (split at heq <;> first | cases heq | (split at heq <;> cases heq))
theorem alloc_grown {T : TypeId → Option Ty} {dst : Nat} {oty t : TypeId} {slots : List D} {m : Mem} {dead : List Pos} {d : D} {m' : Mem} {dd : List Pos}
    (h : opK T dst oty slots (.alloc t) m dead (fun d m dd => some (d, m, dd)) = some (d, m', dd)) : Grown m m' := by
  simp only [opK] at h
  split at h
  · unfold newBoxK at h
    split at h
    · rename_i fr out
      split at h
      · rename_i hn
        obtain ⟨cs, d2, h⟩ := cellsK_out _ _ _ _ _ h
        rw [memPutK_eq] at h
        injection h with h
        injection h with h0 h
        injection h with h1 h2
        subst h1
        intro k s b hb
        rw [box_set, if_neg]
        · exact hb
        · rintro ⟨rfl, rfl, _⟩
          simp only [Mem.box?] at hb
          rw [hn] at hb; cases hb
      · cases h
    · cases h
  · cases h
/-- A step that only reads, or makes a variable. -/
theorem step_grown (hB : PureB cx) {x : Oper} (hx : isVal cx x.op = true ∨ isA cx x.op = true) {slots : List D} {m : Mem} {dead : List Pos} {d : D} {m' : Mem} {dd : List Pos}
    (h : ∀ (R' : Type) (K' : St → Option R'), stepK cx ops x ⟨slots, m, dead⟩ K' = K' ⟨put slots x.dst d, m', dd⟩) : Grown m m' := by
  have h1 := h St some
  rcases hx with hx | hx
  · rw [step_val hB hx] at h1
    obtain ⟨e, _, h2⟩ := bind_some h1
    injection h2 with h2; injection h2 with _ h2 _; subst h2
    exact fun _ _ _ hb => hb
  · obtain ⟨t, ht⟩ := isA_alloc hx
    rw [stepK_eq] at h1
    cases hw : wants ops x slots with
    | none => rw [hw] at h1; cases h1
    | some b =>
      rw [hw] at h1
      cases b
      · simp only [actK, skipK_eq] at h1
        injection h1 with h2; injection h2 with _ h2 _; subst h2
        exact fun _ _ _ hb => hb
      · simp only [actK] at h1
        rw [takeK_eq x (by simp [notC, ht, clsOf])] at h1
        have hr : ∀ (R' : Type) (K' : Bool → D → Mem → List Pos → Option R'), runK cx x slots m dead K' = opK cx.T (x.dst.getD 0) x.type slots (.alloc t) m dead (K' false) := by
          intro R' K'; unfold runK; rw [ht]
        rw [hr, ← opK_b cx] at h1
        obtain ⟨p, h3, h4⟩ := bind_some h1
        injection h4 with h4; injection h4 with _ h4 _
        obtain ⟨p1, p2, p3⟩ := p
        simp only at h4; subst h4
        exact alloc_grown h3
theorem loadK_grown {T : TypeId → Option Ty} {t : TypeId} {a : D} {m m' : Mem} (hm : Grown m m') (hg : ∀ k s o, a = .ptr k s o → ∃ b, m.box? k s = some b) (K : D → Option R) : loadK T t a m' K = loadK T t a m K := by
  unfold loadK
  split
  · split
    · rename_i k s o
      obtain ⟨b, hb⟩ := hg k s o rfl
      rw [hb, hm _ _ _ hb]
    · rfl
    · rfl
  · rfl
theorem loadK_ptr {T : TypeId → Option Ty} {t : TypeId} {m : Mem} {k s o : Nat} {K : D → Option R} {r : R} (h : loadK T t (.ptr k s o) m K = some r) : ∃ b, m.box? k s = some b := by
  unfold loadK at h
  split at h
  · simp only at h
    split at h
    · rename_i b hb; exact ⟨b, hb⟩
    · cases h
  · cases h
theorem val_cases {op : Op} (h : isVal cx op = true) : isN cx op = true ∨ ∃ t z, op = .load t z := by
  unfold isVal at h
  unfold isN
  cases hc : clsOf cx op with
  | n => exact .inl rfl
  | r =>
    refine .inr ?_
    unfold clsOf at hc
    split at hc <;> try cases hc
    · exact ⟨_, _, rfl⟩
    · split at hc <;> first | cases hc | (split at hc <;> cases hc)
  | _ => rw [hc] at h; cases h
theorem valR_load {o : Oper} {t : TypeId} {z : Operand} (hz : o.op = .load t z) (slots : List D) (m : Mem) : valR cx o slots m = loadK cx.T t (evalD cx.T slots 0 z) m some := by
  unfold valR runK
  rw [hz]
  simp only [opK, evK_eq]
theorem valS_grown {i : Oper} (hi : isVal cx i.op = true) {slots : List D} {m m' : Mem} (hm : Grown m m') (hg : Good cx i slots m) : valS cx ops i slots m' = valS cx ops i slots m := by
  rcases val_cases hi with h | ⟨t, z, hz⟩
  · exact valS_mem h _ _ _
  · unfold valS
    rw [valR_load hz, valR_load hz, loadK_grown hm (hg t z hz)]
theorem good_of_val {i : Oper} {slots : List D} {m : Mem} {d : D} (hw : wants ops i slots = some true) (h : valS cx ops i slots m = some d) : Good cx i slots m := by
  intro t z hz k s o he
  unfold valS at h
  rw [hw] at h
  simp only [valR_load hz, he] at h
  exact loadK_ptr h
theorem cls_cases {a b : Op} (h : clash2 (clsOf cx a) (clsOf cx b) = false) :
    notC cx a = true ∧ notC cx b = true ∧ (isN cx a = true ∨ isN cx b = true ∨ (isVal cx a = true ∧ isVal cx b = true) ∨ (isVal cx a = true ∧ isA cx b = true) ∨ (isA cx a = true ∧ isVal cx b = true)) := by
  unfold notC isN isVal isA
  cases ha : clsOf cx a <;> cases hb : clsOf cx b <;> rw [ha, hb] at h <;> simp [clash2] at h ⊢
/-- An operation comes ahead of one that is apart from it. -/
theorem swap1 (hB : PureB cx) {x i : Oper} (ha : Apart ops cx x i) (hcls : clash2 (clsOf cx x.op) (clsOf cx i.op) = false) {slots : List D} {m : Mem} {dead : List Pos} (hg : Good cx i slots m) {K : St → Option R} {r : R}
    (h : stepK cx ops x ⟨slots, m, dead⟩ (fun s => stepK cx ops i s K) = some r) : stepK cx ops i ⟨slots, m, dead⟩ (fun s => stepK cx ops x s K) = some r := by
  obtain ⟨hcx, hci, hcl⟩ := cls_cases hcls
  have hval : isN cx i.op = true → stepK cx ops i ⟨slots, m, dead⟩ (fun s => stepK cx ops x s K) = some r := by
    intro hn
    obtain ⟨d, m', dd, h1, h2⟩ := step_fun hB hcx h
    rw [step_val hB (isVal_of_N hn)] at h1
    obtain ⟨e, h3, h4⟩ := bind_some h1
    rw [put_away ha.ab, valS_mem hn _ _ m] at h3
    rw [← swap_val' hB hcx (isVal_of_N hn) ha.ab ha.ba (.inl hn) slots m dead K h3]
    exact h
  have hval2 : isVal cx x.op = true → isN cx x.op = true ∨ isVal cx i.op = true → stepK cx ops i ⟨slots, m, dead⟩ (fun s => stepK cx ops x s K) = some r := by
    intro hv hn
    rcases swap_val hB hv hci ha.ab ha.ba hn slots m dead K with h1 | h1
    · rw [← h1]; exact h
    · rw [h1] at h; cases h
  rcases hcl with hn | hn | ⟨h1, h2⟩ | ⟨h1, h2⟩ | ⟨h1, h2⟩
  · exact hval2 (isVal_of_N hn) (.inl hn)
  · exact hval hn
  · exact hval2 h1 (.inr h2)
  · -- x reads, i makes a variable
    rw [step_val hB h1] at h
    obtain ⟨d, h3, h4⟩ := bind_some h
    rw [step_put ha.ab hci] at h4
    obtain ⟨e, m', dd, h5, h6⟩ := step_fun hB hci h4
    have hgr := step_grown hB (.inr h2) h6
    rw [h6 R fun s => stepK cx ops x s K]
    rw [step_val hB h1, put_away ha.ba]
    have hx : valS cx ops x slots m' = some d := by
      cases hw : wants ops x slots with
      | none => unfold valS at h3; rw [hw] at h3; cases h3
      | some b =>
        cases b with
        | false => unfold valS at h3 ⊢; rw [hw] at h3 ⊢; exact h3
        | true => rw [valS_grown h1 hgr (good_of_val hw h3)]; exact h3
    rw [hx, Option.bind_some]
    exact h5
  · -- x makes a variable, i reads
    obtain ⟨d, m', dd, h3, h4⟩ := step_fun hB hcx h
    have hgr := step_grown hB (.inr h1) h4
    rw [step_val hB h2, put_away ha.ab, valS_grown h2 hgr hg] at h3
    obtain ⟨e, h5, h6⟩ := bind_some h3
    rw [step_val hB h2, h5, Option.bind_some, step_put ha.ba hcx, h4]
    exact h6
theorem far_cases {a b : Op} (h : farM ops a b = true) : (∃ t i t' j v, a = .load t (.tmp i) ∧ b = .store t' (.tmp j) v ∧ rootN ops 20 i ≠ rootN ops 20 j) ∨ (∃ t i t' j v, a = .store t' (.tmp j) v ∧ b = .load t (.tmp i) ∧ rootN ops 20 i ≠ rootN ops 20 j) := by
  unfold farM at h
  split at h
  · refine .inl ⟨_, _, _, _, _, rfl, rfl, fun e => ?_⟩
    rw [e] at h; simp at h
  · refine .inr ⟨_, _, _, _, _, rfl, rfl, fun e => ?_⟩
    rw [e] at h; simp at h
  · cases h
/-- A store leaves the other variables alone. -/
theorem store_far {i : Oper} {t : TypeId} {j : Nat} {v : Operand} (hi : i.op = .store t (.tmp j) v) {slots : List D} {m : Mem} {dead : List Pos} {root : Nat} (hr : ∀ k q o, slots.getD j .any = .ptr k q o → k = 0 ∧ q = root) {d : D} {m' : Mem} {dd : List Pos}
    (h : ∀ (R' : Type) (K' : St → Option R'), stepK cx ops i ⟨slots, m, dead⟩ K' = K' ⟨put slots i.dst d, m', dd⟩) : ∀ k s, ¬ (k = 0 ∧ s = root) → m'.box? k s = m.box? k s := by
  have h1 := h St some
  rw [stepK_eq] at h1
  cases hw : wants ops i slots with
  | none => rw [hw] at h1; cases h1
  | some b =>
    rw [hw] at h1
    cases b
    · simp only [actK, skipK_eq] at h1
      injection h1 with h2; injection h2 with _ h2 _; subst h2
      exact fun _ _ _ => rfl
    · simp only [actK] at h1
      rw [takeK_eq i (by simp [notC, hi, clsOf])] at h1
      have hrk : ∀ (R' : Type) (K' : Bool → D → Mem → List Pos → Option R'), runK cx i slots m dead K' = opK cx.T (i.dst.getD 0) i.type slots (.store t (.tmp j) v) m dead (K' false) := by
        intro R' K'; unfold runK; rw [hi]
      rw [hrk, ← opK_b cx] at h1
      obtain ⟨p, h3, h4⟩ := bind_some h1
      injection h4 with h4; injection h4 with _ h4 _
      obtain ⟨p1, p2, p3⟩ := p
      simp only at h4; subst h4
      simp only [opK, evK_eq] at h3
      have he : evalD cx.T slots 0 (.tmp j) = slots.getD j .any := by simp only [evalD]
      rw [he] at h3
      unfold storeK at h3
      split at h3
      · split at h3
        · rename_i k s o hd
          obtain ⟨rfl, rfl⟩ := hr k s o hd
          split at h3
          · rename_i bx hbx
            cases hc : (Nat.beq (cellsOf (evalD cx.T slots t v)).length _ && Nat.ble _ bx.cells.length) with
            | false => rw [hc] at h3; cases h3
            | true =>
              rw [hc, cond_true] at h3
              obtain ⟨cs, d2, h3⟩ := cellsK_out _ _ _ _ _ h3
              rw [setRK_eq, memPutK_eq] at h3
              injection h3 with h3
              injection h3 with _ h3
              injection h3 with h3 _
              subst h3
              intro k' s' hne
              rw [box_set, if_neg (fun e => hne ⟨e.1, e.2.1⟩)]
          · cases h3
        · cases h3
      · cases h3
theorem load_far {x : Oper} {t : TypeId} {i : Nat} (hx : x.op = .load t (.tmp i)) {slots : List D} {m m' : Mem} {rx root : Nat} (hr : ∀ k q o, slots.getD i .any = .ptr k q o → k = 0 ∧ q = rx) (hne : rx ≠ root)
    (hm : ∀ k s, ¬ (k = 0 ∧ s = root) → m'.box? k s = m.box? k s) : valS cx ops x slots m' = valS cx ops x slots m := by
  unfold valS
  have he : evalD cx.T slots 0 (.tmp i) = slots.getD i .any := by simp only [evalD]
  rw [valR_load hx, valR_load hx, he]
  have : loadK cx.T t (slots.getD i .any) m' some = loadK cx.T t (slots.getD i .any) m some := by
    unfold loadK
    split
    · split
      · rename_i k s o hd
        obtain ⟨rfl, rfl⟩ := hr k s o hd
        rw [hm 0 s (fun e => hne e.2)]
      · rfl
      · rfl
    · rfl
  rw [this]
theorem swapF (hB : PureB cx) {x i : Oper} (ha : Apart ops cx x i) (hd : cx.dyn = true) (hf : farM ops x.op i.op = true) {slots : List D} {m : Mem} {dead : List Pos} (hrx : RootOK cx ops x.op slots) (hri : RootOK cx ops i.op slots) {K : St → Option R} {r : R}
    (h : stepK cx ops x ⟨slots, m, dead⟩ (fun s => stepK cx ops i s K) = some r) : stepK cx ops i ⟨slots, m, dead⟩ (fun s => stepK cx ops x s K) = some r := by
  rcases far_cases hf with ⟨t, a, t', b, v, e1, e2, hne⟩ | ⟨t, a, t', b, v, e1, e2, hne⟩
  · -- x reads, i stores
    have h1 : isVal cx x.op = true := by rw [e1]; rfl
    have hci : notC cx i.op = true := by rw [e2]; rfl
    obtain ⟨j1, q1, r1⟩ := hrx hd _ (.inl ⟨t, e1⟩)
    obtain ⟨j2, q2, r2⟩ := hri hd _ (.inr ⟨t', v, e2⟩)
    injection q1 with q1; subst q1
    injection q2 with q2; subst q2
    rw [step_val hB h1] at h
    obtain ⟨d, h3, h4⟩ := bind_some h
    rw [step_put ha.ab hci] at h4
    obtain ⟨e, m', dd, h5, h6⟩ := step_fun hB hci h4
    rw [h6 R fun s => stepK cx ops x s K]
    rw [step_val hB h1, put_away ha.ba, load_far e1 r1 hne (store_far e2 r2 h6), h3, Option.bind_some]
    exact h5
  · -- x stores, i reads
    have h2 : isVal cx i.op = true := by rw [e2]; rfl
    have hcx : notC cx x.op = true := by rw [e1]; rfl
    obtain ⟨j1, q1, r1⟩ := hrx hd _ (.inr ⟨t', v, e1⟩)
    obtain ⟨j2, q2, r2⟩ := hri hd _ (.inl ⟨t, e2⟩)
    injection q1 with q1; subst q1
    injection q2 with q2; subst q2
    obtain ⟨d, m', dd, h3, h4⟩ := step_fun hB hcx h
    rw [step_val hB h2, put_away ha.ab, load_far e2 r2 hne (store_far e1 r1 h4)] at h3
    obtain ⟨e, h5, h6⟩ := bind_some h3
    rw [step_val hB h2, h5, Option.bind_some, step_put ha.ba hcx, h4]
    exact h6
theorem RootOK.put {x i : Oper} {slots : List D} (h : RootOK cx ops i.op slots) (hx : ∀ s, x.dst = some s → Away ops s i) (d : D) : RootOK cx ops i.op (put slots x.dst d) := by
  intro hd z hz
  obtain ⟨j, rfl, hj⟩ := h hd z hz
  refine ⟨j, rfl, fun k q o he => hj k q o ?_⟩
  rw [← he]
  have h1 : (evalD cx.T (En.put slots x.dst d) 0 (.tmp j)) = evalD cx.T slots 0 (.tmp j) := by
    cases hxd : x.dst with
    | none => rfl
    | some y =>
      refine evalD_set slots y _ 0 _ ((hx y hxd).reads _ ?_)
      rcases hz with ⟨t, e⟩ | ⟨t, v, e⟩ <;> rw [e] <;> simp [Op.operands]
  simp only [evalD] at h1
  exact h1.symm
theorem RootOK.unput {x i : Oper} {slots : List D} {d : D} (h : RootOK cx ops i.op (En.put slots x.dst d)) (hx : ∀ s, x.dst = some s → Away ops s i) : RootOK cx ops i.op slots := by
  intro hd z hz
  obtain ⟨j, rfl, hj⟩ := h hd z hz
  refine ⟨j, rfl, fun k q o he => hj k q o ?_⟩
  rw [← he]
  have h1 : (evalD cx.T (En.put slots x.dst d) 0 (.tmp j)) = evalD cx.T slots 0 (.tmp j) := by
    cases hxd : x.dst with
    | none => rfl
    | some y =>
      refine evalD_set slots y _ 0 _ ((hx y hxd).reads _ ?_)
      rcases hz with ⟨t, e⟩ | ⟨t, v, e⟩ <;> rw [e] <;> simp [Op.operands]
  simp only [evalD] at h1
  exact h1
theorem apart_notC {x i : Oper} (ha : Apart ops cx x i) : notC cx x.op = true ∧ notC cx i.op = true := by
  rcases ha.cls with h | ⟨_, h⟩
  · obtain ⟨h1, h2, _⟩ := cls_cases h; exact ⟨h1, h2⟩
  · rcases far_cases h with ⟨t, a, t', b, v, e1, e2, _⟩ | ⟨t, a, t', b, v, e1, e2, _⟩ <;> rw [e1, e2] <;> exact ⟨rfl, rfl⟩
/-- What the run of the text says of an operation that comes later. -/
theorem root_ahead (hB : PureB cx) {i : Oper} {K : St → Option R} {r : R} (B : List Oper) : ∀ (A : List Oper) (slots : List D) (m : Mem) (dead : List Pos), (∀ x ∈ A, Apart ops cx x i) → opsK cx ops (A ++ i :: B) ⟨slots, m, dead⟩ K = some r → RootOK cx ops i.op slots
  | [], slots, m, dead, _, h => (rootK_some h).1
  | x :: A, slots, m, dead, hA, h => by
    simp only [List.cons_append, opsK] at h
    obtain ⟨_, h⟩ := rootK_some h
    have hax := hA x (by simp)
    obtain ⟨d, m', dd, h1, _⟩ := step_fun hB (apart_notC hax).1 h
    exact (root_ahead hB B A _ _ _ (fun y hy => hA y (by simp [hy])) h1).unput hax.ab
/-- An operation comes ahead of all that are apart from it. -/
theorem bubble (hB : PureB cx) {i : Oper} {K : St → Option R} {r : R} (B : List Oper) : ∀ (A : List Oper) (slots : List D) (m : Mem) (dead : List Pos), (∀ x ∈ A, Apart ops cx x i) → Good cx i slots m →
    opsK cx ops (A ++ i :: B) ⟨slots, m, dead⟩ K = some r → stepK cx ops i ⟨slots, m, dead⟩ (fun s => opsK cx ops (A ++ B) s K) = some r
  | [], slots, m, dead, _, _, h => (rootK_some h).2
  | x :: A, slots, m, dead, hA, hg, h => by
    have hri := root_ahead hB B (x :: A) slots m dead hA h
    simp only [List.cons_append, opsK] at h ⊢
    obtain ⟨hrx, h⟩ := rootK_some h
    have hax := hA x (by simp)
    obtain ⟨hcx, hci⟩ := apart_notC hax
    obtain ⟨d, m', dd, h1, h2⟩ := step_fun hB hcx h
    have hgood : Good cx i (put slots x.dst d) m' := by
      by_cases hl : ∃ t z, i.op = .load t z
      · obtain ⟨t, z, hz⟩ := hl
        rcases hax.cls with hcl2 | ⟨hdy, hfar⟩
        · refine hg.put hax.ab (step_grown hB ?_ h2) d
          have : clsOf cx i.op = .r := by rw [hz]; rfl
          rw [this] at hcl2
          unfold isVal isA
          cases hc : clsOf cx x.op <;> rw [hc] at hcl2 <;> simp [clash2] at hcl2 ⊢
        · rcases far_cases hfar with ⟨t1, a, t', b, v, e1, e2, hne⟩ | ⟨t1, a, t', b, v, e1, e2, hne⟩
          · rw [hz] at e2; cases e2
          · obtain ⟨j1, q1, r1⟩ := hrx hdy _ (.inr ⟨t', v, e1⟩)
            injection q1 with q1; subst q1
            intro t3 z3 hz3 k s o he
            rw [hz3] at e2; injection e2 with _ e2; subst e2
            have hri2 := (hri.put hax.ab d)
            obtain ⟨j2, q2, r2⟩ := hri2 hdy _ (.inl ⟨t3, hz3⟩)
            injection q2 with q2; subst q2
            obtain ⟨rfl, rfl⟩ := r2 k s o (by simpa only [evalD] using he)
            rw [store_far e1 r1 h2 _ _ (fun e => hne e.2)]
            refine hg t3 _ hz3 0 _ o ?_
            rw [← he]
            cases hxd : x.dst with
            | none => rfl
            | some y => exact (evalD_set slots y _ 0 _ ((hax.ab y hxd).reads _ (by rw [hz3]; simp [Op.operands]))).symm
      · intro t z hz
        exact absurd ⟨t, z, hz⟩ hl
    have h3 := bubble hB B A _ _ _ (fun y hy => hA y (by simp [hy])) hgood h1
    have h4 : stepK cx ops i ⟨slots, m, dead⟩ (fun s => stepK cx ops x s fun s' => opsK cx ops (A ++ B) s' K) = some r := by
      rcases hax.cls with hcl2 | ⟨hdy, hfar⟩
      · exact swap1 hB hax hcl2 hg (by rw [h2]; exact h3)
      · exact swapF hB hax hdy hfar hrx hri (by rw [h2]; exact h3)
    obtain ⟨e, m2, d2, h5, h6⟩ := step_fun hB hci h4
    rw [h6]
    show rootK cx ops x.op (put slots i.dst e) _ = some r
    rw [rootK_of (hrx.put hax.ba e)]
    exact h5
/-- What is still to do. -/
def todo (listed : Array Bool) : Nat → List Oper → List Oper
  | _, [] => []
  | k, o :: r => cond (listed.getD k false) (todo listed (k + 1) r) (o :: todo listed (k + 1) r)
theorem todo_split {listed : Array Bool} : ∀ (l : List Oper) (k i : Nat) (o : Oper), l[i]? = some o → listed.getD (k + i) true = false →
    ∃ A B, todo listed k l = A ++ o :: B ∧ todo (listed.setIfInBounds (k + i) true) k l = A ++ B ∧ ∀ x ∈ A, ∃ j, j < i ∧ l[j]? = some x ∧ listed.getD (k + j) false = false
  | [], k, i, o, h, _ => by simp at h
  | x :: r, k, 0, o, h, hn => by
    simp at h; subst h
    have hlt : k < listed.size := by
      rcases Nat.lt_or_ge k listed.size with h' | h'
      · exact h'
      · simp [Array.getD_eq_getD_getElem?, Array.getElem?_eq_none h'] at hn
    have hn' : listed.getD k false = false := by
      simp only [Nat.add_zero] at hn
      rw [Array.getD_eq_getD_getElem?, Array.getElem?_eq_getElem hlt] at hn ⊢; exact hn
    refine ⟨[], todo listed (k + 1) r, ?_, ?_, fun x hx => by cases hx⟩
    · simp [todo, hn']
    · have h1 : (listed.setIfInBounds (k + 0) true).getD k false = true := by simp [Array.getD_eq_getD_getElem?, hlt]
      have h2 : ∀ (l : List Oper) (k' : Nat), k < k' → todo (listed.setIfInBounds (k + 0) true) k' l = todo listed k' l := by
        intro l
        induction l with
        | nil => intro k' _; rfl
        | cons y l ih =>
          intro k' hk
          unfold todo
          rw [getD_set_ne false (by omega), ih (k' + 1) (by omega)]
      have h3 : todo (listed.setIfInBounds (k + 0) true) k (x :: r) = cond ((listed.setIfInBounds (k + 0) true).getD k false) (todo (listed.setIfInBounds (k + 0) true) (k + 1) r) (x :: todo (listed.setIfInBounds (k + 0) true) (k + 1) r) := rfl
      rw [h3, h1, cond_true, h2 r (k + 1) (by omega)]
      rfl
  | x :: r, k, i + 1, o, h, hn => by
    obtain ⟨A, B, h1, h2, h3⟩ := todo_split (listed := listed) r (k + 1) i o (by simpa using h) (by rw [show k + 1 + i = k + (i + 1) by omega]; exact hn)
    rw [show k + 1 + i = k + (i + 1) by omega] at h2
    have hs : (listed.setIfInBounds (k + (i + 1)) true).getD k false = listed.getD k false := getD_set_ne false (by omega)
    unfold todo
    rw [hs]
    cases hx : listed.getD k false with
    | true =>
      refine ⟨A, B, by rw [cond_true]; exact h1, by rw [cond_true]; exact h2, fun y hy => ?_⟩
      obtain ⟨j, a1, a2, a3⟩ := h3 y hy
      exact ⟨j + 1, by omega, by simpa using a2, by rw [show k + (j + 1) = k + 1 + j by omega]; exact a3⟩
    | false =>
      refine ⟨x :: A, B, by rw [cond_false, h1]; rfl, by rw [cond_false, h2]; rfl, fun y hy => ?_⟩
      rcases List.mem_cons.1 hy with rfl | hy
      · exact ⟨0, by omega, by simp, hx⟩
      · obtain ⟨j, a1, a2, a3⟩ := h3 y hy
        exact ⟨j + 1, by omega, by simpa using a2, by rw [show k + (j + 1) = k + 1 + j by omega]; exact a3⟩
theorem todo_all {listed : Array Bool} : ∀ (l : List Oper) (k : Nat), (∀ i, i < l.length → listed.getD (k + i) false = true) → todo listed k l = []
  | [], _, _ => rfl
  | x :: r, k, h => by
    unfold todo
    rw [show listed.getD k false = true from h 0 (by simp), cond_true]
    exact todo_all r (k + 1) fun i hi => by rw [show k + 1 + i = k + (i + 1) by omega]; exact h (i + 1) (by simp; omega)
theorem todo_none {listed : Array Bool} : ∀ (l : List Oper) (k : Nat), (∀ i, i < l.length → listed.getD (k + i) false = false) → todo listed k l = l
  | [], _, _ => rfl
  | x :: r, k, h => by
    unfold todo
    rw [show listed.getD k false = false from h 0 (by simp), cond_false, todo_none r (k + 1) fun i hi => by rw [show k + 1 + i = k + (i + 1) by omega]; exact h (i + 1) (by simp; omega)]
def done (listed : Array Bool) : Nat := listed.toList.countP (· = true)
theorem done_set {listed : Array Bool} {i : Nat} (hi : i < listed.size) (h : listed.getD i true = false) : done (listed.setIfInBounds i true) = done listed + 1 := by
  have hf : listed[i] = false := by rw [Array.getD_eq_getD_getElem?, Array.getElem?_eq_getElem hi] at h; simpa using h
  unfold done
  rw [Array.toList_setIfInBounds]
  have hl : listed.toList = listed.toList.take i ++ listed.toList[i]'(by simpa using hi) :: listed.toList.drop (i + 1) := by
    conv => lhs; rw [← List.take_append_drop i listed.toList, List.drop_eq_getElem_cons (by simpa using hi)]
  rw [List.set_eq_take_append_cons_drop, if_pos (by simpa using hi)]
  conv => rhs; rw [hl]
  simp [List.countP_append, hf]
  omega
theorem done_le (listed : Array Bool) : done listed ≤ listed.size := by
  unfold done; rw [← Array.length_toList]; exact List.countP_le_length
end

section
variable {R : Type} {P : Program} {E : Env} {g : G} {w : World} {cx : Cx} {ops : Array Oper}
theorem Sim.good {i : Oper} {slots : List D} {m : Mem} {dead : List Pos} {a : Act} (hs : Sim cx.T E g w ⟨slots, m, dead⟩ a) : Good cx i slots m := by
  intro t z _ k s o he
  have h := hs.slots.ev (T := cx.T) 0 z
  rw [he] at h
  generalize a.eval z = v at h
  cases h with
  | ptr k s o hk hd =>
    rw [hs.here.dom] at hd
    exact hd
theorem Sim.drew {st : St} {a : Act} (hs : Sim cx.T E g w st a) : ∃ g', Sim cx.T E g' w.drew st a ∧ Tr E.d g w g' w.drew :=
  ⟨g.at_ w.heap.size .imm, ⟨here_grow (Grows.drew w) (Nat.le_refl _) _ hs.here, fun s x hx => (hs.slots s x hx).keep (keeps_grow (Grows.drew w) (Nat.le_refl _) _), hs.size, hs.defers⟩, tr_grow (Grows.drew w) (Nat.le_refl _) _ _⟩
theorem any_sound (hcx : CxOK P cx) {acc : List Nat} (ho : Ordered ops cx ops.toList acc) {n : Nat} {K : St → Option R} {r : R} {Q : Exit → Act → World → Prop} :
    ∀ (fuel : Nat) (listed : Array Bool) (st : St) (a : Act) (w : World) (E : Env) (g : G), fuel + done listed = ops.size → listed.size = ops.size →
      (∀ (i : Nat) o, ops.toList[i]? = some o → listed.getD i false = true → ∀ e ∈ o.after, Region.binds .any e = true → listed.getD e.on false = true) →
      Sim cx.T E g w st a → a.tmps.size = n → opsK cx ops (todo listed 0 ops.toList) st K = some r →
      (∀ st' a' w', K st' = some r → Then cx.T E g w n st' a' w' → Q .normal a' w') → wpAny P .any ops Q fuel listed a w := by
  have hdone : ∀ (listed : Array Bool), listed.size = ops.size → Region.ready .any ops listed = [] → ∀ j, j < ops.size → listed.getD j false = true := by
    intro listed hsz hr j
    induction j using Nat.strongRecOn with
    | _ j ih =>
      intro hj
      have hoj : ops[j]? = some ops[j] := Array.getElem?_eq_getElem hj
      have hjl : j < listed.size := by rw [hsz]; exact hj
      cases hl : listed.getD j false with
      | true => rfl
      | false =>
        have : j ∈ Region.ready .any ops listed := mem_ready.2 ⟨by
          rw [Array.getD_eq_getD_getElem?, Array.getElem?_eq_getElem hjl] at hl ⊢; exact hl, _, hoj, fun e he hb => by
          have hlt := ho.back j _ (by simp) e he hb
          exact ih e.on hlt (by omega)⟩
        rw [hr] at this; cases this
  have hfin : ∀ (listed : Array Bool) (st : St) (a : Act) (w : World) (E : Env) (g : G), (∀ j, j < ops.size → listed.getD j false = true) → Sim cx.T E g w st a → a.tmps.size = n → opsK cx ops (todo listed 0 ops.toList) st K = some r →
      (∀ st' a' w', K st' = some r → Then cx.T E g w n st' a' w' → Q .normal a' w') → Q .normal a w := by
    intro listed st a w E g hall hs hn h hq
    rw [todo_all ops.toList 0 (fun i hi => by rw [Nat.zero_add]; exact hall i (by rw [← Array.length_toList]; exact hi))] at h
    exact hq st a w h ⟨E, g, hs, rfl, Tr.refl _ _ _, hn⟩
  intro fuel
  induction fuel with
  | zero =>
    intro listed st a w E g hm hsz hcl hs hn h hq
    have hall : ∀ j, j < ops.size → listed.getD j false = true := by
      intro j hj
      have hjl : j < listed.size := by rw [hsz]; exact hj
      cases hl : listed.getD j false with
      | true => rfl
      | false =>
        have h1 := done_set (listed := listed) hjl (by rw [Array.getD_eq_getD_getElem?, Array.getElem?_eq_getElem hjl] at hl ⊢; exact hl)
        have h2 := done_le (listed.setIfInBounds j true)
        rw [Array.size_setIfInBounds, hsz] at h2
        omega
    refine ⟨?_, hfin listed st a w E g hall hs hn h hq⟩
    rcases hr : Region.ready .any ops listed with _ | ⟨j, l⟩
    · rfl
    · have hj : j ∈ Region.ready .any ops listed := by rw [hr]; exact List.mem_cons_self
      obtain ⟨hun, o, hoj, _⟩ := mem_ready.1 hj
      have hjs : j < ops.size := (Array.getElem?_eq_some_iff.1 hoj).1
      have h1 := hall j hjs
      have hjl : j < listed.size := by rw [hsz]; exact hjs
      rw [Array.getD_eq_getD_getElem?, Array.getElem?_eq_getElem hjl] at hun h1
      simp only [Option.getD_some] at hun h1
      rw [hun] at h1; cases h1
  | succ fuel ih =>
    intro listed st a w E g hm hsz hcl hs hn h hq
    refine ⟨fun hr => hfin listed st a w E g (hdone listed hsz hr) hs hn h hq, fun i hi => ?_⟩
    obtain ⟨hun, o, hoi, hrd⟩ := mem_ready.1 hi
    have his : i < ops.size := (Array.getElem?_eq_some_iff.1 hoi).1
    have hol : ops.toList[i]? = some o := by simpa using hoi
    obtain ⟨A, B, h1, h2, h3⟩ := todo_split (listed := listed) ops.toList 0 i o hol (by rw [Nat.zero_add]; exact hun)
    rw [Nat.zero_add] at h2
    rw [h1] at h
    obtain ⟨slots, m, dead⟩ := st
    have hap : ∀ x ∈ A, Apart ops cx x o := by
      intro x hx
      obtain ⟨j, b1, b2, b3⟩ := h3 x hx
      rw [Nat.zero_add] at b3
      rcases ho.pair i j o x hol b2 b1 with hb | hb
      · have := ho.ahead (fun k => listed.getD k false = true) (fun k y hy hk e he hbd => hcl k y hy hk e he hbd) i o hol (fun e he hbd => hrd e he hbd) j hb
        rw [b3] at this; cases this
      · exact hb
    have h4 := bubble hcx.B B A slots m dead hap hs.good h
    rw [← h2] at h4
    have hnext : ∀ (st' : St) (a' : Act) (w' : World) (E' : Env) (g' : G), opsK cx ops (todo (listed.setIfInBounds i true) 0 ops.toList) st' K = some r → Sim cx.T E' g' w' st' a' → E'.d = E.d → Tr E.d g w g' w' → a'.tmps.size = n → wpAny P .any ops Q fuel (listed.setIfInBounds i true) a' w' := by
      intro st' a' w' E' g' c1 c2 c3 c4 c5
      refine ih _ st' a' w' E' g' (by rw [done_set (by rw [hsz]; exact his) hun]; omega) (by simpa using hsz) (fun k y hy hk e he hbd => ?_) c2 c5 c1 fun st2 a2 w2 d1 d2 => hq st2 a2 w2 d1 (d2.trans c3 c4)
      have hset : ∀ k, (listed.setIfInBounds i true).getD k false = true ↔ k = i ∨ listed.getD k false = true := by
        intro k
        by_cases hki : k = i
        · subst hki; simp [Array.getD_eq_getD_getElem?, hsz, his]
        · rw [getD_set_ne false (Ne.symm hki)]; simp [hki]
      rcases (hset k).1 hk with rfl | hk
      · rw [hol] at hy; injection hy with hy; subst hy
        exact (hset _).2 (.inr (hrd e he hbd))
      · exact (hset _).2 (.inr (hcl k y hy hk e he hbd))
    unfold Go.wpOp
    simp only [hoi]
    rcases step_sound hcx hs h4 with ⟨hw, st', c1, c2⟩ | ⟨hw, st', c1, c2⟩
    · rw [if_pos hw]
      refine .inl ((c2 (fun v w' => ∃ E' g', Sim cx.T E' g' w' st' (a.put o.dst v) ∧ E'.d = E.d ∧ Tr E.d g w g' w') (fun v w' g' E' b1 b2 b3 => ⟨E', g', b1, b2, b3⟩)).2 _ Q ?_)
      rintro v w' ⟨E', g', b1, b2, b3⟩
      exact hnext st' _ w' E' g' c1 b1 b2 b3 (by rw [actput_size]; exact hn)
    · rw [hw]
      simp only [Bool.false_eq_true, if_false]
      exact hnext st' _ w E g c1 c2 rfl (Tr.refl _ _ _) (by rw [actput_size]; exact hn)
/-- **A region that draws its order.** -/
theorem region_ok (hm : P.follows .mixedOrders = true) (hcx : CxOK P cx) (h : orderB cx ops = true) : RegionOK P cx ops := by
  intro R n id st a w E g K r Q hs hn hk hq
  obtain ⟨acc, ho⟩ := ordered_of h
  obtain ⟨g1, h1, h2⟩ := hs.drew
  have hf : ∀ i, (Array.replicate ops.size false).getD i false = false := by
    intro i
    rw [Array.getD_eq_getD_getElem?]
    rcases Nat.lt_or_ge i ops.size with hi | hi
    · rw [Array.getElem?_replicate, if_pos hi]; rfl
    · rw [Array.getElem?_replicate, if_neg (by omega)]; rfl
  refine wp_region_any hm (any_sound hcx ho (n := n) (K := K) (r := r) ops.size _ st a w.drew E g1 ?_ (by simp) (fun i o _ hi => ?_) h1 hn ?_ fun st' a' w' c1 c2 => hq st' a' w' c1 (c2.trans rfl h2))
  · simp [done, List.countP_replicate]
  · rw [hf] at hi; cases hi
  · rw [todo_none ops.toList 0 (fun i hi => hf _)]; exact hk
end
end Go.Proofs.Ytomdjcodgkoapaa.En

/- The engine, part 2a: bodies of functions; functions that touch nothing of what was there. -/
namespace Go.Proofs.Ytomdjcodgkoapaa.En
open Go
set_option linter.unusedVariables false
section
variable {R : Type} {P : Program} {E : Env} {g : G} {w : World} {cx : Cx}

theorem bare0 {dead dead' : List Pos} {x : D} {v : Value} (h : RepD E g w dead x v) : RepD E g w dead' x.bare v := by
  induction h with
  | v x a v h ha => exact .v _ _ _ h trivial
  | ptr k s o h1 h2 => exact .ptr k s o h1 h2
  | nilp => exact .nilp
  | eptr cs o b off us h hr => exact .eptr cs o b off us h hr
  | clos f caps us hn' hr ih =>
    refine .clos f _ us (by rw [bares_length]; exact hn') fun k y hy => ?_
    obtain ⟨z, hz, rfl⟩ := bares_get _ k y hy
    exact ih k z hz
  | nilF => exact .nilF
  | bld => exact .bld
  | agg ds us hn' hr ih =>
    refine .agg _ us (by rw [bares_length]; exact hn') fun k y hy => ?_
    obtain ⟨z, hz, rfl⟩ := bares_get _ k y hy
    exact ih k z hz
  | tup ds us hn' hr ih =>
    refine .tup _ us (by rw [bares_length]; exact hn') fun k y hy => ?_
    obtain ⟨z, hz, rfl⟩ := bares_get _ k y hy
    exact ih k z hz
  | any v => exact .any v
theorem blankK_eq : ∀ (n : Nat) (K : List D → Option R), blankK n K = K (List.replicate n .any)
  | 0, K => rfl
  | n + 1, K => by simp only [blankK, blankK_eq n, List.replicate_succ]
theorem padK_eq : ∀ (ds : List D) (n : Nat) (K : List D → Option R), padK n ds K = K (ds ++ List.replicate (n - ds.length) .any)
  | [], n, K => by simp only [padK, blankK_eq]; rfl
  | d :: ds, n, K => by
    simp only [padK, padK_eq ds, List.cons_append, List.length_cons]
    rw [show n - 1 - ds.length = n - (ds.length + 1) by omega]
/-- A result's value. -/
def resOf (tmps : Array Value) : ResultVar → Sem Value
  | .tmp t => pure (tmps.getD t undef)
  | .cell a t => do loadVar t (← asAddr (tmps.getD a undef))
theorem results_eq (fn : Func) (tmps : Array Value) : results fn tmps = (do
    let vs ← fn.results.mapM (resOf tmps)
    pure (if h : vs.size = 1 then vs[0] else .tuple vs)) := rfl
theorem retV_eq (us : List Value) : (if h : us.toArray.size = 1 then us.toArray[0] else .tuple us.toArray) = retV us := by
  match us with
  | [] => rfl
  | [u] => rfl
  | u :: u' :: us => simp [retV]
theorem loadAt_ptr {t : TypeId} {u v : Value} {w' : World} (h : (Instr.loadAt t u).run P w = .ok v w') : (do loadVar t (← asAddr u)).run P w = .ok v w' := by
  unfold Instr.loadAt at h
  rw [Sem.run_bind] at h ⊢
  cases u with
  | pointer x =>
    cases x with
    | some a => exact h
    | none => simp [Instr.sureAddr] at h
  | _ => simp [Instr.sureAddr] at h
theorem retK_sound (hT : TypesOK P cx.T) {st : St} {a : Act} (hs : Sim cx.T E g w st a) (x : ResultVar) {K : D → Option R} {r : R} (h : retK cx x st K = some r) :
    ∃ d u, K d = some r ∧ (resOf a.tmps x).run P w = .ok u w ∧ RepD E g w [] d u := by
  cases x with
  | tmp t =>
    simp only [retK, getK_eq, forceD_eq] at h
    refine ⟨_, _, h, rfl, ?_⟩
    have := hs.slots.ev (T := cx.T) 0 (.tmp t)
    exact bare0 this
  | cell p ty =>
    simp only [retK, getK_eq] at h
    rw [← loadK_b] at h
    obtain ⟨d, h1, h2⟩ := bind_some h
    rw [forceD_eq] at h2
    have hp := hs.slots.ev (T := cx.T) 0 (.tmp p)
    obtain ⟨v, h3, h4⟩ := loadK_sound (P := P) hT ty _ _ hp hs.here.mem d h1
    refine ⟨_, v, h2, ?_, bare0 h4⟩
    exact loadAt_ptr h3
theorem retsK_sound (hT : TypesOK P cx.T) {st : St} {a : Act} (hs : Sim cx.T E g w st a) : ∀ (l : List ResultVar) (K : List D → Option R) (r : R), retsK cx l st K = some r →
    ∃ rs us, K rs = some r ∧ (l.mapM (resOf a.tmps)).run P w = .ok us w ∧ RepDs E g w [] rs us
  | [], K, r, h => ⟨[], [], h, by simp, rfl, fun k y hk => by simp at hk⟩
  | x :: l, K, r, h => by
    simp only [retsK] at h
    obtain ⟨d, u, h1, h2, h3⟩ := retK_sound hT hs x h
    obtain ⟨rs, us, h4, h5, h6, h7⟩ := retsK_sound hT hs l _ r h1
    refine ⟨d :: rs, u :: us, h4, ?_, by simp [h6], fun k y hk => ?_⟩
    · rw [List.mapM_cons]
      simp only [Sem.run_bind, h2, Result.andThen_ok, h5, Sem.run_pure]
    · rcases k with _ | k
      · simp at hk; subst hk; simpa using h3
      · simpa using h7 k y (by simpa using hk)
theorem results_run (hT : TypesOK P cx.T) {st : St} {a : Act} (hs : Sim cx.T E g w st a) (fn : Func) {K : List D → Option R} {r : R} (h : retsK cx fn.results.toList st K = some r) :
    ∃ rs us, K rs = some r ∧ (results fn a.tmps).run P w = .ok (retV us) w ∧ RepDs E g w [] rs us := by
  obtain ⟨rs, us, h1, h2, h3⟩ := retsK_sound hT hs _ K r h
  refine ⟨rs, us, h1, ?_, h3⟩
  rw [results_eq, Array.mapM_eq_mapM_toList]
  simp only [Sem.run_bind, map_eq_pure_bind, h2, Result.andThen_ok, Sem.run_pure]
  exact congrArg (fun v => Result.ok v w) (retV_eq us)
/-- A function's body. -/
theorem body_sound (hcx : CxOK P cx) {f : FuncId} {fn : Func} {c : Code} (hf : P.funcs[f]? = some fn) (hb : fn.body = some c) (hro : RegionsOK P cx c) (hl : LoopsOK cx fn.ntmps c)
    {ds : List D} {us : List Value} (hargs : ds.length ≤ fn.ntmps) {m : Mem} (hh : Here cx.T E g w ([] :: m)) (hr : RepDs E g w [] ds us) {K : List D → Mem → Option R} {r : R} (h : bodyK cx fn ds m K = some r)
    {post : Ending → World → Prop} (hq : ∀ rs us' m' E' g' w', K rs m' = some r → Here cx.T E' g' w' m' → RepDs E' g' w' [] rs us' → E'.d = E.d → Tr E.d g w g' w' → post (.returned (retV us')) w') :
    Calls P f us.toArray w post := by
  refine calls_of_wp hf hb ?_
  unfold bodyK at h
  rw [hb] at h
  simp only [padK_eq] at h
  have hsim : Sim cx.T E g w ⟨ds ++ List.replicate (fn.ntmps - ds.length) .any, [] :: m, []⟩ { tmps := us.toArray ++ Array.replicate (fn.ntmps - us.toArray.size) undef, defers := [] } := by
    refine ⟨hh, fun s x hx => ?_, by simp [hr.1], rfl⟩
    rcases Nat.lt_or_ge s ds.length with hlt | hge
    · rw [List.getElem?_append_left hlt] at hx
      have := hr.2 s x hx
      have e : (us.toArray ++ Array.replicate (fn.ntmps - us.toArray.size) undef).getD s undef = us.getD s undef := by
        rw [Array.getD_eq_getD_getElem?, Array.getElem?_append_left (by simp [hr.1]; exact hlt), List.getD_eq_getElem?_getD]; simp
      rw [e]; exact this
    · rw [List.getElem?_append_right hge, List.getElem?_replicate] at hx
      split at hx
      · injection hx with hx; subst hx; exact .any _
      · cases hx
  refine (code_ok hcx c hro).1 _ fn.ntmps _ _ w E g _ r _ hl hsim (by simp [hr.1]; omega) h fun e st' a' w' hk ht => ?_
  obtain ⟨E', g', b1, b2, b3, b4⟩ := ht
  have fin : (retsK cx fn.results.toList st' fun rs => K rs st'.mem) = some r → ∃ v, (results fn a'.tmps).run P w' = .ok v w' ∧ post (.returned v) w' := by
    intro hk
    obtain ⟨rs, us', c1, c2, c3⟩ := results_run hcx.T b1 fn hk
    exact ⟨_, c2, hq rs us' st'.mem E' g' w' c1 b1.here c3 b2 b3⟩
  cases e with
  | normal => exact ⟨b1.defers, fin hk⟩
  | ret => exact ⟨b1.defers, fin hk⟩
  | exit i => cases hk
  | goto l => cases hk

/-! Functions that touch nothing of what was there -/
def Perm.hid : Perm → Perm
  | .imm => .imm
  | .low n => .low n
  | .own _ n => .low n
  | .box _ _ => .low 0
def G.hide (g : G) : G := { g with Γ := fun b => (g.Γ b).hid }
def G.settle (g : G) (n : Nat) (g' : G) : G := { g with Γ := fun b => if b < n then g.Γ b else (g'.Γ b).hid }
theorem hid_still (p : Perm) : p.hid.still = true := by cases p <;> rfl
theorem hid_perm (p : Perm) : p.hid = .imm ∨ ∃ n, p.hid = .low n := by cases p <;> simp [Perm.hid]
theorem stable_hide (g : G) (b o : Nat) : Stable g.hide b o ↔ Stable g b o := by
  unfold Stable G.hide
  simp only
  cases g.Γ b <;> simp [Perm.hid]
theorem stable_settle {g g' : G} {n b o : Nat} (h : Stable g' b o) (hold : b < n → g'.Γ b = g.hide.Γ b) : Stable (g.settle n g') b o := by
  unfold Stable G.settle
  simp only
  by_cases hb : b < n
  · rw [if_pos hb]
    have : Stable g.hide b o := by unfold Stable at h ⊢; rw [hold hb] at h; exact h
    exact (stable_hide g b o).1 this
  · rw [if_neg hb]
    have := (stable_hide g' b o).2 h
    exact this
/- Data that point to no variable. -/
mutual
def D.far : D → Bool
  | .ptr _ _ _ => false
  | .clos _ caps => fars caps
  | .agg ds => fars ds
  | .tup ds => fars ds
  | _ => true
def fars : List D → Bool
  | [] => true
  | d :: ds => d.far && fars ds
end
theorem fars_get : ∀ (ds : List D), fars ds = true → ∀ (i : Nat) y, ds[i]? = some y → y.far = true
  | [], _, i, y, h => by simp at h
  | d :: ds, h, 0, y, hy => by simp only [fars, Bool.and_eq_true] at h; simp at hy; subst hy; exact h.1
  | d :: ds, h, i + 1, y, hy => by simp only [fars, Bool.and_eq_true] at h; exact fars_get ds h.2 i y (by simpa using hy)
theorem RepD.far_ {E' : Env} {g' : G} {w' : World} {dead dead' : List Pos} (hl : Later g w g' w') {x : D} {v : Value} (h : RepD E g w dead x v) : x.far = true → RepD E' g' w' dead' x.bare v := by
  induction h with
  | v x a v h ha => exact fun _ => .v _ _ _ (h.later hl) trivial
  | ptr k s o h1 h2 => intro hf; cases hf
  | nilp => exact fun _ => .nilp
  | eptr cs o b off us h hr => exact fun _ => .eptr cs o b off us (fun k y hy => hl.st _ _ _ (h k y hy).1 (h k y hy).2) (fun k y hy => (hr k y hy).later hl)
  | clos f caps us hn' hr ih =>
    intro hf
    refine .clos f _ us (by rw [bares_length]; exact hn') fun k y hy => ?_
    obtain ⟨z, hz, rfl⟩ := bares_get _ k y hy
    exact ih k z hz (fars_get _ hf k z hz)
  | nilF => exact fun _ => .nilF
  | bld => exact fun _ => .bld
  | agg ds us hn' hr ih =>
    intro hf
    refine .agg _ us (by rw [bares_length]; exact hn') fun k y hy => ?_
    obtain ⟨z, hz, rfl⟩ := bares_get _ k y hy
    exact ih k z hz (fars_get _ hf k z hz)
  | tup ds us hn' hr ih =>
    intro hf
    refine .tup _ us (by rw [bares_length]; exact hn') fun k y hy => ?_
    obtain ⟨z, hz, rfl⟩ := bares_get _ k y hy
    exact ih k z hz (fars_get _ hf k z hz)
  | any v => exact fun _ => .any v
theorem RepDs.far_ {E' : Env} {g' : G} {w' : World} {dead dead' : List Pos} (hl : Later g w g' w') {ds : List D} {us : List Value} (h : RepDs E g w dead ds us) (hf : fars ds = true) : RepDs E' g' w' dead' (bares ds) us :=
  ⟨by rw [h.1, bares_length], fun k y hk => by
    obtain ⟨z, hz, rfl⟩ := bares_get _ k y hk
    exact (h.2 k z hz).far_ hl (fars_get _ hf k z hz)⟩
theorem hide_later (g : G) (w : World) : Later g w g.hide w := ⟨rfl, fun b o v h1 h2 => ⟨(stable_hide g b o).2 h1, h2⟩⟩
/-- **A function that touches nothing of what was there.** -/
theorem pure_entry (hcx : CxOK P cx) {f : FuncId} {fn : Func} {c : Code} (hf : P.funcs[f]? = some fn) (hb : fn.body = some c) (hro : RegionsOK P cx c) (hl : LoopsOK cx fn.ntmps c)
    {ds : List D} (hargs : ds.length ≤ fn.ntmps) (hfar : fars ds = true) (hbare : bares ds = ds) {rf : List D → Mem → Option R} {r : R} (h : bodyK cx fn ds [] rf = some r)
    {rs : List D} (hrs : ∀ rs' m, rf rs' m = some r → fars rs' = true ∧ bares rs' = rs) : PureRet P cx.T f ds rs := by
  intro E g w us hsz hus
  have hh : Here cx.T ⟨0, memDom [[]]⟩ g.hide w ([] :: []) := by
    refine ⟨fun k s b hb => ?_, rfl, hsz, rfl⟩
    exfalso
    rcases k with _ | k
    · simp [Mem.box?, frGet] at hb
    · simp [Mem.box?] at hb
  have hr : RepDs ⟨0, memDom [[]]⟩ g.hide w [] ds us := by
    have := hus.far_ (E' := ⟨0, memDom [[]]⟩) (dead' := []) (hide_later g w) hfar
    rwa [hbare] at this
  refine body_sound hcx hf hb hro hl hargs hh hr h fun rs' us' m' E' g' w' h1 h2 h3 h4 h5 => ?_
  obtain ⟨h6, h7⟩ := hrs rs' m' h1
  have hold : ∀ b, b < w.heap.size → g'.Γ b = g.hide.Γ b ∧ w'.heap[b]? = w.heap[b]? := fun b hb => h5.hid b hb (hid_perm _)
  have hset : Later g' w' (g.settle w.heap.size g') w' := by
    refine ⟨?_, fun b o v a1 a2 => ⟨stable_settle a1 fun hb => (hold b hb).1, a2⟩⟩
    show g.sz = g'.sz
    rw [h5.later.sz]; rfl
  refine ⟨us', g.settle w.heap.size g', rfl, fun E2 => ?_, ⟨⟨h5.os, h5.tape, h5.output, h5.size, fun b hb => (hold b hb).2⟩, fun b hb => ?_, fun b hb => ?_, rfl, rfl⟩⟩
  · have := h3.far_ (E' := E2) (dead' := []) hset h6
    rwa [h7] at this
  · unfold G.settle; simp only; rw [if_pos hb]
  · unfold G.settle; simp only; rw [if_neg (by omega)]; exact hid_still _
end
end Go.Proofs.Ytomdjcodgkoapaa.En

/- The engine, part 2b: tables of functions, of types, of loops. -/
namespace Go.Proofs.Ytomdjcodgkoapaa.En
open Go
set_option linter.unusedVariables false

/-- A function that is known: what it gives. -/
structure Ent where
  f : FuncId
  k : {R : Type} → List D → (List D → Option R) → Option R
def tabP : List Ent → FuncId → Bool
  | [], _ => false
  | e :: r, g => cond (Nat.beq e.f g) true (tabP r g)
def tabK {R : Type} : List Ent → FuncId → List D → (List D → Option R) → Option R
  | [], _, _, _ => none
  | e :: r, g, ds, K => cond (Nat.beq e.f g) (e.k ds K) (tabK r g ds K)
/-- A method. -/
structure Met where
  t : TypeId
  n : String
  f : FuncId
def tabM : List Met → TypeId → String → Option FuncId
  | [], _, _ => none
  | e :: r, t, n => cond (Nat.beq e.t t) (cond (e.n == n) (some e.f) (tabM r t n)) (tabM r t n)
def bodyOf (fn : Func) : Code := fn.body.getD .skip

section
variable {P : Program} {T : TypeId → Option Ty} {cx : Cx}
structure EntOK (P : Program) (T : TypeId → Option Ty) (e : Ent) : Prop where
  goes : Goes P e.f
  ret : ∀ (R : Type) (ds : List D) (K : List D → Option R) (r : R), e.k ds K = some r → ∃ rs, K rs = some r ∧ PureRet P T e.f ds rs
  b : ∀ (R : Type) (ds : List D) (K : List D → Option R), e.k ds K = (e.k ds some).bind K
def EntsOK (P : Program) (T : TypeId → Option Ty) : List Ent → Prop
  | [] => True
  | e :: r => EntOK P T e ∧ EntsOK P T r
def MetsOK (P : Program) : List Met → Prop
  | [] => True
  | e :: r => MethOK P e.t e.n e.f ∧ MetsOK P r
theorem tabK_ok {R : Type} {g : FuncId} {ds : List D} {K : List D → Option R} {r : R} : ∀ (l : List Ent), EntsOK P T l → tabK l g ds K = some r → ∃ rs, K rs = some r ∧ Goes P g ∧ PureRet P T g ds rs
  | [], _, h => by cases h
  | e :: l, ho, h => by
    unfold tabK at h
    cases hb : Nat.beq e.f g with
    | true =>
      have he := Nat.eq_of_beq_eq_true hb
      rw [hb, cond_true] at h
      obtain ⟨rs, h1, h2⟩ := ho.1.ret R ds K r h
      subst he
      exact ⟨rs, h1, ho.1.goes, h2⟩
    | false => rw [hb, cond_false] at h; exact tabK_ok l ho.2 h
theorem tabK_b {R : Type} {g : FuncId} {ds : List D} {K : List D → Option R} : ∀ (l : List Ent), EntsOK P T l → tabK l g ds K = (tabK l g ds some).bind K
  | [], _ => rfl
  | e :: l, ho => by
    unfold tabK
    cases Nat.beq e.f g with
    | true => exact ho.1.b R ds K
    | false => exact tabK_b l ho.2
theorem tabM_ok {t : TypeId} {n : String} {f : FuncId} : ∀ (l : List Met), MetsOK P l → tabM l t n = some f → MethOK P t n f
  | [], _, h => by cases h
  | e :: l, ho, h => by
    unfold tabM at h
    cases hb : Nat.beq e.t t with
    | true =>
      have he := Nat.eq_of_beq_eq_true hb
      rw [hb, cond_true] at h
      cases hn : e.n == n with
      | true =>
        rw [hn, cond_true] at h
        injection h with h
        have hn := eq_of_beq hn
        subst he hn h
        exact ho.1
      | false => rw [hn, cond_false] at h; exact tabM_ok l ho.2 h
    | false => rw [hb, cond_false] at h; exact tabM_ok l ho.2 h
theorem goes_of {f : FuncId} {fn : Func} {c : Code} (hf : P.funcs[f]? = some fn) (hn : (fn.name == "runtime.NumGoroutine") = false) (hb : fn.body = some c) : Goes P f := by
  intro args w
  have hp : (program : Sem Program).run P w = .ok P w := rfl
  simp only [callFunc, Sem.run_bind, hp, Result.andThen_ok, hf, hn, hb, Option.isNone_some, Bool.false_eq_true, if_false, Sem.run_pure]

/-! Types -/
theorem tyOK_of {t : TypeId} {ty : Ty} (h1 : P.underlying t = some ty.desc) (h2 : (P.info? t).map (fun i => (i.zero, i.size, i.bytes)) = some (some ty.zero, ty.size, ty.nbytes)) (h3 : (ty.row || Nat.beq ty.size 1) = true) (h4 : eqOKB P t ty = true) : TyOK P t ty := by
  refine ⟨h1, ?_, fun h => ?_, h4⟩
  · cases hi : P.info? t with
    | none => rw [hi] at h2; cases h2
    | some i =>
      rw [hi] at h2
      injection h2 with h2
      injection h2 with a h2
      injection h2 with b c
      exact ⟨i, rfl, a, b, c⟩
  · rw [h, Bool.false_or] at h3
    exact Nat.eq_of_beq_eq_true h3
def AllTo (p : Nat → Prop) : Nat → Prop
  | 0 => True
  | n + 1 => AllTo p n ∧ p n
theorem AllTo.get {p : Nat → Prop} : ∀ (n : Nat), AllTo p n → ∀ k, k < n → p k
  | 0, _, k, h => by omega
  | n + 1, ⟨h1, h2⟩, k, h => by
    by_cases hk : k = n
    · subst hk; exact h2
    · exact AllTo.get n h1 k (by omega)
def TyAt (P : Program) (T : TypeId → Option Ty) (t : Nat) : Prop := ∀ ty, T t = some ty → TyOK P t ty
theorem tyAt_some {t : TypeId} {ty : Ty} (h : T t = some ty) (ho : TyOK P t ty) : TyAt P T t := fun ty' h' => by rw [h] at h'; injection h' with h'; subst h'; exact ho
theorem tyAt_none {t : TypeId} (h : T t = none) : TyAt P T t := fun ty' h' => by rw [h] at h'; cases h'
def upTo (n : Nat) (T : TypeId → Option Ty) (t : TypeId) : Option Ty := cond (Nat.blt t n) (T t) none
theorem typesOK_of {n : Nat} (h : AllTo (TyAt P T) n) : TypesOK P (upTo n T) := by
  intro t ty ht
  unfold upTo at ht
  cases hb : Nat.blt t n with
  | false => rw [hb] at ht; cases ht
  | true =>
    rw [hb, cond_true] at ht
    exact AllTo.get n h t (by have := Nat.le_of_ble_eq_true hb; omega) ty ht

/-! Loops, regions -/
theorem loopOK_of {n rid : Nat} {b : Code} {ks xs : List Nat} (hr : ridOf b = rid) (hk : cx.keep rid = ks) (hx : cx.keepX rid = xs)
    (h : ∀ (R : Type) (ds : List D) (m : Mem) (K : Ex → List D → Mem → Option R) (r : R), cx.loopT rid ds m K = some r → ∃ t, loopK (fun st K => codeK cx b st K) n ks xs t ds m K = some r) : LoopOK cx n b := by
  intro R ds m K r hh
  rw [hr] at hh ⊢
  rw [hk, hx]
  exact h R ds m K r hh
theorem loopsOK_of {n k : Nat} {fn : Func} (hk : (loopsOf (bodyOf fn)).length = k) (h : AllTo (fun i => LoopOK cx n (loopN fn i)) k) : LoopsOK cx n (bodyOf fn) := by
  intro b hb
  obtain ⟨i, hi⟩ := List.getElem?_of_mem hb
  have hlt : i < k := by rw [← hk]; exact (List.getElem?_eq_some_iff.1 hi).1
  have := AllTo.get k h i hlt
  unfold loopN at this
  rw [List.getD_eq_getElem?_getD] at this
  have e : (loopsOf (fn.body.getD .skip))[i]? = some b := hi
  rw [e] at this
  exact this
theorem regionsOK_of (hm : P.follows .mixedOrders = true) (hcx : CxOK P cx) {c : Code} (h : (drawnOf c).all (orderB cx) = true) : RegionsOK P cx c :=
  fun ops ho => region_ok hm hcx (List.all_eq_true.1 h ops ho)
/-- A function that touches nothing of what was there. -/
theorem pure_of (hm : P.follows .mixedOrders = true) (hcx : CxOK P cx) {f : FuncId} {fn : Func} (hf : P.funcs[f]? = some fn) (hb : fn.body = some (bodyOf fn)) (hro : (drawnOf (bodyOf fn)).all (orderB cx) = true) (hl : LoopsOK cx fn.ntmps (bodyOf fn))
    {ds : List D} (hargs : Nat.ble ds.length fn.ntmps = true) (hfar : fars ds = true) (hbare : bares ds = ds) {α : Type} {rf : List D → Mem → Option α} {r : α} (h : bodyK cx fn ds [] rf = some r)
    {rs : List D} (hrs : ∀ rs' m, rf rs' m = some r → fars rs' = true ∧ bares rs' = rs) : PureRet P cx.T f ds rs :=
  pure_entry hcx hf hb (regionsOK_of hm hcx hro) hl (Nat.le_of_ble_eq_true hargs) hfar hbare h hrs
section
variable {R : Type}
theorem bnd1_some {α : Type} {o : Option α} {K : α → Option R} {r : R} (h : bnd1 o K = some r) : ∃ a, o = some a ∧ K a = some r := by
  cases o with
  | none => cases h
  | some a => exact ⟨a, rfl, h⟩
theorem bnd1_b {α β : Type} (o : Option α) (F : α → Option β) (K : β → Option R) : (bnd1 o F).bind K = bnd1 o fun a => (F a).bind K := by cases o <;> rfl
end
end
end Go.Proofs.Ytomdjcodgkoapaa.En

/- The engine, part 2c: a callee that is given variables sees them under names of its own. -/
namespace Go.Proofs.Ytomdjcodgkoapaa.En
open Go
set_option linter.unusedVariables false

/-! Pointers under other names -/
inductive Ren (Pr : Nat → Nat → Nat → Nat → Prop) : D → D → Prop
  | v (x : V) : Ren Pr (.v x .no) (.v x .no)
  | nilp : Ren Pr .nilp .nilp
  | nilF : Ren Pr .nilF .nilF
  | bld : Ren Pr .bld .bld
  | any : Ren Pr .any .any
  | eptr (cs : List V) (o : Nat) : Ren Pr (.eptr cs o) (.eptr cs o)
  | ptr {k s k₁ s₁ : Nat} (o : Nat) (h : Pr k s k₁ s₁) : Ren Pr (.ptr k s o) (.ptr k₁ s₁ o)
  | clos (f : FuncId) (cs cs₁ : List D) (hl : cs₁.length = cs.length) (h : ∀ (i : Nat) y y₁, cs[i]? = some y → cs₁[i]? = some y₁ → Ren Pr y y₁) : Ren Pr (.clos f cs) (.clos f cs₁)
  | agg (cs cs₁ : List D) (hl : cs₁.length = cs.length) (h : ∀ (i : Nat) y y₁, cs[i]? = some y → cs₁[i]? = some y₁ → Ren Pr y y₁) : Ren Pr (.agg cs) (.agg cs₁)
theorem Ren.shift {Pr : Nat → Nat → Nat → Nat → Prop} {d d₁ : D} (h : Ren Pr d d₁) (k k₁ : Nat) : Ren (fun a b c e => ∃ a' c', a = a' + k ∧ c = c' + k₁ ∧ Pr a' b c' e) (d.shift k) (d₁.shift k₁) := by
  induction h with
  | v x => exact .v x
  | nilp => exact .nilp
  | nilF => exact .nilF
  | bld => exact .bld
  | any => exact .any
  | eptr cs o => exact .eptr cs o
  | ptr o h => exact .ptr o ⟨_, _, rfl, rfl, h⟩
  | clos f cs cs₁ hl h ih =>
    refine .clos f _ _ (by rw [shifts_length, shifts_length, hl]) fun i y y₁ h1 h2 => ?_
    obtain ⟨z, hz, rfl⟩ := shifts_get _ _ i y h1
    obtain ⟨z₁, hz₁, rfl⟩ := shifts_get _ _ i y₁ h2
    exact ih i z z₁ hz hz₁
  | agg cs cs₁ hl h ih =>
    refine .agg _ _ (by rw [shifts_length, shifts_length, hl]) fun i y y₁ h1 h2 => ?_
    obtain ⟨z, hz, rfl⟩ := shifts_get _ _ i y h1
    obtain ⟨z₁, hz₁, rfl⟩ := shifts_get _ _ i y₁ h2
    exact ih i z z₁ hz hz₁
section
variable {E E' : Env} {g g' : G} {w w' : World} {dead dead' : List Pos}
theorem rep_ren {Pr : Nat → Nat → Nat → Nat → Prop} (hl : Later g w g' w') (hp : ∀ k s k₁ s₁, Pr k s k₁ s₁ → k ≤ E.d → E.dom k s → k₁ ≤ E'.d ∧ E'.dom k₁ s₁ ∧ g'.J (E'.d - k₁) s₁ = g.J (E.d - k) s) {d d₁ : D} (h : Ren Pr d d₁) : ∀ {v : Value}, RepD E g w dead d v → RepD E' g' w' dead' d₁ v := by
  induction h with
  | v x => intro v h; cases h with | v x a v h ha => exact .v _ _ _ (h.later hl) trivial
  | nilp => intro v h; cases h; exact .nilp
  | nilF => intro v h; cases h; exact .nilF
  | bld => intro v h; cases h; exact .bld
  | any => intro v h; exact .any _
  | eptr cs o => intro v h; cases h with | eptr cs o b off us h hr => exact .eptr cs o b off us (fun k y hy => hl.st _ _ _ (h k y hy).1 (h k y hy).2) (fun k y hy => (hr k y hy).later hl)
  | ptr o hq =>
    intro v h
    cases h with
    | ptr k s o a1 a2 =>
      obtain ⟨b1, b2, b3⟩ := hp _ _ _ _ hq a1 a2
      rw [← b3]
      exact .ptr _ _ o b1 b2
  | clos f cs cs₁ hlen hq ih =>
    intro v h
    cases h with
    | clos f cs us hn hr =>
      refine .clos f cs₁ us (by rw [hn, hlen]) fun i y₁ hy₁ => ?_
      have hi : i < cs.length := by rw [← hlen]; exact (List.getElem?_eq_some_iff.1 hy₁).1
      exact ih i _ y₁ (List.getElem?_eq_getElem hi) hy₁ (hr i _ (List.getElem?_eq_getElem hi))
  | agg cs cs₁ hlen hq ih =>
    intro v h
    cases h with
    | agg cs us hn hr =>
      refine .agg cs₁ us (by rw [hn, hlen]) fun i y₁ hy₁ => ?_
      have hi : i < cs.length := by rw [← hlen]; exact (List.getElem?_eq_some_iff.1 hy₁).1
      exact ih i _ y₁ (List.getElem?_eq_getElem hi) hy₁ (hr i _ (List.getElem?_eq_getElem hi))
theorem RepDs.ren {Pr : Nat → Nat → Nat → Nat → Prop} (hl : Later g w g' w') (hp : ∀ k s k₁ s₁, Pr k s k₁ s₁ → k ≤ E.d → E.dom k s → k₁ ≤ E'.d ∧ E'.dom k₁ s₁ ∧ g'.J (E'.d - k₁) s₁ = g.J (E.d - k) s) {ds ds₁ : List D} {us : List Value}
    (hlen : ds₁.length = ds.length) (h : ∀ (i : Nat) y y₁, ds[i]? = some y → ds₁[i]? = some y₁ → Ren Pr y y₁) (hr : RepDs E g w dead ds us) : RepDs E' g' w' dead' ds₁ us := by
  refine ⟨by rw [hr.1, hlen], fun i y₁ hy₁ => ?_⟩
  have hi : i < ds.length := by rw [← hlen]; exact (List.getElem?_eq_some_iff.1 hy₁).1
  exact rep_ren hl hp (h i _ y₁ (List.getElem?_eq_getElem hi) hy₁) (hr.2 i _ (List.getElem?_eq_getElem hi))
end
/-- A variable's cell: as the caller has it, and as the callee sees it. -/
inductive CRen (Q : Nat → Nat → Nat → Prop) : D → D → Prop
  | v (x : V) (a : Att) : CRen Q (.v x a) (.v x a)
  | bld : CRen Q .bld .bld
  | ren {c c₁ : D} (hb : c ≠ .bld) (hb₁ : c₁ ≠ .bld) (h1 : c.one = true) (h2 : c.flat = true) (h3 : c₁.one = true) (h4 : c₁.flat = true) (hv : ∀ x a, c ≠ .v x a) (h : Ren (fun k s k₁ s₁ => k₁ = 0 ∧ Q k s s₁) c c₁) : CRen Q c c₁
structure BRen (Q : Nat → Nat → Nat → Prop) (B B₁ : Bx) : Prop where
  ty : B₁.ty = B.ty
  len : B₁.cells.length = B.cells.length
  cell : ∀ (i : Nat) c c₁, B.cells[i]? = some c → B₁.cells[i]? = some c₁ → CRen Q c c₁

/-! Places -/
section
variable {ps : List (Nat × Nat)} {d0 : Nat}
def posOf (ps : List (Nat × Nat)) (d0 d s : Nat) : Option Nat := ps.findIdx? fun p => decide (d0 - p.1 = d) && decide (p.2 = s)
/-- Different variables. -/
structure Places (ps : List (Nat × Nat)) (d0 : Nat) : Prop where
  le : ∀ (j : Nat) (p : Nat × Nat), ps[j]? = some p → p.1 ≤ d0
  one : ∀ (i j : Nat) (p : Nat × Nat), ps[i]? = some p → ps[j]? = some p → i = j
def inP (ps : List (Nat × Nat)) (d0 : Nat) : APos → Option APos
  | .cell d s i => (posOf ps d0 d s).map fun j => .cell 0 j i
  | .slot _ _ => none
def outP (ps : List (Nat × Nat)) (d0 : Nat) : APos → Option APos
  | .cell d j i => (match d with | 0 => (ps[j]?).map fun p => .cell (d0 - p.1) p.2 i | _ + 1 => none)
  | .slot _ _ => none
def Perm.view (ps : List (Nat × Nat)) (d0 : Nat) : Perm → Perm
  | .imm => .imm
  | .low n => .low n
  | .own p n => (match inP ps d0 p with | some q => .own q n | none => .low n)
  | .box d s => (match posOf ps d0 d s with | some j => .box 0 j | none => .low 0)
def Perm.back (ps : List (Nat × Nat)) (d0 : Nat) : Perm → Perm
  | .imm => .imm
  | .low n => .low n
  | .own p n => (match outP ps d0 p with | some q => .own q n | none => .low n)
  | .box d j => (match d with | 0 => (match ps[j]? with | some p => .box (d0 - p.1) p.2 | none => .low 0) | _ + 1 => .low 0)
def G.view (g : G) (ps : List (Nat × Nat)) (d0 : Nat) : G :=
  { Γ := fun b => (g.Γ b).view ps d0, J := fun d s => match d with | 0 => (match ps[s]? with | some p => g.J (d0 - p.1) p.2 | none => 0) | d + 1 => g.J (d + 1) s, sz := g.sz }
structure Held (g : G) (w : World) (ps : List (Nat × Nat)) (d0 : Nat) (g₂ : G) (w' : World) : Prop where
  Γ : ∀ b, b < w.heap.size → ((g.Γ b).view ps d0).still = true → g₂.Γ b = (g.Γ b).view ps d0
  heap : ∀ b, b < w.heap.size → ((g.Γ b).view ps d0).still = true → w'.heap[b]? = w.heap[b]?
end
end Go.Proofs.Ytomdjcodgkoapaa.En

/- The engine, part 2d: functions that are given variables. -/
namespace Go.Proofs.Ytomdjcodgkoapaa.En
open Go
set_option linter.unusedVariables false
section
variable {R : Type} {P : Program} {T : TypeId → Option Ty} {E E' : Env} {g g' : G} {w w' : World} {cx : Cx}
end
end Go.Proofs.Ytomdjcodgkoapaa.En

/- The engine, part 2e: tables of functions that are given variables. -/
namespace Go.Proofs.Ytomdjcodgkoapaa.En
open Go
set_option linter.unusedVariables false
structure MEnt where
  f : FuncId
  k : {R : Type} → Nat → List D → Mem → (List D → Mem → Option R) → Option R
def tabMK {R : Type} : List MEnt → FuncId → Nat → List D → Mem → (List D → Mem → Option R) → Option R
  | [], _, _, _, _, _ => none
  | e :: r, g, dst, ds, m, K => cond (Nat.beq e.f g) (e.k dst ds m K) (tabMK r g dst ds m K)
/- Cells that hold no pointer to a variable. -/
section
variable {R : Type} {P : Program} {T : TypeId → Option Ty} {cx : Cx}
/-- An argument as the caller has it, and as the callee sees it. -/
def ARen (ps : List (Nat × Nat)) (y y₁ : D) : Prop := Ren (fun k s k₁ s₁ => ∃ k', k = k' + 1 ∧ k₁ = 1 ∧ ps[s₁]? = some (k', s)) y y₁
def ARens (ps : List (Nat × Nat)) : List D → List D → Prop
  | [], [] => True
  | y :: ys, y₁ :: ys₁ => ARen ps y y₁ ∧ ARens ps ys ys₁
  | _, _ => False
theorem ARens.get {ps : List (Nat × Nat)} : ∀ {l l₁ : List D}, ARens ps l l₁ → l₁.length = l.length ∧ ∀ (i : Nat) y y₁, l[i]? = some y → l₁[i]? = some y₁ → ARen ps y y₁
  | [], [], _ => ⟨rfl, fun i y y₁ h => by simp at h⟩
  | y :: ys, y₁ :: ys₁, ⟨h1, h2⟩ => by
    obtain ⟨a, b⟩ := ARens.get h2
    refine ⟨by simp [a], fun i z z₁ hz hz₁ => ?_⟩
    rcases i with _ | i
    · simp at hz hz₁; subst hz hz₁; exact h1
    · exact b i z z₁ (by simpa using hz) (by simpa using hz₁)
structure MEntOK (P : Program) (T : TypeId → Option Ty) (e : MEnt) : Prop where
  goes : Goes P e.f
  ret : ∀ (R : Type) (dst : Nat) (ds : List D) (m : Mem) (K : List D → Mem → Option R) (r : R), e.k dst ds m K = some r → ∃ rs m', K rs m' = some r ∧ MemRet P T e.f dst ds m rs m'
def MEntsOK (P : Program) (T : TypeId → Option Ty) : List MEnt → Prop
  | [] => True
  | e :: r => MEntOK P T e ∧ MEntsOK P T r
theorem tabMK_ok {g : FuncId} {dst : Nat} {ds : List D} {m : Mem} {K : List D → Mem → Option R} {r : R} : ∀ (l : List MEnt), MEntsOK P T l → tabMK l g dst ds m K = some r → ∃ rs m', K rs m' = some r ∧ Goes P g ∧ MemRet P T g dst ds m rs m'
  | [], _, h => by cases h
  | e :: l, ho, h => by
    unfold tabMK at h
    cases hb : Nat.beq e.f g with
    | true =>
      have he := Nat.eq_of_beq_eq_true hb
      rw [hb, cond_true] at h
      obtain ⟨rs, m', h1, h2⟩ := ho.1.ret R dst ds m K r h
      subst he
      exact ⟨rs, m', h1, ho.1.goes, h2⟩
    | false => rw [hb, cond_false] at h; exact tabMK_ok l ho.2 h
theorem cxOK_of2 {es : List Ent} {me : List MEnt} {ms : List Met} (hT : TypesOK P cx.T) (hes : EntsOK P cx.T es) (hme : MEntsOK P cx.T me) (hms : MetsOK P ms) (h1 : cx.isPure = tabP es) (h2 : ∀ (R : Type) (g : FuncId) (ds : List D) (K : List D → Option R), cx.pureK g ds K = tabK es g ds K)
    (h3 : ∀ (R : Type) (g : FuncId) (dst : Nat) (ds : List D) (m : Mem) (K : List D → Mem → Option R), cx.memK g dst ds m K = tabMK me g dst ds m K) (h4 : cx.meth = tabM ms) : CxOK P cx := by
  refine ⟨hT, fun R g ds K r _ h => ?_, fun R g dst ds m K r _ h => ?_, fun R g ds K => ?_, fun t n f h => ?_⟩
  · rw [h2] at h; exact tabK_ok es hes h
  · rw [h3] at h; exact tabMK_ok me hme h
  · rw [h2, h2]; exact tabK_b es hes
  · rw [h4] at h; exact tabM_ok ms hms h
end
end Go.Proofs.Ytomdjcodgkoapaa.En

/- The engine's table of types, printed by a program. -/
namespace Go.Proofs.Ytomdjcodgkoapaa.En
open Go
def ty1 : Ty := { desc := .func #[] #[] false, cks := [.func], nbytes := 8 }
def ty2 : Ty := { desc := .int .i64, cks := [(.int .i64)], nbytes := 8 }
def ty3 : Ty := { desc := .int .i64, cks := [(.int .i64)], nbytes := 8 }
def ty4 : Ty := { desc := .bool, cks := [.bool], nbytes := 1 }
def ty5 : Ty := { desc := .int .u8, cks := [(.int .u8)], nbytes := 1 }
def ty6 : Ty := { desc := .int .u8, cks := [(.int .u8)], nbytes := 1 }
def ty7 : Ty := { desc := .struct #[⟨ "x", 2, 0, false, "", "runtime", 0⟩, ⟨ "y", 3, 1, false, "", "runtime", 8⟩, ⟨ "signed", 4, 2, false, "", "runtime", 16⟩, ⟨ "code", 6, 3, false, "", "runtime", 17⟩], cks := [(.int .i64), (.int .i64), .bool, (.int .u8)], nbytes := 24 }
def ty8 : Ty := { desc := .struct #[⟨ "x", 2, 0, false, "", "runtime", 0⟩, ⟨ "y", 3, 1, false, "", "runtime", 8⟩, ⟨ "signed", 4, 2, false, "", "runtime", 16⟩, ⟨ "code", 6, 3, false, "", "runtime", 17⟩], cks := [(.int .i64), (.int .i64), .bool, (.int .u8)], nbytes := 24 }
def ty9 : Ty := { desc := .string, cks := [.str], nbytes := 16 }
def ty10 : Ty := { desc := .string, cks := [.str], nbytes := 16 }
def ty11 : Ty := { desc := .string, cks := [.str], nbytes := 16 }
def ty12 : Ty := { desc := .int .u64, cks := [(.int .u64)], nbytes := 8 }
def ty13 : Ty := { desc := .struct #[⟨ "msg", 9, 0, false, "", "runtime", 0⟩, ⟨ "addr", 12, 1, false, "", "runtime", 16⟩], cks := [.str, (.int .u64)], nbytes := 24 }
def ty14 : Ty := { desc := .struct #[⟨ "msg", 9, 0, false, "", "runtime", 0⟩, ⟨ "addr", 12, 1, false, "", "runtime", 16⟩], cks := [.str, (.int .u64)], nbytes := 24 }
def ty15 : Ty := { desc := .pointer 81, cks := [.ptr], nbytes := 8 }
def ty16 : Ty := { desc := .pointer 84, cks := [.ptr], nbytes := 8 }
def ty17 : Ty := { desc := .pointer 93, cks := [.ptr], nbytes := 8 }
def ty18 : Ty := { desc := .struct #[⟨ "typ", 17, 0, false, "", "internal/runtime/maps", 0⟩], cks := [.ptr], nbytes := 8 }
def ty19 : Ty := { desc := .struct #[⟨ "typ", 17, 0, false, "", "internal/runtime/maps", 0⟩], cks := [.ptr], nbytes := 8 }
def ty20 : Ty := { desc := .interface #[], cks := [.iface], nbytes := 16 }
def ty21 : Ty := { desc := .int .i32, cks := [(.int .i32)], nbytes := 4 }
def ty22 : Ty := { desc := .slice 5, cks := [(.bytes 5)], nbytes := 24 }
def ty23 : Ty := { desc := .struct #[⟨ "NAD", 3, 0, false, "", "", 0⟩, ⟨ "Kind", 3, 1, false, "", "", 8⟩, ⟨ "Seq", 3, 2, false, "", "", 16⟩, ⟨ "More", 4, 3, false, "", "", 24⟩, ⟨ "Code", 3, 4, false, "", "", 32⟩, ⟨ "Answer", 4, 5, false, "", "", 40⟩, ⟨ "Inf", 22, 6, false, "", "", 48⟩], cks := [(.int .i64), (.int .i64), (.int .i64), .bool, (.int .i64), .bool, (.bytes 5)], nbytes := 72 }
def ty24 : Ty := { desc := .struct #[⟨ "NAD", 3, 0, false, "", "", 0⟩, ⟨ "Kind", 3, 1, false, "", "", 8⟩, ⟨ "Seq", 3, 2, false, "", "", 16⟩, ⟨ "More", 4, 3, false, "", "", 24⟩, ⟨ "Code", 3, 4, false, "", "", 32⟩, ⟨ "Answer", 4, 5, false, "", "", 40⟩, ⟨ "Inf", 22, 6, false, "", "", 48⟩], cks := [(.int .i64), (.int .i64), (.int .i64), .bool, (.int .i64), .bool, (.bytes 5)], nbytes := 72 }
def ty25 : Ty := { desc := .func #[24] #[9] false, cks := [.func], nbytes := 8 }
def ty26 : Ty := { desc := .func #[24, 24] #[4] false, cks := [.func], nbytes := 8 }
def ty27 : Ty := { desc := .func #[] #[4] false, cks := [.func], nbytes := 8 }
def ty28 : Ty := { desc := .int .i64, cks := [(.int .i64)], nbytes := 8 }
def ty29 : Ty := { desc := .func #[24] #[28] false, cks := [.func], nbytes := 8 }
def ty30 : Ty := { desc := .interface #[("smartcard/block.control", 63), ("smartcard/block.parse", 71), ("smartcard/block.words", 36)], cks := [.iface], nbytes := 16 }
def ty31 : Ty := { desc := .interface #[("smartcard/block.control", 63), ("smartcard/block.parse", 71), ("smartcard/block.words", 36)], cks := [.iface], nbytes := 16 }
def ty32 : Ty := { desc := .func #[3] #[31] false, cks := [.func], nbytes := 8 }
def ty33 : Ty := { desc := .slice 9, cks := [(.slc 9)], nbytes := 24 }
def ty34 : Ty := { desc := .func #[31] #[9] false, cks := [.func], nbytes := 8 }
def ty35 : Ty := { desc := .func #[22] #[9] false, cks := [.func], nbytes := 8 }
def ty36 : Ty := { desc := .func #[24] #[33] false, cks := [.func], nbytes := 8 }
def ty37 : Ty := { desc := .func #[33, 9] #[9] false, cks := [.func], nbytes := 8 }
def ty38 : Ty := { desc := .func #[22, 22] #[4] false, cks := [.func], nbytes := 8 }
def ty40 : Ty := { desc := .func #[24, 3] #[22, 28] false, cks := [.func], nbytes := 8 }
def ty42 : Ty := { desc := .func #[22, 3] #[24, 28] false, cks := [.func], nbytes := 8 }
def ty43 : Ty := { desc := .struct #[], cks := [], nbytes := 0 }
def ty44 : Ty := { desc := .struct #[], cks := [], nbytes := 0 }
def ty46 : Ty := { desc := .struct #[], cks := [], nbytes := 0 }
def ty48 : Ty := { desc := .func #[31] #[3] false, cks := [.func], nbytes := 8 }
def ty49 : Ty := { desc := .func #[31, 24] #[28] false, cks := [.func], nbytes := 8 }
def ty50 : Ty := { desc := .struct #[], cks := [], nbytes := 0 }
def ty51 : Ty := { desc := .int .u64, cks := [(.int .u64)], nbytes := 8 }
def ty52 : Ty := { desc := .pointer 54, cks := [.ptr], nbytes := 8 }
def ty53 : Ty := { desc := .struct #[⟨ "addr", 52, 0, false, "", "strings", 0⟩, ⟨ "buf", 22, 1, false, "", "strings", 8⟩], cks := [.bld, (.bytes 5)], nbytes := 32 }
def ty54 : Ty := { desc := .struct #[⟨ "addr", 52, 0, false, "", "strings", 0⟩, ⟨ "buf", 22, 1, false, "", "strings", 8⟩], cks := [.bld, (.bytes 5)], nbytes := 32 }
def ty55 : Ty := { desc := .func #[3] #[] false, cks := [.func], nbytes := 8 }
def ty56 : Ty := { desc := .interface #[("Error", 60)], cks := [.iface], nbytes := 16 }
def ty57 : Ty := { desc := .interface #[("Error", 60)], cks := [.iface], nbytes := 16 }
def ty59 : Ty := { desc := .func #[9] #[3, 57] false, cks := [.func], nbytes := 8 }
def ty60 : Ty := { desc := .func #[] #[9] false, cks := [.func], nbytes := 8 }
def ty61 : Ty := { desc := .func #[22, 22] #[3] false, cks := [.func], nbytes := 8 }
def ty62 : Ty := { desc := .func #[3] #[3] false, cks := [.func], nbytes := 8 }
def ty63 : Ty := { desc := .func #[24] #[3] false, cks := [.func], nbytes := 8 }
def ty64 : Ty := { desc := .func #[3, 22] #[22, 28] false, cks := [.func], nbytes := 8 }
def ty65 : Ty := { desc := .func #[70] #[22] true, cks := [.func], nbytes := 8 }
def ty67 : Ty := { desc := .func #[3] #[24, 4] false, cks := [.func], nbytes := 8 }
def ty68 : Ty := { desc := .func #[22] #[22] false, cks := [.func], nbytes := 8 }
def ty69 : Ty := { desc := .pointer 5, cks := [.ptr], nbytes := 8 }
def ty70 : Ty := { desc := .slice 22, cks := [(.slc 22)], nbytes := 24 }
def ty71 : Ty := { desc := .func #[3] #[24] false, cks := [.func], nbytes := 8 }
def ty73 : Ty := { desc := .func #[72] #[72] false, cks := [.func], nbytes := 8 }
def ty74 : Ty := { desc := .func #[3] #[22] false, cks := [.func], nbytes := 8 }
def ty75 : Ty := { desc := .func #[22] #[5] false, cks := [.func], nbytes := 8 }
def ty76 : Ty := { desc := .int .u16, cks := [(.int .u16)], nbytes := 2 }
def ty77 : Ty := { desc := .func #[22] #[76] false, cks := [.func], nbytes := 8 }
def ty79 : Ty := { desc := .func #[] #[78] false, cks := [.func], nbytes := 8 }
def ty80 : Ty := { desc := .struct #[⟨ "_interface", 17, 0, false, "", "runtime", 0⟩, ⟨ "concrete", 17, 1, false, "", "runtime", 8⟩, ⟨ "asserted", 17, 2, false, "", "runtime", 16⟩, ⟨ "missingMethod", 9, 3, false, "", "runtime", 24⟩], cks := [.ptr, .ptr, .ptr, .str], nbytes := 40 }
def ty81 : Ty := { desc := .struct #[⟨ "_interface", 17, 0, false, "", "runtime", 0⟩, ⟨ "concrete", 17, 1, false, "", "runtime", 8⟩, ⟨ "asserted", 17, 2, false, "", "runtime", 16⟩, ⟨ "missingMethod", 9, 3, false, "", "runtime", 24⟩], cks := [.ptr, .ptr, .ptr, .str], nbytes := 40 }
def ty82 : Ty := { desc := .array 0 16, cks := [], nbytes := 0 }
def ty83 : Ty := { desc := .struct #[⟨ "_", 82, 0, false, "", "runtime", 0⟩], cks := [], nbytes := 0 }
def ty84 : Ty := { desc := .struct #[⟨ "_", 82, 0, false, "", "runtime", 0⟩], cks := [], nbytes := 0 }
def ty85 : Ty := { desc := .func #[] #[3] false, cks := [.func], nbytes := 8 }
def ty86 : Ty := { desc := .int .u32, cks := [(.int .u32)], nbytes := 4 }
def ty87 : Ty := { desc := .int .u8, cks := [(.int .u8)], nbytes := 1 }
def ty88 : Ty := { desc := .int .u8, cks := [(.int .u8)], nbytes := 1 }
def ty89 : Ty := { desc := .func #[72, 72] #[4] false, cks := [.func], nbytes := 8 }
def ty90 : Ty := { desc := .int .i32, cks := [(.int .i32)], nbytes := 4 }
def ty91 : Ty := { desc := .int .i32, cks := [(.int .i32)], nbytes := 4 }
def ty92 : Ty := { desc := .struct #[⟨ "Size_", 12, 0, false, "", "", 0⟩, ⟨ "PtrBytes", 12, 1, false, "", "", 8⟩, ⟨ "Hash", 86, 2, false, "", "", 16⟩, ⟨ "TFlag", 87, 3, false, "", "", 20⟩, ⟨ "Align_", 5, 4, false, "", "", 21⟩, ⟨ "FieldAlign_", 5, 5, false, "", "", 22⟩, ⟨ "Kind_", 88, 6, false, "", "", 23⟩, ⟨ "Equal", 89, 7, false, "", "", 24⟩, ⟨ "GCData", 69, 8, false, "", "", 32⟩, ⟨ "Str", 90, 9, false, "", "", 40⟩, ⟨ "PtrToThis", 91, 10, false, "", "", 44⟩], cks := [(.int .u64), (.int .u64), (.int .u32), (.int .u8), (.int .u8), (.int .u8), (.int .u8), .func, .ptr, (.int .i32), (.int .i32)], nbytes := 48 }
def ty93 : Ty := { desc := .struct #[⟨ "Size_", 12, 0, false, "", "", 0⟩, ⟨ "PtrBytes", 12, 1, false, "", "", 8⟩, ⟨ "Hash", 86, 2, false, "", "", 16⟩, ⟨ "TFlag", 87, 3, false, "", "", 20⟩, ⟨ "Align_", 5, 4, false, "", "", 21⟩, ⟨ "FieldAlign_", 5, 5, false, "", "", 22⟩, ⟨ "Kind_", 88, 6, false, "", "", 23⟩, ⟨ "Equal", 89, 7, false, "", "", 24⟩, ⟨ "GCData", 69, 8, false, "", "", 32⟩, ⟨ "Str", 90, 9, false, "", "", 40⟩, ⟨ "PtrToThis", 91, 10, false, "", "", 44⟩], cks := [(.int .u64), (.int .u64), (.int .u32), (.int .u8), (.int .u8), (.int .u8), (.int .u8), .func, .ptr, (.int .i32), (.int .i32)], nbytes := 48 }
def ty94 : Ty := { desc := .func #[4, 3] #[3] false, cks := [.func], nbytes := 8 }
def ty95 : Ty := { desc := .func #[3] #[9] false, cks := [.func], nbytes := 8 }
def ty96 : Ty := { desc := .func #[2, 3] #[9] false, cks := [.func], nbytes := 8 }
def ty97 : Ty := { desc := .array 24 5, cks := [(.int .u8), (.int .u8), (.int .u8), (.int .u8), (.int .u8), (.int .u8), (.int .u8), (.int .u8), (.int .u8), (.int .u8), (.int .u8), (.int .u8), (.int .u8), (.int .u8), (.int .u8), (.int .u8), (.int .u8), (.int .u8), (.int .u8), (.int .u8), (.int .u8), (.int .u8), (.int .u8), (.int .u8)], nbytes := 24 }
def ty98 : Ty := { desc := .int .u64, cks := [(.int .u64)], nbytes := 8 }
def ty99 : Ty := { desc := .func #[98] #[3] false, cks := [.func], nbytes := 8 }
def ty100 : Ty := { desc := .func #[22, 98] #[] false, cks := [.func], nbytes := 8 }
def ty102 : Ty := { desc := .func #[22, 98, 3, 4, 4] #[22, 9] false, cks := [.func], nbytes := 8 }
def ty103 : Ty := { desc := .func #[4] #[3] false, cks := [.func], nbytes := 8 }
def ty104 : Ty := { desc := .array 20 98, cks := [(.int .u64), (.int .u64), (.int .u64), (.int .u64), (.int .u64), (.int .u64), (.int .u64), (.int .u64), (.int .u64), (.int .u64), (.int .u64), (.int .u64), (.int .u64), (.int .u64), (.int .u64), (.int .u64), (.int .u64), (.int .u64), (.int .u64), (.int .u64)], nbytes := 160 }
def ty106 : Ty := { desc := .func #[3] #[4] false, cks := [.func], nbytes := 8 }
def ty107 : Ty := { desc := .func #[51] #[3] false, cks := [.func], nbytes := 8 }
def ty108 : Ty := { desc := .func #[86] #[3] false, cks := [.func], nbytes := 8 }
def ty109 : Ty := { desc := .array 32 5, cks := [(.int .u8), (.int .u8), (.int .u8), (.int .u8), (.int .u8), (.int .u8), (.int .u8), (.int .u8), (.int .u8), (.int .u8), (.int .u8), (.int .u8), (.int .u8), (.int .u8), (.int .u8), (.int .u8), (.int .u8), (.int .u8), (.int .u8), (.int .u8), (.int .u8), (.int .u8), (.int .u8), (.int .u8), (.int .u8), (.int .u8), (.int .u8), (.int .u8), (.int .u8), (.int .u8), (.int .u8), (.int .u8)], nbytes := 32 }
def ty110 : Ty := { desc := .array 64 5, cks := [(.int .u8), (.int .u8), (.int .u8), (.int .u8), (.int .u8), (.int .u8), (.int .u8), (.int .u8), (.int .u8), (.int .u8), (.int .u8), (.int .u8), (.int .u8), (.int .u8), (.int .u8), (.int .u8), (.int .u8), (.int .u8), (.int .u8), (.int .u8), (.int .u8), (.int .u8), (.int .u8), (.int .u8), (.int .u8), (.int .u8), (.int .u8), (.int .u8), (.int .u8), (.int .u8), (.int .u8), (.int .u8), (.int .u8), (.int .u8), (.int .u8), (.int .u8), (.int .u8), (.int .u8), (.int .u8), (.int .u8), (.int .u8), (.int .u8), (.int .u8), (.int .u8), (.int .u8), (.int .u8), (.int .u8), (.int .u8), (.int .u8), (.int .u8), (.int .u8), (.int .u8), (.int .u8), (.int .u8), (.int .u8), (.int .u8), (.int .u8), (.int .u8), (.int .u8), (.int .u8), (.int .u8), (.int .u8), (.int .u8), (.int .u8)], nbytes := 64 }
def T0 (t : TypeId) : Option Ty :=
  (match Nat.blt t 55 with
  | true => (match Nat.blt t 26 with
   | true => (match Nat.blt t 13 with
    | true => (match Nat.blt t 7 with
     | true => (match Nat.blt t 4 with
      | true => (match Nat.blt t 2 with
       | true => (match t == 1 with | true => some ty1 | false => none)
       | false => (match Nat.blt t 3 with
        | true => (match t == 2 with | true => some ty2 | false => none)
        | false => (match t == 3 with | true => some ty3 | false => none)))
      | false => (match Nat.blt t 5 with
       | true => (match t == 4 with | true => some ty4 | false => none)
       | false => (match Nat.blt t 6 with
        | true => (match t == 5 with | true => some ty5 | false => none)
        | false => (match t == 6 with | true => some ty6 | false => none))))
     | false => (match Nat.blt t 10 with
      | true => (match Nat.blt t 8 with
       | true => (match t == 7 with | true => some ty7 | false => none)
       | false => (match Nat.blt t 9 with
        | true => (match t == 8 with | true => some ty8 | false => none)
        | false => (match t == 9 with | true => some ty9 | false => none)))
      | false => (match Nat.blt t 11 with
       | true => (match t == 10 with | true => some ty10 | false => none)
       | false => (match Nat.blt t 12 with
        | true => (match t == 11 with | true => some ty11 | false => none)
        | false => (match t == 12 with | true => some ty12 | false => none)))))
    | false => (match Nat.blt t 19 with
     | true => (match Nat.blt t 16 with
      | true => (match Nat.blt t 14 with
       | true => (match t == 13 with | true => some ty13 | false => none)
       | false => (match Nat.blt t 15 with
        | true => (match t == 14 with | true => some ty14 | false => none)
        | false => (match t == 15 with | true => some ty15 | false => none)))
      | false => (match Nat.blt t 17 with
       | true => (match t == 16 with | true => some ty16 | false => none)
       | false => (match Nat.blt t 18 with
        | true => (match t == 17 with | true => some ty17 | false => none)
        | false => (match t == 18 with | true => some ty18 | false => none))))
     | false => (match Nat.blt t 22 with
      | true => (match Nat.blt t 20 with
       | true => (match t == 19 with | true => some ty19 | false => none)
       | false => (match Nat.blt t 21 with
        | true => (match t == 20 with | true => some ty20 | false => none)
        | false => (match t == 21 with | true => some ty21 | false => none)))
      | false => (match Nat.blt t 24 with
       | true => (match Nat.blt t 23 with
        | true => (match t == 22 with | true => some ty22 | false => none)
        | false => (match t == 23 with | true => some ty23 | false => none))
       | false => (match Nat.blt t 25 with
        | true => (match t == 24 with | true => some ty24 | false => none)
        | false => (match t == 25 with | true => some ty25 | false => none))))))
   | false => (match Nat.blt t 38 with
    | true => (match Nat.blt t 32 with
     | true => (match Nat.blt t 29 with
      | true => (match Nat.blt t 27 with
       | true => (match t == 26 with | true => some ty26 | false => none)
       | false => (match Nat.blt t 28 with
        | true => (match t == 27 with | true => some ty27 | false => none)
        | false => (match t == 28 with | true => some ty28 | false => none)))
      | false => (match Nat.blt t 30 with
       | true => (match t == 29 with | true => some ty29 | false => none)
       | false => (match Nat.blt t 31 with
        | true => (match t == 30 with | true => some ty30 | false => none)
        | false => (match t == 31 with | true => some ty31 | false => none))))
     | false => (match Nat.blt t 35 with
      | true => (match Nat.blt t 33 with
       | true => (match t == 32 with | true => some ty32 | false => none)
       | false => (match Nat.blt t 34 with
        | true => (match t == 33 with | true => some ty33 | false => none)
        | false => (match t == 34 with | true => some ty34 | false => none)))
      | false => (match Nat.blt t 36 with
       | true => (match t == 35 with | true => some ty35 | false => none)
       | false => (match Nat.blt t 37 with
        | true => (match t == 36 with | true => some ty36 | false => none)
        | false => (match t == 37 with | true => some ty37 | false => none)))))
    | false => (match Nat.blt t 48 with
     | true => (match Nat.blt t 43 with
      | true => (match Nat.blt t 40 with
       | true => (match t == 38 with | true => some ty38 | false => none)
       | false => (match Nat.blt t 42 with
        | true => (match t == 40 with | true => some ty40 | false => none)
        | false => (match t == 42 with | true => some ty42 | false => none)))
      | false => (match Nat.blt t 44 with
       | true => (match t == 43 with | true => some ty43 | false => none)
       | false => (match Nat.blt t 46 with
        | true => (match t == 44 with | true => some ty44 | false => none)
        | false => (match t == 46 with | true => some ty46 | false => none))))
     | false => (match Nat.blt t 51 with
      | true => (match Nat.blt t 49 with
       | true => (match t == 48 with | true => some ty48 | false => none)
       | false => (match Nat.blt t 50 with
        | true => (match t == 49 with | true => some ty49 | false => none)
        | false => (match t == 50 with | true => some ty50 | false => none)))
      | false => (match Nat.blt t 53 with
       | true => (match Nat.blt t 52 with
        | true => (match t == 51 with | true => some ty51 | false => none)
        | false => (match t == 52 with | true => some ty52 | false => none))
       | false => (match Nat.blt t 54 with
        | true => (match t == 53 with | true => some ty53 | false => none)
        | false => (match t == 54 with | true => some ty54 | false => none)))))))
  | false => (match Nat.blt t 84 with
   | true => (match Nat.blt t 69 with
    | true => (match Nat.blt t 62 with
     | true => (match Nat.blt t 59 with
      | true => (match Nat.blt t 56 with
       | true => (match t == 55 with | true => some ty55 | false => none)
       | false => (match Nat.blt t 57 with
        | true => (match t == 56 with | true => some ty56 | false => none)
        | false => (match t == 57 with | true => some ty57 | false => none)))
      | false => (match Nat.blt t 60 with
       | true => (match t == 59 with | true => some ty59 | false => none)
       | false => (match Nat.blt t 61 with
        | true => (match t == 60 with | true => some ty60 | false => none)
        | false => (match t == 61 with | true => some ty61 | false => none))))
     | false => (match Nat.blt t 65 with
      | true => (match Nat.blt t 63 with
       | true => (match t == 62 with | true => some ty62 | false => none)
       | false => (match Nat.blt t 64 with
        | true => (match t == 63 with | true => some ty63 | false => none)
        | false => (match t == 64 with | true => some ty64 | false => none)))
      | false => (match Nat.blt t 67 with
       | true => (match t == 65 with | true => some ty65 | false => none)
       | false => (match Nat.blt t 68 with
        | true => (match t == 67 with | true => some ty67 | false => none)
        | false => (match t == 68 with | true => some ty68 | false => none)))))
    | false => (match Nat.blt t 76 with
     | true => (match Nat.blt t 73 with
      | true => (match Nat.blt t 70 with
       | true => (match t == 69 with | true => some ty69 | false => none)
       | false => (match Nat.blt t 71 with
        | true => (match t == 70 with | true => some ty70 | false => none)
        | false => (match t == 71 with | true => some ty71 | false => none)))
      | false => (match Nat.blt t 74 with
       | true => (match t == 73 with | true => some ty73 | false => none)
       | false => (match Nat.blt t 75 with
        | true => (match t == 74 with | true => some ty74 | false => none)
        | false => (match t == 75 with | true => some ty75 | false => none))))
     | false => (match Nat.blt t 80 with
      | true => (match Nat.blt t 77 with
       | true => (match t == 76 with | true => some ty76 | false => none)
       | false => (match Nat.blt t 79 with
        | true => (match t == 77 with | true => some ty77 | false => none)
        | false => (match t == 79 with | true => some ty79 | false => none)))
      | false => (match Nat.blt t 82 with
       | true => (match Nat.blt t 81 with
        | true => (match t == 80 with | true => some ty80 | false => none)
        | false => (match t == 81 with | true => some ty81 | false => none))
       | false => (match Nat.blt t 83 with
        | true => (match t == 82 with | true => some ty82 | false => none)
        | false => (match t == 83 with | true => some ty83 | false => none))))))
   | false => (match Nat.blt t 96 with
    | true => (match Nat.blt t 90 with
     | true => (match Nat.blt t 87 with
      | true => (match Nat.blt t 85 with
       | true => (match t == 84 with | true => some ty84 | false => none)
       | false => (match Nat.blt t 86 with
        | true => (match t == 85 with | true => some ty85 | false => none)
        | false => (match t == 86 with | true => some ty86 | false => none)))
      | false => (match Nat.blt t 88 with
       | true => (match t == 87 with | true => some ty87 | false => none)
       | false => (match Nat.blt t 89 with
        | true => (match t == 88 with | true => some ty88 | false => none)
        | false => (match t == 89 with | true => some ty89 | false => none))))
     | false => (match Nat.blt t 93 with
      | true => (match Nat.blt t 91 with
       | true => (match t == 90 with | true => some ty90 | false => none)
       | false => (match Nat.blt t 92 with
        | true => (match t == 91 with | true => some ty91 | false => none)
        | false => (match t == 92 with | true => some ty92 | false => none)))
      | false => (match Nat.blt t 94 with
       | true => (match t == 93 with | true => some ty93 | false => none)
       | false => (match Nat.blt t 95 with
        | true => (match t == 94 with | true => some ty94 | false => none)
        | false => (match t == 95 with | true => some ty95 | false => none)))))
    | false => (match Nat.blt t 103 with
     | true => (match Nat.blt t 99 with
      | true => (match Nat.blt t 97 with
       | true => (match t == 96 with | true => some ty96 | false => none)
       | false => (match Nat.blt t 98 with
        | true => (match t == 97 with | true => some ty97 | false => none)
        | false => (match t == 98 with | true => some ty98 | false => none)))
      | false => (match Nat.blt t 100 with
       | true => (match t == 99 with | true => some ty99 | false => none)
       | false => (match Nat.blt t 102 with
        | true => (match t == 100 with | true => some ty100 | false => none)
        | false => (match t == 102 with | true => some ty102 | false => none))))
     | false => (match Nat.blt t 107 with
      | true => (match Nat.blt t 104 with
       | true => (match t == 103 with | true => some ty103 | false => none)
       | false => (match Nat.blt t 106 with
        | true => (match t == 104 with | true => some ty104 | false => none)
        | false => (match t == 106 with | true => some ty106 | false => none)))
      | false => (match Nat.blt t 109 with
       | true => (match Nat.blt t 108 with
        | true => (match t == 107 with | true => some ty107 | false => none)
        | false => (match t == 108 with | true => some ty108 | false => none))
       | false => (match Nat.blt t 110 with
        | true => (match t == 109 with | true => some ty109 | false => none)
        | false => (match t == 110 with | true => some ty110 | false => none))))))))
def T (t : TypeId) : Option Ty := upTo 111 T0 t
theorem tok1 : TyOK Try.prog 1 ty1 := tyOK_of (by kernel_rfl) (by kernel_rfl) (by kernel_rfl) (by kernel_rfl)
theorem tok2 : TyOK Try.prog 2 ty2 := tyOK_of (by kernel_rfl) (by kernel_rfl) (by kernel_rfl) (by kernel_rfl)
theorem tok3 : TyOK Try.prog 3 ty3 := tyOK_of (by kernel_rfl) (by kernel_rfl) (by kernel_rfl) (by kernel_rfl)
theorem tok4 : TyOK Try.prog 4 ty4 := tyOK_of (by kernel_rfl) (by kernel_rfl) (by kernel_rfl) (by kernel_rfl)
theorem tok5 : TyOK Try.prog 5 ty5 := tyOK_of (by kernel_rfl) (by kernel_rfl) (by kernel_rfl) (by kernel_rfl)
theorem tok6 : TyOK Try.prog 6 ty6 := tyOK_of (by kernel_rfl) (by kernel_rfl) (by kernel_rfl) (by kernel_rfl)
theorem tok7 : TyOK Try.prog 7 ty7 := tyOK_of (by kernel_rfl) (by kernel_rfl) (by kernel_rfl) (by kernel_rfl)
theorem tok8 : TyOK Try.prog 8 ty8 := tyOK_of (by kernel_rfl) (by kernel_rfl) (by kernel_rfl) (by kernel_rfl)
theorem tok9 : TyOK Try.prog 9 ty9 := tyOK_of (by kernel_rfl) (by kernel_rfl) (by kernel_rfl) (by kernel_rfl)
theorem tok10 : TyOK Try.prog 10 ty10 := tyOK_of (by kernel_rfl) (by kernel_rfl) (by kernel_rfl) (by kernel_rfl)
theorem tok11 : TyOK Try.prog 11 ty11 := tyOK_of (by kernel_rfl) (by kernel_rfl) (by kernel_rfl) (by kernel_rfl)
theorem tok12 : TyOK Try.prog 12 ty12 := tyOK_of (by kernel_rfl) (by kernel_rfl) (by kernel_rfl) (by kernel_rfl)
theorem tok13 : TyOK Try.prog 13 ty13 := tyOK_of (by kernel_rfl) (by kernel_rfl) (by kernel_rfl) (by kernel_rfl)
theorem tok14 : TyOK Try.prog 14 ty14 := tyOK_of (by kernel_rfl) (by kernel_rfl) (by kernel_rfl) (by kernel_rfl)
theorem tok15 : TyOK Try.prog 15 ty15 := tyOK_of (by kernel_rfl) (by kernel_rfl) (by kernel_rfl) (by kernel_rfl)
theorem tok16 : TyOK Try.prog 16 ty16 := tyOK_of (by kernel_rfl) (by kernel_rfl) (by kernel_rfl) (by kernel_rfl)
theorem tok17 : TyOK Try.prog 17 ty17 := tyOK_of (by kernel_rfl) (by kernel_rfl) (by kernel_rfl) (by kernel_rfl)
theorem tok18 : TyOK Try.prog 18 ty18 := tyOK_of (by kernel_rfl) (by kernel_rfl) (by kernel_rfl) (by kernel_rfl)
theorem tok19 : TyOK Try.prog 19 ty19 := tyOK_of (by kernel_rfl) (by kernel_rfl) (by kernel_rfl) (by kernel_rfl)
theorem tok20 : TyOK Try.prog 20 ty20 := tyOK_of (by kernel_rfl) (by kernel_rfl) (by kernel_rfl) (by kernel_rfl)
theorem tok21 : TyOK Try.prog 21 ty21 := tyOK_of (by kernel_rfl) (by kernel_rfl) (by kernel_rfl) (by kernel_rfl)
theorem tok22 : TyOK Try.prog 22 ty22 := tyOK_of (by kernel_rfl) (by kernel_rfl) (by kernel_rfl) (by kernel_rfl)
theorem tok23 : TyOK Try.prog 23 ty23 := tyOK_of (by kernel_rfl) (by kernel_rfl) (by kernel_rfl) (by kernel_rfl)
theorem tok24 : TyOK Try.prog 24 ty24 := tyOK_of (by kernel_rfl) (by kernel_rfl) (by kernel_rfl) (by kernel_rfl)
theorem tok25 : TyOK Try.prog 25 ty25 := tyOK_of (by kernel_rfl) (by kernel_rfl) (by kernel_rfl) (by kernel_rfl)
theorem tok26 : TyOK Try.prog 26 ty26 := tyOK_of (by kernel_rfl) (by kernel_rfl) (by kernel_rfl) (by kernel_rfl)
theorem tok27 : TyOK Try.prog 27 ty27 := tyOK_of (by kernel_rfl) (by kernel_rfl) (by kernel_rfl) (by kernel_rfl)
theorem tok28 : TyOK Try.prog 28 ty28 := tyOK_of (by kernel_rfl) (by kernel_rfl) (by kernel_rfl) (by kernel_rfl)
theorem tok29 : TyOK Try.prog 29 ty29 := tyOK_of (by kernel_rfl) (by kernel_rfl) (by kernel_rfl) (by kernel_rfl)
theorem tok30 : TyOK Try.prog 30 ty30 := tyOK_of (by kernel_rfl) (by kernel_rfl) (by kernel_rfl) (by kernel_rfl)
theorem tok31 : TyOK Try.prog 31 ty31 := tyOK_of (by kernel_rfl) (by kernel_rfl) (by kernel_rfl) (by kernel_rfl)
theorem tok32 : TyOK Try.prog 32 ty32 := tyOK_of (by kernel_rfl) (by kernel_rfl) (by kernel_rfl) (by kernel_rfl)
theorem tok33 : TyOK Try.prog 33 ty33 := tyOK_of (by kernel_rfl) (by kernel_rfl) (by kernel_rfl) (by kernel_rfl)
theorem tok34 : TyOK Try.prog 34 ty34 := tyOK_of (by kernel_rfl) (by kernel_rfl) (by kernel_rfl) (by kernel_rfl)
theorem tok35 : TyOK Try.prog 35 ty35 := tyOK_of (by kernel_rfl) (by kernel_rfl) (by kernel_rfl) (by kernel_rfl)
theorem tok36 : TyOK Try.prog 36 ty36 := tyOK_of (by kernel_rfl) (by kernel_rfl) (by kernel_rfl) (by kernel_rfl)
theorem tok37 : TyOK Try.prog 37 ty37 := tyOK_of (by kernel_rfl) (by kernel_rfl) (by kernel_rfl) (by kernel_rfl)
theorem tok38 : TyOK Try.prog 38 ty38 := tyOK_of (by kernel_rfl) (by kernel_rfl) (by kernel_rfl) (by kernel_rfl)
theorem tok40 : TyOK Try.prog 40 ty40 := tyOK_of (by kernel_rfl) (by kernel_rfl) (by kernel_rfl) (by kernel_rfl)
theorem tok42 : TyOK Try.prog 42 ty42 := tyOK_of (by kernel_rfl) (by kernel_rfl) (by kernel_rfl) (by kernel_rfl)
theorem tok43 : TyOK Try.prog 43 ty43 := tyOK_of (by kernel_rfl) (by kernel_rfl) (by kernel_rfl) (by kernel_rfl)
theorem tok44 : TyOK Try.prog 44 ty44 := tyOK_of (by kernel_rfl) (by kernel_rfl) (by kernel_rfl) (by kernel_rfl)
theorem tok46 : TyOK Try.prog 46 ty46 := tyOK_of (by kernel_rfl) (by kernel_rfl) (by kernel_rfl) (by kernel_rfl)
theorem tok48 : TyOK Try.prog 48 ty48 := tyOK_of (by kernel_rfl) (by kernel_rfl) (by kernel_rfl) (by kernel_rfl)
theorem tok49 : TyOK Try.prog 49 ty49 := tyOK_of (by kernel_rfl) (by kernel_rfl) (by kernel_rfl) (by kernel_rfl)
theorem tok50 : TyOK Try.prog 50 ty50 := tyOK_of (by kernel_rfl) (by kernel_rfl) (by kernel_rfl) (by kernel_rfl)
theorem tok51 : TyOK Try.prog 51 ty51 := tyOK_of (by kernel_rfl) (by kernel_rfl) (by kernel_rfl) (by kernel_rfl)
theorem tok52 : TyOK Try.prog 52 ty52 := tyOK_of (by kernel_rfl) (by kernel_rfl) (by kernel_rfl) (by kernel_rfl)
theorem tok53 : TyOK Try.prog 53 ty53 := tyOK_of (by kernel_rfl) (by kernel_rfl) (by kernel_rfl) (by kernel_rfl)
theorem tok54 : TyOK Try.prog 54 ty54 := tyOK_of (by kernel_rfl) (by kernel_rfl) (by kernel_rfl) (by kernel_rfl)
theorem tok55 : TyOK Try.prog 55 ty55 := tyOK_of (by kernel_rfl) (by kernel_rfl) (by kernel_rfl) (by kernel_rfl)
theorem tok56 : TyOK Try.prog 56 ty56 := tyOK_of (by kernel_rfl) (by kernel_rfl) (by kernel_rfl) (by kernel_rfl)
theorem tok57 : TyOK Try.prog 57 ty57 := tyOK_of (by kernel_rfl) (by kernel_rfl) (by kernel_rfl) (by kernel_rfl)
theorem tok59 : TyOK Try.prog 59 ty59 := tyOK_of (by kernel_rfl) (by kernel_rfl) (by kernel_rfl) (by kernel_rfl)
theorem tok60 : TyOK Try.prog 60 ty60 := tyOK_of (by kernel_rfl) (by kernel_rfl) (by kernel_rfl) (by kernel_rfl)
theorem tok61 : TyOK Try.prog 61 ty61 := tyOK_of (by kernel_rfl) (by kernel_rfl) (by kernel_rfl) (by kernel_rfl)
theorem tok62 : TyOK Try.prog 62 ty62 := tyOK_of (by kernel_rfl) (by kernel_rfl) (by kernel_rfl) (by kernel_rfl)
theorem tok63 : TyOK Try.prog 63 ty63 := tyOK_of (by kernel_rfl) (by kernel_rfl) (by kernel_rfl) (by kernel_rfl)
theorem tok64 : TyOK Try.prog 64 ty64 := tyOK_of (by kernel_rfl) (by kernel_rfl) (by kernel_rfl) (by kernel_rfl)
theorem tok65 : TyOK Try.prog 65 ty65 := tyOK_of (by kernel_rfl) (by kernel_rfl) (by kernel_rfl) (by kernel_rfl)
theorem tok67 : TyOK Try.prog 67 ty67 := tyOK_of (by kernel_rfl) (by kernel_rfl) (by kernel_rfl) (by kernel_rfl)
theorem tok68 : TyOK Try.prog 68 ty68 := tyOK_of (by kernel_rfl) (by kernel_rfl) (by kernel_rfl) (by kernel_rfl)
theorem tok69 : TyOK Try.prog 69 ty69 := tyOK_of (by kernel_rfl) (by kernel_rfl) (by kernel_rfl) (by kernel_rfl)
theorem tok70 : TyOK Try.prog 70 ty70 := tyOK_of (by kernel_rfl) (by kernel_rfl) (by kernel_rfl) (by kernel_rfl)
theorem tok71 : TyOK Try.prog 71 ty71 := tyOK_of (by kernel_rfl) (by kernel_rfl) (by kernel_rfl) (by kernel_rfl)
theorem tok73 : TyOK Try.prog 73 ty73 := tyOK_of (by kernel_rfl) (by kernel_rfl) (by kernel_rfl) (by kernel_rfl)
theorem tok74 : TyOK Try.prog 74 ty74 := tyOK_of (by kernel_rfl) (by kernel_rfl) (by kernel_rfl) (by kernel_rfl)
theorem tok75 : TyOK Try.prog 75 ty75 := tyOK_of (by kernel_rfl) (by kernel_rfl) (by kernel_rfl) (by kernel_rfl)
theorem tok76 : TyOK Try.prog 76 ty76 := tyOK_of (by kernel_rfl) (by kernel_rfl) (by kernel_rfl) (by kernel_rfl)
theorem tok77 : TyOK Try.prog 77 ty77 := tyOK_of (by kernel_rfl) (by kernel_rfl) (by kernel_rfl) (by kernel_rfl)
theorem tok79 : TyOK Try.prog 79 ty79 := tyOK_of (by kernel_rfl) (by kernel_rfl) (by kernel_rfl) (by kernel_rfl)
theorem tok80 : TyOK Try.prog 80 ty80 := tyOK_of (by kernel_rfl) (by kernel_rfl) (by kernel_rfl) (by kernel_rfl)
theorem tok81 : TyOK Try.prog 81 ty81 := tyOK_of (by kernel_rfl) (by kernel_rfl) (by kernel_rfl) (by kernel_rfl)
theorem tok82 : TyOK Try.prog 82 ty82 := tyOK_of (by kernel_rfl) (by kernel_rfl) (by kernel_rfl) (by kernel_rfl)
theorem tok83 : TyOK Try.prog 83 ty83 := tyOK_of (by kernel_rfl) (by kernel_rfl) (by kernel_rfl) (by kernel_rfl)
theorem tok84 : TyOK Try.prog 84 ty84 := tyOK_of (by kernel_rfl) (by kernel_rfl) (by kernel_rfl) (by kernel_rfl)
theorem tok85 : TyOK Try.prog 85 ty85 := tyOK_of (by kernel_rfl) (by kernel_rfl) (by kernel_rfl) (by kernel_rfl)
theorem tok86 : TyOK Try.prog 86 ty86 := tyOK_of (by kernel_rfl) (by kernel_rfl) (by kernel_rfl) (by kernel_rfl)
theorem tok87 : TyOK Try.prog 87 ty87 := tyOK_of (by kernel_rfl) (by kernel_rfl) (by kernel_rfl) (by kernel_rfl)
theorem tok88 : TyOK Try.prog 88 ty88 := tyOK_of (by kernel_rfl) (by kernel_rfl) (by kernel_rfl) (by kernel_rfl)
theorem tok89 : TyOK Try.prog 89 ty89 := tyOK_of (by kernel_rfl) (by kernel_rfl) (by kernel_rfl) (by kernel_rfl)
theorem tok90 : TyOK Try.prog 90 ty90 := tyOK_of (by kernel_rfl) (by kernel_rfl) (by kernel_rfl) (by kernel_rfl)
theorem tok91 : TyOK Try.prog 91 ty91 := tyOK_of (by kernel_rfl) (by kernel_rfl) (by kernel_rfl) (by kernel_rfl)
theorem tok92 : TyOK Try.prog 92 ty92 := tyOK_of (by kernel_rfl) (by kernel_rfl) (by kernel_rfl) (by kernel_rfl)
theorem tok93 : TyOK Try.prog 93 ty93 := tyOK_of (by kernel_rfl) (by kernel_rfl) (by kernel_rfl) (by kernel_rfl)
theorem tok94 : TyOK Try.prog 94 ty94 := tyOK_of (by kernel_rfl) (by kernel_rfl) (by kernel_rfl) (by kernel_rfl)
theorem tok95 : TyOK Try.prog 95 ty95 := tyOK_of (by kernel_rfl) (by kernel_rfl) (by kernel_rfl) (by kernel_rfl)
theorem tok96 : TyOK Try.prog 96 ty96 := tyOK_of (by kernel_rfl) (by kernel_rfl) (by kernel_rfl) (by kernel_rfl)
theorem tok97 : TyOK Try.prog 97 ty97 := tyOK_of (by kernel_rfl) (by kernel_rfl) (by kernel_rfl) (by kernel_rfl)
theorem tok98 : TyOK Try.prog 98 ty98 := tyOK_of (by kernel_rfl) (by kernel_rfl) (by kernel_rfl) (by kernel_rfl)
theorem tok99 : TyOK Try.prog 99 ty99 := tyOK_of (by kernel_rfl) (by kernel_rfl) (by kernel_rfl) (by kernel_rfl)
theorem tok100 : TyOK Try.prog 100 ty100 := tyOK_of (by kernel_rfl) (by kernel_rfl) (by kernel_rfl) (by kernel_rfl)
theorem tok102 : TyOK Try.prog 102 ty102 := tyOK_of (by kernel_rfl) (by kernel_rfl) (by kernel_rfl) (by kernel_rfl)
theorem tok103 : TyOK Try.prog 103 ty103 := tyOK_of (by kernel_rfl) (by kernel_rfl) (by kernel_rfl) (by kernel_rfl)
theorem tok104 : TyOK Try.prog 104 ty104 := tyOK_of (by kernel_rfl) (by kernel_rfl) (by kernel_rfl) (by kernel_rfl)
theorem tok106 : TyOK Try.prog 106 ty106 := tyOK_of (by kernel_rfl) (by kernel_rfl) (by kernel_rfl) (by kernel_rfl)
theorem tok107 : TyOK Try.prog 107 ty107 := tyOK_of (by kernel_rfl) (by kernel_rfl) (by kernel_rfl) (by kernel_rfl)
theorem tok108 : TyOK Try.prog 108 ty108 := tyOK_of (by kernel_rfl) (by kernel_rfl) (by kernel_rfl) (by kernel_rfl)
theorem tok109 : TyOK Try.prog 109 ty109 := tyOK_of (by kernel_rfl) (by kernel_rfl) (by kernel_rfl) (by kernel_rfl)
theorem tok110 : TyOK Try.prog 110 ty110 := tyOK_of (by kernel_rfl) (by kernel_rfl) (by kernel_rfl) (by kernel_rfl)
theorem T_ok : TypesOK Try.prog T := typesOK_of (n := 111) (T := T0) (h := ⟨⟨⟨⟨⟨⟨⟨⟨⟨⟨⟨⟨⟨⟨⟨⟨⟨⟨⟨⟨⟨⟨⟨⟨⟨⟨⟨⟨⟨⟨⟨⟨⟨⟨⟨⟨⟨⟨⟨⟨⟨⟨⟨⟨⟨⟨⟨⟨⟨⟨⟨⟨⟨⟨⟨⟨⟨⟨⟨⟨⟨⟨⟨⟨⟨⟨⟨⟨⟨⟨⟨⟨⟨⟨⟨⟨⟨⟨⟨⟨⟨⟨⟨⟨⟨⟨⟨⟨⟨⟨⟨⟨⟨⟨⟨⟨⟨⟨⟨⟨⟨⟨⟨⟨⟨⟨⟨⟨⟨⟨⟨trivial,
 tyAt_none (by kernel_rfl)⟩,
 tyAt_some (by kernel_rfl) tok1⟩,
 tyAt_some (by kernel_rfl) tok2⟩,
 tyAt_some (by kernel_rfl) tok3⟩,
 tyAt_some (by kernel_rfl) tok4⟩,
 tyAt_some (by kernel_rfl) tok5⟩,
 tyAt_some (by kernel_rfl) tok6⟩,
 tyAt_some (by kernel_rfl) tok7⟩,
 tyAt_some (by kernel_rfl) tok8⟩,
 tyAt_some (by kernel_rfl) tok9⟩,
 tyAt_some (by kernel_rfl) tok10⟩,
 tyAt_some (by kernel_rfl) tok11⟩,
 tyAt_some (by kernel_rfl) tok12⟩,
 tyAt_some (by kernel_rfl) tok13⟩,
 tyAt_some (by kernel_rfl) tok14⟩,
 tyAt_some (by kernel_rfl) tok15⟩,
 tyAt_some (by kernel_rfl) tok16⟩,
 tyAt_some (by kernel_rfl) tok17⟩,
 tyAt_some (by kernel_rfl) tok18⟩,
 tyAt_some (by kernel_rfl) tok19⟩,
 tyAt_some (by kernel_rfl) tok20⟩,
 tyAt_some (by kernel_rfl) tok21⟩,
 tyAt_some (by kernel_rfl) tok22⟩,
 tyAt_some (by kernel_rfl) tok23⟩,
 tyAt_some (by kernel_rfl) tok24⟩,
 tyAt_some (by kernel_rfl) tok25⟩,
 tyAt_some (by kernel_rfl) tok26⟩,
 tyAt_some (by kernel_rfl) tok27⟩,
 tyAt_some (by kernel_rfl) tok28⟩,
 tyAt_some (by kernel_rfl) tok29⟩,
 tyAt_some (by kernel_rfl) tok30⟩,
 tyAt_some (by kernel_rfl) tok31⟩,
 tyAt_some (by kernel_rfl) tok32⟩,
 tyAt_some (by kernel_rfl) tok33⟩,
 tyAt_some (by kernel_rfl) tok34⟩,
 tyAt_some (by kernel_rfl) tok35⟩,
 tyAt_some (by kernel_rfl) tok36⟩,
 tyAt_some (by kernel_rfl) tok37⟩,
 tyAt_some (by kernel_rfl) tok38⟩,
 tyAt_none (by kernel_rfl)⟩,
 tyAt_some (by kernel_rfl) tok40⟩,
 tyAt_none (by kernel_rfl)⟩,
 tyAt_some (by kernel_rfl) tok42⟩,
 tyAt_some (by kernel_rfl) tok43⟩,
 tyAt_some (by kernel_rfl) tok44⟩,
 tyAt_none (by kernel_rfl)⟩,
 tyAt_some (by kernel_rfl) tok46⟩,
 tyAt_none (by kernel_rfl)⟩,
 tyAt_some (by kernel_rfl) tok48⟩,
 tyAt_some (by kernel_rfl) tok49⟩,
 tyAt_some (by kernel_rfl) tok50⟩,
 tyAt_some (by kernel_rfl) tok51⟩,
 tyAt_some (by kernel_rfl) tok52⟩,
 tyAt_some (by kernel_rfl) tok53⟩,
 tyAt_some (by kernel_rfl) tok54⟩,
 tyAt_some (by kernel_rfl) tok55⟩,
 tyAt_some (by kernel_rfl) tok56⟩,
 tyAt_some (by kernel_rfl) tok57⟩,
 tyAt_none (by kernel_rfl)⟩,
 tyAt_some (by kernel_rfl) tok59⟩,
 tyAt_some (by kernel_rfl) tok60⟩,
 tyAt_some (by kernel_rfl) tok61⟩,
 tyAt_some (by kernel_rfl) tok62⟩,
 tyAt_some (by kernel_rfl) tok63⟩,
 tyAt_some (by kernel_rfl) tok64⟩,
 tyAt_some (by kernel_rfl) tok65⟩,
 tyAt_none (by kernel_rfl)⟩,
 tyAt_some (by kernel_rfl) tok67⟩,
 tyAt_some (by kernel_rfl) tok68⟩,
 tyAt_some (by kernel_rfl) tok69⟩,
 tyAt_some (by kernel_rfl) tok70⟩,
 tyAt_some (by kernel_rfl) tok71⟩,
 tyAt_none (by kernel_rfl)⟩,
 tyAt_some (by kernel_rfl) tok73⟩,
 tyAt_some (by kernel_rfl) tok74⟩,
 tyAt_some (by kernel_rfl) tok75⟩,
 tyAt_some (by kernel_rfl) tok76⟩,
 tyAt_some (by kernel_rfl) tok77⟩,
 tyAt_none (by kernel_rfl)⟩,
 tyAt_some (by kernel_rfl) tok79⟩,
 tyAt_some (by kernel_rfl) tok80⟩,
 tyAt_some (by kernel_rfl) tok81⟩,
 tyAt_some (by kernel_rfl) tok82⟩,
 tyAt_some (by kernel_rfl) tok83⟩,
 tyAt_some (by kernel_rfl) tok84⟩,
 tyAt_some (by kernel_rfl) tok85⟩,
 tyAt_some (by kernel_rfl) tok86⟩,
 tyAt_some (by kernel_rfl) tok87⟩,
 tyAt_some (by kernel_rfl) tok88⟩,
 tyAt_some (by kernel_rfl) tok89⟩,
 tyAt_some (by kernel_rfl) tok90⟩,
 tyAt_some (by kernel_rfl) tok91⟩,
 tyAt_some (by kernel_rfl) tok92⟩,
 tyAt_some (by kernel_rfl) tok93⟩,
 tyAt_some (by kernel_rfl) tok94⟩,
 tyAt_some (by kernel_rfl) tok95⟩,
 tyAt_some (by kernel_rfl) tok96⟩,
 tyAt_some (by kernel_rfl) tok97⟩,
 tyAt_some (by kernel_rfl) tok98⟩,
 tyAt_some (by kernel_rfl) tok99⟩,
 tyAt_some (by kernel_rfl) tok100⟩,
 tyAt_none (by kernel_rfl)⟩,
 tyAt_some (by kernel_rfl) tok102⟩,
 tyAt_some (by kernel_rfl) tok103⟩,
 tyAt_some (by kernel_rfl) tok104⟩,
 tyAt_none (by kernel_rfl)⟩,
 tyAt_some (by kernel_rfl) tok106⟩,
 tyAt_some (by kernel_rfl) tok107⟩,
 tyAt_some (by kernel_rfl) tok108⟩,
 tyAt_some (by kernel_rfl) tok109⟩,
 tyAt_some (by kernel_rfl) tok110⟩)
end Go.Proofs.Ytomdjcodgkoapaa.En

/- The engine, part 2f: a strings.Builder takes down its own address. -/
namespace Go.Proofs.Ytomdjcodgkoapaa.En
open Go
set_option linter.unusedVariables false
section
variable {P : Program} {T : TypeId → Option Ty} {E : Env} {g : G} {w : World}
/-! An owner gives up its row -/
/-- Only block x changes, and none of its cells. -/
structure Calm (x : Nat) (w w' : World) : Prop where
  os : w'.os = w.os
  tape : w'.tape = w.tape
  output : w'.output = w.output
  size : w'.heap.size = w.heap.size
  other : ∀ b, b ≠ x → w'.heap[b]? = w.heap[b]?
  cell : ∀ o, w'.cell? ⟨x, o, none⟩ = w.cell? ⟨x, o, none⟩
end
end Go.Proofs.Ytomdjcodgkoapaa.En

/- (*strings.Builder).copyCheck: the walk; as an entry. -/
namespace Go.Proofs.Ytomdjcodgkoapaa.En
open Go Go.RowKit
set_option linter.unusedVariables false
end Go.Proofs.Ytomdjcodgkoapaa.En

/- Words for memory that the walks of this seat share: slices of bytes, slices of slices, appending to a row of the call's own. No program in sight. -/
namespace Go.Proofs.Ytomdjcodgkoapaa
open Go.RowKit

theorem ret_i64 {a b : Int} (h : a = b) : Ending.returned (.int .i64 a) = Ending.returned (.int .i64 b) := by rw [h]
theorem ret_bool {a b : Bool} (h : a = b) : Ending.returned (.bool a) = Ending.returned (.bool b) := by rw [h]

/-- What a world w' that is as w was below w's heap size gives the walk: all old cells read as before. -/
theorem bcell {w w1 : World} (hb : Below w.heap.size w w1) : (∀ b o, b < w.heap.size → w1.cell? ⟨b, o, none⟩ = w.cell? ⟨b, o, none⟩) ∧ (∀ b o, b < w.heap.size → w1.frozen? ⟨b, o, none⟩ = w.frozen? ⟨b, o, none⟩) :=
  ⟨fun b o h => hb.cell (p := ⟨b, o, none⟩) h, fun b o h => hb.frozen (p := ⟨b, o, none⟩) h⟩

theorem Below.drewN' {B : Nat} {a w : World} (h : Below B a w) (n : Nat) : Below B a (w.drewN n) := ⟨h.os, h.tape, h.output, h.size, h.block⟩

def u8 (b : UInt8) : Value := .int .u8 (b.toNat : Int)

/-- Place k of the row at A holds v. -/
def At (w : World) (A : Option Addr) (k : Nat) (v : Value) : Prop := ∃ b off, A = some ⟨b, off, none⟩ ∧ w.cell? ⟨b, off + k, none⟩ = some v

theorem At.keep {w w' : World} {A : Option Addr} {k : Nat} {v : Value} (h : At w A k v) (hk : ∀ p : Addr, p.block < w.heap.size → w'.cell? p = w.cell? p) : At w' A k v := by
  obtain ⟨b, off, rfl, hc⟩ := h
  exact ⟨b, off, rfl, (hk _ (World.block_lt_of_cell? w _ hc)).trans hc⟩
theorem At.below {w w' : World} {A : Option Addr} {k : Nat} {v : Value} (h : At w A k v) (hb : Below w.heap.size w w') : At w' A k v := h.keep fun _ hp => hb.cell hp

/-- A slice value reads as the row of values vs. -/
structure Rd (w : World) (A : Option Addr) (n c : Nat) (vs : List Value) : Prop where
  len : vs.length = n
  cap : n ≤ c
  max : c ≤ maxLen
  at_ : ∀ k v, vs[k]? = some v → At w A k v

/-- A slice of bytes reads as xs. -/
abbrev IsB (w : World) (A : Option Addr) (n c : Nat) (xs : List UInt8) : Prop := Rd w A n c (xs.map u8)

section
variable {w w' : World} {A : Option Addr} {n c : Nat} {vs : List Value} {xs : List UInt8}
theorem Rd.nil : Rd w none 0 0 [] := ⟨rfl, Nat.le_refl _, Nat.zero_le _, fun k v h => by simp at h⟩
theorem Rd.empty (A : Option Addr) (hc : c ≤ maxLen) : Rd w A 0 c [] := ⟨rfl, Nat.zero_le _, hc, fun k v h => by simp at h⟩
theorem Rd.keep (h : Rd w A n c vs) (hk : ∀ p : Addr, p.block < w.heap.size → w'.cell? p = w.cell? p) : Rd w' A n c vs :=
  ⟨h.len, h.cap, h.max, fun k v hv => (h.at_ k v hv).keep hk⟩
theorem Rd.below (h : Rd w A n c vs) (hb : Below w.heap.size w w') : Rd w' A n c vs := h.keep fun _ hp => hb.cell hp
theorem Rd.drew (h : Rd w A n c vs) : Rd w.drew A n c vs := ⟨h.len, h.cap, h.max, h.at_⟩
theorem Rd.drewN (h : Rd w A n c vs) (k : Nat) : Rd (w.drewN k) A n c vs := ⟨h.len, h.cap, h.max, h.at_⟩
theorem Rd.alloc (h : Rd w A n c vs) (o : Obj) : Rd (w.alloc o) A n c vs := h.keep fun p hp => World.cell?_alloc_lt w o p hp
theorem Rd.len63 (h : Rd w A n c vs) : n ≤ 9223372036854775807 ∧ c ≤ 9223372036854775807 := by
  have h1 := h.cap; have h2 := h.max; unfold maxLen at h2; omega
theorem IsB.len (h : IsB w A n c xs) : xs.length = n := by simpa using Rd.len h
theorem IsB.at_ (h : IsB w A n c xs) {k : Nat} (hk : k < n) : ∃ x b off, Hid (xs[k]? = some x) ∧ A = some ⟨b, off, none⟩ ∧ w.cell? ⟨b, off + k, none⟩ = some (.int .u8 (x.toNat : Int)) ∧ (x.toNat : Int) < 256 := by
  have hl : k < xs.length := by have := IsB.len h; omega
  obtain ⟨b, off, hA, hc⟩ := Rd.at_ h k (u8 xs[k]) (by simp [hl])
  exact ⟨xs[k], b, off, List.getElem?_eq_getElem hl, hA, hc, by have := UInt8.toNat_lt xs[k]; omega⟩
theorem IsB.cells (h : IsB w A n c xs) (hn : 0 < n) : ∃ b off, A = some ⟨b, off, none⟩ ∧ ∀ k x, xs[k]? = some x → w.cell? ⟨b, off + k, none⟩ = some (.int .u8 (x.toNat : Int)) := by
  obtain ⟨x, b, off, _, rfl, _⟩ := IsB.at_ h hn
  refine ⟨b, off, rfl, fun k y hk => ?_⟩
  obtain ⟨b', off', hA, hc⟩ := Rd.at_ h k (u8 y) (by simp [hk])
  injection hA with hA
  injection hA with e1 e2
  subst e1 e2
  exact hc
/-- s[k:] -/
theorem Rd.cut (h : Rd w A n c vs) {k : Nat} (hk : k ≤ n) : Rd w (if c = k then A else A.map (·.add k)) (n - k) (c - k) (vs.drop k) := by
  refine ⟨by rw [List.length_drop, h.len], by have := h.cap; omega, by have := h.max; omega, fun j v hv => ?_⟩
  rw [List.getElem?_drop] at hv
  obtain ⟨b, off, rfl, hc⟩ := h.at_ _ v hv
  have hkj : k + j < n := by have := (List.getElem?_eq_some_iff.1 hv).1; rw [h.len] at this; exact this
  have hcap := h.cap
  rw [if_neg (by omega)]
  by_cases h0 : k = 0
  · subst h0; exact ⟨b, off, by simp [Addr.add], by simpa using hc⟩
  · exact ⟨b, off + k, by simp [Addr.add, h0], by rw [Nat.add_assoc]; exact hc⟩
/-- s[:k] -/
theorem Rd.take (h : Rd w A n c vs) {k : Nat} (hk : k ≤ n) : Rd w A k c (vs.take k) := by
  refine ⟨by rw [List.length_take, h.len]; omega, by have := h.cap; omega, h.max, fun j v hv => ?_⟩
  by_cases hj : j < k
  · rw [List.getElem?_take_of_lt hj] at hv
    exact h.at_ j v hv
  · rw [List.getElem?_eq_none (by rw [List.length_take]; omega)] at hv; cases hv
theorem IsB.cut (h : IsB w A n c xs) {k : Nat} (hk : k ≤ n) : IsB w (if c = k then A else A.map (·.add k)) (n - k) (c - k) (xs.drop k) := by
  have := Rd.cut h hk
  rwa [← List.map_drop] at this
theorem IsB.take (h : IsB w A n c xs) {k : Nat} (hk : k ≤ n) : IsB w A k c (xs.take k) := by
  have := Rd.take h hk
  rwa [← List.map_take] at this
end

/-- A slice of slices of bytes reads as ls. -/
structure IsBB (w : World) (A : Option Addr) (n c : Nat) (ls : List (List UInt8)) : Prop where
  len : ls.length = n
  cap : n ≤ c
  max : c ≤ maxLen
  at_ : ∀ k l, ls[k]? = some l → ∃ A' n' c', At w A k (.slice A' n' c') ∧ IsB w A' n' c' l
theorem IsBB.keep {w w' : World} {A : Option Addr} {n c : Nat} {ls : List (List UInt8)} (h : IsBB w A n c ls) (hk : ∀ p : Addr, p.block < w.heap.size → w'.cell? p = w.cell? p) : IsBB w' A n c ls :=
  ⟨h.len, h.cap, h.max, fun k l hl => let ⟨A', n', c', h1, h2⟩ := h.at_ k l hl; ⟨A', n', c', h1.keep hk, Rd.keep h2 hk⟩⟩
theorem IsBB.below {w w' : World} {A : Option Addr} {n c : Nat} {ls : List (List UInt8)} (h : IsBB w A n c ls) (hb : Below w.heap.size w w') : IsBB w' A n c ls := h.keep fun _ hp => hb.cell hp

theorem cell_new (w : World) (vs : List Value) (e : TypeId) (k : Nat) : (w.alloc (.cells vs.toArray e)).cell? ⟨w.heap.size, k, none⟩ = vs[k]? := by
  rw [cell_of_row _ _ k vs.toArray e (0, 0) (heap_alloc_new w _)]; simp
theorem IsBB.lit1 {w : World} {e : TypeId} {A : Option Addr} {n c : Nat} {xs : List UInt8} (h : IsB w A n c xs) :
    IsBB (w.alloc (.cells #[.slice A n c] e)) (some ⟨w.heap.size, 0, none⟩) 1 1 [xs] := by
  refine ⟨rfl, Nat.le_refl _, by unfold maxLen; omega, fun k l hl => ?_⟩
  obtain ⟨hk, rfl⟩ := List.getElem?_eq_some_iff.1 hl
  simp at hk
  subst hk
  exact ⟨A, n, c, ⟨w.heap.size, 0, rfl, by simp⟩, h.alloc _⟩
theorem IsBB.lit2 {w : World} {e : TypeId} {A A' : Option Addr} {n c n' c' : Nat} {xs ys : List UInt8} (h : IsB w A n c xs) (h' : IsB w A' n' c' ys) :
    IsBB (w.alloc (.cells #[.slice A n c, .slice A' n' c'] e)) (some ⟨w.heap.size, 0, none⟩) 2 2 [xs, ys] := by
  refine ⟨rfl, Nat.le_refl _, by unfold maxLen; omega, fun k l hl => ?_⟩
  have hk : k = 0 ∨ k = 1 := by have := (List.getElem?_eq_some_iff.1 hl).1; simp at this; omega
  rcases hk with rfl | rfl
  · simp at hl; subst hl
    exact ⟨A, n, c, ⟨w.heap.size, 0, rfl, by simp⟩, h.alloc _⟩
  · simp at hl; subst hl
    exact ⟨A', n', c', ⟨w.heap.size, 0, rfl, by simp⟩, h'.alloc _⟩

/-- A slice value that owns its row, from block B on. -/
abbrev Own (w : World) (B : Nat) (e : TypeId) (A : Option Addr) (n c : Nat) (vs : List Value) : Prop := w.ownsRow B e 1 (.slice A n c) n vs

section
variable {w w' : World} {B n c : Nat} {e : TypeId} {A : Option Addr} {vs : List Value}
theorem Own.rd (h : Own w B e A n c vs) : Rd w A n c vs := by
  have hl := h.1
  rcases h.2 with ⟨hv, hn⟩ | ⟨g, cap, cur, hv, hb, hg, hnc, hcm, hcs, htk⟩
  · injection hv with h1 h2 h3
    subst h1 h2 h3
    have : vs = [] := List.eq_nil_of_length_eq_zero (by simpa using hl)
    subst this
    exact Rd.nil
  · injection hv with h1 h2 h3
    subst h1 h3
    refine ⟨by simpa using hl, hnc, hcm, fun k v hk => ⟨g, 0, rfl, ?_⟩⟩
    have hlt : k < n * 1 := by have := (List.getElem?_eq_some_iff.1 hk).1; rw [hl] at this; exact this
    rw [Nat.zero_add, World.ownsRow.cellAt h k hlt]
    exact hk
theorem Own.nil (B : Nat) (e : TypeId) : Own w B e none 0 0 [] := World.ownsRow_nil w B e 1
theorem Own.form {v : Value} (h : w.ownsRow B e 1 v n vs) : ∃ A c, v = .slice A n c ∧ Own w B e A n c vs ∧ (∀ k, v.ownBlock = some k → B ≤ k ∧ k < w.heap.size) := by
  have hlt := h.lt
  rcases h.2 with ⟨hv, hn⟩ | ⟨g, cap, cur, hv, _⟩
  · subst hv hn; exact ⟨none, 0, rfl, h, hlt⟩
  · subst hv; exact ⟨_, _, rfl, h, hlt⟩
theorem Own.block (h : Own w B e A n c vs) : ∀ k, (Value.slice A n c).ownBlock = some k → B ≤ k := fun k hk => (h.lt k hk).1
theorem Own.below (h : Own w B e A n c vs) (hb : Below w.heap.size w w') : Own w' B e A n c vs := by
  refine ⟨h.1, ?_⟩
  rcases h.2 with h2 | ⟨g, cap, cur, hv, hg, hh, r⟩
  · exact .inl h2
  · refine .inr ⟨g, cap, cur, hv, hg, ?_, r⟩
    rw [hb.block g (Array.getElem?_eq_some_iff.1 hh).1]; exact hh
theorem Own.base (h : Own w B e A n c vs) {B' : Nat} (hB : B' ≤ B) : Own w B' e A n c vs := by
  refine ⟨h.1, ?_⟩
  rcases h.2 with h2 | ⟨g, cap, cur, hv, hg, hh, r⟩
  · exact .inl h2
  · exact .inr ⟨g, cap, cur, hv, by omega, hh, r⟩
end

/-- append(s, x...): s owns its row; x reads as news, wherever it lies. -/
theorem run_append_rd {P : Program} (w : World) (B : Nat) (t ty e : TypeId) (i : TypeInfo) (z : Value) (bytes : Nat) (ht : P.underlying t = some (.slice e)) (hi : P.info? e = some i) (hz : i.zero = some z)
    (hsize : i.size = 1) (hby : i.bytes = bytes) (hzs : z.cells.size = 1)
    (A : Option Addr) (n c : Nat) (xs : List Value) (hown : Own w B e A n c xs)
    (A' : Option Addr) (m c' : Nat) (news : List Value) (hr : Rd w A' m c' news) (h1 : ∀ u ∈ news, u.oneCell' = true)
    (hbytes : (n + m) * bytes ≤ 140737488355328) (hb0 : 0 < bytes) (hbase : B ≤ w.heap.size) :
    ∃ A2 c2 w', (Builtin.append_ #[t, t] ty #[.slice A n c, .slice A' m c']).run P w = .ok (.slice A2 (n + m) c2) w' ∧ Own w' B e A2 (n + m) c2 (xs ++ news) ∧ w.grownBy w' (Value.slice A n c).ownBlock ∧
      ((Value.slice A2 (n + m) c2).ownBlock = (Value.slice A n c).ownBlock ∨ (Value.slice A2 (n + m) c2).ownBlock = some w.heap.size) := by
  have h63 : n + m ≤ maxLen := by
    have h2 : (n + m) * 1 ≤ (n + m) * bytes := Nat.mul_le_mul_left _ hb0
    unfold maxLen; omega
  by_cases hm : m = 0
  · subst hm
    have hn : news = [] := List.eq_nil_of_length_eq_zero hr.len
    subst hn
    refine ⟨A, c, w, ?_, by simpa using hown, World.grownBy.refl w _, .inl rfl⟩
    rcases hown.2 with ⟨hv, hn0⟩ | ⟨g, cap, cur, hv, _, _, hnc, _⟩
    · injection hv with a1 a2 a3
      subst a1 a2 a3
      cases A' <;> simp [Builtin.append_, run_underlying ht, sizeOf, typeInfo, hi, Builtin.lenOf, Builtin.firstCells, loadCells, loadCellsFrom]
    · injection hv with a1 a2 a3
      subst a1 a3
      cases A' <;> simp [Builtin.append_, run_underlying ht, sizeOf, typeInfo, hi, Builtin.lenOf, Builtin.firstCells, hnc, storeCells, loadCells, loadCellsFrom]
  · have hpos : 0 < news.length := by rw [hr.len]; omega
    obtain ⟨b, off, rfl, _⟩ := hr.at_ 0 _ (List.getElem?_eq_getElem hpos)
    have hnews : ∀ j u, news[j]? = some u → w.cell? ((⟨b, off, none⟩ : Addr).add j) = some u := by
      intro j u hu
      obtain ⟨b', off', he, hc⟩ := hr.at_ j u hu
      injection he with he
      injection he with e1 e2
      subst e1 e2
      by_cases hj : j = 0
      · subst hj; simpa [Addr.add] using hc
      · simpa [Addr.add, hj] using hc
    obtain ⟨v', w', hrun, h2, h3, _, h5⟩ := run_append_own_at (P := P) w B t ty e i z 1 bytes ht hi hz hsize hby hzs (by omega) (.slice A n c) n xs hown ⟨b, off, none⟩ m c' news (by rw [hr.len]; omega) hnews h1 h63 hbytes hbase
    obtain ⟨A2, c2, rfl, h6, _⟩ := Own.form h2
    exact ⟨A2, c2, w', hrun, h6, h3, h5⟩

theorem wp_append_rd {P : Program} (w : World) {o : Oper} {a : Act} {K : Act → World → Prop} {Q : Exit → Act → World → Prop} (s x : Operand) (t : TypeId)
    (ho : o.op = .call { callee := .builtin .append, args := #[s, x], argTypes := #[t, t] })
    (B : Nat) (e : TypeId) (i : TypeInfo) (z : Value) (bytes : Nat) (ht : P.underlying t = some (.slice e)) (hi : P.info? e = some i) (hz : i.zero = some z)
    (hsize : i.size = 1) (hby : i.bytes = bytes) (hzs : z.cells.size = 1)
    (A : Option Addr) (n c : Nat) (xs : List Value) (hs : a.eval s = .slice A n c) (hown : Own w B e A n c xs)
    (A' : Option Addr) (m c' : Nat) (news : List Value) (hx : a.eval x = .slice A' m c') (hr : Rd w A' m c' news) (h1 : ∀ u ∈ news, u.oneCell' = true)
    (hbytes : (n + m) * bytes ≤ 140737488355328) (hb0 : 0 < bytes) (hbase : B ≤ w.heap.size)
    (h : ∀ A2 c2 w', Own w' B e A2 (n + m) c2 (xs ++ news) → w.grownBy w' (Value.slice A n c).ownBlock → ((Value.slice A2 (n + m) c2).ownBlock = (Value.slice A n c).ownBlock ∨ (Value.slice A2 (n + m) c2).ownBlock = some w.heap.size) → K (a.put o.dst (.slice A2 (n + m) c2)) w') : o.wp P a w K Q := by
  obtain ⟨A2, c2, w', hrun, h2, h3, h4⟩ := run_append_rd (P := P) w B t o.type e i z bytes ht hi hz hsize hby hzs A n c xs hown A' m c' news hr h1 hbytes hb0 hbase
  unfold Oper.wp execOp
  simp only [ho, resolve, invoke, builtin, Sem.run_bind, Sem.run_pure, Result.andThen_ok, List.map_toArray, List.map_cons, List.map_nil, hs, hx, hrun]
  exact h A2 c2 w' h2 h3 h4

theorem wpList_append_rd {P : Program} (w : World) {ops : Array Oper} {rest : List Oper} {o : Oper} {a : Act} {Q : Exit → Act → World → Prop} (hgd : o.guard = none) (s x : Operand) (t : TypeId)
    (ho : o.op = .call { callee := .builtin .append, args := #[s, x], argTypes := #[t, t] })
    (B : Nat) (e : TypeId) (i : TypeInfo) (z : Value) (bytes : Nat) (ht : P.underlying t = some (.slice e)) (hi : P.info? e = some i) (hz : i.zero = some z)
    (hsize : i.size = 1) (hby : i.bytes = bytes) (hzs : z.cells.size = 1)
    (A : Option Addr) (n c : Nat) (xs : List Value) (hs : a.eval s = .slice A n c) (hown : Own w B e A n c xs)
    (A' : Option Addr) (m c' : Nat) (news : List Value) (hx : a.eval x = .slice A' m c') (hr : Rd w A' m c' news) (h1 : ∀ u ∈ news, u.oneCell' = true)
    (hbytes : (n + m) * bytes ≤ 140737488355328) (hb0 : 0 < bytes) (hbase : B ≤ w.heap.size)
    (h : ∀ A2 c2 w', Own w' B e A2 (n + m) c2 (xs ++ news) → w.grownBy w' (Value.slice A n c).ownBlock → ((Value.slice A2 (n + m) c2).ownBlock = (Value.slice A n c).ownBlock ∨ (Value.slice A2 (n + m) c2).ownBlock = some w.heap.size) → wpList P ops Q rest (a.put o.dst (.slice A2 (n + m) c2)) w') : wpList P ops Q (o :: rest) a w :=
  wpList_plain hgd fun _ hK => wp_append_rd w s x t ho B e i z bytes ht hi hz hsize hby hzs A n c xs hs hown A' m c' news hx hr h1 hbytes hb0 hbase fun A2 c2 w' h2 h3 h4 => hK _ _ (h A2 c2 w' h2 h3 h4)

theorem u8_one (xs : List UInt8) : ∀ u ∈ xs.map u8, u.oneCell' = true := by
  intro u hu
  obtain ⟨b, _, rfl⟩ := List.mem_map.1 hu
  rfl
theorem below_setCells {B : Nat} {a : World} {b : Nat} (hB : B ≤ b) : ∀ (vs : List Value) (o : Nat) (w : World), Below B a w → Below B a (w.setCells b o vs)
  | [], _, _, h => h
  | v :: vs, o, _, h => below_setCells hB vs (o + 1) _ (h.setCell hB v)
theorem there_of_block {w : World} {b : Nat} {cs : Array Value} {t : TypeId} (h : w.heap[b]? = some (.cells cs t (0, 0))) : w.there b 0 cs.size := fun j hj => by
  rw [Nat.zero_add]
  exact ⟨by rw [cell_of_row w b j cs t _ h]; simp [hj], frozen_of_row w b j cs t h⟩
/-- A result that lies in a variable of several cells. -/
theorem results_cell_mid {P : Program} {fn : Func} {p : Tmp} {ty : TypeId} (h : fn.results = #[.cell p ty]) (tmps : Array Value) (w : World) (b o : Nat) (cs : List Value) (d : TypeDesc)
    (hp : tmps.getD p undef = .pointer (some ⟨b, o, none⟩)) (hc : w.rangeAt b o cs)
    (hu : P.underlying ty = some d) (hd : d.isRow = true) (hi : (P.info? ty).map (·.size) = some cs.length) :
    (results fn tmps).run P w = .ok (.agg cs.toArray) w := by
  have hp' : tmps[p]?.getD undef = .pointer (some ⟨b, o, none⟩) := by simpa using hp
  simp [results, h, hp', asAddr, run_loadVar_mid w b o ty cs d hc hu hd hi]
/-- Two results, of which the first lies in a variable of several cells. -/
theorem results_cell_tmp {P : Program} {fn : Func} {p q : Tmp} {ty : TypeId} (h : fn.results = #[.cell p ty, .tmp q]) (tmps : Array Value) (w : World) (b o : Nat) (cs : List Value) (d : TypeDesc)
    (hp : tmps.getD p undef = .pointer (some ⟨b, o, none⟩)) (hc : w.rangeAt b o cs)
    (hu : P.underlying ty = some d) (hd : d.isRow = true) (hi : (P.info? ty).map (·.size) = some cs.length) :
    (results fn tmps).run P w = .ok (.tuple #[.agg cs.toArray, tmps.getD q undef]) w := by
  have hp' : tmps[p]?.getD undef = .pointer (some ⟨b, o, none⟩) := by simpa using hp
  simp [results, h, hp', asAddr, run_loadVar_mid w b o ty cs d hc hu hd hi]
theorem there_of_cells {w : World} {b n : Nat} {cs : Array Value} {t : TypeId} (h : w.heap[b]? = some (.cells cs t (0, 0))) (hn : cs.size = n) : w.there b 0 n := by
  subst hn; exact there_of_block h
/-- string(b) -/
theorem run_convert_rd {P : Program} {w : World} {A : Option Addr} {n c : Nat} {xs : List UInt8} (h : IsB w A n c xs) (src e dst : TypeId) (hs : P.underlying src = some (.slice e)) (he : P.underlying e = some (.int .u8)) (hd : P.underlying dst = some .string) :
    (convert src dst (.slice A n c)).run P w = .ok (.string ⟨xs.toArray⟩) w := by
  rw [run_convert_bytes_string w src dst e _ n c hs he hd]
  have hl := IsB.len h
  by_cases h0 : n = 0
  · subst h0
    have : xs = [] := List.eq_nil_of_length_eq_zero hl
    subst this
    cases A <;> simp [Conv.bytesToString, loadCells, loadCellsFrom] <;> rfl
  · have hpos : 0 < (xs.map u8).length := by rw [List.length_map]; omega
    obtain ⟨b, off, rfl, _⟩ := Rd.at_ h 0 _ (List.getElem?_eq_getElem hpos)
    have hm : xs.map u8 = (xs.map fun b => (b.toNat : Int)).map (Value.int .u8) := by rw [List.map_map]; rfl
    have hload : (loadCells ⟨b, off, none⟩ n).run P w = .ok ((xs.map fun b => (b.toNat : Int)).map (Value.int .u8)).toArray w := by
      have := run_loadCells_list (P := P) w ⟨b, off, none⟩ (xs.map u8) (fun j v hj => by
        obtain ⟨b', off', hA, hc⟩ := Rd.at_ h j v hj
        injection hA with hA
        injection hA with e1 e2
        subst e1 e2
        rw [Addr.add_mid]; exact hc)
      rw [List.length_map, hl, hm] at this
      exact this
    rw [run_bytesToString w _ n c _ hload, foldl_push_bytes]
    simp [ByteArray.empty, ByteArray.emptyWithCapacity, Function.comp_def]
    rfl
theorem take_snoc {α : Type} {l : List α} {k : Nat} {x : α} (h : Hid (l[k]? = some x)) : l.take (k + 1) = l.take k ++ [x] := by
  obtain ⟨hk, rfl⟩ := List.getElem?_eq_some_iff.1 h.out
  exact List.take_succ_eq_append_getElem hk

end Go.Proofs.Ytomdjcodgkoapaa

/- slices.Clone and slices.Concat of bytes: the walks; as entries of the engine. -/
namespace Go.Proofs.Ytomdjcodgkoapaa.En
open Go Go.RowKit
set_option linter.unusedVariables false
theorem info8 : (Try.prog.info? 5).map (fun i => (i.zero, i.size, i.bytes)) = some (some (.int .u8 0), 1, 1) := by kernel_rfl
section
variable {T : TypeId → Option Ty} {E : Env} {g : G} {w w' : World} {A : Option Addr} {n c B : Nat} {xs : List UInt8}
theorem own_lit {w : World} {B : Nat} {e : TypeId} (vs : List Value) (hB : B ≤ w.heap.size) (hm : vs.length ≤ 1000) : Own (w.alloc (.cells vs.toArray e)) B e (some ⟨w.heap.size, 0, none⟩) vs.length vs.length vs := by
  have h := World.ownsRow_lit (base := B) (e := e) (size := 1) w vs.toArray vs.length hB (by unfold maxLen; omega) (by simp)
  simpa using h
/-- Bytes, as the walks have them. -/
theorem isB_of_rep {u : Value} (h : RepV g w (.bytes xs) u) : ∃ A n c, u = .slice A n c ∧ IsB w A n c xs := by
  cases h with
  | bytes xs A n c hn hc hm h =>
    refine ⟨A, n, c, rfl, ⟨by simp [hn], hc, hm, fun k v hv => ?_⟩⟩
    rw [List.getElem?_map, Option.map_eq_some_iff] at hv
    obtain ⟨x, hx, rfl⟩ := hv
    obtain ⟨b, off, e, _, h2⟩ := h k x hx
    exact ⟨b, off, e, h2⟩
end
set_option maxHeartbeats 400000 in
theorem clone_any (A : Option Addr) (n c : Nat) (xs : List UInt8) (w : World) (h : IsB w A n c xs) (hn : xs.length ≤ 1000000) :
    Calls Try.prog 31 #[.slice A n c] w fun e w' => ∃ A' n' c', e = .returned (.slice A' n' c') ∧ Own w' w.heap.size 5 A' n' c' (xs.map u8) ∧ Below w.heap.size w w' := by
  obtain ⟨i0, hi0, hz0, hz1, hz2⟩ := info_parts info8
  have hl := IsB.len h
  have H := Lib.hid h
  have HI := Lib.hid (And.intro hi0 (And.intro hz0 (And.intro hz1 hz2)))
  have HL := Lib.hid hl
  clear h hi0 hz0 hz1 hz2 hl
  have qT : ∀ (w : World) (a : Option Addr) (n c n' c' : Nat), (binOp .eql 22 (.slice a n c) (.slice none n' c')).run Try.prog w = .ok (.bool a.isNone) w := fun w a n c n' c' => Lib.run_eql_slice_nil w _ _ a n c n' c' Try.underlying22
  cases A with
  | none =>
    have h0 : xs = [] := by
      have hr := H.out
      rcases xs with _ | ⟨x, xs⟩
      · rfl
      · obtain ⟨b, off, hA, _⟩ := Rd.at_ hr 0 (u8 x) rfl
        cases hA
    subst h0
    go_enter Try.func31, Try.ntmps31
    go_wp2_with fail
    go_ret
    exact ⟨none, 0, 0, rfl, Own.nil _ _, Below.refl _ _⟩
  | some a =>
    go_enter Try.func31, Try.ntmps31
    have hown := own_lit (w := w) (B := w.heap.size) (e := 5) [] (Nat.le_refl _) (by simp)
    have HO := Lib.hid hown
    clear hown
    have hn' : n ≤ 1000000 := by have := HL.out; omega
    go_wp2_with (at_builtin; refine wpList_append_rd _ rfl (.tmp 5) (.tmp 6) 22 rfl w.heap.size 5 i0 _ 1 Try.underlying22 HI.out.1 HI.out.2.1 HI.out.2.2.1 HI.out.2.2.2 rfl (some ⟨w.heap.size, 0, none⟩) 0 0 [] rfl HO.out (some a) n c _ rfl (H.out.alloc _) (u8_one _) ?_ (by omega) (by simp) ?_)
    case _ => omega
    intro A3 c3 w3 hown3 hg3 _
    have hb3 : Below w.heap.size w w3 := ((Below.refl _ _).alloc (Nat.le_refl _) _).grown hg3 (by simp) (by simp [Value.ownBlock])
    go_wp2
    go_ret
    exact ⟨A3, 0 + n, c3, by simp, by simpa using hown3, hb3⟩
end Go.Proofs.Ytomdjcodgkoapaa.En

/- The engine, part 2l: several entries of one function, told apart by the closure that it is given. -/
namespace Go.Proofs.Ytomdjcodgkoapaa.En
open Go
set_option linter.unusedVariables false
section
variable {P : Program} {T : TypeId → Option Ty}
end
end Go.Proofs.Ytomdjcodgkoapaa.En

/- (*strings.Builder).String: the walk; as an entry. -/
namespace Go.Proofs.Ytomdjcodgkoapaa.En
open Go Go.RowKit
set_option linter.unusedVariables false
end Go.Proofs.Ytomdjcodgkoapaa.En

/- strings.Join: the library's proved summary, laid for this seat. -/
namespace Go.Proofs.Ytomdjcodgkoapaa.En
open Go Go.RowKit Go.Shelf
set_option linter.unusedVariables false
/-- The numbers of the shelf's texts, in this program. -/
def ren : Go.Shelf.Ren := ⟨fun k => match k with | 156 => 12 | 165 => 21 | 166 => 22 | 169 => 23 | 240 => 32 | 241 => 33 | 276 => 36 | 277 => 37 | x => x,
  fun k => match k with | 0 => 0 | 3 => 3 | 4 => 4 | 5 => 5 | 9 => 9 | 20 => 20 | 31 => 33 | 37 => 22 | 70 => 52 | 72 => 54 | 75 => 57 | 76 => 58 | 80 => 60 | 127 => 69 | 164 => 72 | x => x, fun x => x⟩
theorem lays156 : Lays.n156 Try.prog ren := by
  constructor <;> first | kernel_rfl | (intro w; kernel_rfl)
set_option maxRecDepth 100000 in
theorem extra156 : Builder.Extra Try.prog ren := by
  refine ⟨⟨?_, ?_⟩, ?_, ?_, ?_, ?_, ?_, ?_, ?_, ?_⟩
  all_goals first | decide | kernel_rfl | (intro w; kernel_rfl)
/-- The strings of a list of values. -/
def flatS : List V → Option (List (List UInt8))
  | [] => some []
  | .str l :: r => (flatS r).map (l :: ·)
  | _ :: _ => none
theorem flatS_some : ∀ (vs : List V) (ls : List (List UInt8)), flatS vs = some ls → vs = ls.map V.str
  | [], ls, h => by cases h; rfl
  | v :: vs, ls, h => by
    cases v with
    | str l =>
      simp only [flatS, Option.map_eq_some_iff] at h
      obtain ⟨r, h1, rfl⟩ := h
      rw [flatS_some vs r h1]; rfl
    | _ => cases h
theorem flatMap_str (ls : List (List UInt8)) : (ls.map V.str).flatMap V.cells = ls.map V.str := by
  induction ls with
  | nil => rfl
  | cons l ls ih => simp only [List.map_cons, List.flatMap_cons, ih]; rfl
noncomputable def s_Join (N : Nat) (vs : List V) (sep : List UInt8) : Option (List UInt8) := (flatS vs).bind fun ls => br (decide ((Lib.join ls sep).length ≤ 1000000) && decide (ls.length ≤ 1000000)) (some (Lib.join ls sep)) none
/-- What a call leaves that gives a string. -/
theorem pure_of_str {T : TypeId → Option Ty} {g : G} {w w' : World} {xs : List UInt8} (hb : Below w.heap.size w w') (hx : xs.length ≤ 1000000) :
    ∃ us' g', Ending.returned (.string ⟨xs.toArray⟩) = .returned (retV us') ∧ (∀ E' : Env, RepDs E' g' w' [] [.v (.str xs) .no] us') ∧ PureTr g w g' w' := by
  refine ⟨[.string ⟨xs.toArray⟩], { g with Γ := fun b => if b < w.heap.size then g.Γ b else .imm }, rfl, fun E' => ⟨rfl, fun k y hk => ?_⟩, ⟨⟨hb.os, hb.tape, hb.output, hb.size, hb.block⟩, fun b hlt => if_pos hlt, fun b hge => by
    show Perm.still (if b < w.heap.size then g.Γ b else .imm) = true
    rw [if_neg (by omega)]; rfl, rfl, rfl⟩⟩
  rcases k with _ | k
  · simp at hk
    subst hk
    exact .v _ _ _ (.str xs (by omega)) trivial
  · simp at hk
theorem p_Join (N : Nat) (x0 : List V) (x1 r0 : List UInt8) (h : s_Join N x0 x1 = some r0) : PureRet Try.prog T 12 [.v (.sl 9 x0) .no, .v (.str x1) .no] [.v (.str r0) .no] := by
  unfold s_Join at h
  obtain ⟨ls, h1, h2⟩ := Option.bind_eq_some_iff.1 h
  have hn : ((Lib.join ls x1).length ≤ 1000000 ∧ ls.length ≤ 1000000) ∧ r0 = Lib.join ls x1 := by
    unfold br at h2
    by_cases hx : (Lib.join ls x1).length ≤ 1000000 ∧ ls.length ≤ 1000000
    · simp [hx] at h2; exact ⟨hx, h2.symm⟩
    · rcases Decidable.not_and_iff_or_not.1 hx with hx | hx <;> simp [hx] at h2
  obtain ⟨⟨hn, hc⟩, rfl⟩ := hn
  have hvs := flatS_some x0 _ h1
  subst hvs
  intro E g w us hsz hus
  obtain ⟨hl, hr⟩ := hus
  match us, hl with
  | [u, v], _ =>
  have hu := hr 0 _ rfl
  have hv := hr 1 _ rfl
  simp only [List.getD_cons_zero, List.getD_cons_succ] at hu hv
  cases hu with
  | v x a u hu ha =>
  cases hv with
  | v x a v hv ha' =>
  cases hv with
  | str s hs =>
  cases hu with
  | sl e xs A n c us hn' hc' hm hs' h' hr' =>
  rw [flatMap_str] at h' hr'
  have hlen : n = ls.length := by simpa using hn'.symm
  subst hlen
  cases ls with
  | nil =>
    refine (Any.strings_Join_none (P := Try.prog) lays156 extra156 A c ⟨x1.toArray⟩ w).mono ?_
    rintro e w' ⟨rfl, rfl⟩
    exact pure_of_str (T := T) (Below.refl _ _) (by simp [Lib.join])
  | cons l0 ls =>
    obtain ⟨b, off, rfl, _, hcell⟩ := h' 0 (.str l0) (by simp)
    have hcells : ∀ (j : Nat) x, ((l0 :: ls).map fun l : List UInt8 => (⟨l.toArray⟩ : ByteArray))[j]? = some x → w.cell? ⟨b, off + j, none⟩ = some (.string x) := by
      intro j x hj
      rw [List.getElem?_map, Option.map_eq_some_iff] at hj
      obtain ⟨l, hl, rfl⟩ := hj
      have hk : ((l0 :: ls).map V.str)[j]? = some (.str l) := by rw [List.getElem?_map, hl]; rfl
      obtain ⟨b', off', e', _, h2⟩ := h' j _ hk
      cases e'
      have h3 := hr' j _ hk
      rw [h2]
      generalize us j = q at h3
      cases h3
      rfl
    have hb : b < w.heap.size := cell_lt hcell
    have hmap : (((l0 :: ls).map fun l : List UInt8 => (⟨l.toArray⟩ : ByteArray)).map (·.data.toList)) = l0 :: ls := by
      rw [List.map_map]; exact List.map_id _
    have hC := Any.strings_Join (P := Try.prog) lays156 extra156 b off c ((l0 :: ls).map fun l : List UInt8 => (⟨l.toArray⟩ : ByteArray)) ⟨x1.toArray⟩ w hcells hb (by simp only [List.length_map]; omega) (by simpa using hc') (by rw [hmap]; simp only []; omega)
    rw [hmap, List.length_map] at hC
    refine hC.mono ?_
    rintro e w' ⟨rfl, hbl⟩
    exact pure_of_str (T := T) hbl hn
end Go.Proofs.Ytomdjcodgkoapaa.En

/- The hand-made entries of the engine, together. -/

/- octets.Join: the walk. -/
namespace Go.Proofs.Ytomdjcodgkoapaa
open Go.RowKit

theorem info8 : (Try.prog.info? 5).map (fun i => (i.zero, i.size, i.bytes)) = some (some (.int .u8 0), 1, 1) := by kernel_rfl

theorem flatten_take_le (ls : List (List UInt8)) (k : Nat) : (ls.take k).flatten.length ≤ ls.flatten.length := by
  conv => rhs; rw [← List.take_append_drop k ls]
  rw [List.flatten_append, List.length_append]
  omega
theorem flatten_take_succ (ls : List (List UInt8)) (k : Nat) (h : k < ls.length) : (ls.take (k + 1)).flatten = (ls.take k).flatten ++ ls[k] := by
  rw [List.take_succ_eq_append_getElem h, List.flatten_append]; simp

set_option maxHeartbeats 400000 in
theorem join_any (A : Option Addr) (n c : Nat) (ls : List (List UInt8)) (w : World) (h : IsBB w A n c ls) (hn : ls.flatten.length ≤ 1000000) :
    Calls Try.prog 28 #[.slice A n c] w fun e w' => ∃ A' n' c', e = .returned (.slice A' n' c') ∧ Own w' w.heap.size 5 A' n' c' (ls.flatten.map u8) ∧ Below w.heap.size w w' := by
  obtain ⟨i0, hi0, hz0, hz1, hz2⟩ := info_parts info8
  have hcap : n ≤ 9223372036854775807 := by have h1 := h.cap; have h2 := h.max; unfold maxLen at h2; omega
  have H := Lib.hid h
  have HI := Lib.hid (And.intro hi0 (And.intro hz0 (And.intro hz1 hz2)))
  clear h hi0 hz0 hz1 hz2
  go_enter Try.func28, Try.ntmps28
  go_wp2
  go_loopg [3, 8] n (fun g v i wr => ∃ k A' n' c', k ≤ n ∧ g = n - k ∧ i = .int .i64 (k : Int) ∧ v = .slice A' n' c' ∧ Own wr w.heap.size 5 A' n' c' ((ls.take k).flatten.map u8) ∧ Below w.heap.size w wr)
  case atStart => exact ⟨0, none, 0, 0, by omega, rfl, rfl, rfl, Own.nil _ _, Below.refl _ _⟩
  case round =>
    obtain ⟨k, A', n', c', hk, hg, rfl, rfl, hown, hb⟩ := hrel
    by_cases hlt : k < n
    · have hl : k < ls.length := by have := H.out.len; omega
      obtain ⟨A2, n2, c2, ⟨b, off, rfl, hc⟩, hr⟩ := H.out.at_ k _ (List.getElem?_eq_getElem hl)
      have hc2 : wr.cell? ⟨b, off + k, none⟩ = some (.slice A2 n2 c2) := by
        rw [hb.cell (p := ⟨b, off + k, none⟩) (World.block_lt_of_cell? w _ hc)]; exact hc
      have hr2 : Rd wr A2 n2 c2 (ls[k].map u8) := hr.below hb
      have hle := flatten_take_le ls (k + 1)
      have hsucc := flatten_take_succ ls k hl
      have hn' : n' = (ls.take k).flatten.length := by have := hown.1; rw [List.length_map] at this; omega
      have hn2 : n2 = ls[k].length := by have := hr2.len; rw [List.length_map] at this; omega
      have hsum : n' + n2 ≤ 1000000 := by rw [hsucc, List.length_append] at hle; omega
      have Hs := Lib.hid hsucc
      have Hn := Lib.hid (And.intro hn' hn2)
      clear hsucc hle hn' hn2
      go_wp2_with (at_builtin; refine wpList_append_rd _ rfl (.tmp 12) (.tmp 13) 22 rfl w.heap.size 5 i0 _ 1 Try.underlying22 HI.out.1 HI.out.2.1 HI.out.2.2.1 HI.out.2.2.2 rfl A' n' c' _ rfl hown A2 n2 c2 _ rfl hr2 (u8_one _) ?_ (by omega) hb.size ?_)
      case _ => omega
      intro A3 c3 w3 hown3 hg3 _
      have hb3 := hb.grown hg3 hb.size (hown.block)
      go_wp2
      go_roundg (n - (k + 1))
      case measure => omega
      case rel =>
        refine ⟨k + 1, A3, n' + n2, c3, by omega, rfl, by go_num, rfl, ?_, hb3⟩
        rw [Hs.out]; simpa using hown3
    · go_wp2
      go_ret
      refine ⟨A', n', c', rfl, ?_, hb⟩
      have : k = ls.length := by have := H.out.len; omega
      rw [this, List.take_length] at hown
      exact hown
end Go.Proofs.Ytomdjcodgkoapaa

/- Check values in plain Lean: the exclusive or of bytes, and the CRC. No program in sight. -/
namespace Go.Proofs.Ytomdjcodgkoapaa

def lrcB (xs : List UInt8) : UInt8 := xs.foldl (· ^^^ ·) 0
theorem lrcB_snoc (xs : List UInt8) (b : UInt8) : lrcB (xs ++ [b]) = lrcB xs ^^^ b := by simp [lrcB]

theorem u8_xor_byte (a b : UInt8) : bits .xor .u8 (a.toNat : Int) (b.toNat : Int) = ((a ^^^ b).toNat : Int) := by
  rw [u8_xor_nat _ _ (UInt8.toNat_lt a) (UInt8.toNat_lt b)]; simp

def crcStep (r : Nat) : Nat := if r % 2 = 1 then (r / 2) ^^^ 33800 else r / 2
def crcSteps : Nat → Nat → Nat
  | 0, r => r
  | k + 1, r => crcStep (crcSteps k r)
def crc8 (r : Nat) : Nat := crcSteps 8 r
def crcN (xs : List UInt8) : Nat := xs.foldl (fun r b => crc8 (r ^^^ b.toNat)) 65535
theorem crcN_snoc (xs : List UInt8) (b : UInt8) : crcN (xs ++ [b]) = crc8 (crcN xs ^^^ b.toNat) := by simp [crcN]

theorem crcStep_lt (r : Nat) (h : r < 65536) : crcStep r < 65536 := by
  unfold crcStep
  split
  · exact Nat.xor_lt_two_pow (n := 16) (by omega) (by omega)
  · omega
theorem crcSteps_lt (k r : Nat) (h : r < 65536) : crcSteps k r < 65536 := by
  induction k with
  | zero => exact h
  | succ k ih => exact crcStep_lt _ ih
theorem crc8_lt (r : Nat) (h : r < 65536) : crc8 r < 65536 := crcSteps_lt 8 r h
theorem xor_byte_lt (r : Nat) (b : UInt8) (h : r < 65536) : r ^^^ b.toNat < 65536 :=
  Nat.xor_lt_two_pow (n := 16) (by omega) (by have := UInt8.toNat_lt b; omega)
theorem crcN_lt (xs : List UInt8) : crcN xs < 65536 := by
  unfold crcN
  have : ∀ (xs : List UInt8) r, r < 65536 → xs.foldl (fun r b => crc8 (r ^^^ b.toNat)) r < 65536 := by
    intro xs
    induction xs with
    | nil => intro r h; exact h
    | cons b xs ih => intro r h; exact ih _ (crc8_lt _ (xor_byte_lt r b h))
  exact this xs _ (by omega)

/-- The register is linear over the exclusive or. -/
theorem crcStep_xor (a b : Nat) : crcStep (a ^^^ b) = crcStep a ^^^ crcStep b := by
  have hm : (a ^^^ b) % 2 = (a % 2 + b % 2) % 2 := by
    have := Nat.xor_mod_two_pow (a := a) (b := b) (n := 1)
    simp only [Nat.pow_one] at this
    rw [this]
    rcases Nat.mod_two_eq_zero_or_one a with h | h <;> rcases Nat.mod_two_eq_zero_or_one b with g | g <;> rw [h, g] <;> decide
  have hd : (a ^^^ b) / 2 = a / 2 ^^^ b / 2 := by
    have := Nat.shiftRight_xor_distrib (a := a) (b := b) (i := 1)
    simpa [Nat.shiftRight_eq_div_pow] using this
  unfold crcStep
  rw [hm, hd]
  rcases Nat.mod_two_eq_zero_or_one a with h | h <;> rcases Nat.mod_two_eq_zero_or_one b with g | g <;> rw [h, g] <;> simp
  · rw [Nat.xor_assoc]
  · rw [Nat.xor_assoc, Nat.xor_comm (b / 2), Nat.xor_assoc]
  · rw [Nat.xor_assoc, Nat.xor_comm (b / 2), ← Nat.xor_assoc 33800 33800, Nat.xor_self, Nat.zero_xor]
theorem crcSteps_xor (k a b : Nat) : crcSteps k (a ^^^ b) = crcSteps k a ^^^ crcSteps k b := by
  induction k with
  | zero => rfl
  | succ k ih => simp only [crcSteps]; rw [ih, crcStep_xor]
theorem crcSteps_pow (k y j : Nat) (h : k ≤ j) : crcSteps k (y * 2 ^ j) = y * 2 ^ (j - k) := by
  induction k with
  | zero => rfl
  | succ k ih =>
    simp only [crcSteps]
    rw [ih (by omega)]
    have : y * 2 ^ (j - k) = 2 * (y * 2 ^ (j - (k + 1))) := by
      rw [show j - k = (j - (k + 1)) + 1 by omega, Nat.pow_succ]; rw [← Nat.mul_assoc, Nat.mul_comm]
    rw [this]
    unfold crcStep
    rw [if_neg (by omega)]
    omega
/-- A step by the table: the high byte is shifted, the low one looked up. -/
theorem crc8_table (r : Nat) : crc8 r = r / 256 ^^^ crc8 (r % 256) := by
  have h : r = (r / 256) * 2 ^ 8 ^^^ r % 256 := by
    have h1 := Nat.div_add_mod r 256
    have h2 : (r / 256) * 2 ^ 8 ^^^ r % 256 = (r / 256) * 2 ^ 8 + r % 256 := by
      have hlt : r % 256 < 2 ^ 8 := by omega
      rw [Nat.mul_comm, Nat.two_pow_add_eq_or_of_lt hlt]
      apply Nat.eq_of_testBit_eq
      intro i
      simp only [Nat.testBit_xor, Nat.testBit_or, Nat.testBit_two_pow_mul]
      by_cases hi : 8 ≤ i
      · have : (r % 256).testBit i = false := Nat.testBit_lt_two_pow (Nat.lt_of_lt_of_le hlt (Nat.pow_le_pow_right (by omega) hi))
        simp [this]
      · simp [hi]
    omega
  conv => lhs; rw [h]
  rw [crc8, crcSteps_xor, crcSteps_pow 8 _ 8 (by omega)]
  simp [crc8]
theorem crc8_byte (r : Nat) (b : UInt8) : crc8 (r ^^^ b.toNat) = r / 256 ^^^ crc8 (r % 256 ^^^ b.toNat) := by
  have hb := UInt8.toNat_lt b
  rw [crc8_table]
  have h1 : (r ^^^ b.toNat) / 256 = r / 256 := by
    have := Nat.shiftRight_xor_distrib (a := r) (b := b.toNat) (i := 8)
    simp only [Nat.shiftRight_eq_div_pow] at this
    rw [show (256 : Nat) = 2 ^ 8 by decide, this, Nat.div_eq_of_lt (by omega : b.toNat < 2 ^ 8)]; simp
  have h2 : (r ^^^ b.toNat) % 256 = r % 256 ^^^ b.toNat := by
    have := Nat.xor_mod_two_pow (a := r) (b := b.toNat) (n := 8)
    rw [show (256 : Nat) = 2 ^ 8 by decide, this, Nat.mod_eq_of_lt (by omega : b.toNat < 2 ^ 8)]
  rw [h1, h2]
theorem xor_full (n x : Nat) (h : x < 2 ^ n) : (2 ^ n - 1) ^^^ x = 2 ^ n - 1 - x := by
  apply Nat.eq_of_testBit_eq
  intro i
  rw [show 2 ^ n - 1 - x = 2 ^ n - (x + 1) by omega, Nat.testBit_two_pow_sub_succ h, Nat.testBit_xor, Nat.testBit_two_pow_sub_one]
  by_cases hi : i < n
  · simp [hi]
  · have : x.testBit i = false := Nat.testBit_lt_two_pow (Nat.lt_of_lt_of_le h (Nat.pow_le_pow_right (by omega) (by omega)))
    simp [hi, this]
theorem u16_not (x : Nat) (h : x < 65536) : bits .xor .u16 IntKind.u16.max (x : Int) = ((65535 - x : Nat) : Int) := by
  have hm : IntKind.u16.max = ((65535 : Nat) : Int) := rfl
  rw [hm, u16_xor_nat _ _ (by omega) h, xor_full 16 x h]
/-- The CRC as it is sent. -/
def crcInv (xs : List UInt8) : Nat := 65535 - crcN xs
theorem crcInv_lt (xs : List UInt8) : crcInv xs < 65536 := by unfold crcInv; omega
theorem u16_crcInv (xs : List UInt8) : bits .xor .u16 IntKind.u16.max (crcN xs : Int) = (crcInv xs : Int) := u16_not _ (crcN_lt xs)
def crcLo (xs : List UInt8) : UInt8 := UInt8.ofNat (crcInv xs % 256)
def crcHi (xs : List UInt8) : UInt8 := UInt8.ofNat (crcInv xs / 256)
theorem crcLo_toNat (xs : List UInt8) : (crcLo xs).toNat = crcInv xs % 256 := by simp [crcLo]
theorem crcHi_toNat (xs : List UInt8) : (crcHi xs).toNat = crcInv xs / 256 := by have := crcInv_lt xs; simp [crcHi]; omega
/-- The check value of a kind: 0 is one byte, 1 two bytes; there are no others. -/
def sumB (k : Int) (xs : List UInt8) : List UInt8 := if k = 0 then [lrcB xs] else if k = 1 then [crcLo xs, crcHi xs] else []
def sumE (k : Int) : Int := if k = 0 ∨ k = 1 then 0 else 1
def sizeN (k : Int) : Nat := if k = 0 then 1 else if k = 1 then 2 else 0
theorem sumB_length (k : Int) (xs : List UInt8) : (sumB k xs).length = sizeN k := by
  unfold sumB sizeN
  split
  · rfl
  · split <;> rfl
end Go.Proofs.Ytomdjcodgkoapaa

/- smartcard/check: the walks. -/
namespace Go.Proofs.Ytomdjcodgkoapaa
open Go.RowKit

def sizeI (k : Int) : Int := if k = 0 then 1 else if k = 1 then 2 else 0
theorem size_any (k : Int) (w : World) :
    Calls Try.prog 26 #[.int .i64 k] w fun e w' => e = .returned (.int .i64 (sizeI k)) ∧ w = w' := by
  by_cases h0 : k = 0
  · subst h0
    go_enter Try.func26, Try.ntmps26
    go_wp2
    go_ret
    exact ⟨rfl, rfl⟩
  by_cases h1 : k = 1
  · subst h1
    go_enter Try.func26, Try.ntmps26
    go_wp2
    go_ret
    exact ⟨rfl, rfl⟩
  have hs : sizeI k = 0 := by simp [sizeI, h0, h1]
  rw [hs]
  clear hs
  go_enter Try.func26, Try.ntmps26
  go_wp2
  go_ret
  exact ⟨rfl, rfl⟩

set_option maxHeartbeats 400000 in
theorem lrc_any (A : Option Addr) (n c : Nat) (xs : List UInt8) (w : World) (h : IsB w A n c xs) :
    Calls Try.prog 38 #[.slice A n c] w fun e w' => e = .returned (.int .u8 ((lrcB xs).toNat : Int)) ∧ w = w' := by
  have hn := h.len63
  have hlen := IsB.len h
  have H := Lib.hid h
  have HL := Lib.hid hlen
  clear h hlen
  go_enter Try.func38, Try.ntmps38
  go_wp2
  go_loopg [3, 8] n (fun g x i wr => ∃ k, k ≤ n ∧ g = n - k ∧ i = .int .i64 (k : Int) ∧ x = .int .u8 ((lrcB (xs.take k)).toNat : Int) ∧ wr = w)
  case atStart => exact ⟨0, by omega, rfl, rfl, rfl, rfl⟩
  case round =>
    obtain ⟨k, hk, hg, rfl, rfl, rfl⟩ := hrel
    by_cases hlt : k < n
    · obtain ⟨x, b, off, hx, rfl, hc, hx8⟩ := IsB.at_ H.out hlt
      have hl8 := UInt8.toNat_lt (lrcB (xs.take k))
      have HX := Lib.hid (u8_xor_byte (lrcB (xs.take k)) x)
      go_wp2
      go_roundg (n - (k + 1))
      case measure => omega
      case rel => exact ⟨k + 1, by omega, rfl, by go_num, by rw [HX.out, take_snoc hx, lrcB_snoc], rfl⟩
    · go_wp2
      go_ret
      have : k = xs.length := by rw [HL.out]; omega
      subst this
      exact ⟨by simp, rfl⟩
end Go.Proofs.Ytomdjcodgkoapaa


namespace Go.Proofs.Ytomdjcodgkoapaa
open Go.RowKit
theorem u16_low (r : Nat) (h : r < 65536) : bits .and .u16 (r : Int) 1 = ((r % 2 : Nat) : Int) := by
  have := u16_and_nat r 1 h (by omega)
  rw [nat_mask1] at this
  exact this
theorem u16_poly (r : Nat) (h : r < 65536) : bits .xor .u16 (r : Int) 33800 = ((r ^^^ 33800 : Nat) : Int) := u16_xor_nat r 33800 h (by omega)
/-- After k rounds of the outer loop. -/
structure TabRel (w : World) (k : Nat) (wr : World) : Prop where
  le : k ≤ 256
  out : wr.heap[w.heap.size]? = some (.cells Try.zeroCells78 78 (0, 0))
  tab : ∃ cs : Array Value, wr.heap[w.heap.size + 1]? = some (.cells cs 78 (0, 0)) ∧ cs.size = 256 ∧ ∀ j, j < k → cs[j]? = some (.int .u16 (crc8 j : Int))
  size : w.heap.size + 2 ≤ wr.heap.size
  below : Below w.heap.size w wr

set_option maxHeartbeats 1000000 in
theorem table_any (w : World) :
    Calls Try.prog 40 #[] w fun e w' => ∃ cs : Array Value, e = .returned (.agg cs) ∧ cs.size = 256 ∧ (∀ j, j < 256 → cs[j]? = some (.int .u16 (crc8 j : Int))) ∧ Below w.heap.size w w' := by
  go_enter Try.func40, Try.ntmps40
  go_wp2_with fail
  go_loopg [5] 256 (fun g i wr => ∃ k, g = 256 - k ∧ i = .int .i64 (k : Int) ∧ TabRel w k wr)
  case atStart =>
    refine ⟨0, rfl, rfl, ⟨by omega, heap_alloc2_old w _ _, ⟨Try.zeroCells78, heap_alloc2_new w _ _, Try.zeroCells78_size, fun j h => absurd h (by omega)⟩, by simp, ?_⟩⟩
    exact ((Below.refl _ _).alloc (Nat.le_refl _) _).alloc (by simp) _
  case round =>
    obtain ⟨k, hg, rfl, hrel⟩ := hrel
    by_cases hlt : k < 256
    · have hki : (k : Int) < 256 := by omega
      have HLT := Lib.hid hlt
      clear hlt
      have hwr : IntKind.u16.wrap (k : Int) = k := by rw [IntKind.wrap_u16]; omega
      go_wp2
      obtain ⟨wo, rfl⟩ : ∃ wo : World, wo = wr := ⟨_, rfl⟩
      go_loopg [3, 10] 8 (fun g r i wr => ∃ m, m ≤ 8 ∧ g = 8 - m ∧ i = .int .i64 (m : Int) ∧ r = .int .u16 (crcSteps m k : Int) ∧ wr = wo)
      case atStart => exact ⟨0, by omega, rfl, rfl, rfl, rfl⟩
      case round =>
        obtain ⟨m, hm, hg, rfl, rfl, rfl⟩ := hrel
        have HM := Lib.hid (And.intro hm hg)
        by_cases hlm : m < 8
        · have hr := crcSteps_lt m k (by have := HLT.out; omega)
          have hmi : (m : Int) < 8 := by omega
          have HS : Hid (crcSteps (m + 1) k = crcStep (crcSteps m k)) := rfl
          have HLM := Lib.hid hlm
          clear hm hg hlm
          generalize crcSteps m k = r at *
          have ha := u16_low r hr
          have HX := Lib.hid (u16_poly (r / 2) (by omega))
          rcases Nat.mod_two_eq_zero_or_one r with h2 | h2
          · rw [h2] at ha
            have H2 := Lib.hid h2
            clear hr h2
            go_wp2
            go_roundg (8 - (m + 1))
            case measure => have := HM.out; have := HLM.out; omega
            case rel =>
              refine ⟨m + 1, HLM.out, rfl, by go_num, ?_, rfl⟩
              rw [HS.out, crcStep, if_neg (by rw [H2.out]; decide)]; go_num
          · rw [h2] at ha
            have H2 := Lib.hid h2
            clear hr h2
            go_wp2
            go_roundg (8 - (m + 1))
            case measure => have := HM.out; have := HLM.out; omega
            case rel =>
              refine ⟨m + 1, HLM.out, rfl, by go_num, ?_, rfl⟩
              have hx := HX.out
              rw [HS.out, crcStep, if_pos H2.out, ← hx]; rfl
        · have hmi : ¬ (m : Int) < 8 := by omega
          obtain rfl : m = 8 := by omega
          clear hm hg hlm hmi HM
          obtain ⟨cs, hcs, hsz, hj⟩ := hrel.tab
          have hlt := HLT.out
          have hc0 : wr.cell? ⟨w.heap.size + 1, k, none⟩ = some (cs[k]'(by omega)) := by
            rw [cell_of_row wr _ k cs _ _ hcs]; exact Array.getElem?_eq_getElem (by omega)
          have hf0 := frozen_of_row wr _ k cs _ hcs
          have HR := Lib.hid (And.intro hrel (And.intro hcs (And.intro hsz hj)))
          obtain ⟨r8, h8⟩ : ∃ r, r = crcSteps 8 k := ⟨_, rfl⟩
          rw [← h8]
          have H8 := Lib.hid h8
          clear hrel hcs hj hlt h8
          go_wp2
          go_roundg (256 - (k + 1))
          case measure => have := HLT.out; omega
          case rel =>
            refine ⟨k + 1, rfl, by go_num, ?_⟩
            obtain ⟨hrel, hcs, hsz, hj⟩ := HR.out
            have hlt := HLT.out
            refine ⟨by omega, ?_, ⟨cs.setIfInBounds k (.int .u16 r8), heap_setCell_same wr _ _ cs _ _ hcs, by simp [hsz], ?_⟩, by simpa [World.setCell] using hrel.size, hrel.below.setCell (by simp) _⟩
            · rw [heap_setCell_other _ _ _ _ (by simp)]; exact hrel.out
            · intro j hjk
              by_cases hjk' : j = k
              · subst hjk'
                rw [Array.getElem?_setIfInBounds_self_of_lt (by omega), H8.out]; rfl
              · rw [Array.getElem?_setIfInBounds_ne (by omega)]
                exact hj j (by omega)
    · have hki : ¬ (k : Int) < 256 := by omega
      have hle := hrel.le
      obtain rfl : k = 256 := by omega
      obtain ⟨cs, hcs, hsz, hj⟩ := hrel.tab
      have HR := Lib.hid (And.intro hrel (And.intro hcs (And.intro hsz hj)))
      clear hlt hle hj hrel
      have hth : wr.there w.heap.size 0 cs.size := by
        have := there_of_block HR.out.1.out
        rw [Try.zeroCells78_size] at this
        rw [hsz]; exact this
      have hone : cs.all (·.oneCell') = true := by
        rw [Array.all_eq_true]
        intro i hi
        have := HR.out.2.2.2 i (by omega)
        rw [Array.getElem?_eq_getElem hi] at this
        injection this with this
        rw [this]; rfl
      have HT := Lib.hid (And.intro hth hone)
      clear hth hone
      go_wp2_with (first | (refine wpList_load_row rfl 78 _ rfl (w.heap.size + 1) rfl _ cs _ _ hcs Try.underlying78 rfl (by rw [hsz]; kernel_rfl) ?_) | (refine wpList_store_mid rfl 78 _ _ rfl w.heap.size 0 cs rfl rfl HT.out.1 (by rw [hsz]; kernel_rfl) HT.out.2 ?_))
      refine bodyPost_ret (results_cell_mid rfl _ _ w.heap.size 0 cs.toList _ rfl (World.rangeAt_setCells_same _ _ _ _ (by simpa using HT.out.1)) Try.underlying78 rfl (by rw [Array.length_toList, hsz]; kernel_rfl)) rfl ?_
      exact ⟨cs, rfl, hsz, HR.out.2.2.2, below_setCells (Nat.le_refl _) _ _ _ HR.out.1.below⟩

set_option maxHeartbeats 1000000 in
theorem crc_any (A : Option Addr) (n c : Nat) (xs : List UInt8) (w : World) (h : IsB w A n c xs) :
    Calls Try.prog 39 #[.slice A n c] w fun e w' => e = .returned (.int .u16 (crcInv xs : Int)) ∧ Below w.heap.size w w' := by
  have hn := h.len63
  have HL := Lib.hid (IsB.len h)
  have H := Lib.hid h
  clear h
  go_enter Try.func39, Try.ntmps39
  go_wp2_with fail
  refine (table_any _).mono ?_
  rintro e w1 ⟨cs, rfl, hsz, hj, hb⟩
  have HJ := Lib.hid (And.intro hsz hj)
  have hth : (w1.alloc (.cells Try.zeroCells78 78)).there w1.heap.size 0 cs.size := by
    have := there_of_block (heap_alloc_new w1 (.cells Try.zeroCells78 78))
    rw [Try.zeroCells78_size] at this
    rw [hsz]; exact this
  have hone : cs.all (·.oneCell') = true := by
    rw [Array.all_eq_true]
    intro i hi
    have := hj i (by omega)
    rw [Array.getElem?_eq_getElem hi] at this
    injection this with this
    rw [this]; rfl
  have HT := Lib.hid (And.intro hth (And.intro hone hsz))
  clear hj hth hone hsz
  go_wp2_with (refine wpList_store_mid rfl 78 _ _ rfl w1.heap.size 0 cs rfl rfl HT.out.1 (by rw [HT.out.2.2]; kernel_rfl) HT.out.2.1 ?_)
  obtain ⟨W, hW⟩ : ∃ W, W = (w1.alloc (.cells Try.zeroCells78 78)).setCells w1.heap.size 0 cs.toList := ⟨_, rfl⟩
  have hbW : Below w.heap.size w W := by rw [hW]; exact below_setCells hb.size _ _ _ (hb.alloc hb.size _)
  have hcell : ∀ j : Nat, j < 256 → W.cell? ⟨w1.heap.size, j, none⟩ = some (.int .u16 (crc8 j : Int)) := fun j hj => by
    have := World.rangeAt_setCells_same (w1.alloc (.cells Try.zeroCells78 78)) w1.heap.size 0 cs.toList (by simpa using HT.out.1) j _ (by rw [Array.getElem?_toList]; exact HJ.out.2 j hj)
    rw [hW]; simpa using this
  rw [← hW]
  have HW := Lib.hid (And.intro hbW hcell)
  clear hW hbW hcell hb
  go_loopg [4, 10] n (fun g r i wr => ∃ k, k ≤ n ∧ g = n - k ∧ i = .int .i64 (k : Int) ∧ r = .int .u16 (crcN (xs.take k) : Int) ∧ wr = W)
  case atStart => exact ⟨0, by omega, rfl, rfl, rfl, rfl⟩
  case round =>
    obtain ⟨k, hk, hg, rfl, rfl, rfl⟩ := hrel
    by_cases hlt : k < n
    · obtain ⟨x, b, off, hx, rfl, hc, hx8⟩ := IsB.at_ (Rd.below H.out HW.out.1) hlt
      have hr := crcN_lt (xs.take k)
      have hstep := crc8_byte (crcN (xs.take k)) x
      generalize hcr : crcN (xs.take k) = r at *
      have hd : r % 256 ^^^ x.toNat < 256 := Nat.xor_lt_two_pow (n := 8) (by omega) (by omega)
      have hx1 : bits .xor .u8 ((r : Int) % 256) (x.toNat : Int) = ((r % 256 ^^^ x.toNat : Nat) : Int) := u8_xor_nat (r % 256) x.toNat (by omega) (by omega)
      have hcd := HW.out.2 _ hd
      have ht := crc8_lt (r % 256 ^^^ x.toNat) (by omega)
      generalize r % 256 ^^^ x.toNat = d at *
      generalize crc8 d = t at *
      have hx2 : bits .xor .u16 ((r : Int) / 256) (t : Int) = ((r / 256 ^^^ t : Nat) : Int) := u16_xor_nat (r / 256) t (by omega) ht
      have hdi : (d : Int) < 256 := by omega
      have HR := Lib.hid (And.intro hr (And.intro hcr hstep))
      clear hr hcr hstep ht hd
      go_wp2
      go_roundg (n - (k + 1))
      case measure => omega
      case rel =>
        refine ⟨k + 1, by omega, rfl, by go_num, ?_, rfl⟩
        rw [take_snoc hx, crcN_snoc, HR.out.2.1, HR.out.2.2]
    · have hk' : k = xs.length := by have := HL.out; omega
      have hx := u16_crcInv (xs.take k)
      have HK := Lib.hid hk'
      clear hk'
      go_wp2
      go_ret
      exact ⟨by rw [HK.out, List.take_length]; rfl, HW.out.1⟩
end Go.Proofs.Ytomdjcodgkoapaa

/- check.Sum: the walk. -/
namespace Go.Proofs.Ytomdjcodgkoapaa
open Go.RowKit
theorem own_lit {w : World} {B : Nat} {e : TypeId} (vs : List Value) (hB : B ≤ w.heap.size) (hm : vs.length ≤ 1000) : Own (w.alloc (.cells vs.toArray e)) B e (some ⟨w.heap.size, 0, none⟩) vs.length vs.length vs := by
  have h := World.ownsRow_lit (base := B) (e := e) (size := 1) w vs.toArray vs.length hB (by unfold maxLen; omega) (by simp)
  simpa using h

set_option maxHeartbeats 400000 in
theorem sum_any (k : Int) (A : Option Addr) (n c : Nat) (xs : List UInt8) (w : World) (h : IsB w A n c xs) :
    Calls Try.prog 34 #[.int .i64 k, .slice A n c] w fun e w' => ∃ A' n' c', e = .returned (.tuple #[.slice A' n' c', .int .i64 (sumE k)]) ∧ Own w' w.heap.size 5 A' n' c' ((sumB k xs).map u8) ∧ Below w.heap.size w w' := by
  by_cases h0 : k = 0
  · subst h0
    go_enter Try.func34, Try.ntmps34
    go_wp2_with fail
    refine (lrc_any A n c xs _ h).mono ?_
    rintro e w1 ⟨rfl, rfl⟩
    go_wp2_with fail
    go_ret2
    exact ⟨_, _, _, rfl, own_lit [u8 (lrcB xs)] (Nat.le_refl _) (by simp), (Below.refl _ _).alloc (Nat.le_refl _) _⟩
  by_cases h1 : k = 1
  · subst h1
    go_enter Try.func34, Try.ntmps34
    go_wp2_with fail
    refine (crc_any A n c xs _ h).mono ?_
    rintro e w1 ⟨rfl, hb⟩
    have hlt := crcInv_lt xs
    have hr : (crcInv xs : Int) < 65536 := by omega
    have HC := Lib.hid (And.intro (crcLo_toNat xs) (And.intro (crcHi_toNat xs) hlt))
    clear hlt
    go_wp2_with fail
    go_ret2
    refine ⟨_, _, _, rfl, ?_, hb.alloc hb.size _⟩
    have e1 : u8 (crcLo xs) = .int .u8 ((crcInv xs : Int) % 256) := by rw [u8, HC.out.1]; rfl
    have e2 : u8 (crcHi xs) = .int .u8 ((crcInv xs : Int) / 256) := by rw [u8, HC.out.2.1]; rfl
    have h := own_lit (w := w1) (B := w.heap.size) (e := 5) [u8 (crcLo xs), u8 (crcHi xs)] hb.size (by simp)
    show Own _ _ _ _ 2 2 [u8 (crcLo xs), u8 (crcHi xs)]
    rw [e1, e2]
    rw [e1, e2] at h
    exact h
  have h0' : (k == 0) = false := by simp [h0]
  have h1' : (k == 1) = false := by simp [h1]
  have hs : sumB k xs = [] := by simp [sumB, h0, h1]
  have he : sumE k = 1 := by simp [sumE, h0, h1]
  rw [hs, he]
  clear hs he h0 h1
  go_enter Try.func34, Try.ntmps34
  go_wp2_with fail
  go_ret2
  exact ⟨none, 0, 0, rfl, Own.nil _ _, Below.refl _ _⟩
end Go.Proofs.Ytomdjcodgkoapaa
