/- Several texts in one. -/
import Derived.Test.YtilfphdeacogmaaZ3
import Derived.Orders
import Derived.KernelRfl
import Derived.Test.YtilfphdeacogmaaProg
import Derived.WalkKit
import Derived.Test.YtilfphdeacogmaaRows
import Derived.Lib.Builder
import Derived.Laws.Externs
import Derived.WalkSpells
import Derived.WalkLawsBesides
import Derived.Test.YtilfphdeacogmaaZ1
import Derived.Deep.LoopGhost
import Derived.Deep.DeepMust
import Derived.Lib.AppendZeros
import Derived.Lib.SliceRun
import Derived.Test.YtilfphdeacogmaaZ2
import Derived.RegionTactic

set_option linter.unusedSimpArgs false
set_option linter.unusedVariables false
set_option linter.unusedSectionVars false
/- The engine, part z: regions that draw their order. -/
namespace Go.Proofs.Ytilfphdeacogmaa.En
open Go
set_option linter.unusedVariables false
def readsM (ops : Array Oper) (o : Oper) : List Operand -> Nat
  | [] => (match o.guard with | some (j, _) => (match dstOf ops j with | some s => 1 <<< s | none => 0) | none => 0)
  | x :: r => (match x with | .tmp t => (1 <<< t) ||| readsM ops o r | _ => readsM ops o r)
def dstM (o : Oper) : Nat := match o.dst with | some s => 1 <<< s | none => 0
def clash2 : Cls -> Cls -> Bool
  | .c, _ => true
  | _, .c => true
  | .n, _ => false
  | _, .n => false
  | .r, .r => false
  | .r, .a => false
  | .a, .r => false
  | .s, .r => false
  | .r, .s => false
  | .s, .s => false
  | _, _ => true
def farS (ops : Array Oper) (a b : Op) : Bool :=
  match a, b with
  | .load _ (.tmp i), .store _ (.tmp j) _ => !Nat.beq (rootN ops 20 i) (rootN ops 20 j)
  | .store _ (.tmp j) _, .load _ (.tmp i) => !Nat.beq (rootN ops 20 i) (rootN ops 20 j)
  | _, _ => false
def isLd (op : Op) : Bool := match op with | .load _ (.tmp _) => true | _ => false
def farM (ops : Array Oper) (a b : Op) : Bool := farS ops a b || ((isLd a && isApp b) || (isApp a && isLd b))
def isMv (o : Oper) : Bool := match o.op with | .move (.tmp _) => (match o.guard with | none => true | some _ => false) | _ => false
def noG (o : Oper) : Bool := match o.guard with | none => true | some _ => false
def apartM (ops : Array Oper) (cx : Cx) (a b : Oper) : Bool :=
  (!clash2 (clsOf cx a.op) (clsOf cx b.op) || ((cx.dyn && farM ops a.op b.op) || (isMv a && noG b))) && Nat.beq (dstM a &&& (readsM ops b b.op.operands.toList ||| dstM b)) 0 && Nat.beq (dstM b &&& readsM ops a a.op.operands.toList) 0
def aheadE (acc : List Nat) : List Edge -> Nat
  | [] => 0
  | e :: r => cond (Region.binds .any e) ((1 <<< e.on) ||| (acc.getD e.on 0 ||| aheadE acc r)) (aheadE acc r)
def backE (i : Nat) : List Edge -> Bool
  | [] => true
  | e :: r => (!Region.binds .any e || Nat.blt e.on i) && backE i r
def chkP (ops : Array Oper) (cx : Cx) (o : Oper) (a : Nat) : Nat -> List Oper -> Bool
  | _, [] => true
  | j, p :: ps => (Nat.testBit a j || apartM ops cx p o) && chkP ops cx o a (j + 1) ps
def chkO (ops : Array Oper) (cx : Cx) : List Oper -> List Oper -> List Nat -> Bool
  | [], _, _ => true
  | o :: r, prev, acc => backE prev.length o.after.toList && chkP ops cx o (aheadE acc o.after.toList) 0 prev && chkO ops cx r (prev ++ [o]) (acc ++ [aheadE acc o.after.toList])
def orderB (cx : Cx) (ops : Array Oper) : Bool := chkO ops cx ops.toList [] []
theorem bit_and {a b : Nat} (h : a &&& b = 0) (t : Nat) (ha : a.testBit t = true) : b.testBit t = false := by
  have := congrArg (fun n => Nat.testBit n t) h
  simpa [ha] using this
theorem readsM_op (ops : Array Oper) (o : Oper) (t : Nat) : ∀ l : List Operand, .tmp t ∈ l -> (readsM ops o l).testBit t = true
  | [], h => by cases h
  | x :: r, h => by
    rcases List.mem_cons.1 h with h | h
    . subst h; simp [readsM, Nat.testBit_or]
    . have := readsM_op ops o t r h
      unfold readsM
      split <;> simp [Nat.testBit_or, this]
theorem readsM_guard (ops : Array Oper) (o : Oper) {j : Nat} {w : Bool} {s : Nat} (hg : o.guard = some (j, w)) (hd : dstOf ops j = some s) : ∀ l : List Operand, (readsM ops o l).testBit s = true
  | [] => by simp [readsM, hg, hd]
  | x :: r => by
    have := readsM_guard ops o hg hd r
    unfold readsM
    split <;> simp [Nat.testBit_or, this]
theorem dstM_some {o : Oper} {s : Nat} (h : o.dst = some s) : (dstM o).testBit s = true := by simp [dstM, h]
structure Apart (ops : Array Oper) (cx : Cx) (a b : Oper) : Prop where
  cls : clash2 (clsOf cx a.op) (clsOf cx b.op) = false ∨ (cx.dyn = true /\ farM ops a.op b.op = true) ∨ (isMv a = true /\ noG b = true)
  ab : ∀ s, a.dst = some s -> Away ops s b
  ba : ∀ s, b.dst = some s -> Away ops s a
theorem apart_of {ops : Array Oper} {cx : Cx} {a b : Oper} (h : apartM ops cx a b = true) : Apart ops cx a b := by
  unfold apartM at h
  simp only [Bool.and_eq_true, Bool.or_eq_true, Bool.not_eq_true'] at h
  obtain ⟨⟨h1, h2⟩, h3⟩ := h
  have h2 := Nat.eq_of_beq_eq_true h2
  have h3 := Nat.eq_of_beq_eq_true h3
  refine ⟨h1, fun s hs => ?_, fun s hs => ?_⟩
  . have := bit_and h2 s (dstM_some hs)
    simp only [Nat.testBit_or, Bool.or_eq_false_iff] at this
    refine ⟨fun z hz e => ?_, fun j w t hg hd e => ?_, fun e => ?_⟩
    . subst e; rw [readsM_op ops b s _ hz] at this; cases this.1
    . subst e; rw [readsM_guard ops b hg hd] at this; cases this.1
    . rw [dstM_some e] at this; cases this.2
  . have := bit_and h3 s (dstM_some hs)
    refine ⟨fun z hz e => ?_, fun j w t hg hd e => ?_, fun e => ?_⟩
    . subst e; rw [readsM_op ops a s _ hz] at this; cases this
    . subst e; rw [readsM_guard ops a hg hd] at this; cases this
    . have h4 := bit_and h2 s (dstM_some e)
      simp only [Nat.testBit_or, Bool.or_eq_false_iff] at h4
      rw [dstM_some hs] at h4; cases h4.2
theorem backE_spec {i : Nat} : ∀ (l : List Edge), backE i l = true -> ∀ e ∈ l, Region.binds .any e = true -> e.on < i
  | [], _, e, he => by cases he
  | x :: r, h, e, he => by
    simp only [backE, Bool.and_eq_true, Bool.or_eq_true, Bool.not_eq_true'] at h
    intro hb
    rcases List.mem_cons.1 he with rfl | he
    . rcases h.1 with h1 | h1
      . rw [hb] at h1; cases h1
      . exact Nat.lt_of_lt_of_le (Nat.lt_succ_self _) (Nat.le_of_ble_eq_true h1)
    . exact backE_spec r h.2 e he hb
theorem aheadE_spec (L : Nat -> Prop) (acc : List Nat) : ∀ (l : List Edge), (∀ e ∈ l, Region.binds .any e = true -> L e.on /\ ∀ j, (acc.getD e.on 0).testBit j = true -> L j) -> ∀ j, (aheadE acc l).testBit j = true -> L j
  | [], _, j, h => by simp [aheadE] at h
  | e :: r, hl, j, h => by
    unfold aheadE at h
    have ih := aheadE_spec L acc r (fun e he => hl e (by simp [he])) j
    cases hb : Region.binds .any e with
    | false => rw [hb] at h; exact ih h
    | true =>
      rw [hb, cond_true] at h
      obtain ⟨h1, h2⟩ := hl e (by simp) hb
      simp only [Nat.testBit_or, Bool.or_eq_true] at h
      rcases h with h | h | h
      . have : j = e.on := by
          rw [Nat.one_shiftLeft, Nat.testBit_two_pow] at h
          simpa using (of_decide_eq_true h).symm
        rw [this]; exact h1
      . exact h2 j h
      . exact ih h
theorem chkP_spec {ops : Array Oper} {cx : Cx} {o : Oper} {a : Nat} : ∀ (l : List Oper) (k : Nat), chkP ops cx o a k l = true -> ∀ j p, l[j]? = some p -> a.testBit (k + j) = true ∨ Apart ops cx p o
  | [], k, _, j, p, hp => by simp at hp
  | x :: r, k, h, j, p, hp => by
    simp only [chkP, Bool.and_eq_true, Bool.or_eq_true] at h
    rcases j with _ | j
    . simp at hp; subst hp
      rcases h.1 with h1 | h1
      . exact .inl h1
      . exact .inr (apart_of h1)
    . have := chkP_spec r (k + 1) h.2 j p (by simpa using hp)
      rwa [show k + 1 + j = k + (j + 1) by omega] at this
structure Ordered (ops : Array Oper) (cx : Cx) (l : List Oper) (acc : List Nat) : Prop where
  len : acc.length = l.length
  back : ∀ (i : Nat) o, l[i]? = some o -> ∀ e ∈ o.after, Region.binds .any e = true -> e.on < i
  ahead : ∀ (L : Nat -> Prop), (∀ (i : Nat) o, l[i]? = some o -> L i -> ∀ e ∈ o.after, Region.binds .any e = true -> L e.on) -> ∀ (i : Nat) o, l[i]? = some o -> (∀ e ∈ o.after, Region.binds .any e = true -> L e.on) -> ∀ j, (acc.getD i 0).testBit j = true -> L j
  pair : ∀ (i j : Nat) o p, l[i]? = some o -> l[j]? = some p -> j < i -> (acc.getD i 0).testBit j = true ∨ Apart ops cx p o
theorem chkO_spec {ops : Array Oper} {cx : Cx} : ∀ (l prev : List Oper) (acc : List Nat), Ordered ops cx prev acc -> chkO ops cx l prev acc = true -> ∃ acc', Ordered ops cx (prev ++ l) acc'
  | [], prev, acc, ho, _ => ⟨acc, by simpa using ho⟩
  | o :: r, prev, acc, ho, h => by
    simp only [chkO, Bool.and_eq_true] at h
    obtain ⟨⟨h1, h2⟩, h3⟩ := h
    have key : Ordered ops cx (prev ++ [o]) (acc ++ [aheadE acc o.after.toList]) := by
      have get : ∀ {i : Nat} {x : Oper}, (prev ++ [o])[i]? = some x -> prev[i]? = some x ∨ (i = prev.length /\ x = o) := by
        intro i x hx
        rcases Nat.lt_or_ge i prev.length with hl | hl
        . rw [List.getElem?_append_left hl] at hx; exact .inl hx
        . rw [List.getElem?_append_right hl] at hx
          have : i - prev.length = 0 := by
            rcases Nat.eq_zero_or_pos (i - prev.length) with h0 | h0
            . exact h0
            . rw [List.getElem?_eq_none (by simp; omega)] at hx; cases hx
          rw [this] at hx; simp at hx
          exact .inr ⟨by omega, hx.symm⟩
      have hlt : ∀ {i : Nat} {x : Oper}, prev[i]? = some x -> i < prev.length := fun hx => (List.getElem?_eq_some_iff.1 hx).1
      have ga : ∀ {i : Nat}, i < prev.length -> (acc ++ [aheadE acc o.after.toList]).getD i 0 = acc.getD i 0 := by
        intro i hi
        rw [List.getD_eq_getElem?_getD, List.getElem?_append_left (by rw [ho.len]; exact hi), ← List.getD_eq_getElem?_getD]
      have gl : (acc ++ [aheadE acc o.after.toList]).getD prev.length 0 = aheadE acc o.after.toList := by
        rw [List.getD_eq_getElem?_getD, List.getElem?_append_right (by rw [ho.len]; exact Nat.le_refl _), ho.len]; simp
      have hb := backE_spec _ h1
      refine ⟨by simp [ho.len], fun i x hx => ?_, fun L hL i x hx hw j hj => ?_, fun i j x p hx hp hji => ?_⟩
      . rcases get hx with hx | ⟨rfl, rfl⟩
        . exact ho.back i x hx
        . exact fun e he hbd => hb e (by simpa using he) hbd
      . have hL' : ∀ (i : Nat) o, prev[i]? = some o -> L i -> ∀ e ∈ o.after, Region.binds .any e = true -> L e.on := fun i y hy => hL i y (by rw [List.getElem?_append_left (hlt hy)]; exact hy)
        rcases get hx with hx | ⟨rfl, rfl⟩
        . rw [ga (hlt hx)] at hj
          exact ho.ahead L hL' i x hx hw j hj
        . rw [gl] at hj
          refine aheadE_spec L acc _ (fun e he hbd => ?_) j hj
          have he' : e ∈ x.after := by simpa using he
          have hlt' := hb e he hbd
          refine ⟨hw e he' hbd, ?_⟩
          have hy : prev[e.on]? = some prev[e.on] := List.getElem?_eq_getElem hlt'
          exact ho.ahead L hL' e.on _ hy (hL' e.on _ hy (hw e he' hbd))
      . rcases get hx with hx1 | ⟨rfl, rfl⟩
        . rw [ga (hlt hx1)]
          rcases get hp with hp | ⟨rfl, rfl⟩
          . exact ho.pair i j x p hx1 hp hji
          . have := hlt hx1; omega
        . rw [gl]
          rcases get hp with hp | ⟨rfl, rfl⟩
          . have := chkP_spec prev 0 h2 j p hp
            rwa [Nat.zero_add] at this
          . omega
    obtain ⟨acc', ha⟩ := chkO_spec r _ _ key h3
    exact ⟨acc', by simpa using ha⟩
theorem ordered_of {ops : Array Oper} {cx : Cx} (h : orderB cx ops = true) : ∃ acc, Ordered ops cx ops.toList acc := by
  have h0 : Ordered ops cx [] [] := ⟨rfl, fun i o ho => by simp at ho, fun L _ i o ho => by simp at ho, fun i j o p ho => by simp at ho⟩
  simpa using chkO_spec ops.toList [] [] h0 h
section
variable {R : Type} {cx : Cx} {ops : Array Oper}
def Good (cx : Cx) (i : Oper) (slots : List D) (m : Mem) : Prop := ∀ t z, i.op = .load t z -> ∀ k s o, evalD cx.T slots 0 z = .ptr k s o -> ∃ b, m.box? k s = some b
def Grown (m m' : Mem) : Prop := ∀ k s b, m.box? k s = some b -> m'.box? k s = some b
theorem Good.put {x i : Oper} {slots : List D} {m m' : Mem} (h : Good cx i slots m) (hx : ∀ s, x.dst = some s -> Away ops s i) (hm : Grown m m') (d : D) : Good cx i (put slots x.dst d) m' := by
  intro t z hz k s o he
  have : evalD cx.T (En.put slots x.dst d) 0 z = evalD cx.T slots 0 z := by
    cases hd : x.dst with
    | none => rfl
    | some y => exact evalD_set slots y _ 0 z ((hx y hd).reads z (by rw [hz]; simp [Op.operands]))
  rw [this] at he
  obtain ⟨b, hb⟩ := h t z hz k s o he
  exact ⟨b, hm _ _ _ hb⟩
def isA (cx : Cx) (op : Op) : Bool := match clsOf cx op with | .a => true | _ => false
theorem isA_alloc {op : Op} (h : isA cx op = true) : ∃ t, op = .alloc t := by
  unfold isA clsOf at h
  split at h <;> try cases h
  all_goals rename_i heq
  all_goals split at heq
  all_goals first | exact ⟨_, rfl⟩ | cases heq | (split at heq <;> first | cases heq | (split at heq <;> first | cases heq | (rw [Bool.cond_eq_ite] at heq; split at heq <;> cases heq)))
theorem alloc_grown {T : TypeId -> Option Ty} {dst : Nat} {oty t : TypeId} {slots : List D} {m : Mem} {dead : List Pos} {d : D} {m' : Mem} {dd : List Pos}
    (h : opK T dst oty slots (.alloc t) m dead (fun d m dd => some (d, m, dd)) = some (d, m', dd)) : Grown m m' := by
  simp only [opK] at h
  split at h
  . unfold newBoxK at h
    split at h
    . rename_i fr out
      split at h
      . rename_i hn
        obtain ⟨cs, d2, h⟩ := cellsK_out _ _ _ _ _ h
        rw [memPutK_eq] at h
        injection h with h
        injection h with h0 h
        injection h with h1 h2
        subst h1
        intro k s b hb
        rw [box_set, if_neg]
        . exact hb
        . rintro ⟨rfl, rfl, _⟩
          simp only [Mem.box?] at hb
          rw [hn] at hb; cases hb
      . cases h
    . cases h
  . cases h
theorem step_grown (hB : PureB cx) {x : Oper} (hx : isVal cx x.op = true ∨ isA cx x.op = true) {slots : List D} {m : Mem} {dead : List Pos} {d : D} {m' : Mem} {dd : List Pos}
    (h : ∀ (R' : Type) (K' : St -> Option R'), stepK cx ops x ⟨slots, m, dead⟩ K' = K' ⟨put slots x.dst d, m', dd⟩) : Grown m m' := by
  have h1 := h St some
  rcases hx with hx | hx
  . rw [step_val hB hx] at h1
    obtain ⟨e, _, h2⟩ := bind_some h1
    injection h2 with h2; injection h2 with _ h2 _; subst h2
    exact fun _ _ _ hb => hb
  . obtain ⟨t, ht⟩ := isA_alloc hx
    rw [stepK_eq] at h1
    cases hw : wants ops x slots with
    | none => rw [hw] at h1; cases h1
    | some b =>
      rw [hw] at h1
      cases b
      . simp only [actK, skipK_eq] at h1
        injection h1 with h2; injection h2 with _ h2 _; subst h2
        exact fun _ _ _ hb => hb
      . simp only [actK] at h1
        rw [takeK_eq x (by simp [notC, ht, clsOf])] at h1
        have hr : ∀ (R' : Type) (K' : Bool -> D -> Mem -> List Pos -> Option R'), runK cx x slots m dead K' = opK cx.T (x.dst.getD 0) x.type slots (.alloc t) m dead (K' false) := by
          intro R' K'; unfold runK; rw [ht]
        rw [hr, ← opK_b cx] at h1
        obtain ⟨p, h3, h4⟩ := bind_some h1
        injection h4 with h4; injection h4 with _ h4 _
        obtain ⟨p1, p2, p3⟩ := p
        simp only at h4; subst h4
        exact alloc_grown h3
theorem loadK_grown {T : TypeId -> Option Ty} {t : TypeId} {a : D} {m m' : Mem} (hm : Grown m m') (hg : ∀ k s o, a = .ptr k s o -> ∃ b, m.box? k s = some b) (K : D -> Option R) : loadK T t a m' K = loadK T t a m K := by
  unfold loadK
  split
  . split
    . rename_i k s o
      obtain ⟨b, hb⟩ := hg k s o rfl
      rw [hb, hm _ _ _ hb]
    . rfl
    . rfl
  . rfl
theorem loadK_ptr {T : TypeId -> Option Ty} {t : TypeId} {m : Mem} {k s o : Nat} {K : D -> Option R} {r : R} (h : loadK T t (.ptr k s o) m K = some r) : ∃ b, m.box? k s = some b := by
  unfold loadK at h
  split at h
  . simp only at h
    split at h
    . rename_i b hb; exact ⟨b, hb⟩
    . cases h
  . cases h
def isRd (cx : Cx) (op : Op) : Bool := match clsOf cx op with | .n => true | .r => true | _ => false
theorem isVal_of_Rd {op : Op} (h : isRd cx op = true) : isVal cx op = true := by
  unfold isRd at h; unfold isVal; cases hc : clsOf cx op <;> simp [hc] at h ⊢
theorem val_cases {op : Op} (h : isRd cx op = true) : isN cx op = true ∨ ∃ t z, op = .load t z := by
  unfold isRd at h
  unfold isN
  cases hc : clsOf cx op with
  | n => exact .inl rfl
  | r =>
    refine .inr ?_
    unfold clsOf at hc
    split at hc <;> try cases hc
    . exact ⟨_, _, rfl⟩
    . split at hc <;> first | cases hc | (split at hc <;> first | cases hc | (rw [Bool.cond_eq_ite] at hc; split at hc <;> cases hc))
  | _ => rw [hc] at h; cases h
theorem valR_load {o : Oper} {t : TypeId} {z : Operand} (hz : o.op = .load t z) (slots : List D) (m : Mem) : valR cx o slots m = loadK cx.T t (evalD cx.T slots 0 z) m some := by
  unfold valR runK
  rw [hz]
  simp only [opK, evK_eq]
theorem valS_grown {i : Oper} (hi : isRd cx i.op = true) {slots : List D} {m m' : Mem} (hm : Grown m m') (hg : Good cx i slots m) : valS cx ops i slots m' = valS cx ops i slots m := by
  rcases val_cases hi with h | ⟨t, z, hz⟩
  . exact valS_mem h _ _ _
  . unfold valS
    rw [valR_load hz, valR_load hz, loadK_grown hm (hg t z hz)]
theorem good_of_val {i : Oper} {slots : List D} {m : Mem} {d : D} (hw : wants ops i slots = some true) (h : valS cx ops i slots m = some d) : Good cx i slots m := by
  intro t z hz k s o he
  unfold valS at h
  rw [hw] at h
  simp only [valR_load hz, he] at h
  exact loadK_ptr h
theorem cls_cases {a b : Op} (h : clash2 (clsOf cx a) (clsOf cx b) = false) :
    notC cx a = true /\ notC cx b = true /\ (isN cx a = true ∨ isN cx b = true ∨ (isVal cx a = true /\ isVal cx b = true) ∨ (isRd cx a = true /\ isA cx b = true) ∨ (isA cx a = true /\ isRd cx b = true)) := by
  unfold notC isN isVal isRd isA
  cases ha : clsOf cx a <;> cases hb : clsOf cx b <;> rw [ha, hb] at h <;> simp [clash2] at h ⊢
theorem swap1 (hB : PureB cx) {x i : Oper} (ha : Apart ops cx x i) (hcls : clash2 (clsOf cx x.op) (clsOf cx i.op) = false) {slots : List D} {m : Mem} {dead : List Pos} (hg : Good cx i slots m) {K : St -> Option R} {r : R}
    (h : stepK cx ops x ⟨slots, m, dead⟩ (fun s => stepK cx ops i s K) = some r) : stepK cx ops i ⟨slots, m, dead⟩ (fun s => stepK cx ops x s K) = some r := by
  obtain ⟨hcx, hci, hcl⟩ := cls_cases hcls
  have hval : isN cx i.op = true -> stepK cx ops i ⟨slots, m, dead⟩ (fun s => stepK cx ops x s K) = some r := by
    intro hn
    obtain ⟨d, m', dd, h1, h2⟩ := step_fun hB hcx h
    rw [step_val hB (isVal_of_N hn)] at h1
    obtain ⟨e, h3, h4⟩ := bind_some h1
    rw [put_away ha.ab, valS_mem hn _ _ m] at h3
    rw [← swap_val' hB hcx (isVal_of_N hn) ha.ab ha.ba (.inl hn) slots m dead K h3]
    exact h
  have hval2 : isVal cx x.op = true -> isN cx x.op = true ∨ isVal cx i.op = true -> stepK cx ops i ⟨slots, m, dead⟩ (fun s => stepK cx ops x s K) = some r := by
    intro hv hn
    rcases swap_val hB hv hci ha.ab ha.ba hn slots m dead K with h1 | h1
    . rw [← h1]; exact h
    . rw [h1] at h; cases h
  rcases hcl with hn | hn | ⟨h1, h2⟩ | ⟨h1, h2⟩ | ⟨h1, h2⟩
  . exact hval2 (isVal_of_N hn) (.inl hn)
  . exact hval hn
  . exact hval2 h1 (.inr h2)
  . -- x reads, i makes a variable
    rw [step_val hB (isVal_of_Rd h1)] at h
    obtain ⟨d, h3, h4⟩ := bind_some h
    rw [step_put ha.ab hci] at h4
    obtain ⟨e, m', dd, h5, h6⟩ := step_fun hB hci h4
    have hgr := step_grown hB (.inr h2) h6
    rw [h6 R fun s => stepK cx ops x s K]
    rw [step_val hB (isVal_of_Rd h1), put_away ha.ba]
    have hx : valS cx ops x slots m' = some d := by
      cases hw : wants ops x slots with
      | none => unfold valS at h3; rw [hw] at h3; cases h3
      | some b =>
        cases b with
        | false => unfold valS at h3 ⊢; rw [hw] at h3 ⊢; exact h3
        | true => rw [valS_grown h1 hgr (good_of_val hw h3)]; exact h3
    rw [hx, Option.bind_some]
    exact h5
  . -- x makes a variable, i reads
    obtain ⟨d, m', dd, h3, h4⟩ := step_fun hB hcx h
    have hgr := step_grown hB (.inr h1) h4
    rw [step_val hB (isVal_of_Rd h2), put_away ha.ab, valS_grown h2 hgr hg] at h3
    obtain ⟨e, h5, h6⟩ := bind_some h3
    rw [step_val hB (isVal_of_Rd h2), h5, Option.bind_some, step_put ha.ba hcx, h4]
    exact h6
theorem ld_of {op : Op} (h : isLd op = true) : ∃ t i, op = .load t (.tmp i) := by
  unfold isLd at h
  split at h
  . exact ⟨_, _, rfl⟩
  . cases h
theorem app_of {op : Op} (h : isApp op = true) : ∃ c, op = .call c /\ c.callee = .builtin .append := by
  unfold isApp at h
  split at h
  . rename_i c
    split at h
    . rename_i hc; exact ⟨c, rfl, hc⟩
    . cases h
  . cases h
theorem app_w {op : Op} (cx : Cx) (h : isApp op = true) : clsOf cx op = .w := by
  obtain ⟨c, rfl, hc⟩ := app_of h
  unfold clsOf
  simp only [hc]
theorem far_cases {a b : Op} (h : farM ops a b = true) : (∃ t i t' j v, a = .load t (.tmp i) /\ b = .store t' (.tmp j) v /\ rootN ops 20 i ≠ rootN ops 20 j) ∨ (∃ t i t' j v, a = .store t' (.tmp j) v /\ b = .load t (.tmp i) /\ rootN ops 20 i ≠ rootN ops 20 j) ∨
    (∃ t i, a = .load t (.tmp i) /\ isApp b = true) ∨ (∃ t i, b = .load t (.tmp i) /\ isApp a = true) := by
  unfold farM at h
  rw [Bool.or_eq_true, Bool.or_eq_true, Bool.and_eq_true, Bool.and_eq_true] at h
  rcases h with h | ⟨h1, h2⟩ | ⟨h1, h2⟩
  . unfold farS at h
    split at h
    . refine .inl ⟨_, _, _, _, _, rfl, rfl, fun e => ?_⟩
      rw [e] at h; simp at h
    . refine .inr (.inl ⟨_, _, _, _, _, rfl, rfl, fun e => ?_⟩)
      rw [e] at h; simp at h
    . cases h
  . obtain ⟨t, i, e⟩ := ld_of h1
    exact .inr (.inr (.inl ⟨t, i, e, h2⟩))
  . obtain ⟨t, i, e⟩ := ld_of h2
    exact .inr (.inr (.inr ⟨t, i, e, h1⟩))
theorem useUp_mem {R : Type} {a : Att} {e : TypeId} {m : Mem} {dead : List Pos} {K : Mem -> List Pos -> Option R} {r : R} (hno : ∀ k s p e', a ≠ .own (.cell k s p) e') (h : useUpK a e m dead K = some r) : ∃ dead', K m dead' = some r := by
  unfold useUpK at h
  split at h
  . rename_i e'
    cases hb : Nat.beq e' e with
    | false => rw [hb] at h; cases h
    | true => rw [hb] at h; exact ⟨_, h⟩
  . rename_i p e'
    cases hb : (Nat.beq e' e && !hasP p dead) with
    | false => rw [hb] at h; cases h
    | true =>
      rw [hb, cond_true] at h
      cases p with
      | slot g => exact ⟨_, h⟩
      | cell k s i => exact absurd rfl (hno k s i e')
  . cases h
theorem append_mem {T : TypeId -> Option Ty} {dst : Nat} {t t2 : TypeId} {s x : D} {m : Mem} {dead : List Pos} {p1 : D} {p2 : Mem} {p3 : List Pos} (hno : ∀ y k s' i e, s ≠ .v y (.own (.cell k s' i) e))
    (h : appendK T dst t t2 s x m dead (fun d m dd => some (d, m, dd)) = some (p1, p2, p3)) : p2 = m := by
  have fin : ∀ {a : Att} {e : TypeId} {b : Bool} {d : D}, (∀ k s p e', a ≠ .own (.cell k s p) e') -> useUpK a e m dead (fun m' dead' => check b (some (d, m', dead'))) = some (p1, p2, p3) -> p2 = m := by
    intro a e b d hn h
    obtain ⟨dd, h⟩ := useUp_mem hn h
    unfold check br at h
    cases b with
    | false => cases h
    | true =>
      rw [cond_true] at h
      injection h with h
      injection h with _ h
      injection h with h _
      exact h.symm
  unfold appendK at h
  split at h
  . split at h
    . split at h
      . split at h
        . cases h
        . split at h
          . rename_i xs a ys _ _ _
            split at h
            . cases hb : (Nat.beq _ _ && Nat.beq _ 1) with
              | false => rw [hb] at h; cases h
              | true => rw [hb, cond_true] at h; exact fin (fun k s p e' q => by subst q; exact hno _ _ _ _ _ rfl) h
            . cases h
          . split at h
            . cases hb : (Nat.beq _ _ && (Nat.beq _ _ && Nat.beq _ _)) with
              | false => rw [hb] at h; cases h
              | true => rw [hb, cond_true] at h; exact fin (fun k s p e' q => by subst q; exact hno _ _ _ _ _ rfl) h
            . cases h
          . split at h
            . cases hb : Nat.beq _ 1 with
              | false => rw [hb] at h; cases h
              | true => rw [hb, cond_true] at h; exact fin (fun k s p e' q => by subst q; exact hno _ _ _ _ _ rfl) h
            . cases h
          . cases h
      . cases h
    . cases h
  . cases h
theorem app_far {i : Oper} (hi : isApp i.op = true) {slots : List D} {m : Mem} {dead : List Pos} (hr : ∃ j y, argsOf i.op = [.tmp j, y] /\ ∀ x k s p e, slots.getD j .any ≠ .v x (.own (.cell k s p) e)) {d : D} {m' : Mem} {dd : List Pos}
    (h : ∀ (R' : Type) (K' : St -> Option R'), stepK cx ops i ⟨slots, m, dead⟩ K' = K' ⟨put slots i.dst d, m', dd⟩) : m' = m := by
  have h1 := h St some
  rw [stepK_eq] at h1
  cases hw : wants ops i slots with
  | none => rw [hw] at h1; cases h1
  | some b =>
    rw [hw] at h1
    cases b
    . simp only [actK, skipK_eq] at h1
      injection h1 with h2; injection h2 with _ h2 _; exact h2.symm
    . simp only [actK] at h1
      rw [takeK_eq i (by simp [notC, app_w cx hi])] at h1
      obtain ⟨c, hc, hcal⟩ := app_of hi
      obtain ⟨j, y, hargs, hno⟩ := hr
      have hrk : ∀ (R' : Type) (K' : Bool -> D -> Mem -> List Pos -> Option R'), runK cx i slots m dead K' = opK cx.T (i.dst.getD 0) i.type slots (.call c) m dead (K' false) := by
        intro R' K'; unfold runK; rw [hc]; simp only [hcal]
      rw [hrk, ← opK_b cx] at h1
      obtain ⟨p, h3, h4⟩ := bind_some h1
      injection h4 with h4; injection h4 with _ h4 _
      obtain ⟨p1, p2, p3⟩ := p
      simp only at h4; subst h4
      have ha : c.args.toList = [.tmp j, y] := by rw [hc] at hargs; exact hargs
      simp only [opK, hcal, ha, evK_eq] at h3
      have he : ∀ u, evalD cx.T slots u (.tmp j) = slots.getD j .any := fun u => by simp only [evalD]
      rcases hat : c.argTypes.toList with _ | ⟨t, _ | ⟨t2, _ | ⟨t3, rest⟩⟩⟩ <;> rw [hat] at h3
      . cases h3
      . cases h3
      . have h3 : appendK cx.T (i.dst.getD 0) t t2 (evalD cx.T slots t (.tmp j)) (evalD cx.T slots t2 y) m dead (fun d m dd => some (d, m, dd)) = some (p1, p2, p3) := h3
        rw [he] at h3
        exact append_mem hno h3
      . cases h3
theorem store_far {i : Oper} {t : TypeId} {j : Nat} {v : Operand} (hi : i.op = .store t (.tmp j) v) {slots : List D} {m : Mem} {dead : List Pos} {root : Nat} (hr : ∀ k q o, slots.getD j .any = .ptr k q o -> k = 0 /\ q = root) {d : D} {m' : Mem} {dd : List Pos}
    (h : ∀ (R' : Type) (K' : St -> Option R'), stepK cx ops i ⟨slots, m, dead⟩ K' = K' ⟨put slots i.dst d, m', dd⟩) : ∀ k s, ¬ (k = 0 /\ s = root) -> m'.box? k s = m.box? k s := by
  have h1 := h St some
  rw [stepK_eq] at h1
  cases hw : wants ops i slots with
  | none => rw [hw] at h1; cases h1
  | some b =>
    rw [hw] at h1
    cases b
    . simp only [actK, skipK_eq] at h1
      injection h1 with h2; injection h2 with _ h2 _; subst h2
      exact fun _ _ _ => rfl
    . simp only [actK] at h1
      rw [takeK_eq i (by simp [notC, hi, clsOf])] at h1
      have hrk : ∀ (R' : Type) (K' : Bool -> D -> Mem -> List Pos -> Option R'), runK cx i slots m dead K' = opK cx.T (i.dst.getD 0) i.type slots (.store t (.tmp j) v) m dead (K' false) := by
        intro R' K'; unfold runK; rw [hi]
      rw [hrk, ← opK_b cx] at h1
      obtain ⟨p, h3, h4⟩ := bind_some h1
      injection h4 with h4; injection h4 with _ h4 _
      obtain ⟨p1, p2, p3⟩ := p
      simp only at h4; subst h4
      simp only [opK, evK_eq] at h3
      have he : evalD cx.T slots 0 (.tmp j) = slots.getD j .any := by simp only [evalD]
      rw [he] at h3
      unfold storeK at h3
      split at h3
      . split at h3
        . rename_i k s o hd
          obtain ⟨rfl, rfl⟩ := hr k s o hd
          split at h3
          . rename_i bx hbx
            cases hc : (Nat.beq (cellsOf (evalD cx.T slots t v)).length _ && Nat.ble _ bx.cells.length) with
            | false => rw [hc] at h3; cases h3
            | true =>
              rw [hc, cond_true] at h3
              obtain ⟨cs, d2, h3⟩ := cellsK_out _ _ _ _ _ h3
              rw [setRK_eq, memPutK_eq] at h3
              injection h3 with h3
              injection h3 with _ h3
              injection h3 with h3 _
              subst h3
              intro k' s' hne
              rw [box_set, if_neg (fun e => hne ⟨e.1, e.2.1⟩)]
          . cases h3
        . cases h3
      . cases h3
theorem load_far {x : Oper} {t : TypeId} {i : Nat} (hx : x.op = .load t (.tmp i)) {slots : List D} {m m' : Mem} {rx root : Nat} (hr : ∀ k q o, slots.getD i .any = .ptr k q o -> k = 0 /\ q = rx) (hne : rx ≠ root)
    (hm : ∀ k s, ¬ (k = 0 /\ s = root) -> m'.box? k s = m.box? k s) : valS cx ops x slots m' = valS cx ops x slots m := by
  unfold valS
  have he : evalD cx.T slots 0 (.tmp i) = slots.getD i .any := by simp only [evalD]
  rw [valR_load hx, valR_load hx, he]
  have : loadK cx.T t (slots.getD i .any) m' some = loadK cx.T t (slots.getD i .any) m some := by
    unfold loadK
    split
    . split
      . rename_i k s o hd
        obtain ⟨rfl, rfl⟩ := hr k s o hd
        rw [hm 0 s (fun e => hne e.2)]
      . rfl
      . rfl
    . rfl
  rw [this]
theorem swapF (hB : PureB cx) {x i : Oper} (ha : Apart ops cx x i) (hd : cx.dyn = true) (hf : farM ops x.op i.op = true) {slots : List D} {m : Mem} {dead : List Pos} (hrx : RootOK cx ops x.op slots) (hri : RootOK cx ops i.op slots) {K : St -> Option R} {r : R}
    (h : stepK cx ops x ⟨slots, m, dead⟩ (fun s => stepK cx ops i s K) = some r) : stepK cx ops i ⟨slots, m, dead⟩ (fun s => stepK cx ops x s K) = some r := by
  have reads : ∀ {t : TypeId} {a : Nat}, x.op = .load t (.tmp a) -> notC cx i.op = true -> (∀ (d : D) (m' : Mem) (dd : List Pos), (∀ (R' : Type) (K' : St -> Option R'), stepK cx ops i ⟨slots, m, dead⟩ K' = K' ⟨put slots i.dst d, m', dd⟩) -> valS cx ops x slots m' = valS cx ops x slots m) ->
      stepK cx ops i ⟨slots, m, dead⟩ (fun s => stepK cx ops x s K) = some r := by
    intro t a e1 hci hv
    have h1 : isVal cx x.op = true := by rw [e1]; rfl
    rw [step_val hB h1] at h
    obtain ⟨d, h3, h4⟩ := bind_some h
    rw [step_put ha.ab hci] at h4
    obtain ⟨e, m', dd, h5, h6⟩ := step_fun hB hci h4
    rw [h6 R fun s => stepK cx ops x s K]
    rw [step_val hB h1, put_away ha.ba, hv e m' dd h6, h3, Option.bind_some]
    exact h5
  have stores : ∀ {t : TypeId} {a : Nat}, i.op = .load t (.tmp a) -> notC cx x.op = true -> (∀ (d : D) (m' : Mem) (dd : List Pos), (∀ (R' : Type) (K' : St -> Option R'), stepK cx ops x ⟨slots, m, dead⟩ K' = K' ⟨put slots x.dst d, m', dd⟩) -> valS cx ops i slots m' = valS cx ops i slots m) ->
      stepK cx ops i ⟨slots, m, dead⟩ (fun s => stepK cx ops x s K) = some r := by
    intro t a e2 hcx hv
    have h2 : isVal cx i.op = true := by rw [e2]; rfl
    obtain ⟨d, m', dd, h3, h4⟩ := step_fun hB hcx h
    rw [step_val hB h2, put_away ha.ab, hv d m' dd h4] at h3
    obtain ⟨e, h5, h6⟩ := bind_some h3
    rw [step_val hB h2, h5, Option.bind_some, step_put ha.ba hcx, h4]
    exact h6
  rcases far_cases hf with ⟨t, a, t', b, v, e1, e2, hne⟩ | ⟨t, a, t', b, v, e1, e2, hne⟩ | ⟨t, a, e1, e2⟩ | ⟨t, a, e1, e2⟩
  . -- x reads, i stores
    obtain ⟨j1, q1, r1⟩ := hrx.root hd _ (.inl ⟨t, e1⟩)
    obtain ⟨j2, q2, r2⟩ := hri.root hd _ (.inr ⟨t', v, e2⟩)
    injection q1 with q1; subst q1
    injection q2 with q2; subst q2
    exact reads e1 (by rw [e2]; rfl) fun d m' dd h6 => load_far e1 r1 hne (store_far e2 r2 h6)
  . -- x stores, i reads
    obtain ⟨j1, q1, r1⟩ := hrx.root hd _ (.inr ⟨t', v, e1⟩)
    obtain ⟨j2, q2, r2⟩ := hri.root hd _ (.inl ⟨t, e2⟩)
    injection q1 with q1; subst q1
    injection q2 with q2; subst q2
    exact stores e2 (by rw [e1]; rfl) fun d m' dd h4 => load_far e2 r2 hne (store_far e1 r1 h4)
  . -- x reads, i appends
    exact reads e1 (by unfold notC; rw [app_w cx e2]) fun d m' dd h6 => by rw [app_far e2 (hri.app hd e2) h6]
  . -- x appends, i reads
    exact stores e1 (by unfold notC; rw [app_w cx e2]) fun d m' dd h4 => by rw [app_far e2 (hrx.app hd e2) h4]
theorem root_same (cx : Cx) {x i : Oper} {slots : List D} {d : D} (hx : ∀ s, x.dst = some s -> Away ops s i) {j : Nat} (hj : .tmp j ∈ i.op.operands.toList) : (En.put slots x.dst d).getD j .any = slots.getD j .any := by
  have h1 : (evalD cx.T (En.put slots x.dst d) 0 (.tmp j)) = evalD cx.T slots 0 (.tmp j) := by
    cases hxd : x.dst with
    | none => rfl
    | some y => exact evalD_set slots y _ 0 _ ((hx y hxd).reads _ hj)
  simpa only [evalD] using h1
theorem app_operand {op : Op} {j : Nat} {y : Operand} (h : isApp op = true) (ha : argsOf op = [.tmp j, y]) : Operand.tmp j ∈ op.operands.toList := by
  obtain ⟨c, rfl, hc⟩ := app_of h
  have ha : c.args.toList = [.tmp j, y] := ha
  have hm : Operand.tmp j ∈ c.args := by rw [← Array.mem_toList_iff, ha]; simp
  show Operand.tmp j ∈ c.operands.toList
  unfold Call.operands
  rw [hc, Array.mem_toList_iff]
  exact Array.mem_append.2 (.inr hm)
theorem RootOK.put {x i : Oper} {slots : List D} (h : RootOK cx ops i.op slots) (hx : ∀ s, x.dst = some s -> Away ops s i) (d : D) : RootOK cx ops i.op (put slots x.dst d) := by
  refine ⟨fun hd z hz => ?_, fun hd ha => ?_⟩
  . obtain ⟨j, rfl, hj⟩ := h.root hd z hz
    refine ⟨j, rfl, fun k q o he => hj k q o ?_⟩
    rw [← he]
    refine (root_same cx hx ?_).symm
    rcases hz with ⟨t, e⟩ | ⟨t, v, e⟩ <;> rw [e] <;> simp [Op.operands]
  . obtain ⟨j, y, e, hj⟩ := h.app hd ha
    refine ⟨j, y, e, fun x' k s p e' he => hj x' k s p e' ?_⟩
    rw [← he]
    exact (root_same cx hx (app_operand ha e)).symm
theorem RootOK.unput {x i : Oper} {slots : List D} {d : D} (h : RootOK cx ops i.op (En.put slots x.dst d)) (hx : ∀ s, x.dst = some s -> Away ops s i) : RootOK cx ops i.op slots := by
  refine ⟨fun hd z hz => ?_, fun hd ha => ?_⟩
  . obtain ⟨j, rfl, hj⟩ := h.root hd z hz
    refine ⟨j, rfl, fun k q o he => hj k q o ?_⟩
    rw [← he]
    refine root_same cx hx ?_
    rcases hz with ⟨t, e⟩ | ⟨t, v, e⟩ <;> rw [e] <;> simp [Op.operands]
  . obtain ⟨j, y, e, hj⟩ := h.app hd ha
    refine ⟨j, y, e, fun x' k s p e' he => hj x' k s p e' ?_⟩
    rw [← he]
    exact root_same cx hx (app_operand ha e)
theorem apart_notC {x i : Oper} (ha : clash2 (clsOf cx x.op) (clsOf cx i.op) = false ∨ (cx.dyn = true /\ farM ops x.op i.op = true)) : notC cx x.op = true /\ notC cx i.op = true := by
  rcases ha with h | ⟨_, h⟩
  . obtain ⟨h1, h2, _⟩ := cls_cases h; exact ⟨h1, h2⟩
  . rcases far_cases h with ⟨t, a, t', b, v, e1, e2, _⟩ | ⟨t, a, t', b, v, e1, e2, _⟩ | ⟨t, a, e1, e2⟩ | ⟨t, a, e1, e2⟩
    . rw [e1, e2]; exact ⟨rfl, rfl⟩
    . rw [e1, e2]; exact ⟨rfl, rfl⟩
    . rw [e1]; exact ⟨rfl, by unfold notC; rw [app_w cx e2]⟩
    . rw [e1]; exact ⟨by unfold notC; rw [app_w cx e2], rfl⟩
theorem mv_op {x : Oper} (h : isMv x = true) : ∃ t, x.op = .move (.tmp t) /\ x.guard = none := by
  unfold isMv at h
  split at h
  . rename_i t e
    refine ⟨t, e, ?_⟩
    split at h
    . assumption
    . cases h
  . cases h
theorem apart_notC1 {x i : Oper} (ha : Apart ops cx x i) : notC cx x.op = true := by
  rcases ha.cls with h | h | ⟨h, _⟩
  . exact (apart_notC (ops := ops) (.inl h)).1
  . exact (apart_notC (.inr h)).1
  . obtain ⟨t, e, _⟩ := mv_op h
    rw [e]; rfl
theorem mv_step {x : Oper} {t : Nat} (e : x.op = .move (.tmp t)) (hg : x.guard = none) (slots : List D) (m : Mem) (dead : List Pos) (K : St -> Option R) :
    stepK cx ops x ⟨slots, m, dead⟩ K = K ⟨put slots x.dst (slots.getD t .any), m, dead⟩ := by
  unfold stepK
  rw [hg]
  simp only [takeK, runK, e, opK, evK, getK_eq, cond_false, putK_put]
theorem noG_step {i : Oper} (hg : noG i = true) (slots : List D) (m : Mem) (dead : List Pos) (K : St -> Option R) :
    stepK cx ops i ⟨slots, m, dead⟩ K = runK cx i slots m dead fun c d m' dead' => K ⟨put (cond c (slots.map dropD) slots) i.dst d, m', dead'⟩ := by
  have hg : i.guard = none := by
    unfold noG at hg
    split at hg
    . assumption
    . cases hg
  unfold stepK
  rw [hg]
  simp only [takeK]
  congr 1
  funext c d m' dead'
  cases c
  . simp only [cond_false, putK_put]
  . simp only [cond_true, dropK_eq, putK_put]
theorem dropD_slotD (s : Nat) (d : D) : dropD (slotD s d) = slotD s (dropD d) := by
  cases d with
  | v x a =>
    cases a with
    | no => rfl
    | nil e => rfl
    | own p e => cases p <;> rfl
  | _ => simp only [slotD, dropD]; (first | rfl | (split <;> rfl) | (cases D.noOwn _ <;> rfl))
theorem swapM {x i : Oper} (ha : Apart ops cx x i) (hm : isMv x = true) (hi : noG i = true) (slots : List D) (m : Mem) (dead : List Pos) (K : St -> Option R) :
    stepK cx ops x ⟨slots, m, dead⟩ (fun s => stepK cx ops i s K) = stepK cx ops i ⟨slots, m, dead⟩ (fun s => stepK cx ops x s K) := by
  obtain ⟨t, e, hg⟩ := mv_op hm
  rw [mv_step e hg, noG_step hi, noG_step hi]
  have hrun : ∀ F : Bool -> D -> Mem -> List Pos -> Option R, runK cx i (put slots x.dst (slots.getD t .any)) m dead F = runK cx i slots m dead F := by
    intro F
    cases hx : x.dst with
    | none => rfl
    | some s => exact runK_set cx i slots s _ m dead F (ha.ab s hx).reads
  rw [hrun]
  congr 1
  funext c d m' dead'
  rw [mv_step e hg]
  congr 2
  have hnd : ∀ s, i.dst = some s -> s ≠ t := fun s hs h => by
    have := (ha.ba s hs).reads (.tmp t) (by rw [e]; simp [Op.operands])
    subst h
    exact this rfl
  have hget : ∀ Y : List D, (put Y i.dst d).getD t .any = Y.getD t .any := by
    intro Y
    cases hd : i.dst with
    | none => rfl
    | some s =>
      simp only [put, List.getD_eq_getElem?_getD]
      rw [List.getElem?_set_ne (hnd s hd)]
  rw [hget]
  have hdr : ∀ n : Nat, (slots.map dropD).getD n .any = dropD (slots.getD n .any) := by
    intro n
    simp only [List.getD_eq_getElem?_getD, List.getElem?_map]
    cases slots[n]? <;> rfl
  cases hx : x.dst with
  | none => rfl
  | some s =>
    have hs : i.dst ≠ some s := (ha.ab s hx).dst
    cases c
    . simp only [cond_false]
      exact put_set _ _ _ _ _ hs
    . simp only [cond_true, hdr]
      show put ((slots.set s (slotD s (slots.getD t .any))).map dropD) i.dst d = _
      rw [List.map_set, dropD_slotD]
      exact put_set _ _ _ _ _ hs
theorem root_ahead (hB : PureB cx) {i : Oper} {K : St -> Option R} {r : R} (B : List Oper) : ∀ (A : List Oper) (slots : List D) (m : Mem) (dead : List Pos), (∀ x ∈ A, Apart ops cx x i) -> opsK cx ops (A ++ i :: B) ⟨slots, m, dead⟩ K = some r -> RootOK cx ops i.op slots
  | [], slots, m, dead, _, h => (rootK_some h).1
  | x :: A, slots, m, dead, hA, h => by
    simp only [List.cons_append, opsK] at h
    obtain ⟨_, h⟩ := rootK_some h
    have hax := hA x (by simp)
    obtain ⟨d, m', dd, h1, _⟩ := step_fun hB (apart_notC1 hax) h
    exact (root_ahead hB B A _ _ _ (fun y hy => hA y (by simp [hy])) h1).unput hax.ab
theorem bubble (hB : PureB cx) {i : Oper} {K : St -> Option R} {r : R} (B : List Oper) : ∀ (A : List Oper) (slots : List D) (m : Mem) (dead : List Pos), (∀ x ∈ A, Apart ops cx x i) -> Good cx i slots m ->
    opsK cx ops (A ++ i :: B) ⟨slots, m, dead⟩ K = some r -> stepK cx ops i ⟨slots, m, dead⟩ (fun s => opsK cx ops (A ++ B) s K) = some r
  | [], slots, m, dead, _, _, h => (rootK_some h).2
  | x :: A, slots, m, dead, hA, hg, h => by
    have hri := root_ahead hB B (x :: A) slots m dead hA h
    simp only [List.cons_append, opsK] at h ⊢
    obtain ⟨hrx, h⟩ := rootK_some h
    have hax := hA x (by simp)
    by_cases hmv : isMv x = true /\ noG i = true
    . obtain ⟨t, e, hgx⟩ := mv_op hmv.1
      rw [mv_step e hgx] at h
      have h3 := bubble hB B A _ _ _ (fun y hy => hA y (by simp [hy])) (by
        intro t3 z3 hz3 k s o he
        refine hg t3 _ hz3 k s o ?_
        rw [← he]
        cases hxd : x.dst with
        | none => rfl
        | some y => exact (evalD_set slots y _ 0 _ ((hax.ab y hxd).reads _ (by rw [hz3]; simp [Op.operands]))).symm) h
      have h4 : stepK cx ops x ⟨slots, m, dead⟩ (fun s => stepK cx ops i s fun s' => opsK cx ops (A ++ B) s' K) = some r := by
        rw [mv_step e hgx]; exact h3
      rw [swapM hax hmv.1 hmv.2] at h4
      rw [← h4]
      congr 1
      funext s
      obtain ⟨sl, mm, dd⟩ := s
      show rootK cx ops x.op sl _ = _
      rw [e, rootK_of (by
        refine ⟨fun hd z hz => ?_, fun hd ha => ?_⟩
        . rcases hz with ⟨t', e'⟩ | ⟨t', v, e'⟩ <;> cases e'
        . cases ha)]
    have hcl : clash2 (clsOf cx x.op) (clsOf cx i.op) = false ∨ (cx.dyn = true /\ farM ops x.op i.op = true) := by
      rcases hax.cls with h | h | h
      . exact .inl h
      . exact .inr h
      . exact absurd h hmv
    obtain ⟨hcx, hci⟩ := apart_notC hcl
    obtain ⟨d, m', dd, h1, h2⟩ := step_fun hB hcx h
    have hgood : Good cx i (put slots x.dst d) m' := by
      by_cases hl : ∃ t z, i.op = .load t z
      . obtain ⟨t, z, hz⟩ := hl
        rcases hcl with hcl2 | ⟨hdy, hfar⟩
        . refine hg.put hax.ab (step_grown hB ?_ h2) d
          have : clsOf cx i.op = .r := by rw [hz]; rfl
          rw [this] at hcl2
          unfold isVal isA
          cases hc : clsOf cx x.op <;> rw [hc] at hcl2 <;> simp [clash2] at hcl2 ⊢
        . rcases far_cases hfar with ⟨t1, a, t', b, v, e1, e2, hne⟩ | ⟨t1, a, t', b, v, e1, e2, hne⟩ | ⟨t1, a, e1, e2⟩ | ⟨t1, a, e1, e2⟩
          . rw [hz] at e2; cases e2
          rotate_left
          . rw [app_load hz] at e2; cases e2
          . intro t3 z3 hz3 k s o he
            rw [app_far e2 (hrx.app hdy e2) h2]
            refine hg t3 _ hz3 k s o ?_
            rw [← he]
            cases hxd : x.dst with
            | none => rfl
            | some y => exact (evalD_set slots y _ 0 _ ((hax.ab y hxd).reads _ (by rw [hz3]; simp [Op.operands]))).symm
          . obtain ⟨j1, q1, r1⟩ := hrx.root hdy _ (.inr ⟨t', v, e1⟩)
            injection q1 with q1; subst q1
            intro t3 z3 hz3 k s o he
            rw [hz3] at e2; injection e2 with _ e2; subst e2
            have hri2 := (hri.put hax.ab d)
            obtain ⟨j2, q2, r2⟩ := hri2.root hdy _ (.inl ⟨t3, hz3⟩)
            injection q2 with q2; subst q2
            obtain ⟨rfl, rfl⟩ := r2 k s o (by simpa only [evalD] using he)
            rw [store_far e1 r1 h2 _ _ (fun e => hne e.2)]
            refine hg t3 _ hz3 0 _ o ?_
            rw [← he]
            cases hxd : x.dst with
            | none => rfl
            | some y => exact (evalD_set slots y _ 0 _ ((hax.ab y hxd).reads _ (by rw [hz3]; simp [Op.operands]))).symm
      . intro t z hz
        exact absurd ⟨t, z, hz⟩ hl
    have h3 := bubble hB B A _ _ _ (fun y hy => hA y (by simp [hy])) hgood h1
    have h4 : stepK cx ops i ⟨slots, m, dead⟩ (fun s => stepK cx ops x s fun s' => opsK cx ops (A ++ B) s' K) = some r := by
      rcases hcl with hcl2 | ⟨hdy, hfar⟩
      . exact swap1 hB hax hcl2 hg (by rw [h2]; exact h3)
      . exact swapF hB hax hdy hfar hrx hri (by rw [h2]; exact h3)
    obtain ⟨e, m2, d2, h5, h6⟩ := step_fun hB hci h4
    rw [h6]
    show rootK cx ops x.op (put slots i.dst e) _ = some r
    rw [rootK_of (hrx.put hax.ba e)]
    exact h5
def todo (listed : Array Bool) : Nat -> List Oper -> List Oper
  | _, [] => []
  | k, o :: r => cond (listed.getD k false) (todo listed (k + 1) r) (o :: todo listed (k + 1) r)
theorem todo_split {listed : Array Bool} : ∀ (l : List Oper) (k i : Nat) (o : Oper), l[i]? = some o -> listed.getD (k + i) true = false ->
    ∃ A B, todo listed k l = A ++ o :: B /\ todo (listed.setIfInBounds (k + i) true) k l = A ++ B /\ ∀ x ∈ A, ∃ j, j < i /\ l[j]? = some x /\ listed.getD (k + j) false = false
  | [], k, i, o, h, _ => by simp at h
  | x :: r, k, 0, o, h, hn => by
    simp at h; subst h
    have hlt : k < listed.size := by
      rcases Nat.lt_or_ge k listed.size with h' | h'
      . exact h'
      . simp [Array.getD_eq_getD_getElem?, Array.getElem?_eq_none h'] at hn
    have hn' : listed.getD k false = false := by
      simp only [Nat.add_zero] at hn
      rw [Array.getD_eq_getD_getElem?, Array.getElem?_eq_getElem hlt] at hn ⊢; exact hn
    refine ⟨[], todo listed (k + 1) r, ?_, ?_, fun x hx => by cases hx⟩
    . simp [todo, hn']
    . have h1 : (listed.setIfInBounds (k + 0) true).getD k false = true := by simp [Array.getD_eq_getD_getElem?, hlt]
      have h2 : ∀ (l : List Oper) (k' : Nat), k < k' -> todo (listed.setIfInBounds (k + 0) true) k' l = todo listed k' l := by
        intro l
        induction l with
        | nil => intro k' _; rfl
        | cons y l ih =>
          intro k' hk
          unfold todo
          rw [getD_set_ne false (by omega), ih (k' + 1) (by omega)]
      have h3 : todo (listed.setIfInBounds (k + 0) true) k (x :: r) = cond ((listed.setIfInBounds (k + 0) true).getD k false) (todo (listed.setIfInBounds (k + 0) true) (k + 1) r) (x :: todo (listed.setIfInBounds (k + 0) true) (k + 1) r) := rfl
      rw [h3, h1, cond_true, h2 r (k + 1) (by omega)]
      rfl
  | x :: r, k, i + 1, o, h, hn => by
    obtain ⟨A, B, h1, h2, h3⟩ := todo_split (listed := listed) r (k + 1) i o (by simpa using h) (by rw [show k + 1 + i = k + (i + 1) by omega]; exact hn)
    rw [show k + 1 + i = k + (i + 1) by omega] at h2
    have hs : (listed.setIfInBounds (k + (i + 1)) true).getD k false = listed.getD k false := getD_set_ne false (by omega)
    unfold todo
    rw [hs]
    cases hx : listed.getD k false with
    | true =>
      refine ⟨A, B, by rw [cond_true]; exact h1, by rw [cond_true]; exact h2, fun y hy => ?_⟩
      obtain ⟨j, a1, a2, a3⟩ := h3 y hy
      exact ⟨j + 1, by omega, by simpa using a2, by rw [show k + (j + 1) = k + 1 + j by omega]; exact a3⟩
    | false =>
      refine ⟨x :: A, B, by rw [cond_false, h1]; rfl, by rw [cond_false, h2]; rfl, fun y hy => ?_⟩
      rcases List.mem_cons.1 hy with rfl | hy
      . exact ⟨0, by omega, by simp, hx⟩
      . obtain ⟨j, a1, a2, a3⟩ := h3 y hy
        exact ⟨j + 1, by omega, by simpa using a2, by rw [show k + (j + 1) = k + 1 + j by omega]; exact a3⟩
theorem todo_all {listed : Array Bool} : ∀ (l : List Oper) (k : Nat), (∀ i, i < l.length -> listed.getD (k + i) false = true) -> todo listed k l = []
  | [], _, _ => rfl
  | x :: r, k, h => by
    unfold todo
    rw [show listed.getD k false = true from h 0 (by simp), cond_true]
    exact todo_all r (k + 1) fun i hi => by rw [show k + 1 + i = k + (i + 1) by omega]; exact h (i + 1) (by simp; omega)
theorem todo_none {listed : Array Bool} : ∀ (l : List Oper) (k : Nat), (∀ i, i < l.length -> listed.getD (k + i) false = false) -> todo listed k l = l
  | [], _, _ => rfl
  | x :: r, k, h => by
    unfold todo
    rw [show listed.getD k false = false from h 0 (by simp), cond_false, todo_none r (k + 1) fun i hi => by rw [show k + 1 + i = k + (i + 1) by omega]; exact h (i + 1) (by simp; omega)]
def done (listed : Array Bool) : Nat := listed.toList.countP (· = true)
theorem done_set {listed : Array Bool} {i : Nat} (hi : i < listed.size) (h : listed.getD i true = false) : done (listed.setIfInBounds i true) = done listed + 1 := by
  have hf : listed[i] = false := by rw [Array.getD_eq_getD_getElem?, Array.getElem?_eq_getElem hi] at h; simpa using h
  unfold done
  rw [Array.toList_setIfInBounds]
  have hl : listed.toList = listed.toList.take i ++ listed.toList[i]'(by simpa using hi) :: listed.toList.drop (i + 1) := by
    conv => lhs; rw [← List.take_append_drop i listed.toList, List.drop_eq_getElem_cons (by simpa using hi)]
  rw [List.set_eq_take_append_cons_drop, if_pos (by simpa using hi)]
  conv => rhs; rw [hl]
  simp [List.countP_append, hf]
  omega
theorem done_le (listed : Array Bool) : done listed <= listed.size := by
  unfold done; rw [← Array.length_toList]; exact List.countP_le_length
end
section
variable {R : Type} {P : Program} {E : Env} {g : G} {w : World} {cx : Cx} {ops : Array Oper}
theorem Sim.good {i : Oper} {slots : List D} {m : Mem} {dead : List Pos} {a : Act} (hs : Sim cx.T E g w ⟨slots, m, dead⟩ a) : Good cx i slots m := by
  intro t z _ k s o he
  have h := hs.slots.ev (T := cx.T) 0 z
  rw [he] at h
  generalize a.eval z = v at h
  cases h with
  | ptr k s o hk hd =>
    rw [hs.here.dom] at hd
    exact hd
theorem Sim.drew {st : St} {a : Act} (hs : Sim cx.T E g w st a) : ∃ g', Sim cx.T E g' w.drew st a /\ Tr E.d g w g' w.drew :=
  ⟨g.at_ w.heap.size .imm, ⟨here_grow (Grows.drew w) (Nat.le_refl _) _ hs.here, fun s x hx => (hs.slots s x hx).keep (keeps_grow (Grows.drew w) (Nat.le_refl _) _), hs.size, hs.defers⟩, tr_grow (Grows.drew w) (Nat.le_refl _) _ _⟩
theorem any_sound (hcx : CxOK P cx) {acc : List Nat} (ho : Ordered ops cx ops.toList acc) {n : Nat} {K : St -> Option R} {r : R} {Q : Exit -> Act -> World -> Prop} :
    ∀ (fuel : Nat) (listed : Array Bool) (st : St) (a : Act) (w : World) (E : Env) (g : G), fuel + done listed = ops.size -> listed.size = ops.size ->
      (∀ (i : Nat) o, ops.toList[i]? = some o -> listed.getD i false = true -> ∀ e ∈ o.after, Region.binds .any e = true -> listed.getD e.on false = true) ->
      Sim cx.T E g w st a -> a.tmps.size = n -> opsK cx ops (todo listed 0 ops.toList) st K = some r ->
      (∀ st' a' w', K st' = some r -> Then cx.T E g w n st' a' w' -> Q .normal a' w') -> wpAny P .any ops Q fuel listed a w := by
  have hdone : ∀ (listed : Array Bool), listed.size = ops.size -> Region.ready .any ops listed = [] -> ∀ j, j < ops.size -> listed.getD j false = true := by
    intro listed hsz hr j
    induction j using Nat.strongRecOn with
    | _ j ih =>
      intro hj
      have hoj : ops[j]? = some ops[j] := Array.getElem?_eq_getElem hj
      have hjl : j < listed.size := by rw [hsz]; exact hj
      cases hl : listed.getD j false with
      | true => rfl
      | false =>
        have : j ∈ Region.ready .any ops listed := mem_ready.2 ⟨by
          rw [Array.getD_eq_getD_getElem?, Array.getElem?_eq_getElem hjl] at hl ⊢; exact hl, _, hoj, fun e he hb => by
          have hlt := ho.back j _ (by simp) e he hb
          exact ih e.on hlt (by omega)⟩
        rw [hr] at this; cases this
  have hfin : ∀ (listed : Array Bool) (st : St) (a : Act) (w : World) (E : Env) (g : G), (∀ j, j < ops.size -> listed.getD j false = true) -> Sim cx.T E g w st a -> a.tmps.size = n -> opsK cx ops (todo listed 0 ops.toList) st K = some r ->
      (∀ st' a' w', K st' = some r -> Then cx.T E g w n st' a' w' -> Q .normal a' w') -> Q .normal a w := by
    intro listed st a w E g hall hs hn h hq
    rw [todo_all ops.toList 0 (fun i hi => by rw [Nat.zero_add]; exact hall i (by rw [← Array.length_toList]; exact hi))] at h
    exact hq st a w h ⟨E, g, hs, rfl, Tr.refl _ _ _, hn⟩
  intro fuel
  induction fuel with
  | zero =>
    intro listed st a w E g hm hsz hcl hs hn h hq
    have hall : ∀ j, j < ops.size -> listed.getD j false = true := by
      intro j hj
      have hjl : j < listed.size := by rw [hsz]; exact hj
      cases hl : listed.getD j false with
      | true => rfl
      | false =>
        have h1 := done_set (listed := listed) hjl (by rw [Array.getD_eq_getD_getElem?, Array.getElem?_eq_getElem hjl] at hl ⊢; exact hl)
        have h2 := done_le (listed.setIfInBounds j true)
        rw [Array.size_setIfInBounds, hsz] at h2
        omega
    refine ⟨?_, hfin listed st a w E g hall hs hn h hq⟩
    rcases hr : Region.ready .any ops listed with _ | ⟨j, l⟩
    . rfl
    . have hj : j ∈ Region.ready .any ops listed := by rw [hr]; exact List.mem_cons_self
      obtain ⟨hun, o, hoj, _⟩ := mem_ready.1 hj
      have hjs : j < ops.size := (Array.getElem?_eq_some_iff.1 hoj).1
      have h1 := hall j hjs
      have hjl : j < listed.size := by rw [hsz]; exact hjs
      rw [Array.getD_eq_getD_getElem?, Array.getElem?_eq_getElem hjl] at hun h1
      simp only [Option.getD_some] at hun h1
      rw [hun] at h1; cases h1
  | succ fuel ih =>
    intro listed st a w E g hm hsz hcl hs hn h hq
    refine ⟨fun hr => hfin listed st a w E g (hdone listed hsz hr) hs hn h hq, fun i hi => ?_⟩
    obtain ⟨hun, o, hoi, hrd⟩ := mem_ready.1 hi
    have his : i < ops.size := (Array.getElem?_eq_some_iff.1 hoi).1
    have hol : ops.toList[i]? = some o := by simpa using hoi
    obtain ⟨A, B, h1, h2, h3⟩ := todo_split (listed := listed) ops.toList 0 i o hol (by rw [Nat.zero_add]; exact hun)
    rw [Nat.zero_add] at h2
    rw [h1] at h
    obtain ⟨slots, m, dead⟩ := st
    have hap : ∀ x ∈ A, Apart ops cx x o := by
      intro x hx
      obtain ⟨j, b1, b2, b3⟩ := h3 x hx
      rw [Nat.zero_add] at b3
      rcases ho.pair i j o x hol b2 b1 with hb | hb
      . have := ho.ahead (fun k => listed.getD k false = true) (fun k y hy hk e he hbd => hcl k y hy hk e he hbd) i o hol (fun e he hbd => hrd e he hbd) j hb
        rw [b3] at this; cases this
      . exact hb
    have h4 := bubble hcx.B B A slots m dead hap hs.good h
    rw [← h2] at h4
    have hnext : ∀ (st' : St) (a' : Act) (w' : World) (E' : Env) (g' : G), opsK cx ops (todo (listed.setIfInBounds i true) 0 ops.toList) st' K = some r -> Sim cx.T E' g' w' st' a' -> E'.d = E.d -> Tr E.d g w g' w' -> a'.tmps.size = n -> wpAny P .any ops Q fuel (listed.setIfInBounds i true) a' w' := by
      intro st' a' w' E' g' c1 c2 c3 c4 c5
      refine ih _ st' a' w' E' g' (by rw [done_set (by rw [hsz]; exact his) hun]; omega) (by simpa using hsz) (fun k y hy hk e he hbd => ?_) c2 c5 c1 fun st2 a2 w2 d1 d2 => hq st2 a2 w2 d1 (d2.trans c3 c4)
      have hset : ∀ k, (listed.setIfInBounds i true).getD k false = true ↔ k = i ∨ listed.getD k false = true := by
        intro k
        by_cases hki : k = i
        . subst hki; simp [Array.getD_eq_getD_getElem?, hsz, his]
        . rw [getD_set_ne false (Ne.symm hki)]; simp [hki]
      rcases (hset k).1 hk with rfl | hk
      . rw [hol] at hy; injection hy with hy; subst hy
        exact (hset _).2 (.inr (hrd e he hbd))
      . exact (hset _).2 (.inr (hcl k y hy hk e he hbd))
    unfold Go.wpOp
    simp only [hoi]
    rcases step_sound hcx hs h4 with ⟨hw, st', c1, c2⟩ | ⟨hw, st', c1, c2⟩
    . rw [if_pos hw]
      refine .inl ((c2 (fun v w' => ∃ E' g', Sim cx.T E' g' w' st' (a.put o.dst v) /\ E'.d = E.d /\ Tr E.d g w g' w') (fun v w' g' E' b1 b2 b3 => ⟨E', g', b1, b2, b3⟩)).2 _ Q ?_)
      rintro v w' ⟨E', g', b1, b2, b3⟩
      exact hnext st' _ w' E' g' c1 b1 b2 b3 (by rw [actput_size]; exact hn)
    . rw [hw]
      simp only [Bool.false_eq_true, if_false]
      exact hnext st' _ w E g c1 c2 rfl (Tr.refl _ _ _) (by rw [actput_size]; exact hn)
theorem region_ok (hm : P.follows .mixedOrders = true) (hcx : CxOK P cx) (h : orderB cx ops = true) : RegionOK P cx ops := by
  intro R n id st a w E g K r Q hs hn hk hq
  obtain ⟨acc, ho⟩ := ordered_of h
  obtain ⟨g1, h1, h2⟩ := hs.drew
  have hf : ∀ i, (Array.replicate ops.size false).getD i false = false := by
    intro i
    rw [Array.getD_eq_getD_getElem?]
    rcases Nat.lt_or_ge i ops.size with hi | hi
    . rw [Array.getElem?_replicate, if_pos hi]; rfl
    . rw [Array.getElem?_replicate, if_neg (by omega)]; rfl
  refine wp_region_any hm (any_sound hcx ho (n := n) (K := K) (r := r) ops.size _ st a w.drew E g1 ?_ (by simp) (fun i o _ hi => ?_) h1 hn ?_ fun st' a' w' c1 c2 => hq st' a' w' c1 (c2.trans rfl h2))
  . simp [done, List.countP_replicate]
  . rw [hf] at hi; cases hi
  . rw [todo_none ops.toList 0 (fun i hi => hf _)]; exact hk
end
end Go.Proofs.Ytilfphdeacogmaa.En

/- The engine, part 2a: bodies of functions; functions that touch nothing of what was there. -/
namespace Go.Proofs.Ytilfphdeacogmaa.En
open Go
set_option linter.unusedVariables false
section
variable {R : Type} {P : Program} {E : Env} {g : G} {w : World} {cx : Cx}
theorem bare0 {dead dead' : List Pos} {x : D} {v : Value} (h : RepD E g w dead x v) : RepD E g w dead' x.bare v := by
  induction h with
  | v x a v h ha => exact .v _ _ _ h trivial
  | ptr k s o h1 h2 => exact .ptr k s o h1 h2
  | nilp => exact .nilp
  | eptr cs o b off us h hr => exact .eptr cs o b off us h hr
  | clos f caps us hn' hr ih =>
    refine .clos f _ us (by rw [bares_length]; exact hn') fun k y hy => ?_
    obtain ⟨z, hz, rfl⟩ := bares_get _ k y hy
    exact ih k z hz
  | nilF => exact .nilF
  | bld => exact .bld
  | agg ds us hn' hr ih =>
    refine .agg _ us (by rw [bares_length]; exact hn') fun k y hy => ?_
    obtain ⟨z, hz, rfl⟩ := bares_get _ k y hy
    exact ih k z hz
  | tup ds us hn' hr ih =>
    refine .tup _ us (by rw [bares_length]; exact hn') fun k y hy => ?_
    obtain ⟨z, hz, rfl⟩ := bares_get _ k y hy
    exact ih k z hz
  | any v => exact .any v
theorem blankK_eq : ∀ (n : Nat) (K : List D -> Option R), blankK n K = K (List.replicate n .any)
  | 0, K => rfl
  | n + 1, K => by simp only [blankK, blankK_eq n, List.replicate_succ]
theorem padK_eq : ∀ (ds : List D) (n : Nat) (K : List D -> Option R), padK n ds K = K (ds ++ List.replicate (n - ds.length) .any)
  | [], n, K => by simp only [padK, blankK_eq]; rfl
  | d :: ds, n, K => by
    simp only [padK, padK_eq ds, List.cons_append, List.length_cons]
    rw [show n - 1 - ds.length = n - (ds.length + 1) by omega]
def resOf (tmps : Array Value) : ResultVar -> Sem Value
  | .tmp t => pure (tmps.getD t undef)
  | .cell a t => do loadVar t (← asAddr (tmps.getD a undef))
theorem results_eq (fn : Func) (tmps : Array Value) : results fn tmps = (do
    let vs ← fn.results.mapM (resOf tmps)
    pure (if h : vs.size = 1 then vs[0] else .tuple vs)) := rfl
theorem retV_eq (us : List Value) : (if h : us.toArray.size = 1 then us.toArray[0] else .tuple us.toArray) = retV us := by
  match us with
  | [] => rfl
  | [u] => rfl
  | u :: u' :: us => simp [retV]
theorem loadAt_ptr {t : TypeId} {u v : Value} {w' : World} (h : (Instr.loadAt t u).run P w = .ok v w') : (do loadVar t (← asAddr u)).run P w = .ok v w' := by
  unfold Instr.loadAt at h
  rw [Sem.run_bind] at h ⊢
  cases u with
  | pointer x =>
    cases x with
    | some a => exact h
    | none => simp [Instr.sureAddr] at h
  | _ => simp [Instr.sureAddr] at h
theorem retK_sound (hT : TypesOK P cx.T) {st : St} {a : Act} (hs : Sim cx.T E g w st a) (x : ResultVar) {K : D -> Option R} {r : R} (h : retK cx x st K = some r) :
    ∃ d u, K d = some r /\ (resOf a.tmps x).run P w = .ok u w /\ RepD E g w [] d u := by
  cases x with
  | tmp t =>
    simp only [retK, getK_eq, forceD_eq] at h
    refine ⟨_, _, h, rfl, ?_⟩
    have := hs.slots.ev (T := cx.T) 0 (.tmp t)
    exact bare0 this
  | cell p ty =>
    simp only [retK, getK_eq] at h
    rw [← loadK_b] at h
    obtain ⟨d, h1, h2⟩ := bind_some h
    rw [forceD_eq] at h2
    have hp := hs.slots.ev (T := cx.T) 0 (.tmp p)
    obtain ⟨v, h3, h4⟩ := loadK_sound (P := P) hT ty _ _ hp hs.here.mem d h1
    refine ⟨_, v, h2, ?_, bare0 h4⟩
    exact loadAt_ptr h3
theorem retsK_sound (hT : TypesOK P cx.T) {st : St} {a : Act} (hs : Sim cx.T E g w st a) : ∀ (l : List ResultVar) (K : List D -> Option R) (r : R), retsK cx l st K = some r ->
    ∃ rs us, K rs = some r /\ (l.mapM (resOf a.tmps)).run P w = .ok us w /\ RepDs E g w [] rs us
  | [], K, r, h => ⟨[], [], h, by simp, rfl, fun k y hk => by simp at hk⟩
  | x :: l, K, r, h => by
    simp only [retsK] at h
    obtain ⟨d, u, h1, h2, h3⟩ := retK_sound hT hs x h
    obtain ⟨rs, us, h4, h5, h6, h7⟩ := retsK_sound hT hs l _ r h1
    refine ⟨d :: rs, u :: us, h4, ?_, by simp [h6], fun k y hk => ?_⟩
    . rw [List.mapM_cons]
      simp only [Sem.run_bind, h2, Result.andThen_ok, h5, Sem.run_pure]
    . rcases k with _ | k
      . simp at hk; subst hk; simpa using h3
      . simpa using h7 k y (by simpa using hk)
theorem results_run (hT : TypesOK P cx.T) {st : St} {a : Act} (hs : Sim cx.T E g w st a) (fn : Func) {K : List D -> Option R} {r : R} (h : retsK cx fn.results.toList st K = some r) :
    ∃ rs us, K rs = some r /\ (results fn a.tmps).run P w = .ok (retV us) w /\ RepDs E g w [] rs us := by
  obtain ⟨rs, us, h1, h2, h3⟩ := retsK_sound hT hs _ K r h
  refine ⟨rs, us, h1, ?_, h3⟩
  rw [results_eq, Array.mapM_eq_mapM_toList]
  simp only [Sem.run_bind, map_eq_pure_bind, h2, Result.andThen_ok, Sem.run_pure]
  exact congrArg (fun v => Result.ok v w) (retV_eq us)
theorem body_sound (hcx : CxOK P cx) {f : FuncId} {fn : Func} {c : Code} (hf : P.funcs[f]? = some fn) (hb : fn.body = some c) (hro : RegionsOK P cx c) (hl : LoopsOK cx fn.ntmps c)
    {ds : List D} {us : List Value} (hargs : ds.length <= fn.ntmps) {m : Mem} (hh : Here cx.T E g w ([] :: m)) (hr : RepDs E g w [] ds us) {K : List D -> Mem -> Option R} {r : R} (h : bodyK cx fn ds m K = some r)
    {post : Ending -> World -> Prop} (hq : ∀ rs us' m' E' g' w', K rs m' = some r -> Here cx.T E' g' w' m' -> RepDs E' g' w' [] rs us' -> E'.d = E.d -> Tr E.d g w g' w' -> post (.returned (retV us')) w') :
    Calls P f us.toArray w post := by
  refine calls_of_wp hf hb ?_
  unfold bodyK at h
  rw [hb] at h
  simp only [padK_eq] at h
  have hsim : Sim cx.T E g w ⟨ds ++ List.replicate (fn.ntmps - ds.length) .any, [] :: m, []⟩ { tmps := us.toArray ++ Array.replicate (fn.ntmps - us.toArray.size) undef, defers := [] } := by
    refine ⟨hh, fun s x hx => ?_, by simp [hr.1], rfl⟩
    rcases Nat.lt_or_ge s ds.length with hlt | hge
    . rw [List.getElem?_append_left hlt] at hx
      have := hr.2 s x hx
      have e : (us.toArray ++ Array.replicate (fn.ntmps - us.toArray.size) undef).getD s undef = us.getD s undef := by
        rw [Array.getD_eq_getD_getElem?, Array.getElem?_append_left (by simp [hr.1]; exact hlt), List.getD_eq_getElem?_getD]; simp
      rw [e]; exact this
    . rw [List.getElem?_append_right hge, List.getElem?_replicate] at hx
      split at hx
      . injection hx with hx; subst hx; exact .any _
      . cases hx
  refine (code_ok hcx c hro).1 _ fn.ntmps _ _ w E g _ r _ hl hsim (by simp [hr.1]; omega) h fun e st' a' w' hk ht => ?_
  obtain ⟨E', g', b1, b2, b3, b4⟩ := ht
  have fin : (retsK cx fn.results.toList st' fun rs => K rs st'.mem) = some r -> ∃ v, (results fn a'.tmps).run P w' = .ok v w' /\ post (.returned v) w' := by
    intro hk
    obtain ⟨rs, us', c1, c2, c3⟩ := results_run hcx.T b1 fn hk
    exact ⟨_, c2, hq rs us' st'.mem E' g' w' c1 b1.here c3 b2 b3⟩
  cases e with
  | normal => exact ⟨b1.defers, fin hk⟩
  | ret => exact ⟨b1.defers, fin hk⟩
  | exit i => cases hk
  | goto l => cases hk
def Perm.hid : Perm -> Perm
  | .imm => .imm
  | .low n => .low n
  | .own _ n => .low n
  | .box _ _ => .low 0
def G.hide (g : G) : G := { g with Γ := fun b => (g.Γ b).hid }
def G.settle (g : G) (n : Nat) (g' : G) : G := { g with Γ := fun b => if b < n then g.Γ b else (g'.Γ b).hid }
theorem hid_still (p : Perm) : p.hid.still = true := by cases p <;> rfl
theorem hid_perm (p : Perm) : p.hid = .imm ∨ ∃ n, p.hid = .low n := by cases p <;> simp [Perm.hid]
theorem stable_hide (g : G) (b o : Nat) : Stable g.hide b o ↔ Stable g b o := by
  unfold Stable G.hide
  simp only
  cases g.Γ b <;> simp [Perm.hid]
theorem stable_settle {g g' : G} {n b o : Nat} (h : Stable g' b o) (hold : b < n -> g'.Γ b = g.hide.Γ b) : Stable (g.settle n g') b o := by
  unfold Stable G.settle
  simp only
  by_cases hb : b < n
  . rw [if_pos hb]
    have : Stable g.hide b o := by unfold Stable at h ⊢; rw [hold hb] at h; exact h
    exact (stable_hide g b o).1 this
  . rw [if_neg hb]
    have := (stable_hide g' b o).2 h
    exact this
mutual
def D.far : D -> Bool
  | .ptr _ _ _ => false
  | .clos _ caps => fars caps
  | .agg ds => fars ds
  | .tup ds => fars ds
  | _ => true
def fars : List D -> Bool
  | [] => true
  | d :: ds => d.far && fars ds
end
theorem fars_get : ∀ (ds : List D), fars ds = true -> ∀ (i : Nat) y, ds[i]? = some y -> y.far = true
  | [], _, i, y, h => by simp at h
  | d :: ds, h, 0, y, hy => by simp only [fars, Bool.and_eq_true] at h; simp at hy; subst hy; exact h.1
  | d :: ds, h, i + 1, y, hy => by simp only [fars, Bool.and_eq_true] at h; exact fars_get ds h.2 i y (by simpa using hy)
theorem RepD.far_ {E' : Env} {g' : G} {w' : World} {dead dead' : List Pos} (hl : Later g w g' w') {x : D} {v : Value} (h : RepD E g w dead x v) : x.far = true -> RepD E' g' w' dead' x.bare v := by
  induction h with
  | v x a v h ha => exact fun _ => .v _ _ _ (h.later hl) trivial
  | ptr k s o h1 h2 => intro hf; cases hf
  | nilp => exact fun _ => .nilp
  | eptr cs o b off us h hr => exact fun _ => .eptr cs o b off us (fun k y hy => hl.st _ _ _ (h k y hy).1 (h k y hy).2) (fun k y hy => (hr k y hy).later hl)
  | clos f caps us hn' hr ih =>
    intro hf
    refine .clos f _ us (by rw [bares_length]; exact hn') fun k y hy => ?_
    obtain ⟨z, hz, rfl⟩ := bares_get _ k y hy
    exact ih k z hz (fars_get _ hf k z hz)
  | nilF => exact fun _ => .nilF
  | bld => exact fun _ => .bld
  | agg ds us hn' hr ih =>
    intro hf
    refine .agg _ us (by rw [bares_length]; exact hn') fun k y hy => ?_
    obtain ⟨z, hz, rfl⟩ := bares_get _ k y hy
    exact ih k z hz (fars_get _ hf k z hz)
  | tup ds us hn' hr ih =>
    intro hf
    refine .tup _ us (by rw [bares_length]; exact hn') fun k y hy => ?_
    obtain ⟨z, hz, rfl⟩ := bares_get _ k y hy
    exact ih k z hz (fars_get _ hf k z hz)
  | any v => exact fun _ => .any v
theorem RepDs.far_ {E' : Env} {g' : G} {w' : World} {dead dead' : List Pos} (hl : Later g w g' w') {ds : List D} {us : List Value} (h : RepDs E g w dead ds us) (hf : fars ds = true) : RepDs E' g' w' dead' (bares ds) us :=
  ⟨by rw [h.1, bares_length], fun k y hk => by
    obtain ⟨z, hz, rfl⟩ := bares_get _ k y hk
    exact (h.2 k z hz).far_ hl (fars_get _ hf k z hz)⟩
theorem hide_later (g : G) (w : World) : Later g w g.hide w := ⟨rfl, fun b o v h1 h2 => ⟨(stable_hide g b o).2 h1, h2⟩, fun b x h1 h2 => ⟨by simp only [G.hide, h1, Perm.hid], h2⟩⟩
theorem pure_entry (hcx : CxOK P cx) {f : FuncId} {fn : Func} {c : Code} (hf : P.funcs[f]? = some fn) (hb : fn.body = some c) (hro : RegionsOK P cx c) (hl : LoopsOK cx fn.ntmps c)
    {ds : List D} (hargs : ds.length <= fn.ntmps) (hfar : fars ds = true) (hbare : bares ds = ds) {rf : List D -> Mem -> Option R} {r : R} (h : bodyK cx fn ds [] rf = some r)
    {rs : List D} (hrs : ∀ rs' m, rf rs' m = some r -> fars rs' = true /\ bares rs' = rs) : PureRet P cx.T f ds rs := by
  intro E g w us hsz hus
  have hh : Here cx.T ⟨0, memDom [[]]⟩ g.hide w ([] :: []) := by
    refine ⟨fun k s b hb => ?_, rfl, hsz.later (hide_later g w), rfl⟩
    exfalso
    rcases k with _ | k
    . simp [Mem.box?, frGet] at hb
    . simp [Mem.box?] at hb
  have hr : RepDs ⟨0, memDom [[]]⟩ g.hide w [] ds us := by
    have := hus.far_ (E' := ⟨0, memDom [[]]⟩) (dead' := []) (hide_later g w) hfar
    rwa [hbare] at this
  refine body_sound hcx hf hb hro hl hargs hh hr h fun rs' us' m' E' g' w' h1 h2 h3 h4 h5 => ?_
  obtain ⟨h6, h7⟩ := hrs rs' m' h1
  have hold : ∀ b, b < w.heap.size -> g'.Γ b = g.hide.Γ b /\ w'.heap[b]? = w.heap[b]? := fun b hb => h5.hid b hb (hid_perm _)
  have hset : Later g' w' (g.settle w.heap.size g') w' := by
    refine ⟨?_, fun b o v a1 a2 => ⟨stable_settle a1 fun hb => (hold b hb).1, a2⟩, fun b x a1 a2 => ⟨?_, a2⟩⟩
    rotate_left
    . unfold G.settle
      simp only
      split
      . rename_i hb
        rw [(hold b hb).1] at a1
        simp only [G.hide] at a1
        cases hp : g.Γ b <;> rw [hp] at a1 <;> first | rfl | cases a1
      . rw [a1]; rfl
    show g.sz = g'.sz
    rw [h5.later.sz]; rfl
  refine ⟨us', g.settle w.heap.size g', rfl, fun E2 => ?_, ⟨⟨h5.os, h5.tape, h5.output, h5.size, fun b hb => (hold b hb).2⟩, fun b hb => ?_, fun b hb => ?_, rfl, rfl⟩⟩
  . have := h3.far_ (E' := E2) (dead' := []) hset h6
    rwa [h7] at this
  . unfold G.settle; simp only; rw [if_pos hb]
  . unfold G.settle; simp only; rw [if_neg (by omega)]; exact hid_still _
end
end Go.Proofs.Ytilfphdeacogmaa.En

/- The engine, part 2b: tables of functions, of types, of loops. -/
namespace Go.Proofs.Ytilfphdeacogmaa.En
open Go
set_option linter.unusedVariables false
structure Ent where
  f : FuncId
  k : {R : Type} -> List D -> (List D -> Option R) -> Option R
def tabP : List Ent -> FuncId -> Bool
  | [], _ => false
  | e :: r, g => cond (Nat.beq e.f g) true (tabP r g)
def tabK {R : Type} : List Ent -> FuncId -> List D -> (List D -> Option R) -> Option R
  | [], _, _, _ => none
  | e :: r, g, ds, K => cond (Nat.beq e.f g) (e.k ds K) (tabK r g ds K)
structure Met where
  t : TypeId
  n : String
  f : FuncId
def tabM : List Met -> TypeId -> String -> Option FuncId
  | [], _, _ => none
  | e :: r, t, n => cond (Nat.beq e.t t) (cond (e.n == n) (some e.f) (tabM r t n)) (tabM r t n)
def bodyOf (fn : Func) : Code := fn.body.getD .skip
section
variable {P : Program} {T : TypeId -> Option Ty} {cx : Cx}
structure EntOK (P : Program) (T : TypeId -> Option Ty) (e : Ent) : Prop where
  goes : Goes P e.f
  ret : ∀ (R : Type) (ds : List D) (K : List D -> Option R) (r : R), e.k ds K = some r -> ∃ rs, K rs = some r /\ PureRet P T e.f ds rs
  b : ∀ (R : Type) (ds : List D) (K : List D -> Option R), e.k ds K = (e.k ds some).bind K
def EntsOK (P : Program) (T : TypeId -> Option Ty) : List Ent -> Prop
  | [] => True
  | e :: r => EntOK P T e /\ EntsOK P T r
def MetsOK (P : Program) : List Met -> Prop
  | [] => True
  | e :: r => MethOK P e.t e.n e.f /\ MetsOK P r
theorem tabK_ok {R : Type} {g : FuncId} {ds : List D} {K : List D -> Option R} {r : R} : ∀ (l : List Ent), EntsOK P T l -> tabK l g ds K = some r -> ∃ rs, K rs = some r /\ Goes P g /\ PureRet P T g ds rs
  | [], _, h => by cases h
  | e :: l, ho, h => by
    unfold tabK at h
    cases hb : Nat.beq e.f g with
    | true =>
      have he := Nat.eq_of_beq_eq_true hb
      rw [hb, cond_true] at h
      obtain ⟨rs, h1, h2⟩ := ho.1.ret R ds K r h
      subst he
      exact ⟨rs, h1, ho.1.goes, h2⟩
    | false => rw [hb, cond_false] at h; exact tabK_ok l ho.2 h
theorem tabK_b {R : Type} {g : FuncId} {ds : List D} {K : List D -> Option R} : ∀ (l : List Ent), EntsOK P T l -> tabK l g ds K = (tabK l g ds some).bind K
  | [], _ => rfl
  | e :: l, ho => by
    unfold tabK
    cases Nat.beq e.f g with
    | true => exact ho.1.b R ds K
    | false => exact tabK_b l ho.2
theorem tabM_ok {t : TypeId} {n : String} {f : FuncId} : ∀ (l : List Met), MetsOK P l -> tabM l t n = some f -> MethOK P t n f
  | [], _, h => by cases h
  | e :: l, ho, h => by
    unfold tabM at h
    cases hb : Nat.beq e.t t with
    | true =>
      have he := Nat.eq_of_beq_eq_true hb
      rw [hb, cond_true] at h
      cases hn : e.n == n with
      | true =>
        rw [hn, cond_true] at h
        injection h with h
        have hn := eq_of_beq hn
        subst he hn h
        exact ho.1
      | false => rw [hn, cond_false] at h; exact tabM_ok l ho.2 h
    | false => rw [hb, cond_false] at h; exact tabM_ok l ho.2 h
theorem goes_of {f : FuncId} {fn : Func} {c : Code} (hf : P.funcs[f]? = some fn) (hn : (fn.name == "runtime.NumGoroutine") = false) (hb : fn.body = some c) : Goes P f := by
  intro args w
  have hp : (program : Sem Program).run P w = .ok P w := rfl
  simp only [callFunc, Sem.run_bind, hp, Result.andThen_ok, hf, hn, hb, Option.isNone_some, Bool.false_eq_true, if_false, Sem.run_pure]
theorem tyOK_of {t : TypeId} {ty : Ty} (h1 : P.underlying t = some ty.desc) (h2 : (P.info? t).map (fun i => (i.zero, i.size, i.bytes)) = some (some ty.zero, ty.size, ty.nbytes)) (h3 : (ty.row || Nat.beq ty.size 1) = true) (h4 : eqOKB P t ty = true) : TyOK P t ty := by
  refine ⟨h1, ?_, fun h => ?_, h4⟩
  . cases hi : P.info? t with
    | none => rw [hi] at h2; cases h2
    | some i =>
      rw [hi] at h2
      injection h2 with h2
      injection h2 with a h2
      injection h2 with b c
      exact ⟨i, rfl, a, b, c⟩
  . rw [h, Bool.false_or] at h3
    exact Nat.eq_of_beq_eq_true h3
def AllTo (p : Nat -> Prop) : Nat -> Prop
  | 0 => True
  | n + 1 => AllTo p n /\ p n
theorem AllTo.get {p : Nat -> Prop} : ∀ (n : Nat), AllTo p n -> ∀ k, k < n -> p k
  | 0, _, k, h => by omega
  | n + 1, ⟨h1, h2⟩, k, h => by
    by_cases hk : k = n
    . subst hk; exact h2
    . exact AllTo.get n h1 k (by omega)
def TyAt (P : Program) (T : TypeId -> Option Ty) (t : Nat) : Prop := ∀ ty, T t = some ty -> TyOK P t ty
theorem tyAt_some {t : TypeId} {ty : Ty} (h : T t = some ty) (ho : TyOK P t ty) : TyAt P T t := fun ty' h' => by rw [h] at h'; injection h' with h'; subst h'; exact ho
theorem tyAt_none {t : TypeId} (h : T t = none) : TyAt P T t := fun ty' h' => by rw [h] at h'; cases h'
def upTo (n : Nat) (T : TypeId -> Option Ty) (t : TypeId) : Option Ty := cond (Nat.blt t n) (T t) none
theorem typesOK_of {n : Nat} (h : AllTo (TyAt P T) n) : TypesOK P (upTo n T) := by
  intro t ty ht
  unfold upTo at ht
  cases hb : Nat.blt t n with
  | false => rw [hb] at ht; cases ht
  | true =>
    rw [hb, cond_true] at ht
    exact AllTo.get n h t (by have := Nat.le_of_ble_eq_true hb; omega) ty ht
theorem loopOK_of {n rid : Nat} {b : Code} {ks xs : List Nat} (hr : ridOf b = rid) (hk : cx.keep rid = ks) (hx : cx.keepX rid = xs)
    (h : ∀ (R : Type) (ds : List D) (m : Mem) (K : Ex -> List D -> Mem -> Option R) (r : R), cx.loopT rid ds m K = some r -> ∃ t, loopK (fun st K => codeK cx b st K) n ks xs t ds m K = some r) : LoopOK cx n b := by
  intro R ds m K r hh
  rw [hr] at hh ⊢
  rw [hk, hx]
  exact h R ds m K r hh
theorem loopsOK_of {n k : Nat} {fn : Func} (hk : (loopsOf (bodyOf fn)).length = k) (h : AllTo (fun i => LoopOK cx n (loopN fn i)) k) : LoopsOK cx n (bodyOf fn) := by
  intro b hb
  obtain ⟨i, hi⟩ := List.getElem?_of_mem hb
  have hlt : i < k := by rw [← hk]; exact (List.getElem?_eq_some_iff.1 hi).1
  have := AllTo.get k h i hlt
  unfold loopN at this
  rw [List.getD_eq_getElem?_getD] at this
  have e : (loopsOf (fn.body.getD .skip))[i]? = some b := hi
  rw [e] at this
  exact this
theorem regionsOK_of (hm : P.follows .mixedOrders = true) (hcx : CxOK P cx) {c : Code} (h : (drawnOf c).all (orderB cx) = true) : RegionsOK P cx c :=
  fun ops ho => region_ok hm hcx (List.all_eq_true.1 h ops ho)
theorem pure_of (hm : P.follows .mixedOrders = true) (hcx : CxOK P cx) {f : FuncId} {fn : Func} (hf : P.funcs[f]? = some fn) (hb : fn.body = some (bodyOf fn)) (hro : (drawnOf (bodyOf fn)).all (orderB cx) = true) (hl : LoopsOK cx fn.ntmps (bodyOf fn))
    {ds : List D} (hargs : Nat.ble ds.length fn.ntmps = true) (hfar : fars ds = true) (hbare : bares ds = ds) {α : Type} {rf : List D -> Mem -> Option α} {r : α} (h : bodyK cx fn ds [] rf = some r)
    {rs : List D} (hrs : ∀ rs' m, rf rs' m = some r -> fars rs' = true /\ bares rs' = rs) : PureRet P cx.T f ds rs :=
  pure_entry hcx hf hb (regionsOK_of hm hcx hro) hl (Nat.le_of_ble_eq_true hargs) hfar hbare h hrs
section
variable {R : Type}
theorem bnd1_some {α : Type} {o : Option α} {K : α -> Option R} {r : R} (h : bnd1 o K = some r) : ∃ a, o = some a /\ K a = some r := by
  cases o with
  | none => cases h
  | some a => exact ⟨a, rfl, h⟩
theorem bnd2_some {α β : Type} {o : Option (α × β)} {K : α -> β -> Option R} {r : R} (h : bnd2 o K = some r) : ∃ a b, o = some (a, b) /\ K a b = some r := by
  rcases o with _ | ⟨a, b⟩
  . cases h
  . exact ⟨a, b, rfl, h⟩
theorem bnd3_some {α β γ : Type} {o : Option (α × β × γ)} {K : α -> β -> γ -> Option R} {r : R} (h : bnd3 o K = some r) : ∃ a b c, o = some (a, b, c) /\ K a b c = some r := by
  rcases o with _ | ⟨a, b, c⟩
  . cases h
  . exact ⟨a, b, c, rfl, h⟩
theorem bnd4_some {α β γ δ : Type} {o : Option (α × β × γ × δ)} {K : α -> β -> γ -> δ -> Option R} {r : R} (h : bnd4 o K = some r) : ∃ a b c d, o = some (a, b, c, d) /\ K a b c d = some r := by
  rcases o with _ | ⟨a, b, c, d⟩
  . cases h
  . exact ⟨a, b, c, d, rfl, h⟩
def bnd5 {R α β γ δ ε : Type} (o : Option (α × β × γ × δ × ε)) (K : α -> β -> γ -> δ -> ε -> Option R) : Option R := match o with | some (a, b, c, d, e) => K a b c d e | none => none
theorem bnd5_some {R α β γ δ ε : Type} {o : Option (α × β × γ × δ × ε)} {K : α -> β -> γ -> δ -> ε -> Option R} {r : R} (h : bnd5 o K = some r) : ∃ a b c d e, o = some (a, b, c, d, e) /\ K a b c d e = some r := by
  rcases o with _ | ⟨a, b, c, d, e⟩
  . cases h
  . exact ⟨a, b, c, d, e, rfl, h⟩
theorem bnd1_b {α β : Type} (o : Option α) (F : α -> Option β) (K : β -> Option R) : (bnd1 o F).bind K = bnd1 o fun a => (F a).bind K := by cases o <;> rfl
theorem bnd2_b {α α' β : Type} (o : Option (α × α')) (F : α -> α' -> Option β) (K : β -> Option R) : (bnd2 o F).bind K = bnd2 o fun a b => (F a b).bind K := by rcases o with _ | ⟨a, b⟩ <;> rfl
end
end
end Go.Proofs.Ytilfphdeacogmaa.En

/- The engine, part 2c: a callee that is given variables sees them under names of its own. -/
namespace Go.Proofs.Ytilfphdeacogmaa.En
open Go
set_option linter.unusedVariables false
inductive Ren (Pr : Nat -> Nat -> Nat -> Nat -> Prop) : D -> D -> Prop
  | v (x : V) : Ren Pr (.v x .no) (.v x .no)
  | nilp : Ren Pr .nilp .nilp
  | nilF : Ren Pr .nilF .nilF
  | bld : Ren Pr .bld .bld
  | any : Ren Pr .any .any
  | eptr (cs : List V) (o : Nat) : Ren Pr (.eptr cs o) (.eptr cs o)
  | ptr {k s k₁ s₁ : Nat} (o : Nat) (h : Pr k s k₁ s₁) : Ren Pr (.ptr k s o) (.ptr k₁ s₁ o)
  | clos (f : FuncId) (cs cs₁ : List D) (hl : cs₁.length = cs.length) (h : ∀ (i : Nat) y y₁, cs[i]? = some y -> cs₁[i]? = some y₁ -> Ren Pr y y₁) : Ren Pr (.clos f cs) (.clos f cs₁)
  | agg (cs cs₁ : List D) (hl : cs₁.length = cs.length) (h : ∀ (i : Nat) y y₁, cs[i]? = some y -> cs₁[i]? = some y₁ -> Ren Pr y y₁) : Ren Pr (.agg cs) (.agg cs₁)
theorem Ren.flip {Pr : Nat -> Nat -> Nat -> Nat -> Prop} {d d₁ : D} (h : Ren Pr d d₁) : Ren (fun a b c e => Pr c e a b) d₁ d := by
  induction h with
  | v x => exact .v x
  | nilp => exact .nilp
  | nilF => exact .nilF
  | bld => exact .bld
  | any => exact .any
  | eptr cs o => exact .eptr cs o
  | ptr o h => exact .ptr o h
  | clos f cs cs₁ hl h ih => exact .clos f cs₁ cs hl.symm fun i y y₁ h1 h2 => ih i y₁ y h2 h1
  | agg cs cs₁ hl h ih => exact .agg cs₁ cs hl.symm fun i y y₁ h1 h2 => ih i y₁ y h2 h1
theorem Ren.shift {Pr : Nat -> Nat -> Nat -> Nat -> Prop} {d d₁ : D} (h : Ren Pr d d₁) (k k₁ : Nat) : Ren (fun a b c e => ∃ a' c', a = a' + k /\ c = c' + k₁ /\ Pr a' b c' e) (d.shift k) (d₁.shift k₁) := by
  induction h with
  | v x => exact .v x
  | nilp => exact .nilp
  | nilF => exact .nilF
  | bld => exact .bld
  | any => exact .any
  | eptr cs o => exact .eptr cs o
  | ptr o h => exact .ptr o ⟨_, _, rfl, rfl, h⟩
  | clos f cs cs₁ hl h ih =>
    refine .clos f _ _ (by rw [shifts_length, shifts_length, hl]) fun i y y₁ h1 h2 => ?_
    obtain ⟨z, hz, rfl⟩ := shifts_get _ _ i y h1
    obtain ⟨z₁, hz₁, rfl⟩ := shifts_get _ _ i y₁ h2
    exact ih i z z₁ hz hz₁
  | agg cs cs₁ hl h ih =>
    refine .agg _ _ (by rw [shifts_length, shifts_length, hl]) fun i y y₁ h1 h2 => ?_
    obtain ⟨z, hz, rfl⟩ := shifts_get _ _ i y h1
    obtain ⟨z₁, hz₁, rfl⟩ := shifts_get _ _ i y₁ h2
    exact ih i z z₁ hz hz₁
section
variable {E E' : Env} {g g' : G} {w w' : World} {dead dead' : List Pos}
theorem rep_ren {Pr : Nat -> Nat -> Nat -> Nat -> Prop} (hl : Later g w g' w') (hp : ∀ k s k₁ s₁, Pr k s k₁ s₁ -> k <= E.d -> E.dom k s -> k₁ <= E'.d /\ E'.dom k₁ s₁ /\ g'.J (E'.d - k₁) s₁ = g.J (E.d - k) s) {d d₁ : D} (h : Ren Pr d d₁) : ∀ {v : Value}, RepD E g w dead d v -> RepD E' g' w' dead' d₁ v := by
  induction h with
  | v x => intro v h; cases h with | v x a v h ha => exact .v _ _ _ (h.later hl) trivial
  | nilp => intro v h; cases h; exact .nilp
  | nilF => intro v h; cases h; exact .nilF
  | bld => intro v h; cases h; exact .bld
  | any => intro v h; exact .any _
  | eptr cs o => intro v h; cases h with | eptr cs o b off us h hr => exact .eptr cs o b off us (fun k y hy => hl.st _ _ _ (h k y hy).1 (h k y hy).2) (fun k y hy => (hr k y hy).later hl)
  | ptr o hq =>
    intro v h
    cases h with
    | ptr k s o a1 a2 =>
      obtain ⟨b1, b2, b3⟩ := hp _ _ _ _ hq a1 a2
      rw [← b3]
      exact .ptr _ _ o b1 b2
  | clos f cs cs₁ hlen hq ih =>
    intro v h
    cases h with
    | clos f cs us hn hr =>
      refine .clos f cs₁ us (by rw [hn, hlen]) fun i y₁ hy₁ => ?_
      have hi : i < cs.length := by rw [← hlen]; exact (List.getElem?_eq_some_iff.1 hy₁).1
      exact ih i _ y₁ (List.getElem?_eq_getElem hi) hy₁ (hr i _ (List.getElem?_eq_getElem hi))
  | agg cs cs₁ hlen hq ih =>
    intro v h
    cases h with
    | agg cs us hn hr =>
      refine .agg cs₁ us (by rw [hn, hlen]) fun i y₁ hy₁ => ?_
      have hi : i < cs.length := by rw [← hlen]; exact (List.getElem?_eq_some_iff.1 hy₁).1
      exact ih i _ y₁ (List.getElem?_eq_getElem hi) hy₁ (hr i _ (List.getElem?_eq_getElem hi))
theorem RepDs.ren {Pr : Nat -> Nat -> Nat -> Nat -> Prop} (hl : Later g w g' w') (hp : ∀ k s k₁ s₁, Pr k s k₁ s₁ -> k <= E.d -> E.dom k s -> k₁ <= E'.d /\ E'.dom k₁ s₁ /\ g'.J (E'.d - k₁) s₁ = g.J (E.d - k) s) {ds ds₁ : List D} {us : List Value}
    (hlen : ds₁.length = ds.length) (h : ∀ (i : Nat) y y₁, ds[i]? = some y -> ds₁[i]? = some y₁ -> Ren Pr y y₁) (hr : RepDs E g w dead ds us) : RepDs E' g' w' dead' ds₁ us := by
  refine ⟨by rw [hr.1, hlen], fun i y₁ hy₁ => ?_⟩
  have hi : i < ds.length := by rw [← hlen]; exact (List.getElem?_eq_some_iff.1 hy₁).1
  exact rep_ren hl hp (h i _ y₁ (List.getElem?_eq_getElem hi) hy₁) (hr.2 i _ (List.getElem?_eq_getElem hi))
end
inductive CRen (Q : Nat -> Nat -> Nat -> Prop) : D -> D -> Prop
  | v (x : V) (a : Att) : CRen Q (.v x a) (.v x a)
  | bld : CRen Q .bld .bld
  | ren {c c₁ : D} (hb : c ≠ .bld) (hb₁ : c₁ ≠ .bld) (h1 : c.one = true) (h2 : c.flat = true) (h3 : c₁.one = true) (h4 : c₁.flat = true) (hv : ∀ x a, c ≠ .v x a) (h : Ren (fun k s k₁ s₁ => k₁ = 0 /\ Q k s s₁) c c₁) : CRen Q c c₁
structure BRen (Q : Nat -> Nat -> Nat -> Prop) (B B₁ : Bx) : Prop where
  ty : B₁.ty = B.ty
  len : B₁.cells.length = B.cells.length
  cell : ∀ (i : Nat) c c₁, B.cells[i]? = some c -> B₁.cells[i]? = some c₁ -> CRen Q c c₁
section
variable {ps : List (Nat × Nat)} {d0 : Nat}
def posOf (ps : List (Nat × Nat)) (d0 d s : Nat) : Option Nat := ps.findIdx? fun p => decide (d0 - p.1 = d) && decide (p.2 = s)
structure Places (ps : List (Nat × Nat)) (d0 : Nat) : Prop where
  le : ∀ (j : Nat) (p : Nat × Nat), ps[j]? = some p -> p.1 <= d0
  one : ∀ (i j : Nat) (p : Nat × Nat), ps[i]? = some p -> ps[j]? = some p -> i = j
theorem posOf_some {d s j : Nat} (h : posOf ps d0 d s = some j) : ∃ k, ps[j]? = some (k, s) /\ d = d0 - k := by
  unfold posOf at h
  obtain ⟨hj, h1, _⟩ := List.findIdx?_eq_some_iff_getElem.1 h
  simp only [Bool.and_eq_true, decide_eq_true_eq] at h1
  refine ⟨ps[j].1, ?_, h1.1.symm⟩
  rw [List.getElem?_eq_getElem hj, ← h1.2]
theorem posOf_at (hp : Places ps d0) {j k s : Nat} (h : ps[j]? = some (k, s)) : posOf ps d0 (d0 - k) s = some j := by
  cases hq : posOf ps d0 (d0 - k) s with
  | none =>
    unfold posOf at hq
    rw [List.findIdx?_eq_none_iff] at hq
    have := hq _ (List.mem_of_getElem? h)
    simp at this
  | some i =>
    obtain ⟨k', h1, h2⟩ := posOf_some hq
    have a1 := hp.le _ _ h
    have a2 := hp.le _ _ h1
    simp only at a1 a2
    have : k' = k := by omega
    subst this
    rw [hp.one i j _ h1 h]
theorem posOf_none (hp : Places ps d0) {k s : Nat} (hk : k <= d0) (h : ∀ j : Nat, ps[j]? ≠ some (k, s)) : posOf ps d0 (d0 - k) s = none := by
  cases hq : posOf ps d0 (d0 - k) s with
  | none => rfl
  | some i =>
    obtain ⟨k', h1, h2⟩ := posOf_some hq
    have a2 := hp.le _ _ h1
    simp only at a2
    have : k' = k := by omega
    subst this
    exact absurd h1 (h i)
def inP (ps : List (Nat × Nat)) (d0 : Nat) : APos -> Option APos
  | .cell d s i => (posOf ps d0 d s).map fun j => .cell 0 j i
  | .slot _ _ => none
def outP (ps : List (Nat × Nat)) (d0 : Nat) : APos -> Option APos
  | .cell d j i => (match d with | 0 => (ps[j]?).map fun p => .cell (d0 - p.1) p.2 i | _ + 1 => none)
  | .slot _ _ => none
def Perm.view (ps : List (Nat × Nat)) (d0 : Nat) : Perm -> Perm
  | .imm => .imm
  | .low n => .low n
  | .own p n => (match inP ps d0 p with | some q => .own q n | none => .low n)
  | .box d s => (match posOf ps d0 d s with | some j => .box 0 j | none => .low 0)
def Perm.back (ps : List (Nat × Nat)) (d0 : Nat) : Perm -> Perm
  | .imm => .imm
  | .low n => .low n
  | .own p n => (match outP ps d0 p with | some q => .own q n | none => .low n)
  | .box d j => (match d with | 0 => (match ps[j]? with | some p => .box (d0 - p.1) p.2 | none => .low 0) | _ + 1 => .low 0)
def G.view (g : G) (ps : List (Nat × Nat)) (d0 : Nat) : G :=
  { Γ := fun b => (g.Γ b).view ps d0, J := fun d s => match d with | 0 => (match ps[s]? with | some p => g.J (d0 - p.1) p.2 | none => 0) | d + 1 => g.J (d + 1) s, sz := g.sz }
def G.unview (g : G) (ps : List (Nat × Nat)) (d0 n : Nat) (g₂ : G) : G :=
  { Γ := fun b => bif decide (b < n) && ((g.Γ b).view ps d0).still then g.Γ b else (g₂.Γ b).back ps d0, J := g.J, sz := g.sz }
theorem stable_view (g : G) (b o : Nat) : Stable (g.view ps d0) b o ↔ Stable g b o := by
  unfold Stable G.view
  simp only
  cases g.Γ b with
  | imm => exact Iff.rfl
  | low n => exact Iff.rfl
  | own p n => simp only [Perm.view]; cases inP ps d0 p <;> exact Iff.rfl
  | box d s => simp only [Perm.view]; cases posOf ps d0 d s <;> simp
theorem still_perm {p : Perm} (h : p.still = true) : p = .imm ∨ ∃ n, p = .low n := by cases p <;> simp [Perm.still] at h ⊢
structure Held (g : G) (w : World) (ps : List (Nat × Nat)) (d0 : Nat) (g₂ : G) (w' : World) : Prop where
  Γ : ∀ b, b < w.heap.size -> ((g.Γ b).view ps d0).still = true -> g₂.Γ b = (g.Γ b).view ps d0
  heap : ∀ b, b < w.heap.size -> ((g.Γ b).view ps d0).still = true -> w'.heap[b]? = w.heap[b]?
theorem unview_still {g g₂ : G} {n b : Nat} (h1 : b < n) (h2 : ((g.Γ b).view ps d0).still = true) : (g.unview ps d0 n g₂).Γ b = g.Γ b := by
  unfold G.unview; simp [h1, h2]
theorem unview_back {g g₂ : G} {n b : Nat} (h : ¬ (b < n /\ ((g.Γ b).view ps d0).still = true)) : (g.unview ps d0 n g₂).Γ b = (g₂.Γ b).back ps d0 := by
  unfold G.unview
  simp only
  cases hc : (decide (b < n) && ((g.Γ b).view ps d0).still) with
  | true => simp at hc; exact absurd hc h
  | false => rfl
theorem stable_unview {g g₂ : G} {w w' : World} (hh : Held g w ps d0 g₂ w') {b o : Nat} (h : Stable g₂ b o) : Stable (g.unview ps d0 w.heap.size g₂) b o := by
  by_cases hc : b < w.heap.size /\ ((g.Γ b).view ps d0).still = true
  . have h1 := hh.Γ b hc.1 hc.2
    unfold Stable
    rw [unview_still hc.1 hc.2]
    have : Stable (g.view ps d0) b o := by
      unfold Stable at h ⊢
      rw [h1] at h
      exact h
    exact (stable_view g b o).1 this
  . unfold Stable at h ⊢
    rw [unview_back hc]
    cases hg : g₂.Γ b with
    | imm => trivial
    | low n => rw [hg] at h; exact h
    | own p n => rw [hg] at h; simp only [Perm.back]; cases outP ps d0 p <;> exact h
    | box d s => rw [hg] at h; exact h.elim
theorem imm_unview {g g₂ : G} {w w' : World} (hh : Held g w ps d0 g₂ w') {b : Nat} (h : g₂.Γ b = .imm) : (g.unview ps d0 w.heap.size g₂).Γ b = .imm := by
  by_cases hc : b < w.heap.size /\ ((g.Γ b).view ps d0).still = true
  . have h1 := hh.Γ b hc.1 hc.2
    rw [unview_still hc.1 hc.2]
    rw [h1] at h
    cases hp : g.Γ b with
    | imm => rfl
    | low n => rw [hp] at h; cases h
    | own p n => rw [hp] at h; simp only [Perm.view] at h; split at h <;> cases h
    | box d s => rw [hp] at h; simp only [Perm.view] at h; split at h <;> cases h
  . rw [unview_back hc, h]; rfl
theorem own_view (hp : Places ps d0) {g : G} {w : World} {j k s i : Nat} {e : TypeId} {v : Value} (hj : ps[j]? = some (k, s)) (h : OwnAt g w (.cell (d0 - k) s i) e v) : OwnAt (g.view ps d0) w (.cell 0 j i) e v := by
  rcases h with h0 | ⟨b, n, cap, cur, h1, h2, h3, h4⟩
  . exact .inl h0
  . refine .inr ⟨b, n, cap, cur, h1, ?_, h3, h4⟩
    show (g.Γ b).view ps d0 = _
    rw [h2]
    simp only [Perm.view, inP, posOf_at hp hj, Option.map_some]
    rfl
theorem own_unview {g g₂ : G} {w w' : World} (hsz : g₂.sz = g.sz) (hh : Held g w ps d0 g₂ w') {j k s i : Nat} {e : TypeId} {v : Value} (hj : ps[j]? = some (k, s)) (h : OwnAt g₂ w' (.cell 0 j i) e v) : OwnAt (g.unview ps d0 w.heap.size g₂) w' (.cell (d0 - k) s i) e v := by
  rcases h with h0 | ⟨b, n, cap, cur, h1, h2, h3, h4⟩
  . exact .inl h0
  . have hsz' : (g.unview ps d0 w.heap.size g₂).sz = g₂.sz := hsz.symm
    refine .inr ⟨b, n, cap, cur, h1, ?_, h3, by rw [hsz']; exact h4⟩
    rw [unview_back]
    . rw [h2, hsz']
      simp only [Perm.back, outP, hj, Option.map_some]
    . rintro ⟨a1, a2⟩
      have := hh.Γ b a1 a2
      rw [h2] at this
      rw [← this] at a2
      cases a2
theorem own_restore {g g₂ : G} {w w' : World} (hh : Held g w ps d0 g₂ w') {p : APos} (hp : inP ps d0 p = none) {e : TypeId} {v : Value} (h : OwnAt g w p e v) : OwnAt (g.unview ps d0 w.heap.size g₂) w' p e v := by
  rcases h with h0 | ⟨b, n, cap, cur, h1, h2, h3, h4⟩
  . exact .inl h0
  . have hb := heap_lt h3
    have hs : ((g.Γ b).view ps d0).still = true := by rw [h2]; simp only [Perm.view, hp]; rfl
    exact .inr ⟨b, n, cap, cur, h1, by rw [unview_still hb hs]; exact h2, by rw [hh.heap b hb hs]; exact h3, h4⟩
end
end Go.Proofs.Ytilfphdeacogmaa.En

/- The engine, part 2d: functions that are given variables. -/
namespace Go.Proofs.Ytilfphdeacogmaa.En
open Go
set_option linter.unusedVariables false
def frOf : Nat -> List Bx -> Fr
  | _, [] => []
  | i, b :: r => (i, b) :: frOf (i + 1) r
theorem frGet_of (j : Nat) : ∀ (Bs : List Bx) (i : Nat), frGet j (frOf i Bs) = if i <= j then Bs[j - i]? else none
  | [], i => by simp [frOf, frGet]
  | b :: Bs, i => by
    rw [frOf, frGet_cons, frGet_of j Bs (i + 1)]
    by_cases h : j = i
    . subst h; simp
    . rw [if_neg h]
      by_cases h2 : i + 1 <= j
      . rw [if_pos h2, if_pos (by omega)]
        rw [show j - i = (j - (i + 1)) + 1 by omega, List.getElem?_cons_succ]
      . rw [if_neg h2, if_neg (by omega)]
theorem frGet_of0 (j : Nat) (Bs : List Bx) : frGet j (frOf 0 Bs) = Bs[j]? := by rw [frGet_of]; simp
def setAll : List (Nat × Nat) -> List Bx -> Mem -> Mem
  | p :: ps, B :: Bs, m => setAll ps Bs (m.setBox p.1 p.2 B)
  | _, _, m => m
theorem setAll_length : ∀ (ps : List (Nat × Nat)) (Bs : List Bx) (m : Mem), (setAll ps Bs m).length = m.length
  | [], _, m => by simp [setAll]
  | _ :: _, [], m => by simp [setAll]
  | p :: ps, B :: Bs, m => by rw [setAll, setAll_length ps Bs, setBox_length]
theorem setAll_other {k s : Nat} : ∀ (ps : List (Nat × Nat)) (Bs : List Bx) (m : Mem), (∀ j : Nat, ps[j]? ≠ some (k, s)) -> (setAll ps Bs m).box? k s = m.box? k s
  | [], _, m, _ => by simp [setAll]
  | _ :: _, [], m, _ => by simp [setAll]
  | p :: ps, B :: Bs, m, h => by
    rw [setAll, setAll_other ps Bs _ (fun j => by have := h (j + 1); simpa using this), box_set, if_neg]
    rintro ⟨rfl, rfl, _⟩
    exact h 0 (by simp)
theorem setAll_get : ∀ (ps : List (Nat × Nat)) (Bs : List Bx) (m : Mem) (j k s : Nat) (B : Bx), (∀ (i j : Nat) (p : Nat × Nat), ps[i]? = some p -> ps[j]? = some p -> i = j) -> ps[j]? = some (k, s) -> Bs[j]? = some B -> k < m.length -> (setAll ps Bs m).box? k s = some B
  | [], _, m, j, k, s, B, _, h, _, _ => by simp at h
  | _ :: _, [], m, j, k, s, B, _, _, h, _ => by simp at h
  | p :: ps, B0 :: Bs, m, 0, k, s, B, ho, h, hB, hk => by
    simp at h hB
    subst h hB
    rw [setAll, setAll_other ps Bs _ (fun j hj => by have := ho 0 (j + 1) (k, s) (by simp) (by simpa using hj); omega), box_set, if_pos ⟨rfl, rfl, hk⟩]
  | p :: ps, B0 :: Bs, m, j + 1, k, s, B, ho, h, hB, hk => by
    rw [setAll]
    exact setAll_get ps Bs _ j k s B (fun a b q h1 h2 => by have := ho (a + 1) (b + 1) q (by simpa using h1) (by simpa using h2); omega) (by simpa using h) (by simpa using hB) (by rw [setBox_length]; exact hk)
section
variable {R : Type} {P : Program} {T : TypeId -> Option Ty} {E E' : Env} {g g' : G} {w w' : World} {cx : Cx}
theorem cell_ren {Q : Nat -> Nat -> Nat -> Prop} {c c₁ : D} (hc : CRen Q c c₁) {k s i k₁ s₁ : Nat} {u : Value} (hl : Later g w g' w') (hk₁ : k₁ <= E'.d) (hown : ∀ e, OwnAt g w (.cell (E.d - k) s i) e u -> OwnAt g' w' (.cell (E'.d - k₁) s₁ i) e u)
    (hp : ∀ a b j, Q a b j -> a + k <= E.d -> E.dom (a + k) b -> 0 + k₁ <= E'.d /\ E'.dom (0 + k₁) j /\ g'.J (E'.d - (0 + k₁)) j = g.J (E.d - (a + k)) b) (h : RepD E g w [] (loadCell k s i c) u) : RepD E' g' w' [] (loadCell k₁ s₁ i c₁) u := by
  cases hc with
  | v x a =>
    cases a with
    | no => cases h with | v x a v h ha => exact .v _ _ _ (h.later hl) trivial
    | nil e => cases h with | v x a v h ha => exact .v _ _ _ (h.later hl) ha
    | own p e =>
      cases h with
      | v x a v h ha =>
        rcases ha with ha | ⟨_, ha⟩
        . cases ha
        . exact .v _ _ _ (h.later hl) (.inr ⟨hk₁, hown e ha⟩)
  | bld => exact .any _
  | ren hb hb₁ h1 h2 h3 h4 hv hr =>
    have e1 : loadCell k s i c = c.shift k := by
      cases c with
      | v x a => exact absurd rfl (hv x a)
      | bld => exact absurd rfl hb
      | _ => rfl
    have e2 : loadCell k₁ s₁ i c₁ = c₁.shift k₁ := by
      cases c₁ with
      | v x a => cases hr; exact absurd rfl (hv _ _)
      | bld => exact absurd rfl hb₁
      | _ => rfl
    rw [e1] at h
    rw [e2]
    refine rep_ren hl ?_ (hr.shift k k₁) h
    rintro K b K₁ j ⟨a, c', rfl, rfl, rfl, hq⟩ h5 h6
    exact hp a b j hq h5 h6
theorem cell_ren' {Q : Nat -> Nat -> Nat -> Prop} {c c₁ : D} (hc : CRen Q c c₁) {k s i k₁ s₁ : Nat} {u : Value} (hl : Later g w g' w') (hk₁ : k₁ <= E'.d) (hown : ∀ e, OwnAt g w (.cell (E.d - k) s i) e u -> OwnAt g' w' (.cell (E'.d - k₁) s₁ i) e u)
    (hp : ∀ a b j, Q a b j -> 0 + k <= E.d -> E.dom (0 + k) j -> a + k₁ <= E'.d /\ E'.dom (a + k₁) b /\ g'.J (E'.d - (a + k₁)) b = g.J (E.d - (0 + k)) j) (h : RepD E g w [] (loadCell k s i c₁) u) : RepD E' g' w' [] (loadCell k₁ s₁ i c) u := by
  cases hc with
  | v x a =>
    cases a with
    | no => cases h with | v x a v h ha => exact .v _ _ _ (h.later hl) trivial
    | nil e => cases h with | v x a v h ha => exact .v _ _ _ (h.later hl) ha
    | own p e =>
      cases h with
      | v x a v h ha =>
        rcases ha with ha | ⟨_, ha⟩
        . cases ha
        . exact .v _ _ _ (h.later hl) (.inr ⟨hk₁, hown e ha⟩)
  | bld => exact .any _
  | ren hb hb₁ h1 h2 h3 h4 hv hr =>
    have e1 : loadCell k s i c₁ = c₁.shift k := by
      cases c₁ with
      | v x a => cases hr; exact absurd rfl (hv _ _)
      | bld => exact absurd rfl hb₁
      | _ => rfl
    have e2 : loadCell k₁ s₁ i c = c.shift k₁ := by
      cases c with
      | v x a => exact absurd rfl (hv x a)
      | bld => exact absurd rfl hb
      | _ => rfl
    rw [e1] at h
    rw [e2]
    refine rep_ren hl ?_ (hr.flip.shift k k₁) h
    rintro K b K₁ j ⟨a, c', rfl, rfl, rfl, hq⟩ h5 h6
    exact hp c' j b hq h5 h6
theorem cren_shape {Q : Nat -> Nat -> Nat -> Prop} {c c₁ : D} (hc : CRen Q c c₁) : (c.one = true /\ c.flat = true -> c₁.one = true /\ c₁.flat = true) /\ (c₁.one = true /\ c₁.flat = true -> c.one = true /\ c.flat = true) /\ (c = .bld ↔ c₁ = .bld) := by
  cases hc with
  | v x a => exact ⟨id, id, Iff.rfl⟩
  | bld => exact ⟨id, id, Iff.rfl⟩
  | ren hb hb₁ h1 h2 h3 h4 hv hr => exact ⟨fun _ => ⟨h3, h4⟩, fun _ => ⟨h1, h2⟩, ⟨fun e => absurd e hb, fun e => absurd e hb₁⟩⟩
structure BRenX (Q : Nat -> Nat -> Nat -> Prop) (B B₁ : Bx) : Prop where
  ty : B₁.ty = B.ty
  len : B₁.cells.length = B.cells.length
  cell : ∀ (i : Nat) c c₁, B.cells[i]? = some c -> B₁.cells[i]? = some c₁ -> CRen Q c c₁ ∨ ∃ x a, c = .v x .no /\ c₁ = .v x a
theorem BRen.x {Q : Nat -> Nat -> Nat -> Prop} {B B₁ : Bx} (h : BRen Q B B₁) : BRenX Q B B₁ := ⟨h.ty, h.len, fun i c c₁ h1 h2 => .inl (h.cell i c c₁ h1 h2)⟩
theorem view_entry (hcx : CxOK P cx) {f : FuncId} {fn : Func} {c : Code} (hf : P.funcs[f]? = some fn) (hb : fn.body = some c) (hro : RegionsOK P cx c) (hl : LoopsOK cx fn.ntmps c)
    {ds ds₁ : List D} (hargs : ds₁.length <= fn.ntmps) {m : Mem} {ps : List (Nat × Nat)} {Bs₁ : List Bx} (hone : ∀ (i j : Nat) (p : Nat × Nat), ps[i]? = some p -> ps[j]? = some p -> i = j)
    (hget : ∀ (j : Nat) (p : Nat × Nat), ps[j]? = some p -> ∃ B B₁, m.box? p.1 p.2 = some B /\ Bs₁[j]? = some B₁ /\ BRen (fun k s i => ps[i]? = some (p.1 + k, s)) B B₁) (hlen₁ : Bs₁.length = ps.length)
    (hlen : ds₁.length = ds.length) (hds : ∀ (i : Nat) y y₁, ds[i]? = some y -> ds₁[i]? = some y₁ -> Ren (fun k s k₁ s₁ => ∃ k', k = k' + 1 /\ k₁ = 1 /\ ps[s₁]? = some (k', s)) y y₁)
    {rf : List D -> Mem -> Option R} {r : R} (h : bodyK cx fn ds₁ [frOf 0 Bs₁] rf = some r) {rs : List D} {Bs' : List Bx} (hlen' : Bs'.length = ps.length)
    (hrs : ∀ rs' m', rf rs' m' = some r -> fars rs' = true /\ bares rs' = rs /\ ∃ own Bs₂, m' = [own, frOf 0 Bs₂] /\ ∀ (j : Nat) (p : Nat × Nat) B', ps[j]? = some p -> Bs'[j]? = some B' -> ∃ B₂, Bs₂[j]? = some B₂ /\ BRenX (fun k s i => ps[i]? = some (p.1 + k, s)) B' B₂)
    (dst : Nat) : MemRet P cx.T f dst ds m rs (setAll ps Bs' m) := by
  intro E g w us hh hus
  have hp : Places ps E.d := ⟨fun j p hj => by
    obtain ⟨B, B₁, h1, _⟩ := hget j p hj
    exact (hh.mem _ _ _ h1).le, hone⟩
  have hB₁ : ∀ (j : Nat) (B₁ : Bx), Bs₁[j]? = some B₁ -> ∃ p, ps[j]? = some p := fun j B₁ hj => by
    have : j < ps.length := by rw [← hlen₁]; exact (List.getElem?_eq_some_iff.1 hj).1
    exact ⟨_, List.getElem?_eq_getElem this⟩
  have hlat : Later g w (g.view ps E.d) w := ⟨rfl, fun b o v h1 h2 => ⟨(stable_view g b o).2 h1, h2⟩, fun b x h1 h2 => ⟨by show (g.Γ b).view ps E.d = _; rw [h1]; rfl, h2⟩⟩
  have hJ : ∀ (j k s : Nat), ps[j]? = some (k, s) -> (g.view ps E.d).J 0 j = g.J (E.d - k) s := fun j k s hj => by
    show (match ps[j]? with | some p => g.J (E.d - p.1) p.2 | none => 0) = _
    rw [hj]
  have hh1 : Here cx.T ⟨1, memDom ([] :: [frOf 0 Bs₁])⟩ (g.view ps E.d) w ([] :: [frOf 0 Bs₁]) := by
    refine ⟨fun k s b hbx => ?_, rfl, hh.sk.later hlat, rfl⟩
    rcases k with _ | _ | k
    . simp [Mem.box?, frGet] at hbx
    . have hbx : Bs₁[s]? = some b := by rw [← frGet_of0]; exact hbx
      obtain ⟨⟨k', s'⟩, hj⟩ := hB₁ s b hbx
      obtain ⟨B, B₁, h1, h2, h3⟩ := hget s _ hj
      rw [hbx] at h2
      injection h2 with h2
      subst h2
      have hr := hh.mem _ _ _ h1
      obtain ⟨cs, a1, a2, a3⟩ := hr.heap
      refine ⟨Nat.le_refl _, ?_, cs, ?_, by rw [a2, h3.len], fun i c₁ hc₁ => ?_⟩
      . show (g.Γ ((g.view ps E.d).J 0 s)).view ps E.d = _
        rw [hJ s k' s' hj, hr.perm]
        simp only [Perm.view, posOf_at hp hj]
      . show w.heap[(g.view ps E.d).J 0 s]? = _
        rw [hJ s k' s' hj, h3.ty]; exact a1
      . have hi : i < B.cells.length := by rw [← h3.len]; exact (List.getElem?_eq_some_iff.1 hc₁).1
        have hcc := List.getElem?_eq_getElem hi
        have hcr := h3.cell i _ c₁ hcc hc₁
        obtain ⟨b1, b2, b3, b4⟩ := a3 i _ hcc
        obtain ⟨s1, _, s3⟩ := cren_shape hcr
        refine ⟨(s1 ⟨b1, b2⟩).1, (s1 ⟨b1, b2⟩).2, fun e => ?_, ?_⟩
        . show BldAt ((g.view ps E.d).J 0 s) _
          rw [hJ s k' s' hj]; exact b3 (s3.2 e)
        . refine cell_ren hcr hlat (Nat.le_refl _) (fun e ho => own_view hp hj ho) ?_ b4
          intro a b j hq _ _
          obtain ⟨B2, B2', _, c2, _⟩ := hget j _ hq
          refine ⟨Nat.le_refl _, ⟨B2', ?_⟩, ?_⟩
          . show frGet j (frOf 0 Bs₁) = _
            rw [frGet_of0]; exact c2
          . show (g.view ps E.d).J 0 j = _
            rw [hJ j _ _ hq, Nat.add_comm]
    . simp [Mem.box?] at hbx
  have hr1 : RepDs ⟨1, memDom ([] :: [frOf 0 Bs₁])⟩ (g.view ps E.d) w [] ds₁ us := by
    refine hus.ren hlat ?_ hlen hds
    rintro k s k₁ s₁ ⟨k', rfl, rfl, hq⟩ h5 h6
    obtain ⟨B2, B2', _, c2, _⟩ := hget s₁ _ hq
    refine ⟨Nat.le_refl _, ⟨B2', ?_⟩, ?_⟩
    . show frGet s₁ (frOf 0 Bs₁) = _
      rw [frGet_of0]; exact c2
    . show (g.view ps E.d).J 0 s₁ = g.J (E.d + 1 - (k' + 1)) s
      rw [hJ _ _ _ hq, Nat.add_sub_add_right]
  refine body_sound hcx hf hb hro hl hargs hh1 hr1 h fun rs' us' m' E2 g2 w' q1 q2 q3 q4 q5 => ?_
  obtain ⟨r1, r2, own, Bs₂, rfl, r3⟩ := hrs rs' m' q1
  have held : Held g w ps E.d g2 w' := by
    refine ⟨fun b hb hs => (q5.hid b hb (still_perm hs)).1, fun b hb hs => (q5.hid b hb (still_perm hs)).2⟩
  have hJ2 : ∀ (j k s : Nat), ps[j]? = some (k, s) -> g2.J 0 j = g.J (E.d - k) s := fun j k s hj => by
    rw [q5.J 0 j (Nat.zero_lt_one), hJ j k s hj]
  have hsz2 : g2.sz = g.sz := q5.later.sz
  have hlat2 : Later g2 w' (g.unview ps E.d w.heap.size g2) w' := ⟨hsz2.symm, fun b o v h1 h2 => ⟨stable_unview held h1, h2⟩, fun b x h1 h2 => ⟨imm_unview held h1, h2⟩⟩
  have hlat' : Later g w (g.unview ps E.d w.heap.size g2) w' := (hlat.trans q5.later).trans hlat2
  have hdom2 : ∀ (j : Nat) (p : Nat × Nat), ps[j]? = some p -> ∃ B₂, frGet j (frOf 0 Bs₂) = some B₂ /\ ∃ B', Bs'[j]? = some B' /\ BRenX (fun k s i => ps[i]? = some (p.1 + k, s)) B' B₂ := fun j p hj => by
    have hj' : j < Bs'.length := by rw [hlen']; exact (List.getElem?_eq_some_iff.1 hj).1
    obtain ⟨B₂, h1, h2⟩ := r3 j p _ hj (List.getElem?_eq_getElem hj')
    exact ⟨B₂, by rw [frGet_of0]; exact h1, _, List.getElem?_eq_getElem hj', h2⟩
  have hdm : memDom (setAll ps Bs' m) = memDom m := by
    funext k s
    by_cases hx : ∃ j : Nat, ps[j]? = some (k, s)
    . obtain ⟨j, hj⟩ := hx
      obtain ⟨B₂, _, B', h1, _⟩ := hdom2 j _ hj
      obtain ⟨B, _, h2, _⟩ := hget j _ hj
      have h3 := setAll_get ps Bs' m j k s B' hone hj h1 (box_lt _ _ _ _ h2)
      exact propext ⟨fun _ => ⟨_, h2⟩, fun _ => ⟨_, h3⟩⟩
    . have := setAll_other ps Bs' m (k := k) (s := s) (fun j hj => hx ⟨j, hj⟩)
      unfold memDom; rw [this]
  refine ⟨us', g.unview ps E.d w.heap.size g2, E, rfl, ⟨hlat', rfl, fun _ _ h => h, fun _ _ _ _ => rfl, fun s e v ho => own_restore held rfl ho⟩, ⟨fun k s b hbx => ?_, ?_, hh.sk.later hlat', by rw [setAll_length]; exact hh.len⟩, ?_, ?_⟩
  . by_cases hx : ∃ j : Nat, ps[j]? = some (k, s)
    . obtain ⟨j, hj⟩ := hx
      obtain ⟨B₂, hB₂, B', h1, h2⟩ := hdom2 j _ hj
      obtain ⟨B, _, h3, _⟩ := hget j _ hj
      rw [setAll_get ps Bs' m j k s B' hone hj h1 (box_lt _ _ _ _ h3)] at hbx
      injection hbx with hbx
      subst hbx
      have hr := hh.mem _ _ _ h3
      have hr2 := q2.mem 1 j B₂ hB₂
      have hd2 : E2.d = 1 := q4
      obtain ⟨cs, a1, a2, a3⟩ := hr2.heap
      rw [hd2, hJ2 j k s hj] at a1
      have hp2 := hr2.perm
      rw [hd2, hJ2 j k s hj] at hp2
      refine ⟨hr.le, ?_, cs, by rw [← h2.ty]; exact a1, by rw [a2, h2.len], fun i c hc => ?_⟩
      . show (g.unview ps E.d w.heap.size g2).Γ (g.J (E.d - k) s) = _
        rw [unview_back]
        . rw [hp2]
          show (match ps[j]? with | some p => Perm.box (E.d - p.1) p.2 | none => .low 0) = _
          rw [hj]
        . rintro ⟨_, hs⟩
          rw [hr.perm] at hs
          simp only [Perm.view, posOf_at hp hj] at hs
          cases hs
      . have hi : i < B₂.cells.length := by rw [h2.len]; exact (List.getElem?_eq_some_iff.1 hc).1
        have hcc := List.getElem?_eq_getElem hi
        have hcr := h2.cell i c _ hc hcc
        obtain ⟨b1, b2, b3, b4⟩ := a3 i _ hcc
        rcases hcr with hcr | ⟨x, a, e1, e2⟩
        rotate_left
        . rw [e2] at b1 b4
          subst e1
          refine ⟨b1, rfl, fun e => (by cases e), ?_⟩
          cases a with
          | no => exact .v _ _ _ ((repV_of b4).later hlat2) trivial
          | nil e => exact .v _ _ _ ((repV_of b4).later hlat2) trivial
          | own p e => exact .v _ _ _ ((repV_of b4).later hlat2) trivial
        obtain ⟨_, s2, s3⟩ := cren_shape hcr
        refine ⟨(s2 ⟨b1, b2⟩).1, (s2 ⟨b1, b2⟩).2, fun e => ?_, ?_⟩
        . have := b3 (s3.1 e)
          rw [hd2, hJ2 j k s hj] at this
          exact this
        . refine cell_ren' hcr hlat2 hr.le (fun e ho => by rw [hd2] at ho; exact own_unview hsz2 held hj ho) ?_ b4
          intro a b j' hq _ _
          obtain ⟨B3, B3', c1, _, _⟩ := hget j' _ hq
          have hle := hp.le _ _ hq
          simp only at hle
          refine ⟨by omega, ?_, ?_⟩
          . rw [hh.dom, Nat.add_comm]; exact ⟨_, c1⟩
          . show g.J (E.d - (a + k)) b = g2.J (E2.d - (0 + 1)) j'
            rw [hd2, hJ2 j' _ _ hq, Nat.add_comm]
    . rw [setAll_other ps Bs' m (k := k) (s := s) (fun j hj => hx ⟨j, hj⟩)] at hbx
      have hr := hh.mem _ _ _ hbx
      obtain ⟨cs, a1, a2, a3⟩ := hr.heap
      have hn := posOf_none hp hr.le (fun j hj => hx ⟨j, hj⟩)
      have hlt := heap_lt a1
      have hs : ((g.Γ (g.J (E.d - k) s)).view ps E.d).still = true := by rw [hr.perm]; simp only [Perm.view, hn]; rfl
      refine ⟨hr.le, ?_, cs, ?_, a2, fun i c hc => ?_⟩
      . show (g.unview ps E.d w.heap.size g2).Γ (g.J (E.d - k) s) = _
        rw [unview_still hlt hs]; exact hr.perm
      . show w'.heap[g.J (E.d - k) s]? = _
        rw [held.heap _ hlt hs]; exact a1
      . obtain ⟨b1, b2, b3, b4⟩ := a3 i c hc
        refine ⟨b1, b2, b3, ?_⟩
        exact cell_move b2 b4 (by simp) (fun _ _ => true) hlat' rfl (fun _ _ h _ => h) (fun _ _ _ _ _ => rfl) (fun e v ho => own_restore held (by simp only [inP, hn, Option.map_none]) ho) (fun _ => true) (fun _ _ _ _ => rfl) (fun _ _ _ _ _ _ => rfl) (fun _ _ _ _ _ => rfl) (fun _ _ _ _ _ => rfl) rfl (fun _ _ => rfl)
  . rw [hdm]; exact hh.dom
  . have := q3.far_ (E' := E) (dead' := []) hlat2 r1
    rwa [r2] at this
  . refine ⟨q5.os, q5.tape, q5.output, q5.size, hlat', fun b hb hi => ?_, fun _ _ _ => rfl⟩
    have hs : ((g.Γ b).view ps E.d).still = true := by
      rcases hi with hi | ⟨n, hi⟩ <;> rw [hi] <;> rfl
    exact ⟨unview_still hb hs, held.heap b hb hs⟩
end
end Go.Proofs.Ytilfphdeacogmaa.En

/- The engine, part 2e: tables of functions that are given variables. -/
namespace Go.Proofs.Ytilfphdeacogmaa.En
open Go
set_option linter.unusedVariables false
structure MEnt where
  f : FuncId
  k : {R : Type} -> Nat -> List D -> Mem -> (List D -> Mem -> Option R) -> Option R
def tabMK {R : Type} : List MEnt -> FuncId -> Nat -> List D -> Mem -> (List D -> Mem -> Option R) -> Option R
  | [], _, _, _, _, _ => none
  | e :: r, g, dst, ds, m, K => cond (Nat.beq e.f g) (e.k dst ds m K) (tabMK r g dst ds m K)
def hasPlace (p : Nat × Nat) : List (Nat × Nat) -> Bool
  | [] => false
  | q :: r => cond (Nat.beq p.1 q.1) (cond (Nat.beq p.2 q.2) true (hasPlace p r)) (hasPlace p r)
def distinct : List (Nat × Nat) -> Bool
  | [] => true
  | p :: r => cond (hasPlace p r) false (distinct r)
def getAllK {R : Type} : List (Nat × Nat) -> Mem -> (List Bx -> Option R) -> Option R
  | [], _, K => K []
  | p :: r, m, K => (match m.box? p.1 p.2 with | some B => getAllK r m fun Bs => K (B :: Bs) | none => none)
def viewK {R : Type} (ps : List (Nat × Nat)) (m : Mem) (K : List Bx -> Option R) : Option R := cond (distinct ps) (getAllK ps m K) none
def putAllK {R : Type} : List (Nat × Nat) -> List Bx -> Mem -> (Mem -> Option R) -> Option R
  | p :: ps, B :: Bs, m, K => memPutK m p.1 p.2 B fun m => putAllK ps Bs m K
  | _, _, m, K => K m
def D.calm : D -> Bool
  | .v _ _ => true
  | .bld => true
  | .nilp => true
  | .nilF => true
  | .eptr _ _ => true
  | _ => false
def calmB : List Bx -> Bool
  | [] => true
  | B :: r => B.cells.all D.calm && calmB r
section
variable {R : Type} {P : Program} {T : TypeId -> Option Ty} {cx : Cx}
theorem hasPlace_of {p : Nat × Nat} : ∀ (l : List (Nat × Nat)), hasPlace p l = false -> ∀ j : Nat, l[j]? ≠ some p
  | [], _, j, h => by simp at h
  | q :: r, h, j, hj => by
    unfold hasPlace at h
    have hr : hasPlace p r = false := by
      cases h1 : Nat.beq p.1 q.1 <;> cases h2 : Nat.beq p.2 q.2 <;> rw [h1, h2] at h <;> simp at h <;> exact h
    rcases j with _ | j
    . simp at hj; subst hj
      simp at h
    . exact hasPlace_of r hr j (by simpa using hj)
theorem distinct_of : ∀ (l : List (Nat × Nat)), distinct l = true -> ∀ (i j : Nat) (p : Nat × Nat), l[i]? = some p -> l[j]? = some p -> i = j
  | [], _, i, j, p, h, _ => by simp at h
  | q :: r, h, i, j, p, h1, h2 => by
    unfold distinct at h
    cases hq : hasPlace q r with
    | true => rw [hq] at h; cases h
    | false =>
      rw [hq, cond_false] at h
      rcases i with _ | i <;> rcases j with _ | j
      . rfl
      . simp at h1; subst h1; exact absurd (by simpa using h2) (hasPlace_of r hq j)
      . simp at h2; subst h2; exact absurd (by simpa using h1) (hasPlace_of r hq i)
      . have := distinct_of r h i j p (by simpa using h1) (by simpa using h2)
        omega
theorem getAllK_some {m : Mem} : ∀ (ps : List (Nat × Nat)) (K : List Bx -> Option R) (r : R), getAllK ps m K = some r -> ∃ Bs, (∀ (j : Nat) (p : Nat × Nat), ps[j]? = some p -> ∃ B, m.box? p.1 p.2 = some B /\ Bs[j]? = some B) /\ Bs.length = ps.length /\ K Bs = some r
  | [], K, r, h => ⟨[], fun j p hj => by simp at hj, rfl, h⟩
  | p :: ps, K, r, h => by
    unfold getAllK at h
    split at h
    . rename_i B hB
      obtain ⟨Bs, h1, h2, h3⟩ := getAllK_some ps _ r h
      refine ⟨B :: Bs, fun j q hj => ?_, by simp [h2], h3⟩
      rcases j with _ | j
      . simp at hj; subst hj; exact ⟨B, hB, rfl⟩
      . simpa using h1 j q (by simpa using hj)
    . cases h
theorem viewK_some {ps : List (Nat × Nat)} {m : Mem} {K : List Bx -> Option R} {r : R} (h : viewK ps m K = some r) :
    ∃ Bs, (∀ (i j : Nat) (p : Nat × Nat), ps[i]? = some p -> ps[j]? = some p -> i = j) /\ (∀ (j : Nat) (p : Nat × Nat), ps[j]? = some p -> ∃ B, m.box? p.1 p.2 = some B /\ Bs[j]? = some B) /\ Bs.length = ps.length /\ K Bs = some r := by
  unfold viewK at h
  rcases cond_some h with ⟨h1, h⟩ | ⟨_, h⟩
  . obtain ⟨Bs, a, b, c⟩ := getAllK_some ps K r h
    exact ⟨Bs, distinct_of ps h1, a, b, c⟩
  . cases h
theorem putAllK_eq : ∀ (ps : List (Nat × Nat)) (Bs : List Bx) (m : Mem) (K : Mem -> Option R), putAllK ps Bs m K = K (setAll ps Bs m)
  | [], _, m, K => by simp [putAllK, setAll]
  | _ :: _, [], m, K => by simp [putAllK, setAll]
  | p :: ps, B :: Bs, m, K => by simp only [putAllK, setAll, memPutK_eq, putAllK_eq ps Bs]
def ARen (ps : List (Nat × Nat)) (y y₁ : D) : Prop := Ren (fun k s k₁ s₁ => ∃ k', k = k' + 1 /\ k₁ = 1 /\ ps[s₁]? = some (k', s)) y y₁
def ARens (ps : List (Nat × Nat)) : List D -> List D -> Prop
  | [], [] => True
  | y :: ys, y₁ :: ys₁ => ARen ps y y₁ /\ ARens ps ys ys₁
  | _, _ => False
theorem ARens.get {ps : List (Nat × Nat)} : ∀ {l l₁ : List D}, ARens ps l l₁ -> l₁.length = l.length /\ ∀ (i : Nat) y y₁, l[i]? = some y -> l₁[i]? = some y₁ -> ARen ps y y₁
  | [], [], _ => ⟨rfl, fun i y y₁ h => by simp at h⟩
  | y :: ys, y₁ :: ys₁, ⟨h1, h2⟩ => by
    obtain ⟨a, b⟩ := ARens.get h2
    refine ⟨by simp [a], fun i z z₁ hz hz₁ => ?_⟩
    rcases i with _ | i
    . simp at hz hz₁; subst hz hz₁; exact h1
    . exact b i z z₁ (by simpa using hz) (by simpa using hz₁)
theorem aren_ptr {ps : List (Nat × Nat)} {k s j : Nat} (o : Nat) (h : ps[j]? = some (k, s)) : ARen ps (.ptr (k + 1) s o) (.ptr 1 j o) := .ptr o ⟨k, rfl, rfl, h⟩
theorem aren_agg {ps : List (Nat × Nat)} {cs cs₁ : List D} (h : ARens ps cs cs₁) : ARen ps (.agg cs) (.agg cs₁) := .agg cs cs₁ h.get.1 h.get.2
theorem aren_v {ps : List (Nat × Nat)} (x : V) : ARen ps (.v x .no) (.v x .no) := .v x
def ViewRet (P : Program) (T : TypeId -> Option Ty) (f : FuncId) (ds₁ : List D) (Bs : List Bx) (rs : List D) (Bs' : List Bx) : Prop :=
  ∀ (ps : List (Nat × Nat)) (ds : List D) (m : Mem) (dst : Nat), (∀ (i j : Nat) (p : Nat × Nat), ps[i]? = some p -> ps[j]? = some p -> i = j) ->
    (∀ (j : Nat) (p : Nat × Nat), ps[j]? = some p -> ∃ B, m.box? p.1 p.2 = some B /\ Bs[j]? = some B) -> Bs.length = ps.length -> ARens ps ds ds₁ -> MemRet P T f dst ds m rs (setAll ps Bs' m)
theorem calm_ren {Q : Nat -> Nat -> Nat -> Prop} {c : D} (h : c.calm = true) : CRen Q c c := by
  cases c with
  | v x a => exact .v x a
  | bld => exact .bld
  | nilp => exact .ren (by simp) (by simp) rfl rfl rfl rfl (by simp) .nilp
  | nilF => exact .ren (by simp) (by simp) rfl rfl rfl rfl (by simp) .nilF
  | eptr cs o => exact .ren (by simp) (by simp) rfl rfl rfl rfl (by simp) (.eptr cs o)
  | _ => cases h
theorem calmB_get : ∀ (Bs : List Bx), calmB Bs = true -> ∀ (j : Nat) B, Bs[j]? = some B -> ∀ {Q : Nat -> Nat -> Nat -> Prop}, BRen Q B B
  | [], _, j, B, h => by simp at h
  | B :: Bs, h, j, B', hj => by
    simp only [calmB, Bool.and_eq_true] at h
    rcases j with _ | j
    . simp at hj; subst hj
      refine ⟨rfl, rfl, fun i c c₁ h1 h2 => ?_⟩
      rw [h1] at h2
      injection h2 with h2
      subst h2
      exact calm_ren (List.all_eq_true.1 h.1 c (List.mem_of_getElem? h1))
    . exact calmB_get Bs h.2 j B' (by simpa using hj)
structure MEntOK (P : Program) (T : TypeId -> Option Ty) (e : MEnt) : Prop where
  goes : Goes P e.f
  ret : ∀ (R : Type) (dst : Nat) (ds : List D) (m : Mem) (K : List D -> Mem -> Option R) (r : R), e.k dst ds m K = some r -> ∃ rs m', K rs m' = some r /\ MemRet P T e.f dst ds m rs m'
def MEntsOK (P : Program) (T : TypeId -> Option Ty) : List MEnt -> Prop
  | [] => True
  | e :: r => MEntOK P T e /\ MEntsOK P T r
theorem tabMK_ok {g : FuncId} {dst : Nat} {ds : List D} {m : Mem} {K : List D -> Mem -> Option R} {r : R} : ∀ (l : List MEnt), MEntsOK P T l -> tabMK l g dst ds m K = some r -> ∃ rs m', K rs m' = some r /\ Goes P g /\ MemRet P T g dst ds m rs m'
  | [], _, h => by cases h
  | e :: l, ho, h => by
    unfold tabMK at h
    cases hb : Nat.beq e.f g with
    | true =>
      have he := Nat.eq_of_beq_eq_true hb
      rw [hb, cond_true] at h
      obtain ⟨rs, m', h1, h2⟩ := ho.1.ret R dst ds m K r h
      subst he
      exact ⟨rs, m', h1, ho.1.goes, h2⟩
    | false => rw [hb, cond_false] at h; exact tabMK_ok l ho.2 h
structure SEnt where
  f : FuncId
  k : {R : Type} -> List D -> Mem -> (List D -> Option R) -> Option R
def tabQ : List SEnt -> FuncId -> Bool
  | [], _ => false
  | e :: r, g => cond (Nat.beq e.f g) true (tabQ r g)
def tabSK {R : Type} : List SEnt -> FuncId -> List D -> Mem -> (List D -> Option R) -> Option R
  | [], _, _, _, _ => none
  | e :: r, g, ds, m, K => cond (Nat.beq e.f g) (e.k ds m K) (tabSK r g ds m K)
structure SEntOK (P : Program) (T : TypeId -> Option Ty) (e : SEnt) : Prop where
  goes : Goes P e.f
  ret : ∀ (R : Type) (ds : List D) (m : Mem) (K : List D -> Option R) (r : R), e.k ds m K = some r -> ∃ rs, K rs = some r /\ StillRet P T e.f ds m rs
  b : ∀ (R : Type) (ds : List D) (m : Mem) (K : List D -> Option R), e.k ds m K = (e.k ds m some).bind K
def SEntsOK (P : Program) (T : TypeId -> Option Ty) : List SEnt -> Prop
  | [] => True
  | e :: r => SEntOK P T e /\ SEntsOK P T r
theorem tabSK_ok {g : FuncId} {ds : List D} {m : Mem} {K : List D -> Option R} {r : R} : ∀ (l : List SEnt), SEntsOK P T l -> tabSK l g ds m K = some r -> ∃ rs, K rs = some r /\ Goes P g /\ StillRet P T g ds m rs
  | [], _, h => by cases h
  | e :: l, ho, h => by
    unfold tabSK at h
    cases hb : Nat.beq e.f g with
    | true =>
      have he := Nat.eq_of_beq_eq_true hb
      rw [hb, cond_true] at h
      obtain ⟨rs, h1, h2⟩ := ho.1.ret R ds m K r h
      subst he
      exact ⟨rs, h1, ho.1.goes, h2⟩
    | false => rw [hb, cond_false] at h; exact tabSK_ok l ho.2 h
theorem tabSK_b {g : FuncId} {ds : List D} {m : Mem} {K : List D -> Option R} : ∀ (l : List SEnt), SEntsOK P T l -> tabSK l g ds m K = (tabSK l g ds m some).bind K
  | [], _ => rfl
  | e :: l, ho => by
    unfold tabSK
    cases Nat.beq e.f g with
    | true => exact ho.1.b R ds m K
    | false => exact tabSK_b l ho.2
theorem cxOK_of3 {es : List Ent} {me : List MEnt} {ms : List Met} {ss : List SEnt} (hT : TypesOK P cx.T) (hes : EntsOK P cx.T es) (hme : MEntsOK P cx.T me) (hms : MetsOK P ms) (hss : SEntsOK P cx.T ss) (h1 : cx.isPure = tabP es) (h2 : ∀ (R : Type) (g : FuncId) (ds : List D) (K : List D -> Option R), cx.pureK g ds K = tabK es g ds K)
    (h3 : ∀ (R : Type) (g : FuncId) (dst : Nat) (ds : List D) (m : Mem) (K : List D -> Mem -> Option R), cx.memK g dst ds m K = tabMK me g dst ds m K) (h4 : cx.meth = tabM ms) (h5 : ∀ (R : Type) (g : FuncId) (ds : List D) (m : Mem) (K : List D -> Option R), cx.stillK g ds m K = tabSK ss g ds m K) : CxOK P cx := by
  refine ⟨hT, fun R g ds K r _ h => ?_, fun R g dst ds m K r _ _ h => ?_, fun R g ds m K r _ h => ?_, ⟨fun R g ds K => ?_, fun R g ds m K => ?_⟩, fun t n f h => ?_⟩
  . rw [h2] at h; exact tabK_ok es hes h
  . rw [h3] at h; exact tabMK_ok me hme h
  . rw [h5] at h; exact tabSK_ok ss hss h
  . rw [h2, h2]; exact tabK_b es hes
  . rw [h5, h5]; exact tabSK_b ss hss
  . rw [h4] at h; exact tabM_ok ms hms h
theorem cxOK_of2 {es : List Ent} {me : List MEnt} {ms : List Met} (hT : TypesOK P cx.T) (hes : EntsOK P cx.T es) (hme : MEntsOK P cx.T me) (hms : MetsOK P ms) (h1 : cx.isPure = tabP es) (h2 : ∀ (R : Type) (g : FuncId) (ds : List D) (K : List D -> Option R), cx.pureK g ds K = tabK es g ds K)
    (h3 : ∀ (R : Type) (g : FuncId) (dst : Nat) (ds : List D) (m : Mem) (K : List D -> Mem -> Option R), cx.memK g dst ds m K = tabMK me g dst ds m K) (h4 : cx.meth = tabM ms) (h5 : ∀ (R : Type) (g : FuncId) (ds : List D) (m : Mem) (K : List D -> Option R), cx.stillK g ds m K = none := by intros; rfl) : CxOK P cx :=
  cxOK_of3 (ss := []) hT hes hme hms trivial h1 h2 h3 h4 h5
end
end Go.Proofs.Ytilfphdeacogmaa.En

/- The engine's table of types, printed by a program. -/
namespace Go.Proofs.Ytilfphdeacogmaa.En
open Go
def ty2 : Ty := { desc := .int .i64, cks := [(.int .i64)], nbytes := 8 }
def ty3 : Ty := { desc := .int .i64, cks := [(.int .i64)], nbytes := 8 }
def ty4 : Ty := { desc := .bool, cks := [.bool], nbytes := 1 }
def ty5 : Ty := { desc := .int .u8, cks := [(.int .u8)], nbytes := 1 }
def ty6 : Ty := { desc := .int .u8, cks := [(.int .u8)], nbytes := 1 }
def ty7 : Ty := { desc := .struct #[⟨ "x", 2, 0, false, "", "runtime", 0⟩, ⟨ "y", 3, 1, false, "", "runtime", 8⟩, ⟨ "signed", 4, 2, false, "", "runtime", 16⟩, ⟨ "code", 6, 3, false, "", "runtime", 17⟩], cks := [(.int .i64), (.int .i64), .bool, (.int .u8)], nbytes := 24 }
def ty8 : Ty := { desc := .struct #[⟨ "x", 2, 0, false, "", "runtime", 0⟩, ⟨ "y", 3, 1, false, "", "runtime", 8⟩, ⟨ "signed", 4, 2, false, "", "runtime", 16⟩, ⟨ "code", 6, 3, false, "", "runtime", 17⟩], cks := [(.int .i64), (.int .i64), .bool, (.int .u8)], nbytes := 24 }
def ty9 : Ty := { desc := .string, cks := [.str], nbytes := 16 }
def ty10 : Ty := { desc := .string, cks := [.str], nbytes := 16 }
def ty11 : Ty := { desc := .string, cks := [.str], nbytes := 16 }
def ty12 : Ty := { desc := .int .u64, cks := [(.int .u64)], nbytes := 8 }
def ty13 : Ty := { desc := .struct #[⟨ "msg", 9, 0, false, "", "runtime", 0⟩, ⟨ "addr", 12, 1, false, "", "runtime", 16⟩], cks := [.str, (.int .u64)], nbytes := 24 }
def ty14 : Ty := { desc := .struct #[⟨ "msg", 9, 0, false, "", "runtime", 0⟩, ⟨ "addr", 12, 1, false, "", "runtime", 16⟩], cks := [.str, (.int .u64)], nbytes := 24 }
def ty15 : Ty := { desc := .pointer 142, cks := [.ptr], nbytes := 8 }
def ty16 : Ty := { desc := .pointer 145, cks := [.ptr], nbytes := 8 }
def ty17 : Ty := { desc := .pointer 155, cks := [.ptr], nbytes := 8 }
def ty18 : Ty := { desc := .struct #[⟨ "typ", 17, 0, false, "", "internal/runtime/maps", 0⟩], cks := [.ptr], nbytes := 8 }
def ty19 : Ty := { desc := .struct #[⟨ "typ", 17, 0, false, "", "internal/runtime/maps", 0⟩], cks := [.ptr], nbytes := 8 }
def ty20 : Ty := { desc := .interface #[], cks := [.iface], nbytes := 16 }
def ty21 : Ty := { desc := .int .i32, cks := [(.int .i32)], nbytes := 4 }
def ty22 : Ty := { desc := .slice 38, cks := [(.slc 38)], nbytes := 24 }
def ty25 : Ty := { desc := .pointer 77, cks := [.ptr], nbytes := 8 }
def ty27 : Ty := { desc := .slice 5, cks := [(.bytes 5)], nbytes := 24 }
def ty28 : Ty := { desc := .struct #[⟨ "NAD", 3, 0, false, "", "", 0⟩, ⟨ "Kind", 3, 1, false, "", "", 8⟩, ⟨ "Seq", 3, 2, false, "", "", 16⟩, ⟨ "More", 4, 3, false, "", "", 24⟩, ⟨ "Code", 3, 4, false, "", "", 32⟩, ⟨ "Answer", 4, 5, false, "", "", 40⟩, ⟨ "Inf", 27, 6, false, "", "", 48⟩], cks := [(.int .i64), (.int .i64), (.int .i64), .bool, (.int .i64), .bool, (.bytes 5)], nbytes := 72 }
def ty29 : Ty := { desc := .struct #[⟨ "NAD", 3, 0, false, "", "", 0⟩, ⟨ "Kind", 3, 1, false, "", "", 8⟩, ⟨ "Seq", 3, 2, false, "", "", 16⟩, ⟨ "More", 4, 3, false, "", "", 24⟩, ⟨ "Code", 3, 4, false, "", "", 32⟩, ⟨ "Answer", 4, 5, false, "", "", 40⟩, ⟨ "Inf", 27, 6, false, "", "", 48⟩], cks := [(.int .i64), (.int .i64), (.int .i64), .bool, (.int .i64), .bool, (.bytes 5)], nbytes := 72 }
def ty30 : Ty := { desc := .slice 27, cks := [(.slc 27)], nbytes := 24 }
def ty31 : Ty := { desc := .struct #[⟨ "Sum", 3, 0, false, "", "", 0⟩, ⟨ "Own", 3, 1, false, "", "", 8⟩, ⟨ "Other", 3, 2, false, "", "", 16⟩, ⟨ "Expect", 3, 3, false, "", "", 24⟩, ⟨ "Next", 3, 4, false, "", "", 32⟩, ⟨ "Has", 4, 5, false, "", "", 40⟩, ⟨ "Sent", 29, 6, false, "", "", 48⟩, ⟨ "Pieces", 30, 13, false, "", "", 120⟩, ⟨ "In", 27, 14, false, "", "", 144⟩], cks := [(.int .i64), (.int .i64), (.int .i64), (.int .i64), (.int .i64), .bool, (.int .i64), (.int .i64), (.int .i64), .bool, (.int .i64), .bool, (.bytes 5), (.slc 27), (.bytes 5)], nbytes := 168 }
def ty32 : Ty := { desc := .struct #[⟨ "Sum", 3, 0, false, "", "", 0⟩, ⟨ "Own", 3, 1, false, "", "", 8⟩, ⟨ "Other", 3, 2, false, "", "", 16⟩, ⟨ "Expect", 3, 3, false, "", "", 24⟩, ⟨ "Next", 3, 4, false, "", "", 32⟩, ⟨ "Has", 4, 5, false, "", "", 40⟩, ⟨ "Sent", 29, 6, false, "", "", 48⟩, ⟨ "Pieces", 30, 13, false, "", "", 120⟩, ⟨ "In", 27, 14, false, "", "", 144⟩], cks := [(.int .i64), (.int .i64), (.int .i64), (.int .i64), (.int .i64), .bool, (.int .i64), (.int .i64), (.int .i64), .bool, (.int .i64), .bool, (.bytes 5), (.slc 27), (.bytes 5)], nbytes := 168 }
def ty33 : Ty := { desc := .struct #[⟨ "S", 32, 0, false, "", "", 0⟩, ⟨ "State", 3, 15, false, "", "", 168⟩, ⟨ "Time", 3, 16, false, "", "", 176⟩], cks := [(.int .i64), (.int .i64), (.int .i64), (.int .i64), (.int .i64), .bool, (.int .i64), (.int .i64), (.int .i64), .bool, (.int .i64), .bool, (.bytes 5), (.slc 27), (.bytes 5), (.int .i64), (.int .i64)], nbytes := 184 }
def ty34 : Ty := { desc := .struct #[⟨ "S", 32, 0, false, "", "", 0⟩, ⟨ "State", 3, 15, false, "", "", 168⟩, ⟨ "Time", 3, 16, false, "", "", 176⟩], cks := [(.int .i64), (.int .i64), (.int .i64), (.int .i64), (.int .i64), .bool, (.int .i64), (.int .i64), (.int .i64), .bool, (.int .i64), .bool, (.bytes 5), (.slc 27), (.bytes 5), (.int .i64), (.int .i64)], nbytes := 184 }
def ty37 : Ty := { desc := .struct #[⟨ "Kind", 3, 0, false, "", "", 0⟩, ⟨ "N", 3, 1, false, "", "", 8⟩, ⟨ "B", 27, 2, false, "", "", 16⟩], cks := [(.int .i64), (.int .i64), (.bytes 5)], nbytes := 40 }
def ty38 : Ty := { desc := .struct #[⟨ "Kind", 3, 0, false, "", "", 0⟩, ⟨ "N", 3, 1, false, "", "", 8⟩, ⟨ "B", 27, 2, false, "", "", 16⟩], cks := [(.int .i64), (.int .i64), (.bytes 5)], nbytes := 40 }
def ty49 : Ty := { desc := .pointer 95, cks := [.ptr], nbytes := 8 }
def ty51 : Ty := { desc := .int .i64, cks := [(.int .i64)], nbytes := 8 }
def ty57 : Ty := { desc := .struct #[⟨ "S", 32, 0, false, "", "", 0⟩, ⟨ "State", 3, 15, false, "", "", 168⟩, ⟨ "Offered", 3, 16, false, "", "", 176⟩, ⟨ "Failures", 3, 17, false, "", "", 184⟩, ⟨ "Done", 4, 18, false, "", "", 192⟩, ⟨ "Error", 51, 19, false, "", "", 200⟩], cks := [(.int .i64), (.int .i64), (.int .i64), (.int .i64), (.int .i64), .bool, (.int .i64), (.int .i64), (.int .i64), .bool, (.int .i64), .bool, (.bytes 5), (.slc 27), (.bytes 5), (.int .i64), (.int .i64), (.int .i64), .bool, (.int .i64)], nbytes := 208 }
def ty58 : Ty := { desc := .struct #[⟨ "S", 32, 0, false, "", "", 0⟩, ⟨ "State", 3, 15, false, "", "", 168⟩, ⟨ "Offered", 3, 16, false, "", "", 176⟩, ⟨ "Failures", 3, 17, false, "", "", 184⟩, ⟨ "Done", 4, 18, false, "", "", 192⟩, ⟨ "Error", 51, 19, false, "", "", 200⟩], cks := [(.int .i64), (.int .i64), (.int .i64), (.int .i64), (.int .i64), .bool, (.int .i64), (.int .i64), (.int .i64), .bool, (.int .i64), .bool, (.bytes 5), (.slc 27), (.bytes 5), (.int .i64), (.int .i64), (.int .i64), .bool, (.int .i64)], nbytes := 208 }
def ty65 : Ty := { desc := .slice 70, cks := [(.slc 70)], nbytes := 24 }
def ty66 : Ty := { desc := .pointer 106, cks := [.ptr], nbytes := 8 }
def ty68 : Ty := { desc := .slice 110, cks := [(.slc 110)], nbytes := 24 }
def ty69 : Ty := { desc := .struct #[⟨ "Command", 27, 0, false, "", "", 0⟩, ⟨ "Response", 27, 1, false, "", "", 24⟩, ⟨ "Links", 68, 2, false, "", "", 48⟩, ⟨ "Time", 3, 3, false, "", "", 72⟩], cks := [(.bytes 5), (.bytes 5), (.slc 110), (.int .i64)], nbytes := 80 }
def ty70 : Ty := { desc := .struct #[⟨ "Command", 27, 0, false, "", "", 0⟩, ⟨ "Response", 27, 1, false, "", "", 24⟩, ⟨ "Links", 68, 2, false, "", "", 48⟩, ⟨ "Time", 3, 3, false, "", "", 72⟩], cks := [(.bytes 5), (.bytes 5), (.slc 110), (.int .i64)], nbytes := 80 }
def ty74 : Ty := { desc := .struct #[⟨ "sum", 3, 0, false, "", "smartcard/tone", 0⟩, ⟨ "own", 3, 1, false, "", "smartcard/tone", 8⟩, ⟨ "other", 3, 2, false, "", "smartcard/tone", 16⟩, ⟨ "expect", 3, 3, false, "", "smartcard/tone", 24⟩, ⟨ "next", 3, 4, false, "", "smartcard/tone", 32⟩, ⟨ "sent", 27, 5, false, "", "smartcard/tone", 40⟩, ⟨ "sentSeq", 3, 6, false, "", "smartcard/tone", 64⟩, ⟨ "pieces", 30, 7, false, "", "smartcard/tone", 72⟩, ⟨ "in", 27, 8, false, "", "smartcard/tone", 96⟩], cks := [(.int .i64), (.int .i64), (.int .i64), (.int .i64), (.int .i64), (.bytes 5), (.int .i64), (.slc 27), (.bytes 5)], nbytes := 120 }
def ty75 : Ty := { desc := .struct #[⟨ "sum", 3, 0, false, "", "smartcard/tone", 0⟩, ⟨ "own", 3, 1, false, "", "smartcard/tone", 8⟩, ⟨ "other", 3, 2, false, "", "smartcard/tone", 16⟩, ⟨ "expect", 3, 3, false, "", "smartcard/tone", 24⟩, ⟨ "next", 3, 4, false, "", "smartcard/tone", 32⟩, ⟨ "sent", 27, 5, false, "", "smartcard/tone", 40⟩, ⟨ "sentSeq", 3, 6, false, "", "smartcard/tone", 64⟩, ⟨ "pieces", 30, 7, false, "", "smartcard/tone", 72⟩, ⟨ "in", 27, 8, false, "", "smartcard/tone", 96⟩], cks := [(.int .i64), (.int .i64), (.int .i64), (.int .i64), (.int .i64), (.bytes 5), (.int .i64), (.slc 27), (.bytes 5)], nbytes := 120 }
def ty76 : Ty := { desc := .struct #[⟨ "counters", 75, 0, true, "", "smartcard/tone", 0⟩, ⟨ "state", 3, 9, false, "", "smartcard/tone", 120⟩, ⟨ "asked", 27, 10, false, "", "smartcard/tone", 128⟩], cks := [(.int .i64), (.int .i64), (.int .i64), (.int .i64), (.int .i64), (.bytes 5), (.int .i64), (.slc 27), (.bytes 5), (.int .i64), (.bytes 5)], nbytes := 152 }
def ty77 : Ty := { desc := .struct #[⟨ "counters", 75, 0, true, "", "smartcard/tone", 0⟩, ⟨ "state", 3, 9, false, "", "smartcard/tone", 120⟩, ⟨ "asked", 27, 10, false, "", "smartcard/tone", 128⟩], cks := [(.int .i64), (.int .i64), (.int .i64), (.int .i64), (.int .i64), (.bytes 5), (.int .i64), (.slc 27), (.bytes 5), (.int .i64), (.bytes 5)], nbytes := 152 }
def ty94 : Ty := { desc := .struct #[⟨ "counters", 75, 0, true, "", "smartcard/tone", 0⟩, ⟨ "state", 3, 9, false, "", "smartcard/tone", 120⟩, ⟨ "failures", 3, 10, false, "", "smartcard/tone", 128⟩, ⟨ "offered", 27, 11, false, "", "smartcard/tone", 136⟩, ⟨ "complete", 4, 12, false, "", "smartcard/tone", 160⟩, ⟨ "cause", 51, 13, false, "", "smartcard/tone", 168⟩], cks := [(.int .i64), (.int .i64), (.int .i64), (.int .i64), (.int .i64), (.bytes 5), (.int .i64), (.slc 27), (.bytes 5), (.int .i64), (.int .i64), (.bytes 5), .bool, (.int .i64)], nbytes := 176 }
def ty95 : Ty := { desc := .struct #[⟨ "counters", 75, 0, true, "", "smartcard/tone", 0⟩, ⟨ "state", 3, 9, false, "", "smartcard/tone", 120⟩, ⟨ "failures", 3, 10, false, "", "smartcard/tone", 128⟩, ⟨ "offered", 27, 11, false, "", "smartcard/tone", 136⟩, ⟨ "complete", 4, 12, false, "", "smartcard/tone", 160⟩, ⟨ "cause", 51, 13, false, "", "smartcard/tone", 168⟩], cks := [(.int .i64), (.int .i64), (.int .i64), (.int .i64), (.int .i64), (.bytes 5), (.int .i64), (.slc 27), (.bytes 5), (.int .i64), (.int .i64), (.bytes 5), .bool, (.int .i64)], nbytes := 176 }
def ty105 : Ty := { desc := .struct #[⟨ "t", 49, 0, false, "", "smartcard/smartcardlaw08", 0⟩, ⟨ "c", 25, 1, false, "", "smartcard/smartcardlaw08", 8⟩, ⟨ "n", 3, 2, false, "", "smartcard/smartcardlaw08", 16⟩, ⟨ "asked", 4, 3, false, "", "smartcard/smartcardlaw08", 24⟩, ⟨ "times", 3, 4, false, "", "smartcard/smartcardlaw08", 32⟩, ⟨ "right", 4, 5, false, "", "smartcard/smartcardlaw08", 40⟩], cks := [.ptr, .ptr, (.int .i64), .bool, (.int .i64), .bool], nbytes := 48 }
def ty106 : Ty := { desc := .struct #[⟨ "t", 49, 0, false, "", "smartcard/smartcardlaw08", 0⟩, ⟨ "c", 25, 1, false, "", "smartcard/smartcardlaw08", 8⟩, ⟨ "n", 3, 2, false, "", "smartcard/smartcardlaw08", 16⟩, ⟨ "asked", 4, 3, false, "", "smartcard/smartcardlaw08", 24⟩, ⟨ "times", 3, 4, false, "", "smartcard/smartcardlaw08", 32⟩, ⟨ "right", 4, 5, false, "", "smartcard/smartcardlaw08", 40⟩], cks := [.ptr, .ptr, (.int .i64), .bool, (.int .i64), .bool], nbytes := 48 }
def ty109 : Ty := { desc := .struct #[⟨ "Lost", 4, 0, false, "", "", 0⟩, ⟨ "Flip", 3, 1, false, "", "", 8⟩], cks := [.bool, (.int .i64)], nbytes := 16, eqb := true }
def ty110 : Ty := { desc := .struct #[⟨ "Lost", 4, 0, false, "", "", 0⟩, ⟨ "Flip", 3, 1, false, "", "", 8⟩], cks := [.bool, (.int .i64)], nbytes := 16, eqb := true }
def ty111 : Ty := { desc := .pointer 75, cks := [.ptr], nbytes := 8 }
def ty122 : Ty := { desc := .int .u64, cks := [(.int .u64)], nbytes := 8 }
def ty124 : Ty := { desc := .interface #[("smartcard/block.control", 98), ("smartcard/block.parse", 130), ("smartcard/block.words", 156)], cks := [.iface], nbytes := 16 }
def ty125 : Ty := { desc := .interface #[("smartcard/block.control", 98), ("smartcard/block.parse", 130), ("smartcard/block.words", 156)], cks := [.iface], nbytes := 16 }
def ty126 : Ty := { desc := .struct #[], cks := [], nbytes := 0 }
def ty127 : Ty := { desc := .struct #[], cks := [], nbytes := 0 }
def ty128 : Ty := { desc := .struct #[], cks := [], nbytes := 0 }
def ty129 : Ty := { desc := .struct #[], cks := [], nbytes := 0 }
def ty136 : Ty := { desc := .int .u16, cks := [(.int .u16)], nbytes := 2 }
def ty141 : Ty := { desc := .struct #[⟨ "_interface", 17, 0, false, "", "runtime", 0⟩, ⟨ "concrete", 17, 1, false, "", "runtime", 8⟩, ⟨ "asserted", 17, 2, false, "", "runtime", 16⟩, ⟨ "missingMethod", 9, 3, false, "", "runtime", 24⟩], cks := [.ptr, .ptr, .ptr, .str], nbytes := 40 }
def ty142 : Ty := { desc := .struct #[⟨ "_interface", 17, 0, false, "", "runtime", 0⟩, ⟨ "concrete", 17, 1, false, "", "runtime", 8⟩, ⟨ "asserted", 17, 2, false, "", "runtime", 16⟩, ⟨ "missingMethod", 9, 3, false, "", "runtime", 24⟩], cks := [.ptr, .ptr, .ptr, .str], nbytes := 40 }
def ty143 : Ty := { desc := .array 0 16, cks := [], nbytes := 0 }
def ty144 : Ty := { desc := .struct #[⟨ "_", 143, 0, false, "", "runtime", 0⟩], cks := [], nbytes := 0 }
def ty145 : Ty := { desc := .struct #[⟨ "_", 143, 0, false, "", "runtime", 0⟩], cks := [], nbytes := 0 }
def ty147 : Ty := { desc := .int .u32, cks := [(.int .u32)], nbytes := 4 }
def ty148 : Ty := { desc := .int .u8, cks := [(.int .u8)], nbytes := 1 }
def ty149 : Ty := { desc := .int .u8, cks := [(.int .u8)], nbytes := 1 }
def ty151 : Ty := { desc := .pointer 5, cks := [.ptr], nbytes := 8 }
def ty152 : Ty := { desc := .int .i32, cks := [(.int .i32)], nbytes := 4 }
def ty153 : Ty := { desc := .int .i32, cks := [(.int .i32)], nbytes := 4 }
def ty154 : Ty := { desc := .struct #[⟨ "Size_", 12, 0, false, "", "", 0⟩, ⟨ "PtrBytes", 12, 1, false, "", "", 8⟩, ⟨ "Hash", 147, 2, false, "", "", 16⟩, ⟨ "TFlag", 148, 3, false, "", "", 20⟩, ⟨ "Align_", 5, 4, false, "", "", 21⟩, ⟨ "FieldAlign_", 5, 5, false, "", "", 22⟩, ⟨ "Kind_", 149, 6, false, "", "", 23⟩, ⟨ "Equal", 150, 7, false, "", "", 24⟩, ⟨ "GCData", 151, 8, false, "", "", 32⟩, ⟨ "Str", 152, 9, false, "", "", 40⟩, ⟨ "PtrToThis", 153, 10, false, "", "", 44⟩], cks := [(.int .u64), (.int .u64), (.int .u32), (.int .u8), (.int .u8), (.int .u8), (.int .u8), .func, .ptr, (.int .i32), (.int .i32)], nbytes := 48 }
def ty155 : Ty := { desc := .struct #[⟨ "Size_", 12, 0, false, "", "", 0⟩, ⟨ "PtrBytes", 12, 1, false, "", "", 8⟩, ⟨ "Hash", 147, 2, false, "", "", 16⟩, ⟨ "TFlag", 148, 3, false, "", "", 20⟩, ⟨ "Align_", 5, 4, false, "", "", 21⟩, ⟨ "FieldAlign_", 5, 5, false, "", "", 22⟩, ⟨ "Kind_", 149, 6, false, "", "", 23⟩, ⟨ "Equal", 150, 7, false, "", "", 24⟩, ⟨ "GCData", 151, 8, false, "", "", 32⟩, ⟨ "Str", 152, 9, false, "", "", 40⟩, ⟨ "PtrToThis", 153, 10, false, "", "", 44⟩], cks := [(.int .u64), (.int .u64), (.int .u32), (.int .u8), (.int .u8), (.int .u8), (.int .u8), .func, .ptr, (.int .i32), (.int .i32)], nbytes := 48 }
def ty159 : Ty := { desc := .slice 9, cks := [(.slc 9)], nbytes := 24 }
def T0 (t : TypeId) : Option Ty :=
  (match Nat.blt t 79 with
  | true => (match Nat.blt t 37 with
   | true => (match Nat.blt t 18 with
    | true => (match Nat.blt t 9 with
     | true => (match Nat.blt t 5 with
      | true => (match Nat.blt t 3 with
       | true => (match Nat.blt t 2 with
        | true => none
        | false => (match t == 2 with | true => some ty2 | false => none))
       | false => (match Nat.blt t 4 with
        | true => (match t == 3 with | true => some ty3 | false => none)
        | false => (match t == 4 with | true => some ty4 | false => none)))
      | false => (match Nat.blt t 7 with
       | true => (match Nat.blt t 6 with
        | true => (match t == 5 with | true => some ty5 | false => none)
        | false => (match t == 6 with | true => some ty6 | false => none))
       | false => (match Nat.blt t 8 with
        | true => (match t == 7 with | true => some ty7 | false => none)
        | false => (match t == 8 with | true => some ty8 | false => none))))
     | false => (match Nat.blt t 13 with
      | true => (match Nat.blt t 11 with
       | true => (match Nat.blt t 10 with
        | true => (match t == 9 with | true => some ty9 | false => none)
        | false => (match t == 10 with | true => some ty10 | false => none))
       | false => (match Nat.blt t 12 with
        | true => (match t == 11 with | true => some ty11 | false => none)
        | false => (match t == 12 with | true => some ty12 | false => none)))
      | false => (match Nat.blt t 15 with
       | true => (match Nat.blt t 14 with
        | true => (match t == 13 with | true => some ty13 | false => none)
        | false => (match t == 14 with | true => some ty14 | false => none))
       | false => (match Nat.blt t 16 with
        | true => (match t == 15 with | true => some ty15 | false => none)
        | false => (match Nat.blt t 17 with
         | true => (match t == 16 with | true => some ty16 | false => none)
         | false => (match t == 17 with | true => some ty17 | false => none))))))
    | false => (match Nat.blt t 27 with
     | true => (match Nat.blt t 22 with
      | true => (match Nat.blt t 20 with
       | true => (match Nat.blt t 19 with
        | true => (match t == 18 with | true => some ty18 | false => none)
        | false => (match t == 19 with | true => some ty19 | false => none))
       | false => (match Nat.blt t 21 with
        | true => (match t == 20 with | true => some ty20 | false => none)
        | false => (match t == 21 with | true => some ty21 | false => none)))
      | false => (match Nat.blt t 24 with
       | true => (match Nat.blt t 23 with
        | true => (match t == 22 with | true => some ty22 | false => none)
        | false => none)
       | false => (match Nat.blt t 25 with
        | true => none
        | false => (match Nat.blt t 26 with
         | true => (match t == 25 with | true => some ty25 | false => none)
         | false => none))))
     | false => (match Nat.blt t 31 with
      | true => (match Nat.blt t 29 with
       | true => (match Nat.blt t 28 with
        | true => (match t == 27 with | true => some ty27 | false => none)
        | false => (match t == 28 with | true => some ty28 | false => none))
       | false => (match Nat.blt t 30 with
        | true => (match t == 29 with | true => some ty29 | false => none)
        | false => (match t == 30 with | true => some ty30 | false => none)))
      | false => (match Nat.blt t 33 with
       | true => (match Nat.blt t 32 with
        | true => (match t == 31 with | true => some ty31 | false => none)
        | false => (match t == 32 with | true => some ty32 | false => none))
       | false => (match Nat.blt t 34 with
        | true => (match t == 33 with | true => some ty33 | false => none)
        | false => (match Nat.blt t 36 with
         | true => (match t == 34 with | true => some ty34 | false => none)
         | false => none))))))
   | false => (match Nat.blt t 58 with
    | true => (match Nat.blt t 48 with
     | true => (match Nat.blt t 42 with
      | true => (match Nat.blt t 39 with
       | true => (match Nat.blt t 38 with
        | true => (match t == 37 with | true => some ty37 | false => none)
        | false => (match t == 38 with | true => some ty38 | false => none))
       | false => (match Nat.blt t 41 with
        | true => none
        | false => none))
      | false => (match Nat.blt t 45 with
       | true => (match Nat.blt t 43 with
        | true => none
        | false => none)
       | false => (match Nat.blt t 46 with
        | true => none
        | false => (match Nat.blt t 47 with
         | true => none
         | false => none))))
     | false => (match Nat.blt t 53 with
      | true => (match Nat.blt t 50 with
       | true => (match Nat.blt t 49 with
        | true => none
        | false => (match t == 49 with | true => some ty49 | false => none))
       | false => (match Nat.blt t 51 with
        | true => none
        | false => (match t == 51 with | true => some ty51 | false => none)))
      | false => (match Nat.blt t 55 with
       | true => (match Nat.blt t 54 with
        | true => none
        | false => none)
       | false => (match Nat.blt t 56 with
        | true => none
        | false => (match Nat.blt t 57 with
         | true => none
         | false => (match t == 57 with | true => some ty57 | false => none))))))
    | false => (match Nat.blt t 69 with
     | true => (match Nat.blt t 64 with
      | true => (match Nat.blt t 62 with
       | true => (match Nat.blt t 60 with
        | true => (match t == 58 with | true => some ty58 | false => none)
        | false => none)
       | false => (match Nat.blt t 63 with
        | true => none
        | false => none))
      | false => (match Nat.blt t 66 with
       | true => (match Nat.blt t 65 with
        | true => none
        | false => (match t == 65 with | true => some ty65 | false => none))
       | false => (match Nat.blt t 67 with
        | true => (match t == 66 with | true => some ty66 | false => none)
        | false => (match Nat.blt t 68 with
         | true => none
         | false => (match t == 68 with | true => some ty68 | false => none)))))
     | false => (match Nat.blt t 73 with
      | true => (match Nat.blt t 71 with
       | true => (match Nat.blt t 70 with
        | true => (match t == 69 with | true => some ty69 | false => none)
        | false => (match t == 70 with | true => some ty70 | false => none))
       | false => (match Nat.blt t 72 with
        | true => none
        | false => none))
      | false => (match Nat.blt t 75 with
       | true => (match Nat.blt t 74 with
        | true => none
        | false => (match t == 74 with | true => some ty74 | false => none))
       | false => (match Nat.blt t 76 with
        | true => (match t == 75 with | true => some ty75 | false => none)
        | false => (match Nat.blt t 77 with
         | true => (match t == 76 with | true => some ty76 | false => none)
         | false => (match t == 77 with | true => some ty77 | false => none))))))))
  | false => (match Nat.blt t 120 with
   | true => (match Nat.blt t 100 with
    | true => (match Nat.blt t 90 with
     | true => (match Nat.blt t 84 with
      | true => (match Nat.blt t 81 with
       | true => (match Nat.blt t 80 with
        | true => none
        | false => none)
       | false => (match Nat.blt t 82 with
        | true => none
        | false => none))
      | false => (match Nat.blt t 86 with
       | true => (match Nat.blt t 85 with
        | true => none
        | false => none)
       | false => (match Nat.blt t 87 with
        | true => none
        | false => (match Nat.blt t 88 with
         | true => none
         | false => none))))
     | false => (match Nat.blt t 95 with
      | true => (match Nat.blt t 93 with
       | true => (match Nat.blt t 91 with
        | true => none
        | false => none)
       | false => (match Nat.blt t 94 with
        | true => none
        | false => (match t == 94 with | true => some ty94 | false => none)))
      | false => (match Nat.blt t 97 with
       | true => (match Nat.blt t 96 with
        | true => (match t == 95 with | true => some ty95 | false => none)
        | false => none)
       | false => (match Nat.blt t 98 with
        | true => none
        | false => (match Nat.blt t 99 with
         | true => none
         | false => none)))))
    | false => (match Nat.blt t 109 with
     | true => (match Nat.blt t 104 with
      | true => (match Nat.blt t 102 with
       | true => (match Nat.blt t 101 with
        | true => none
        | false => none)
       | false => (match Nat.blt t 103 with
        | true => none
        | false => none))
      | false => (match Nat.blt t 106 with
       | true => (match Nat.blt t 105 with
        | true => none
        | false => (match t == 105 with | true => some ty105 | false => none))
       | false => (match Nat.blt t 107 with
        | true => (match t == 106 with | true => some ty106 | false => none)
        | false => (match Nat.blt t 108 with
         | true => none
         | false => none))))
     | false => (match Nat.blt t 113 with
      | true => (match Nat.blt t 111 with
       | true => (match Nat.blt t 110 with
        | true => (match t == 109 with | true => some ty109 | false => none)
        | false => (match t == 110 with | true => some ty110 | false => none))
       | false => (match Nat.blt t 112 with
        | true => (match t == 111 with | true => some ty111 | false => none)
        | false => none))
      | false => (match Nat.blt t 117 with
       | true => (match Nat.blt t 115 with
        | true => none
        | false => none)
       | false => (match Nat.blt t 118 with
        | true => none
        | false => (match Nat.blt t 119 with
         | true => none
         | false => none))))))
   | false => (match Nat.blt t 141 with
    | true => (match Nat.blt t 129 with
     | true => (match Nat.blt t 124 with
      | true => (match Nat.blt t 122 with
       | true => (match Nat.blt t 121 with
        | true => none
        | false => none)
       | false => (match Nat.blt t 123 with
        | true => (match t == 122 with | true => some ty122 | false => none)
        | false => none))
      | false => (match Nat.blt t 126 with
       | true => (match Nat.blt t 125 with
        | true => (match t == 124 with | true => some ty124 | false => none)
        | false => (match t == 125 with | true => some ty125 | false => none))
       | false => (match Nat.blt t 127 with
        | true => (match t == 126 with | true => some ty126 | false => none)
        | false => (match Nat.blt t 128 with
         | true => (match t == 127 with | true => some ty127 | false => none)
         | false => (match t == 128 with | true => some ty128 | false => none)))))
     | false => (match Nat.blt t 135 with
      | true => (match Nat.blt t 131 with
       | true => (match Nat.blt t 130 with
        | true => (match t == 129 with | true => some ty129 | false => none)
        | false => none)
       | false => (match Nat.blt t 132 with
        | true => none
        | false => none))
      | false => (match Nat.blt t 137 with
       | true => (match Nat.blt t 136 with
        | true => none
        | false => (match t == 136 with | true => some ty136 | false => none))
       | false => (match Nat.blt t 139 with
        | true => none
        | false => (match Nat.blt t 140 with
         | true => none
         | false => none)))))
    | false => (match Nat.blt t 150 with
     | true => (match Nat.blt t 145 with
      | true => (match Nat.blt t 143 with
       | true => (match Nat.blt t 142 with
        | true => (match t == 141 with | true => some ty141 | false => none)
        | false => (match t == 142 with | true => some ty142 | false => none))
       | false => (match Nat.blt t 144 with
        | true => (match t == 143 with | true => some ty143 | false => none)
        | false => (match t == 144 with | true => some ty144 | false => none)))
      | false => (match Nat.blt t 147 with
       | true => (match Nat.blt t 146 with
        | true => (match t == 145 with | true => some ty145 | false => none)
        | false => none)
       | false => (match Nat.blt t 148 with
        | true => (match t == 147 with | true => some ty147 | false => none)
        | false => (match Nat.blt t 149 with
         | true => (match t == 148 with | true => some ty148 | false => none)
         | false => (match t == 149 with | true => some ty149 | false => none)))))
     | false => (match Nat.blt t 154 with
      | true => (match Nat.blt t 152 with
       | true => (match Nat.blt t 151 with
        | true => none
        | false => (match t == 151 with | true => some ty151 | false => none))
       | false => (match Nat.blt t 153 with
        | true => (match t == 152 with | true => some ty152 | false => none)
        | false => (match t == 153 with | true => some ty153 | false => none)))
      | false => (match Nat.blt t 156 with
       | true => (match Nat.blt t 155 with
        | true => (match t == 154 with | true => some ty154 | false => none)
        | false => (match t == 155 with | true => some ty155 | false => none))
       | false => (match Nat.blt t 157 with
        | true => none
        | false => (match Nat.blt t 159 with
         | true => none
         | false => (match t == 159 with | true => some ty159 | false => none)))))))))
def T (t : TypeId) : Option Ty := upTo 160 T0 t
theorem tok2 : TyOK Try.prog 2 ty2 := tyOK_of (by kernel_rfl) (by kernel_rfl) (by kernel_rfl) (by kernel_rfl)
theorem tok3 : TyOK Try.prog 3 ty3 := tyOK_of (by kernel_rfl) (by kernel_rfl) (by kernel_rfl) (by kernel_rfl)
theorem tok4 : TyOK Try.prog 4 ty4 := tyOK_of (by kernel_rfl) (by kernel_rfl) (by kernel_rfl) (by kernel_rfl)
theorem tok5 : TyOK Try.prog 5 ty5 := tyOK_of (by kernel_rfl) (by kernel_rfl) (by kernel_rfl) (by kernel_rfl)
theorem tok6 : TyOK Try.prog 6 ty6 := tyOK_of (by kernel_rfl) (by kernel_rfl) (by kernel_rfl) (by kernel_rfl)
theorem tok7 : TyOK Try.prog 7 ty7 := tyOK_of (by kernel_rfl) (by kernel_rfl) (by kernel_rfl) (by kernel_rfl)
theorem tok8 : TyOK Try.prog 8 ty8 := tyOK_of (by kernel_rfl) (by kernel_rfl) (by kernel_rfl) (by kernel_rfl)
theorem tok9 : TyOK Try.prog 9 ty9 := tyOK_of (by kernel_rfl) (by kernel_rfl) (by kernel_rfl) (by kernel_rfl)
theorem tok10 : TyOK Try.prog 10 ty10 := tyOK_of (by kernel_rfl) (by kernel_rfl) (by kernel_rfl) (by kernel_rfl)
theorem tok11 : TyOK Try.prog 11 ty11 := tyOK_of (by kernel_rfl) (by kernel_rfl) (by kernel_rfl) (by kernel_rfl)
theorem tok12 : TyOK Try.prog 12 ty12 := tyOK_of (by kernel_rfl) (by kernel_rfl) (by kernel_rfl) (by kernel_rfl)
theorem tok13 : TyOK Try.prog 13 ty13 := tyOK_of (by kernel_rfl) (by kernel_rfl) (by kernel_rfl) (by kernel_rfl)
theorem tok14 : TyOK Try.prog 14 ty14 := tyOK_of (by kernel_rfl) (by kernel_rfl) (by kernel_rfl) (by kernel_rfl)
theorem tok15 : TyOK Try.prog 15 ty15 := tyOK_of (by kernel_rfl) (by kernel_rfl) (by kernel_rfl) (by kernel_rfl)
theorem tok16 : TyOK Try.prog 16 ty16 := tyOK_of (by kernel_rfl) (by kernel_rfl) (by kernel_rfl) (by kernel_rfl)
theorem tok17 : TyOK Try.prog 17 ty17 := tyOK_of (by kernel_rfl) (by kernel_rfl) (by kernel_rfl) (by kernel_rfl)
theorem tok18 : TyOK Try.prog 18 ty18 := tyOK_of (by kernel_rfl) (by kernel_rfl) (by kernel_rfl) (by kernel_rfl)
theorem tok19 : TyOK Try.prog 19 ty19 := tyOK_of (by kernel_rfl) (by kernel_rfl) (by kernel_rfl) (by kernel_rfl)
theorem tok20 : TyOK Try.prog 20 ty20 := tyOK_of (by kernel_rfl) (by kernel_rfl) (by kernel_rfl) (by kernel_rfl)
theorem tok21 : TyOK Try.prog 21 ty21 := tyOK_of (by kernel_rfl) (by kernel_rfl) (by kernel_rfl) (by kernel_rfl)
theorem tok22 : TyOK Try.prog 22 ty22 := tyOK_of (by kernel_rfl) (by kernel_rfl) (by kernel_rfl) (by kernel_rfl)
theorem tok25 : TyOK Try.prog 25 ty25 := tyOK_of (by kernel_rfl) (by kernel_rfl) (by kernel_rfl) (by kernel_rfl)
theorem tok27 : TyOK Try.prog 27 ty27 := tyOK_of (by kernel_rfl) (by kernel_rfl) (by kernel_rfl) (by kernel_rfl)
theorem tok28 : TyOK Try.prog 28 ty28 := tyOK_of (by kernel_rfl) (by kernel_rfl) (by kernel_rfl) (by kernel_rfl)
theorem tok29 : TyOK Try.prog 29 ty29 := tyOK_of (by kernel_rfl) (by kernel_rfl) (by kernel_rfl) (by kernel_rfl)
theorem tok30 : TyOK Try.prog 30 ty30 := tyOK_of (by kernel_rfl) (by kernel_rfl) (by kernel_rfl) (by kernel_rfl)
theorem tok31 : TyOK Try.prog 31 ty31 := tyOK_of (by kernel_rfl) (by kernel_rfl) (by kernel_rfl) (by kernel_rfl)
theorem tok32 : TyOK Try.prog 32 ty32 := tyOK_of (by kernel_rfl) (by kernel_rfl) (by kernel_rfl) (by kernel_rfl)
theorem tok33 : TyOK Try.prog 33 ty33 := tyOK_of (by kernel_rfl) (by kernel_rfl) (by kernel_rfl) (by kernel_rfl)
theorem tok34 : TyOK Try.prog 34 ty34 := tyOK_of (by kernel_rfl) (by kernel_rfl) (by kernel_rfl) (by kernel_rfl)
theorem tok37 : TyOK Try.prog 37 ty37 := tyOK_of (by kernel_rfl) (by kernel_rfl) (by kernel_rfl) (by kernel_rfl)
theorem tok38 : TyOK Try.prog 38 ty38 := tyOK_of (by kernel_rfl) (by kernel_rfl) (by kernel_rfl) (by kernel_rfl)
theorem tok49 : TyOK Try.prog 49 ty49 := tyOK_of (by kernel_rfl) (by kernel_rfl) (by kernel_rfl) (by kernel_rfl)
theorem tok51 : TyOK Try.prog 51 ty51 := tyOK_of (by kernel_rfl) (by kernel_rfl) (by kernel_rfl) (by kernel_rfl)
theorem tok57 : TyOK Try.prog 57 ty57 := tyOK_of (by kernel_rfl) (by kernel_rfl) (by kernel_rfl) (by kernel_rfl)
theorem tok58 : TyOK Try.prog 58 ty58 := tyOK_of (by kernel_rfl) (by kernel_rfl) (by kernel_rfl) (by kernel_rfl)
theorem tok65 : TyOK Try.prog 65 ty65 := tyOK_of (by kernel_rfl) (by kernel_rfl) (by kernel_rfl) (by kernel_rfl)
theorem tok66 : TyOK Try.prog 66 ty66 := tyOK_of (by kernel_rfl) (by kernel_rfl) (by kernel_rfl) (by kernel_rfl)
theorem tok68 : TyOK Try.prog 68 ty68 := tyOK_of (by kernel_rfl) (by kernel_rfl) (by kernel_rfl) (by kernel_rfl)
theorem tok69 : TyOK Try.prog 69 ty69 := tyOK_of (by kernel_rfl) (by kernel_rfl) (by kernel_rfl) (by kernel_rfl)
theorem tok70 : TyOK Try.prog 70 ty70 := tyOK_of (by kernel_rfl) (by kernel_rfl) (by kernel_rfl) (by kernel_rfl)
theorem tok74 : TyOK Try.prog 74 ty74 := tyOK_of (by kernel_rfl) (by kernel_rfl) (by kernel_rfl) (by kernel_rfl)
theorem tok75 : TyOK Try.prog 75 ty75 := tyOK_of (by kernel_rfl) (by kernel_rfl) (by kernel_rfl) (by kernel_rfl)
theorem tok76 : TyOK Try.prog 76 ty76 := tyOK_of (by kernel_rfl) (by kernel_rfl) (by kernel_rfl) (by kernel_rfl)
theorem tok77 : TyOK Try.prog 77 ty77 := tyOK_of (by kernel_rfl) (by kernel_rfl) (by kernel_rfl) (by kernel_rfl)
theorem tok94 : TyOK Try.prog 94 ty94 := tyOK_of (by kernel_rfl) (by kernel_rfl) (by kernel_rfl) (by kernel_rfl)
theorem tok95 : TyOK Try.prog 95 ty95 := tyOK_of (by kernel_rfl) (by kernel_rfl) (by kernel_rfl) (by kernel_rfl)
theorem tok105 : TyOK Try.prog 105 ty105 := tyOK_of (by kernel_rfl) (by kernel_rfl) (by kernel_rfl) (by kernel_rfl)
theorem tok106 : TyOK Try.prog 106 ty106 := tyOK_of (by kernel_rfl) (by kernel_rfl) (by kernel_rfl) (by kernel_rfl)
theorem tok109 : TyOK Try.prog 109 ty109 := tyOK_of (by kernel_rfl) (by kernel_rfl) (by kernel_rfl) (by kernel_rfl)
theorem tok110 : TyOK Try.prog 110 ty110 := tyOK_of (by kernel_rfl) (by kernel_rfl) (by kernel_rfl) (by kernel_rfl)
theorem tok111 : TyOK Try.prog 111 ty111 := tyOK_of (by kernel_rfl) (by kernel_rfl) (by kernel_rfl) (by kernel_rfl)
theorem tok122 : TyOK Try.prog 122 ty122 := tyOK_of (by kernel_rfl) (by kernel_rfl) (by kernel_rfl) (by kernel_rfl)
theorem tok124 : TyOK Try.prog 124 ty124 := tyOK_of (by kernel_rfl) (by kernel_rfl) (by kernel_rfl) (by kernel_rfl)
theorem tok125 : TyOK Try.prog 125 ty125 := tyOK_of (by kernel_rfl) (by kernel_rfl) (by kernel_rfl) (by kernel_rfl)
theorem tok126 : TyOK Try.prog 126 ty126 := tyOK_of (by kernel_rfl) (by kernel_rfl) (by kernel_rfl) (by kernel_rfl)
theorem tok127 : TyOK Try.prog 127 ty127 := tyOK_of (by kernel_rfl) (by kernel_rfl) (by kernel_rfl) (by kernel_rfl)
theorem tok128 : TyOK Try.prog 128 ty128 := tyOK_of (by kernel_rfl) (by kernel_rfl) (by kernel_rfl) (by kernel_rfl)
theorem tok129 : TyOK Try.prog 129 ty129 := tyOK_of (by kernel_rfl) (by kernel_rfl) (by kernel_rfl) (by kernel_rfl)
theorem tok136 : TyOK Try.prog 136 ty136 := tyOK_of (by kernel_rfl) (by kernel_rfl) (by kernel_rfl) (by kernel_rfl)
theorem tok141 : TyOK Try.prog 141 ty141 := tyOK_of (by kernel_rfl) (by kernel_rfl) (by kernel_rfl) (by kernel_rfl)
theorem tok142 : TyOK Try.prog 142 ty142 := tyOK_of (by kernel_rfl) (by kernel_rfl) (by kernel_rfl) (by kernel_rfl)
theorem tok143 : TyOK Try.prog 143 ty143 := tyOK_of (by kernel_rfl) (by kernel_rfl) (by kernel_rfl) (by kernel_rfl)
theorem tok144 : TyOK Try.prog 144 ty144 := tyOK_of (by kernel_rfl) (by kernel_rfl) (by kernel_rfl) (by kernel_rfl)
theorem tok145 : TyOK Try.prog 145 ty145 := tyOK_of (by kernel_rfl) (by kernel_rfl) (by kernel_rfl) (by kernel_rfl)
theorem tok147 : TyOK Try.prog 147 ty147 := tyOK_of (by kernel_rfl) (by kernel_rfl) (by kernel_rfl) (by kernel_rfl)
theorem tok148 : TyOK Try.prog 148 ty148 := tyOK_of (by kernel_rfl) (by kernel_rfl) (by kernel_rfl) (by kernel_rfl)
theorem tok149 : TyOK Try.prog 149 ty149 := tyOK_of (by kernel_rfl) (by kernel_rfl) (by kernel_rfl) (by kernel_rfl)
theorem tok151 : TyOK Try.prog 151 ty151 := tyOK_of (by kernel_rfl) (by kernel_rfl) (by kernel_rfl) (by kernel_rfl)
theorem tok152 : TyOK Try.prog 152 ty152 := tyOK_of (by kernel_rfl) (by kernel_rfl) (by kernel_rfl) (by kernel_rfl)
theorem tok153 : TyOK Try.prog 153 ty153 := tyOK_of (by kernel_rfl) (by kernel_rfl) (by kernel_rfl) (by kernel_rfl)
theorem tok154 : TyOK Try.prog 154 ty154 := tyOK_of (by kernel_rfl) (by kernel_rfl) (by kernel_rfl) (by kernel_rfl)
theorem tok155 : TyOK Try.prog 155 ty155 := tyOK_of (by kernel_rfl) (by kernel_rfl) (by kernel_rfl) (by kernel_rfl)
theorem tok159 : TyOK Try.prog 159 ty159 := tyOK_of (by kernel_rfl) (by kernel_rfl) (by kernel_rfl) (by kernel_rfl)
theorem T_ok : TypesOK Try.prog T := typesOK_of (n := 160) (T := T0) (h := ⟨⟨⟨⟨⟨⟨⟨⟨⟨⟨⟨⟨⟨⟨⟨⟨⟨⟨⟨⟨⟨⟨⟨⟨⟨⟨⟨⟨⟨⟨⟨⟨⟨⟨⟨⟨⟨⟨⟨⟨⟨⟨⟨⟨⟨⟨⟨⟨⟨⟨⟨⟨⟨⟨⟨⟨⟨⟨⟨⟨⟨⟨⟨⟨⟨⟨⟨⟨⟨⟨⟨⟨⟨⟨⟨⟨⟨⟨⟨⟨⟨⟨⟨⟨⟨⟨⟨⟨⟨⟨⟨⟨⟨⟨⟨⟨⟨⟨⟨⟨⟨⟨⟨⟨⟨⟨⟨⟨⟨⟨⟨⟨⟨⟨⟨⟨⟨⟨⟨⟨⟨⟨⟨⟨⟨⟨⟨⟨⟨⟨⟨⟨⟨⟨⟨⟨⟨⟨⟨⟨⟨⟨⟨⟨⟨⟨⟨⟨⟨⟨⟨⟨⟨⟨⟨⟨⟨⟨⟨⟨trivial,
 tyAt_none (by kernel_rfl)⟩,
 tyAt_none (by kernel_rfl)⟩,
 tyAt_some (by kernel_rfl) tok2⟩,
 tyAt_some (by kernel_rfl) tok3⟩,
 tyAt_some (by kernel_rfl) tok4⟩,
 tyAt_some (by kernel_rfl) tok5⟩,
 tyAt_some (by kernel_rfl) tok6⟩,
 tyAt_some (by kernel_rfl) tok7⟩,
 tyAt_some (by kernel_rfl) tok8⟩,
 tyAt_some (by kernel_rfl) tok9⟩,
 tyAt_some (by kernel_rfl) tok10⟩,
 tyAt_some (by kernel_rfl) tok11⟩,
 tyAt_some (by kernel_rfl) tok12⟩,
 tyAt_some (by kernel_rfl) tok13⟩,
 tyAt_some (by kernel_rfl) tok14⟩,
 tyAt_some (by kernel_rfl) tok15⟩,
 tyAt_some (by kernel_rfl) tok16⟩,
 tyAt_some (by kernel_rfl) tok17⟩,
 tyAt_some (by kernel_rfl) tok18⟩,
 tyAt_some (by kernel_rfl) tok19⟩,
 tyAt_some (by kernel_rfl) tok20⟩,
 tyAt_some (by kernel_rfl) tok21⟩,
 tyAt_some (by kernel_rfl) tok22⟩,
 tyAt_none (by kernel_rfl)⟩,
 tyAt_none (by kernel_rfl)⟩,
 tyAt_some (by kernel_rfl) tok25⟩,
 tyAt_none (by kernel_rfl)⟩,
 tyAt_some (by kernel_rfl) tok27⟩,
 tyAt_some (by kernel_rfl) tok28⟩,
 tyAt_some (by kernel_rfl) tok29⟩,
 tyAt_some (by kernel_rfl) tok30⟩,
 tyAt_some (by kernel_rfl) tok31⟩,
 tyAt_some (by kernel_rfl) tok32⟩,
 tyAt_some (by kernel_rfl) tok33⟩,
 tyAt_some (by kernel_rfl) tok34⟩,
 tyAt_none (by kernel_rfl)⟩,
 tyAt_none (by kernel_rfl)⟩,
 tyAt_some (by kernel_rfl) tok37⟩,
 tyAt_some (by kernel_rfl) tok38⟩,
 tyAt_none (by kernel_rfl)⟩,
 tyAt_none (by kernel_rfl)⟩,
 tyAt_none (by kernel_rfl)⟩,
 tyAt_none (by kernel_rfl)⟩,
 tyAt_none (by kernel_rfl)⟩,
 tyAt_none (by kernel_rfl)⟩,
 tyAt_none (by kernel_rfl)⟩,
 tyAt_none (by kernel_rfl)⟩,
 tyAt_none (by kernel_rfl)⟩,
 tyAt_none (by kernel_rfl)⟩,
 tyAt_some (by kernel_rfl) tok49⟩,
 tyAt_none (by kernel_rfl)⟩,
 tyAt_some (by kernel_rfl) tok51⟩,
 tyAt_none (by kernel_rfl)⟩,
 tyAt_none (by kernel_rfl)⟩,
 tyAt_none (by kernel_rfl)⟩,
 tyAt_none (by kernel_rfl)⟩,
 tyAt_none (by kernel_rfl)⟩,
 tyAt_some (by kernel_rfl) tok57⟩,
 tyAt_some (by kernel_rfl) tok58⟩,
 tyAt_none (by kernel_rfl)⟩,
 tyAt_none (by kernel_rfl)⟩,
 tyAt_none (by kernel_rfl)⟩,
 tyAt_none (by kernel_rfl)⟩,
 tyAt_none (by kernel_rfl)⟩,
 tyAt_none (by kernel_rfl)⟩,
 tyAt_some (by kernel_rfl) tok65⟩,
 tyAt_some (by kernel_rfl) tok66⟩,
 tyAt_none (by kernel_rfl)⟩,
 tyAt_some (by kernel_rfl) tok68⟩,
 tyAt_some (by kernel_rfl) tok69⟩,
 tyAt_some (by kernel_rfl) tok70⟩,
 tyAt_none (by kernel_rfl)⟩,
 tyAt_none (by kernel_rfl)⟩,
 tyAt_none (by kernel_rfl)⟩,
 tyAt_some (by kernel_rfl) tok74⟩,
 tyAt_some (by kernel_rfl) tok75⟩,
 tyAt_some (by kernel_rfl) tok76⟩,
 tyAt_some (by kernel_rfl) tok77⟩,
 tyAt_none (by kernel_rfl)⟩,
 tyAt_none (by kernel_rfl)⟩,
 tyAt_none (by kernel_rfl)⟩,
 tyAt_none (by kernel_rfl)⟩,
 tyAt_none (by kernel_rfl)⟩,
 tyAt_none (by kernel_rfl)⟩,
 tyAt_none (by kernel_rfl)⟩,
 tyAt_none (by kernel_rfl)⟩,
 tyAt_none (by kernel_rfl)⟩,
 tyAt_none (by kernel_rfl)⟩,
 tyAt_none (by kernel_rfl)⟩,
 tyAt_none (by kernel_rfl)⟩,
 tyAt_none (by kernel_rfl)⟩,
 tyAt_none (by kernel_rfl)⟩,
 tyAt_none (by kernel_rfl)⟩,
 tyAt_none (by kernel_rfl)⟩,
 tyAt_some (by kernel_rfl) tok94⟩,
 tyAt_some (by kernel_rfl) tok95⟩,
 tyAt_none (by kernel_rfl)⟩,
 tyAt_none (by kernel_rfl)⟩,
 tyAt_none (by kernel_rfl)⟩,
 tyAt_none (by kernel_rfl)⟩,
 tyAt_none (by kernel_rfl)⟩,
 tyAt_none (by kernel_rfl)⟩,
 tyAt_none (by kernel_rfl)⟩,
 tyAt_none (by kernel_rfl)⟩,
 tyAt_none (by kernel_rfl)⟩,
 tyAt_some (by kernel_rfl) tok105⟩,
 tyAt_some (by kernel_rfl) tok106⟩,
 tyAt_none (by kernel_rfl)⟩,
 tyAt_none (by kernel_rfl)⟩,
 tyAt_some (by kernel_rfl) tok109⟩,
 tyAt_some (by kernel_rfl) tok110⟩,
 tyAt_some (by kernel_rfl) tok111⟩,
 tyAt_none (by kernel_rfl)⟩,
 tyAt_none (by kernel_rfl)⟩,
 tyAt_none (by kernel_rfl)⟩,
 tyAt_none (by kernel_rfl)⟩,
 tyAt_none (by kernel_rfl)⟩,
 tyAt_none (by kernel_rfl)⟩,
 tyAt_none (by kernel_rfl)⟩,
 tyAt_none (by kernel_rfl)⟩,
 tyAt_none (by kernel_rfl)⟩,
 tyAt_none (by kernel_rfl)⟩,
 tyAt_some (by kernel_rfl) tok122⟩,
 tyAt_none (by kernel_rfl)⟩,
 tyAt_some (by kernel_rfl) tok124⟩,
 tyAt_some (by kernel_rfl) tok125⟩,
 tyAt_some (by kernel_rfl) tok126⟩,
 tyAt_some (by kernel_rfl) tok127⟩,
 tyAt_some (by kernel_rfl) tok128⟩,
 tyAt_some (by kernel_rfl) tok129⟩,
 tyAt_none (by kernel_rfl)⟩,
 tyAt_none (by kernel_rfl)⟩,
 tyAt_none (by kernel_rfl)⟩,
 tyAt_none (by kernel_rfl)⟩,
 tyAt_none (by kernel_rfl)⟩,
 tyAt_none (by kernel_rfl)⟩,
 tyAt_some (by kernel_rfl) tok136⟩,
 tyAt_none (by kernel_rfl)⟩,
 tyAt_none (by kernel_rfl)⟩,
 tyAt_none (by kernel_rfl)⟩,
 tyAt_none (by kernel_rfl)⟩,
 tyAt_some (by kernel_rfl) tok141⟩,
 tyAt_some (by kernel_rfl) tok142⟩,
 tyAt_some (by kernel_rfl) tok143⟩,
 tyAt_some (by kernel_rfl) tok144⟩,
 tyAt_some (by kernel_rfl) tok145⟩,
 tyAt_none (by kernel_rfl)⟩,
 tyAt_some (by kernel_rfl) tok147⟩,
 tyAt_some (by kernel_rfl) tok148⟩,
 tyAt_some (by kernel_rfl) tok149⟩,
 tyAt_none (by kernel_rfl)⟩,
 tyAt_some (by kernel_rfl) tok151⟩,
 tyAt_some (by kernel_rfl) tok152⟩,
 tyAt_some (by kernel_rfl) tok153⟩,
 tyAt_some (by kernel_rfl) tok154⟩,
 tyAt_some (by kernel_rfl) tok155⟩,
 tyAt_none (by kernel_rfl)⟩,
 tyAt_none (by kernel_rfl)⟩,
 tyAt_none (by kernel_rfl)⟩,
 tyAt_some (by kernel_rfl) tok159⟩)
abbrev cxO (es : List Ent) (ms : List MEnt) : Cx := { T := T, isPure := tabP es, pureK := fun g ds K => tabK es g ds K, memK := fun g dst ds m K => tabMK ms g dst ds m K, meth := tabM [], keep := fun _ => [], keepX := fun _ => [], loopT := fun _ _ _ _ => none, jumps := 9 }
theorem cxO_ok {es : List Ent} {ms : List MEnt} (a : EntsOK Try.prog T es) (b : MEntsOK Try.prog T ms) : CxOK Try.prog (cxO es ms) := cxOK_of2 (es := es) (me := ms) (ms := []) T_ok a b trivial rfl (fun _ _ _ _ => rfl) (fun _ _ _ _ _ _ => rfl) rfl
end Go.Proofs.Ytilfphdeacogmaa.En

/- The engine, part 2f: a strings.Builder takes down its own address. -/
namespace Go.Proofs.Ytilfphdeacogmaa.En
open Go
set_option linter.unusedVariables false
section
variable {P : Program} {T : TypeId -> Option Ty} {E : Env} {g : G} {w : World}
structure Calm (x : Nat) (w w' : World) : Prop where
  os : w'.os = w.os
  tape : w'.tape = w.tape
  output : w'.output = w.output
  size : w'.heap.size = w.heap.size
  other : ∀ b, b ≠ x -> w'.heap[b]? = w.heap[b]?
  cell : ∀ o, w'.cell? ⟨x, o, none⟩ = w.cell? ⟨x, o, none⟩
end
end Go.Proofs.Ytilfphdeacogmaa.En

/- (*strings.Builder).copyCheck: the walk; as an entry. -/
namespace Go.Proofs.Ytilfphdeacogmaa.En
open Go Go.RowKit
set_option linter.unusedVariables false
end Go.Proofs.Ytilfphdeacogmaa.En

/- slices.Clone and slices.Concat of bytes: the walks; as entries of the engine. -/
namespace Go.Proofs.Ytilfphdeacogmaa.En
open Go Go.RowKit
set_option linter.unusedVariables false
theorem info8 : (Try.prog.info? 5).map (fun i => (i.zero, i.size, i.bytes)) = some (some (.int .u8 0), 1, 1) := by kernel_rfl
section
variable {T : TypeId -> Option Ty} {E : Env} {g : G} {w w' : World} {A : Option Addr} {n c B : Nat} {xs : List UInt8}
theorem own_lit {w : World} {B : Nat} {e : TypeId} (vs : List Value) (hB : B <= w.heap.size) (hm : vs.length <= 1000) : Own (w.alloc (.cells vs.toArray e)) B e (some ⟨w.heap.size, 0, none⟩) vs.length vs.length vs := by
  have h := World.ownsRow_lit (base := B) (e := e) (size := 1) w vs.toArray vs.length hB (by unfold maxLen; omega) (by simp)
  simpa using h
theorem isB_of_rep {u : Value} (h : RepV g w (.bytes xs) u) : ∃ A n c, u = .slice A n c /\ IsB w A n c xs := by
  cases h with
  | bytes xs A n c hn hc hm h =>
    refine ⟨A, n, c, rfl, ⟨by simp [hn], hc, hm, fun k v hv => ?_⟩⟩
    rw [List.getElem?_map, Option.map_eq_some_iff] at hv
    obtain ⟨x, hx, rfl⟩ := hv
    obtain ⟨b, off, e, _, h2⟩ := h k x hx
    exact ⟨b, off, e, h2⟩
theorem pure_of_own (hb : Below w.heap.size w w') {A : Option Addr} {n c : Nat} (ho : Own w' w.heap.size 5 A n c (xs.map u8)) :
    ∃ us' g', Ending.returned (.slice A n c) = .returned (retV us') /\ (∀ E' : Env, RepDs E' g' w' [] [.v (.bytes xs) .no] us') /\ PureTr g w g' w' := by
  refine ⟨[.slice A n c], { g with Γ := fun b => if b < w.heap.size then g.Γ b else .imm }, rfl, fun E' => ⟨rfl, fun k y hk => ?_⟩, ⟨⟨hb.os, hb.tape, hb.output, hb.size, hb.block⟩, fun b hlt => if_pos hlt, fun b hge => by
    show Perm.still (if b < w.heap.size then g.Γ b else .imm) = true
    rw [if_neg (by omega)]; rfl, rfl, rfl⟩⟩
  rcases k with _ | k
  . simp at hk
    subst hk
    have hr := ho.rd
    refine .v _ _ _ (.bytes xs A n c (by simpa using hr.len) hr.cap hr.max fun k x hx => ?_) trivial
    obtain ⟨b, off, e, h2⟩ := hr.at_ k (u8 x) (by simp [hx])
    refine ⟨b, off, e, ?_, h2⟩
    have hge : w.heap.size <= b := ho.block b (by subst e; rfl)
    unfold Stable
    show (match (if b < w.heap.size then g.Γ b else .imm) with | .imm => True | .low n => off + k < n | .own _ n => off + k < n | .box _ _ => False)
    rw [if_neg (by omega)]; trivial
  . simp at hk
end
set_option maxHeartbeats 400000 in
theorem clone_any (A : Option Addr) (n c : Nat) (xs : List UInt8) (w : World) (h : IsB w A n c xs) (hn : xs.length <= 1000000) :
    Calls Try.prog 60 #[.slice A n c] w fun e w' => ∃ A' n' c', e = .returned (.slice A' n' c') /\ Own w' w.heap.size 5 A' n' c' (xs.map u8) /\ Below w.heap.size w w' := by
  obtain ⟨i0, hi0, hz0, hz1, hz2⟩ := info_parts info8
  have hl := IsB.len h
  have H := Lib.hid h
  have HI := Lib.hid (And.intro hi0 (And.intro hz0 (And.intro hz1 hz2)))
  have HL := Lib.hid hl
  clear h hi0 hz0 hz1 hz2 hl
  have qT : ∀ (w : World) (a : Option Addr) (n c n' c' : Nat), (binOp .eql 27 (.slice a n c) (.slice none n' c')).run Try.prog w = .ok (.bool a.isNone) w := fun w a n c n' c' => Lib.run_eql_slice_nil w _ _ a n c n' c' Try.underlying27
  cases A with
  | none =>
    have h0 : xs = [] := by
      have hr := H.out
      rcases xs with _ | ⟨x, xs⟩
      . rfl
      . obtain ⟨b, off, hA, _⟩ := Rd.at_ hr 0 (u8 x) rfl
        cases hA
    subst h0
    go_enter Try.func60, Try.ntmps60
    go_wp2_with fail
    go_ret
    exact ⟨none, 0, 0, rfl, Own.nil _ _, Below.refl _ _⟩
  | some a =>
    go_enter Try.func60, Try.ntmps60
    have hown := own_lit (w := w) (B := w.heap.size) (e := 5) [] (Nat.le_refl _) (by simp)
    have HO := Lib.hid hown
    clear hown
    have hn' : n <= 1000000 := by have := HL.out; omega
    go_wp2_with (at_builtin; refine wpList_append_rd _ rfl (.tmp 5) (.tmp 6) 27 rfl w.heap.size 5 i0 _ 1 Try.underlying27 HI.out.1 HI.out.2.1 HI.out.2.2.1 HI.out.2.2.2 rfl (some ⟨w.heap.size, 0, none⟩) 0 0 [] rfl HO.out (some a) n c _ rfl (H.out.alloc _) (u8_one _) ?_ (by omega) (by simp) ?_)
    case _ => omega
    intro A3 c3 w3 hown3 hg3 _
    have hb3 : Below w.heap.size w w3 := ((Below.refl _ _).alloc (Nat.le_refl _) _).grown hg3 (by simp) (by simp [Value.ownBlock])
    go_wp2
    go_ret
    exact ⟨A3, 0 + n, c3, by simp, by simpa using hown3, hb3⟩
noncomputable def s_clone (N : Nat) (l : List UInt8) : Option (List UInt8) := br (decide (l.length <= 1000000)) (some l) none
theorem p_clone (N : Nat) (x0 r0 : List UInt8) (h : s_clone N x0 = some r0) : PureRet Try.prog T 60 [dY x0] [dY r0] := by
  have hn : x0.length <= 1000000 /\ r0 = x0 := by
    unfold s_clone br at h
    by_cases hx : x0.length <= 1000000
    . simp [hx] at h; exact ⟨hx, h.symm⟩
    . simp [hx] at h
  obtain ⟨hn, rfl⟩ := hn
  intro E g w us hsz hus
  obtain ⟨hl, hr⟩ := hus
  match us, hl with
  | [u], _ =>
  have hu := hr 0 _ rfl
  simp only [List.getD_cons_zero] at hu
  cases hu with
  | v x a v hv ha =>
  obtain ⟨A, n, c, rfl, hB⟩ := isB_of_rep hv
  refine (clone_any A n c r0 w hB hn).mono ?_
  rintro e w' ⟨A', n', c', rfl, ho, hb⟩
  exact pure_of_own hb ho
end Go.Proofs.Ytilfphdeacogmaa.En

/- The engine, part 2l: several entries of one function, told apart by the closure that it is given. -/
namespace Go.Proofs.Ytilfphdeacogmaa.En
open Go
set_option linter.unusedVariables false
section
variable {P : Program} {T : TypeId -> Option Ty}
end
end Go.Proofs.Ytilfphdeacogmaa.En

/- The hand-made entries of the engine, together. -/

/- More results. -/
namespace Go.Proofs.Ytilfphdeacogmaa.En
open Go
set_option linter.unusedVariables false
def bnd6 {R a1 a2 a3 a4 a5 a6 : Type} (o : Option (a1 × a2 × a3 × a4 × a5 × a6)) (K : a1 -> a2 -> a3 -> a4 -> a5 -> a6 -> Option R) : Option R := match o with | some (x1, x2, x3, x4, x5, x6) => K x1 x2 x3 x4 x5 x6 | none => none
theorem bnd6_some {R a1 a2 a3 a4 a5 a6 : Type} {o : Option (a1 × a2 × a3 × a4 × a5 × a6)} {K : a1 -> a2 -> a3 -> a4 -> a5 -> a6 -> Option R} {r : R} (h : bnd6 o K = some r) : ∃ x1 x2 x3 x4 x5 x6, o = some (x1, x2, x3, x4, x5, x6) /\ K x1 x2 x3 x4 x5 x6 = some r := by
  rcases o with _ | ⟨x1, x2, x3, x4, x5, x6⟩
  . cases h
  . exact ⟨x1, x2, x3, x4, x5, x6, rfl, h⟩
theorem bnd6_mk {R a1 a2 a3 a4 a5 a6 : Type} (x1 : a1) (x2 : a2) (x3 : a3) (x4 : a4) (x5 : a5) (x6 : a6) (K : a1 -> a2 -> a3 -> a4 -> a5 -> a6 -> Option R) : bnd6 (some (x1, x2, x3, x4, x5, x6)) K = K x1 x2 x3 x4 x5 x6 := id rfl
def bnd7 {R a1 a2 a3 a4 a5 a6 a7 : Type} (o : Option (a1 × a2 × a3 × a4 × a5 × a6 × a7)) (K : a1 -> a2 -> a3 -> a4 -> a5 -> a6 -> a7 -> Option R) : Option R := match o with | some (x1, x2, x3, x4, x5, x6, x7) => K x1 x2 x3 x4 x5 x6 x7 | none => none
theorem bnd7_some {R a1 a2 a3 a4 a5 a6 a7 : Type} {o : Option (a1 × a2 × a3 × a4 × a5 × a6 × a7)} {K : a1 -> a2 -> a3 -> a4 -> a5 -> a6 -> a7 -> Option R} {r : R} (h : bnd7 o K = some r) : ∃ x1 x2 x3 x4 x5 x6 x7, o = some (x1, x2, x3, x4, x5, x6, x7) /\ K x1 x2 x3 x4 x5 x6 x7 = some r := by
  rcases o with _ | ⟨x1, x2, x3, x4, x5, x6, x7⟩
  . cases h
  . exact ⟨x1, x2, x3, x4, x5, x6, x7, rfl, h⟩
theorem bnd7_mk {R a1 a2 a3 a4 a5 a6 a7 : Type} (x1 : a1) (x2 : a2) (x3 : a3) (x4 : a4) (x5 : a5) (x6 : a6) (x7 : a7) (K : a1 -> a2 -> a3 -> a4 -> a5 -> a6 -> a7 -> Option R) : bnd7 (some (x1, x2, x3, x4, x5, x6, x7)) K = K x1 x2 x3 x4 x5 x6 x7 := id rfl
def bnd8 {R a1 a2 a3 a4 a5 a6 a7 a8 : Type} (o : Option (a1 × a2 × a3 × a4 × a5 × a6 × a7 × a8)) (K : a1 -> a2 -> a3 -> a4 -> a5 -> a6 -> a7 -> a8 -> Option R) : Option R := match o with | some (x1, x2, x3, x4, x5, x6, x7, x8) => K x1 x2 x3 x4 x5 x6 x7 x8 | none => none
theorem bnd8_some {R a1 a2 a3 a4 a5 a6 a7 a8 : Type} {o : Option (a1 × a2 × a3 × a4 × a5 × a6 × a7 × a8)} {K : a1 -> a2 -> a3 -> a4 -> a5 -> a6 -> a7 -> a8 -> Option R} {r : R} (h : bnd8 o K = some r) : ∃ x1 x2 x3 x4 x5 x6 x7 x8, o = some (x1, x2, x3, x4, x5, x6, x7, x8) /\ K x1 x2 x3 x4 x5 x6 x7 x8 = some r := by
  rcases o with _ | ⟨x1, x2, x3, x4, x5, x6, x7, x8⟩
  . cases h
  . exact ⟨x1, x2, x3, x4, x5, x6, x7, x8, rfl, h⟩
theorem bnd8_b {a1 a2 a3 a4 a5 a6 a7 a8 b R : Type} (o : Option (a1 × a2 × a3 × a4 × a5 × a6 × a7 × a8)) (F : a1 -> a2 -> a3 -> a4 -> a5 -> a6 -> a7 -> a8 -> Option b) (K : b -> Option R) : (bnd8 o F).bind K = bnd8 o fun x1 x2 x3 x4 x5 x6 x7 x8 => (F x1 x2 x3 x4 x5 x6 x7 x8).bind K := by
  rcases o with _ | ⟨x1, x2, x3, x4, x5, x6, x7, x8⟩ <;> rfl
theorem bnd8_mk {R a1 a2 a3 a4 a5 a6 a7 a8 : Type} (x1 : a1) (x2 : a2) (x3 : a3) (x4 : a4) (x5 : a5) (x6 : a6) (x7 : a7) (x8 : a8) (K : a1 -> a2 -> a3 -> a4 -> a5 -> a6 -> a7 -> a8 -> Option R) : bnd8 (some (x1, x2, x3, x4, x5, x6, x7, x8)) K = K x1 x2 x3 x4 x5 x6 x7 x8 := id rfl
def bnd9 {R a1 a2 a3 a4 a5 a6 a7 a8 a9 : Type} (o : Option (a1 × a2 × a3 × a4 × a5 × a6 × a7 × a8 × a9)) (K : a1 -> a2 -> a3 -> a4 -> a5 -> a6 -> a7 -> a8 -> a9 -> Option R) : Option R := match o with | some (x1, x2, x3, x4, x5, x6, x7, x8, x9) => K x1 x2 x3 x4 x5 x6 x7 x8 x9 | none => none
theorem bnd9_some {R a1 a2 a3 a4 a5 a6 a7 a8 a9 : Type} {o : Option (a1 × a2 × a3 × a4 × a5 × a6 × a7 × a8 × a9)} {K : a1 -> a2 -> a3 -> a4 -> a5 -> a6 -> a7 -> a8 -> a9 -> Option R} {r : R} (h : bnd9 o K = some r) : ∃ x1 x2 x3 x4 x5 x6 x7 x8 x9, o = some (x1, x2, x3, x4, x5, x6, x7, x8, x9) /\ K x1 x2 x3 x4 x5 x6 x7 x8 x9 = some r := by
  rcases o with _ | ⟨x1, x2, x3, x4, x5, x6, x7, x8, x9⟩
  . cases h
  . exact ⟨x1, x2, x3, x4, x5, x6, x7, x8, x9, rfl, h⟩
theorem bnd9_mk {R a1 a2 a3 a4 a5 a6 a7 a8 a9 : Type} (x1 : a1) (x2 : a2) (x3 : a3) (x4 : a4) (x5 : a5) (x6 : a6) (x7 : a7) (x8 : a8) (x9 : a9) (K : a1 -> a2 -> a3 -> a4 -> a5 -> a6 -> a7 -> a8 -> a9 -> Option R) : bnd9 (some (x1, x2, x3, x4, x5, x6, x7, x8, x9)) K = K x1 x2 x3 x4 x5 x6 x7 x8 x9 := id rfl
def bnd13 {R a1 a2 a3 a4 a5 a6 a7 a8 a9 a10 a11 a12 a13 : Type} (o : Option (a1 × a2 × a3 × a4 × a5 × a6 × a7 × a8 × a9 × a10 × a11 × a12 × a13)) (K : a1 -> a2 -> a3 -> a4 -> a5 -> a6 -> a7 -> a8 -> a9 -> a10 -> a11 -> a12 -> a13 -> Option R) : Option R := match o with | some (x1, x2, x3, x4, x5, x6, x7, x8, x9, x10, x11, x12, x13) => K x1 x2 x3 x4 x5 x6 x7 x8 x9 x10 x11 x12 x13 | none => none
theorem bnd13_some {R a1 a2 a3 a4 a5 a6 a7 a8 a9 a10 a11 a12 a13 : Type} {o : Option (a1 × a2 × a3 × a4 × a5 × a6 × a7 × a8 × a9 × a10 × a11 × a12 × a13)} {K : a1 -> a2 -> a3 -> a4 -> a5 -> a6 -> a7 -> a8 -> a9 -> a10 -> a11 -> a12 -> a13 -> Option R} {r : R} (h : bnd13 o K = some r) : ∃ x1 x2 x3 x4 x5 x6 x7 x8 x9 x10 x11 x12 x13, o = some (x1, x2, x3, x4, x5, x6, x7, x8, x9, x10, x11, x12, x13) /\ K x1 x2 x3 x4 x5 x6 x7 x8 x9 x10 x11 x12 x13 = some r := by
  rcases o with _ | ⟨x1, x2, x3, x4, x5, x6, x7, x8, x9, x10, x11, x12, x13⟩
  . cases h
  . exact ⟨x1, x2, x3, x4, x5, x6, x7, x8, x9, x10, x11, x12, x13, rfl, h⟩
theorem bnd13_mk {R a1 a2 a3 a4 a5 a6 a7 a8 a9 a10 a11 a12 a13 : Type} (x1 : a1) (x2 : a2) (x3 : a3) (x4 : a4) (x5 : a5) (x6 : a6) (x7 : a7) (x8 : a8) (x9 : a9) (x10 : a10) (x11 : a11) (x12 : a12) (x13 : a13) (K : a1 -> a2 -> a3 -> a4 -> a5 -> a6 -> a7 -> a8 -> a9 -> a10 -> a11 -> a12 -> a13 -> Option R) : bnd13 (some (x1, x2, x3, x4, x5, x6, x7, x8, x9, x10, x11, x12, x13)) K = K x1 x2 x3 x4 x5 x6 x7 x8 x9 x10 x11 x12 x13 := id rfl
end Go.Proofs.Ytilfphdeacogmaa.En

/- The engine, part 2v: variables that are given with more marks than are asked for, or left with fewer; functions that give a new variable. -/
namespace Go.Proofs.Ytilfphdeacogmaa.En
open Go
set_option linter.unusedVariables false
def WC (c c₁ : D) : Prop := c = c₁ ∨ ∃ x a, c = .v x .no /\ c₁ = .v x a
def WCs : List D -> List D -> Prop
  | [], [] => True
  | c :: r, c₁ :: r₁ => WC c c₁ /\ WCs r r₁
  | _, _ => False
def WB (B B₁ : Bx) : Prop := B.ty = B₁.ty /\ WCs B.cells B₁.cells
def WBs : List Bx -> List Bx -> Prop
  | [], [] => True
  | B :: r, B₁ :: r₁ => WB B B₁ /\ WBs r r₁
  | _, _ => False
theorem WCs.get : ∀ {l l₁ : List D}, WCs l l₁ -> l₁.length = l.length /\ ∀ (i : Nat) c c₁, l[i]? = some c -> l₁[i]? = some c₁ -> WC c c₁
  | [], [], _ => ⟨rfl, fun i c c₁ h => by simp at h⟩
  | c :: l, c₁ :: l₁, ⟨h1, h2⟩ => by
    obtain ⟨a, b⟩ := WCs.get h2
    refine ⟨by simp [a], fun i z z₁ hz hz₁ => ?_⟩
    rcases i with _ | i
    . simp at hz hz₁; subst hz hz₁; exact h1
    . exact b i z z₁ (by simpa using hz) (by simpa using hz₁)
theorem WBs.get : ∀ {l l₁ : List Bx}, WBs l l₁ -> l₁.length = l.length /\ ∀ (i : Nat) c c₁, l[i]? = some c -> l₁[i]? = some c₁ -> WB c c₁
  | [], [], _ => ⟨rfl, fun i c c₁ h => by simp at h⟩
  | c :: l, c₁ :: l₁, ⟨h1, h2⟩ => by
    obtain ⟨a, b⟩ := WBs.get h2
    refine ⟨by simp [a], fun i z z₁ hz hz₁ => ?_⟩
    rcases i with _ | i
    . simp at hz hz₁; subst hz hz₁; exact h1
    . exact b i z z₁ (by simpa using hz) (by simpa using hz₁)
theorem WBs.at_ {l l₁ : List Bx} (h : WBs l l₁) {i : Nat} {c : Bx} (hc : l[i]? = some c) : ∃ c₁, l₁[i]? = some c₁ /\ WB c c₁ := by
  have hi : i < l₁.length := by rw [h.get.1]; exact (List.getElem?_eq_some_iff.1 hc).1
  exact ⟨_, List.getElem?_eq_getElem hi, h.get.2 i _ _ hc (List.getElem?_eq_getElem hi)⟩
theorem WBs.at' {l l₁ : List Bx} (h : WBs l l₁) {i : Nat} {c : Bx} (hc : l₁[i]? = some c) : ∃ c₁, l[i]? = some c₁ /\ WB c₁ c := by
  have hi : i < l.length := by rw [← h.get.1]; exact (List.getElem?_eq_some_iff.1 hc).1
  exact ⟨_, List.getElem?_eq_getElem hi, h.get.2 i _ _ (List.getElem?_eq_getElem hi) hc⟩
theorem WB.renX {Q : Nat -> Nat -> Nat -> Prop} {B B₁ : Bx} (h : WB B B₁) (hc : B₁.cells.all D.calm = true) : BRenX Q B B₁ := by
  obtain ⟨a, b⟩ := h.2.get
  refine ⟨h.1.symm, a, fun i c c₁ h1 h2 => ?_⟩
  rcases b i c c₁ h1 h2 with e | ⟨x, a, e1, e2⟩
  . subst e; exact .inl (calm_ren (List.all_eq_true.1 hc c (List.mem_of_getElem? h2)))
  . exact .inr ⟨x, a, e1, e2⟩
theorem calmB_at : ∀ (Bs : List Bx), calmB Bs = true -> ∀ (j : Nat) B, Bs[j]? = some B -> B.cells.all D.calm = true
  | [], _, j, B, h => by simp at h
  | B :: Bs, h, j, B', hj => by
    simp only [calmB, Bool.and_eq_true] at h
    rcases j with _ | j
    . simp at hj; subst hj; exact h.1
    . exact calmB_at Bs h.2 j B' (by simpa using hj)
section
variable {R : Type} {P : Program} {T : TypeId -> Option Ty} {cx : Cx} {E : Env} {g : G} {w : World}
theorem view_ofW (hm : P.follows .mixedOrders = true) (hcx : CxOK P cx) {f : FuncId} {fn : Func} (hf : P.funcs[f]? = some fn) (hb : fn.body = some (bodyOf fn)) (hro : (drawnOf (bodyOf fn)).all (orderB cx) = true) (hl : LoopsOK cx fn.ntmps (bodyOf fn))
    {ds₁ : List D} (hargs : Nat.ble ds₁.length fn.ntmps = true) {Bs Bs' : List Bx} (hc : calmB Bs = true) (hlen : Bs'.length = Bs.length) {α : Type} {rf : List D -> Mem -> Option α} {r : α} (h : bodyK cx fn ds₁ [frOf 0 Bs] rf = some r)
    {rs : List D} (hrs : ∀ rs' m', rf rs' m' = some r -> fars rs' = true /\ bares rs' = rs /\ ∃ own Bs₂, m' = [own, frOf 0 Bs₂] /\ calmB Bs₂ = true /\ WBs Bs' Bs₂) : ViewRet P cx.T f ds₁ Bs rs Bs' := by
  intro ps ds m dst hone hget hlB har
  obtain ⟨a1, a2⟩ := har.get
  refine view_entry hcx hf hb (regionsOK_of hm hcx hro) hl (Nat.le_of_ble_eq_true hargs) hone (Bs₁ := Bs) (fun j p hj => ?_) hlB a1 a2 h (by rw [hlen, hlB]) (fun rs' m' hr => ?_) dst
  . obtain ⟨B, h1, h2⟩ := hget j p hj
    exact ⟨B, B, h1, h2, calmB_get Bs hc j B h2⟩
  . obtain ⟨b1, b2, own, Bs₂, b3, b4, b5⟩ := hrs rs' m' hr
    exact ⟨b1, b2, own, Bs₂, b3, fun j p B' hj hB => by
      obtain ⟨B₂, c1, c2⟩ := b5.at_ hB
      exact ⟨B₂, c1, c2.renX (calmB_at Bs₂ b4 j B₂ c1)⟩⟩
theorem Here.congr {m m' : Mem} (h : Here T E g w m) (hl : m'.length = m.length) (hb : ∀ k s, m'.box? k s = m.box? k s) : Here T E g w m' :=
  ⟨fun k s b hh => h.mem k s b (by rw [← hb]; exact hh), by
    rw [h.dom]; funext k s; unfold memDom; rw [hb], h.sk, by rw [hl]; exact h.len⟩
theorem here_weak {m m' : Mem} (hh : Here T E g w m) (hl : m'.length = m.length) (hb : ∀ k s B', m'.box? k s = some B' -> ∃ B, m.box? k s = some B /\ WB B' B) (hd : ∀ k s, memDom m k s -> memDom m' k s) : Here T E g w m' := by
  refine ⟨fun k s B' hB' => ?_, ?_, hh.sk, by rw [hl]; exact hh.len⟩
  . obtain ⟨B, h1, h2, h3⟩ := hb k s B' hB'
    obtain ⟨h4, h5⟩ := h3.get
    have hr := hh.mem k s B h1
    obtain ⟨us, b1, b2, b3⟩ := hr.heap
    refine ⟨hr.le, hr.perm, us, by rw [h2]; exact b1, by rw [b2, h4], fun i c' hc => ?_⟩
    have hi : i < B.cells.length := by rw [h4]; exact (List.getElem?_eq_some_iff.1 hc).1
    obtain ⟨a1, a2, a3, a4⟩ := b3 i _ (List.getElem?_eq_getElem hi)
    rcases h5 i c' _ hc (List.getElem?_eq_getElem hi) with e | ⟨x, a, e1, e2⟩
    . rw [e]; exact ⟨a1, a2, a3, a4⟩
    . rw [e2] at a1 a4
      subst e1
      refine ⟨a1, rfl, fun e => (by cases e), ?_⟩
      cases a with
      | no => exact .v _ _ _ (repV_of a4) trivial
      | nil e => exact .v _ _ _ (repV_of a4) trivial
      | own p e => exact .v _ _ _ (repV_of a4) trivial
  . rw [hh.dom]
    funext k s
    refine propext ⟨hd k s, fun ⟨B', hB'⟩ => ?_⟩
    obtain ⟨B, h1, _⟩ := hb k s B' hB'
    exact ⟨B, h1⟩
theorem ViewRet.weakIn {f : FuncId} {ds : List D} {Bs Bs0 Bs' : List Bx} {rs : List D} (h : ViewRet P T f ds Bs rs Bs') (hw : WBs Bs Bs0) (hlen : Bs'.length = Bs.length) : ViewRet P T f ds Bs0 rs Bs' := by
  intro ps ds0 m dst hone hget hlB har E g w us hh hus
  have hl : Bs.length = ps.length := by rw [← hlB, hw.get.1]
  have hpb : ∀ (j : Nat) (p : Nat × Nat), ps[j]? = some p -> ∃ B B0, Bs[j]? = some B /\ Bs0[j]? = some B0 /\ m.box? p.1 p.2 = some B0 /\ WB B B0 := fun j p hj => by
    obtain ⟨B0, h1, h2⟩ := hget j p hj
    obtain ⟨B, h3, h4⟩ := hw.at' h2
    exact ⟨B, B0, h3, h2, h1, h4⟩
  have hset : ∀ (j : Nat) (p : Nat × Nat), ps[j]? = some p -> ∀ (Cs : List Bx) (C : Bx) (m : Mem), Cs[j]? = some C -> p.1 < m.length -> (setAll ps Cs m).box? p.1 p.2 = some C := fun j p hj Cs C m hC hlt => setAll_get ps Cs m j p.1 p.2 C hone hj hC hlt
  have hlt : ∀ (j : Nat) (p : Nat × Nat), ps[j]? = some p -> p.1 < m.length := fun j p hj => by
    obtain ⟨B0, h1, _⟩ := hget j p hj
    exact box_lt _ _ _ _ h1
  have hh1 : Here T E g w (setAll ps Bs m) := by
    refine here_weak hh (setAll_length _ _ _) (fun k s B' hB' => ?_) (fun k s hx => ?_)
    . by_cases hx : ∃ j : Nat, ps[j]? = some (k, s)
      . obtain ⟨j, hj⟩ := hx
        obtain ⟨B, B0, h1, h2, h3, h4⟩ := hpb j _ hj
        rw [hset j _ hj Bs B m h1 (hlt j _ hj)] at hB'
        injection hB' with hB'
        subst hB'
        exact ⟨B0, h3, h4⟩
      . rw [setAll_other ps Bs m (fun j hj => hx ⟨j, hj⟩)] at hB'
        refine ⟨B', hB', rfl, ?_⟩
        have : ∀ l : List D, WCs l l := fun l => by
          induction l with
          | nil => trivial
          | cons c l ih => exact ⟨.inl rfl, ih⟩
        exact this _
    . by_cases hy : ∃ j : Nat, ps[j]? = some (k, s)
      . obtain ⟨j, hj⟩ := hy
        obtain ⟨B, B0, h1, h2, h3, h4⟩ := hpb j _ hj
        exact ⟨B, hset j _ hj Bs B m h1 (hlt j _ hj)⟩
      . unfold memDom
        rw [setAll_other ps Bs m (fun j hj => hy ⟨j, hj⟩)]
        exact hx
  have hus1 : RepDs (inner E (setAll ps Bs m)) g w [] ds0 us := by
    have e : inner E (setAll ps Bs m) = inner E m := by
      unfold inner
      congr 1
      funext k s
      unfold memDom
      rcases k with _ | k
      . rfl
      . show (∃ b, (setAll ps Bs m).box? k s = some b) = (∃ b, m.box? k s = some b)
        have h1 := hh1.dom
        have h2 := hh.dom
        have h3 : memDom (setAll ps Bs m) k s = memDom m k s := by rw [← h1, ← h2]
        exact h3
    rw [e]; exact hus
  refine (h ps ds0 (setAll ps Bs m) dst hone (fun j p hj => ?_) hl har E g w us hh1 hus1).mono ?_
  . obtain ⟨B, B0, h1, h2, h3, h4⟩ := hpb j _ hj
    exact ⟨B, hset j _ hj Bs B m h1 (hlt j _ hj), h1⟩
  . rintro e w' ⟨us', g', E', a1, a2, a3, a4, a5⟩
    refine ⟨us', g', E', a1, a2, a3.congr (by simp [setAll_length]) fun k s => ?_, a4, a5⟩
    by_cases hx : ∃ j : Nat, ps[j]? = some (k, s)
    . obtain ⟨j, hj⟩ := hx
      have hj' : j < Bs'.length := by rw [hlen, hl]; exact (List.getElem?_eq_some_iff.1 hj).1
      rw [hset j _ hj Bs' _ m (List.getElem?_eq_getElem hj') (hlt j _ hj), hset j _ hj Bs' _ (setAll ps Bs m) (List.getElem?_eq_getElem hj') (by rw [setAll_length]; exact hlt j _ hj)]
    . rw [setAll_other ps Bs' m (fun j hj => hx ⟨j, hj⟩), setAll_other ps Bs' _ (fun j hj => hx ⟨j, hj⟩), setAll_other ps Bs m (fun j hj => hx ⟨j, hj⟩)]
def Perm.adopt (s d dst : Nat) : Perm -> Perm
  | .imm => .imm
  | .low n => .low n
  | .own p n => (match p with | .cell d' s' i => if d' = 0 /\ s' = s then .own (.cell d dst i) n else .low n | .slot _ _ => .low n)
  | .box d' s' => if d' = 0 /\ s' = s then .box d dst else .low 0
def G.adopt (g g' : G) (n s d dst : Nat) : G :=
  { Γ := fun b => if b < n then g.Γ b else (g'.Γ b).adopt s d dst, J := fun d' s' => if d' = d /\ s' = dst then g'.J 0 s else g.J d' s', sz := g.sz }
theorem new_entry (hm : P.follows .mixedOrders = true) (hcx : CxOK P cx) {f : FuncId} {fn : Func} (hf : P.funcs[f]? = some fn) (hb : fn.body = some (bodyOf fn)) (hro : (drawnOf (bodyOf fn)).all (orderB cx) = true) (hl : LoopsOK cx fn.ntmps (bodyOf fn))
    {ds : List D} (hargs : Nat.ble ds.length fn.ntmps = true) (hfar : fars ds = true) (hbare : bares ds = ds) {rf : List D -> Mem -> Option R} {r : R} (h : bodyK cx fn ds [] rf = some r)
    {B : Bx} (hcalm : B.cells.all D.calm = true) (hrs : ∀ rs' m', rf rs' m' = some r -> ∃ s fr, rs' = [.ptr 0 s 0] /\ m' = [fr] /\ frGet s fr = some B)
    {m : Mem} {dst : Nat} (hn : m.box? 0 dst = none) : MemRet P cx.T f dst ds m [.ptr 0 dst 0] (m.setBox 0 dst B) := by
  intro E g w us hh hus
  have hh0 : Here cx.T ⟨0, memDom [[]]⟩ g.hide w ([] :: []) := by
    refine ⟨fun k s b hb => ?_, rfl, hh.sk.later (hide_later g w), rfl⟩
    exfalso
    rcases k with _ | k
    . simp [Mem.box?, frGet] at hb
    . simp [Mem.box?] at hb
  have hr : RepDs ⟨0, memDom [[]]⟩ g.hide w [] ds us := by
    have := hus.far_ (E' := ⟨0, memDom [[]]⟩) (dead' := []) (hide_later g w) hfar
    rwa [hbare] at this
  have hml : 0 < m.length := by rw [hh.len]; omega
  refine body_sound hcx hf hb (regionsOK_of hm hcx hro) hl (Nat.le_of_ble_eq_true hargs) hh0 hr h fun rs' us' m' E' g' w' h1 h2 h3 h4 h5 => ?_
  obtain ⟨s, fr, rfl, rfl, hB⟩ := hrs rs' m' h1
  have h4 : E'.d = 0 := h4
  have hold : ∀ b, b < w.heap.size -> g'.Γ b = g.hide.Γ b /\ w'.heap[b]? = w.heap[b]? := fun b hb => h5.hid b hb (hid_perm _)
  have hbx := h2.mem 0 s B hB
  obtain ⟨cs, c1, c2, c3⟩ := hbx.heap
  have hpx := hbx.perm
  rw [h4] at c1 hpx
  have c1 : w'.heap[g'.J 0 s]? = some (.cells cs B.ty (0, 0)) := c1
  have hpx : g'.Γ (g'.J 0 s) = .box 0 s := hpx
  have hxn : ¬ g'.J 0 s < w.heap.size := fun hlt => by
    have h6 := (hold _ hlt).1
    rw [hpx] at h6
    simp only [G.hide] at h6
    rcases hid_perm (g.Γ (g'.J 0 s)) with e | ⟨n, e⟩ <;> rw [e] at h6 <;> cases h6
  have hset : Later g' w' (g.adopt g' w.heap.size s E.d dst) w' := by
    refine ⟨?_, fun b o v a1 a2 => ⟨?_, a2⟩, fun b x a1 a2 => ⟨?_, a2⟩⟩
    . show g.sz = g'.sz
      rw [h5.later.sz]; rfl
    . unfold Stable G.adopt
      simp only
      by_cases hb : b < w.heap.size
      . rw [if_pos hb]
        have : Stable g.hide b o := by unfold Stable at a1 ⊢; rw [(hold b hb).1] at a1; exact a1
        exact (stable_hide g b o).1 this
      . rw [if_neg hb]
        unfold Stable at a1
        cases hp : g'.Γ b with
        | imm => trivial
        | low n => rw [hp] at a1; exact a1
        | own p n =>
          rw [hp] at a1
          cases p with
          | slot a c => exact a1
          | cell a c i =>
            by_cases hc : a = 0 /\ c = s
            . simp only [Perm.adopt, if_pos hc]; exact a1
            . simp only [Perm.adopt, if_neg hc]; exact a1
        | box a c => rw [hp] at a1; exact a1.elim
    . unfold G.adopt
      simp only
      by_cases hb : b < w.heap.size
      . rw [if_pos hb]
        rw [(hold b hb).1] at a1
        simp only [G.hide] at a1
        cases hp : g.Γ b <;> rw [hp] at a1 <;> first | rfl | cases a1
      . rw [if_neg hb, a1]; rfl
  have hlat : Later g w (g.adopt g' w.heap.size s E.d dst) w' := ((hide_later g w).trans h5.later).trans hset
  have hJ : ∀ k s', k <= E.d -> E.dom k s' -> (g.adopt g' w.heap.size s E.d dst).J (E.d - k) s' = g.J (E.d - k) s' := fun k s' hk hd => by
    show (if E.d - k = E.d /\ s' = dst then g'.J 0 s else g.J (E.d - k) s') = _
    rw [if_neg]
    rintro ⟨e1, rfl⟩
    have : k = 0 := by omega
    subst this
    rw [hh.dom] at hd
    obtain ⟨b, hb⟩ := hd
    rw [hn] at hb
    cases hb
  have hΓ : ∀ b, b < w.heap.size -> (g.adopt g' w.heap.size s E.d dst).Γ b = g.Γ b := fun b hb => if_pos hb
  have hown : ∀ p e v, OwnAt g w p e v -> OwnAt (g.adopt g' w.heap.size s E.d dst) w' p e v := fun p e v ho => by
    rcases ho with h0 | ⟨b, n, cap, cur, a1, a2, a3, a4⟩
    . exact .inl h0
    . have hb := heap_lt a3
      exact .inr ⟨b, n, cap, cur, a1, by rw [hΓ b hb]; exact a2, by rw [(hold b hb).2]; exact a3, a4⟩
  have hownc : ∀ i e v, OwnAt g' w' (.cell 0 s i) e v -> OwnAt (g.adopt g' w.heap.size s E.d dst) w' (.cell E.d dst i) e v := fun i e v ho => by
    rcases ho with h0 | ⟨b, n, cap, cur, a1, a2, a3, a4⟩
    . exact .inl h0
    . have hb : ¬ b < w.heap.size := fun hlt => by
        have h6 := (hold _ hlt).1
        rw [a2] at h6
        simp only [G.hide] at h6
        rcases hid_perm (g.Γ b) with e | ⟨n, e⟩ <;> rw [e] at h6 <;> cases h6
      have hsz : (g.adopt g' w.heap.size s E.d dst).sz = g'.sz := hset.sz
      refine .inr ⟨b, n, cap, cur, a1, ?_, a3, by rw [hsz]; exact a4⟩
      show (if b < w.heap.size then g.Γ b else (g'.Γ b).adopt s E.d dst) = _
      rw [if_neg hb, a2]
      simp only [Perm.adopt]
      rw [if_pos (by simp), hsz]
  have hJx : (g.adopt g' w.heap.size s E.d dst).J (E.d - 0) dst = g'.J 0 s := if_pos ⟨by omega, rfl⟩
  refine ⟨us', g.adopt g' w.heap.size s E.d dst, ⟨E.d, memDom (m.setBox 0 dst B)⟩, rfl, ⟨hlat, rfl, fun k s' hd => ?_, hJ, fun s' e v ho => hown _ _ _ ho⟩, ⟨fun k s' b hbx' => ?_, rfl, hh.sk.later hlat, by rw [setBox_length]; exact hh.len⟩, ?_, ?_⟩
  . show ∃ b, (m.setBox 0 dst B).box? k s' = some b
    rw [box_set]
    split
    . exact ⟨B, rfl⟩
    . rw [hh.dom] at hd; exact hd
  . rw [box_set] at hbx'
    split at hbx'
    . rename_i hx
      obtain ⟨rfl, rfl, _⟩ := hx
      injection hbx' with hbx'
      subst hbx'
      refine ⟨Nat.zero_le _, ?_, cs, by rw [hJx]; exact c1, c2, fun i c hc => ?_⟩
      . rw [hJx]
        show (if g'.J 0 s < w.heap.size then g.Γ _ else (g'.Γ (g'.J 0 s)).adopt s E.d s') = _
        rw [if_neg hxn, hpx]
        simp only [Perm.adopt]
        rw [if_pos (by simp)]
        rfl
      . obtain ⟨b1, b2, b3, b4⟩ := c3 i c hc
        refine ⟨b1, b2, fun e => ?_, ?_⟩
        . rw [hJx]
          have := b3 e
          rw [h4] at this
          exact this
        . have hcc := List.all_eq_true.1 hcalm c (List.mem_of_getElem? hc)
          generalize cs.getD i undef = u at b4 ⊢
          cases c with
          | v x a =>
            cases a with
            | no => exact .v _ _ _ ((repV_of b4).later hset) trivial
            | nil e => cases b4 with | v x a v h ha => exact .v _ _ _ (h.later hset) ha
            | own p e =>
              cases b4 with
              | v x a v h ha =>
                rcases ha with ha | ⟨_, ha⟩
                . cases ha
                . refine .v _ _ _ (h.later hset) (.inr ⟨Nat.zero_le _, ?_⟩)
                  refine hownc i e _ ?_
                  have : OwnAt g' w' (.cell (E'.d - 0) s i) e u := ha
                  rw [h4] at this
                  exact this
          | bld => exact .any _
          | nilp => cases b4; exact .nilp
          | nilF => cases b4; exact .nilF
          | eptr xs o => cases b4 with | eptr _ _ b off us h hr => exact .eptr xs o b off us (fun k y hy => hset.st _ _ _ (h k y hy).1 (h k y hy).2) (fun k y hy => (hr k y hy).later hset)
          | _ => cases hcc
    . rename_i hx
      have hr := hh.mem k s' b hbx'
      obtain ⟨us2, a1, a2, a3⟩ := hr.heap
      have hlt := heap_lt a1
      have hd : E.dom k s' := by rw [hh.dom]; exact ⟨b, hbx'⟩
      have hJ' := hJ k s' hr.le hd
      refine ⟨hr.le, ?_, us2, ?_, a2, fun i c hc => ?_⟩
      . show (g.adopt g' w.heap.size s E.d dst).Γ ((g.adopt g' w.heap.size s E.d dst).J (E.d - k) s') = _
        rw [hJ', hΓ _ hlt]; exact hr.perm
      . show w'.heap[(g.adopt g' w.heap.size s E.d dst).J (E.d - k) s']? = _
        rw [hJ', (hold _ hlt).2]; exact a1
      . obtain ⟨b1, b2, b3, b4⟩ := a3 i c hc
        refine ⟨b1, b2, fun e => by
          show BldAt ((g.adopt g' w.heap.size s E.d dst).J (E.d - k) s') _
          rw [hJ']; exact b3 e, ?_⟩
        refine cell_move (E' := ⟨E.d, memDom (m.setBox 0 dst B)⟩) b2 b4 (by simp) (fun _ _ => true) hlat rfl (fun k s' hd _ => ?_) (fun k s' hk hd _ => hJ k s' hk hd) (fun e v ho => hown _ _ _ ho) (fun _ => true) (fun _ _ _ _ => rfl) (fun _ _ _ _ _ _ => rfl) (fun _ _ _ _ _ => rfl) (fun _ _ _ _ _ => rfl) rfl (fun _ _ => rfl)
        show ∃ b, (m.setBox 0 dst B).box? k s' = some b
        rw [box_set]
        split
        . exact ⟨B, rfl⟩
        . rw [hh.dom] at hd; exact hd
  . refine ⟨h3.1, fun k y hk => ?_⟩
    rcases k with _ | k
    . simp at hk
      subst hk
      have h6 := h3.2 0 _ rfl
      have h7 : ∀ u, RepD E' g' w' [] (.ptr 0 s 0) u -> u = .pointer (some ⟨g'.J 0 s, 0, none⟩) := fun u hu => by
        cases hu with | ptr k s o hk hd => rw [h4]
      rw [h7 _ h6, ← hJx]
      exact .ptr (E := ⟨E.d, memDom (m.setBox 0 dst B)⟩) 0 dst 0 (Nat.zero_le _) (by
        show ∃ b, (m.setBox 0 dst B).box? 0 dst = some b
        rw [box_set, if_pos ⟨rfl, rfl, hml⟩]; exact ⟨B, rfl⟩)
    . simp at hk
  . exact ⟨h5.os, h5.tape, h5.output, h5.size, hlat, fun b hb _ => ⟨hΓ b hb, (hold b hb).2⟩, fun d' s' hd => if_neg (by rintro ⟨e, _⟩; omega)⟩
theorem mem_of_pure {f : FuncId} {ds rs : List D} (h : PureRet P T f ds rs) (hfar : fars ds = true) (hbare : bares ds = ds) (m : Mem) (dst : Nat) : MemRet P T f dst ds m rs m := by
  intro E g w us hh hus
  have hr : RepDs E g w [] ds us := by
    have := hus.far_ (E' := E) (dead' := []) (Later.refl g w) hfar
    rwa [hbare] at this
  refine (h E g w us hh.sk hr).mono ?_
  rintro e w' ⟨us', g', rfl, h1, h2⟩
  exact ⟨us', g', E, rfl, ⟨h2.later, rfl, fun _ _ h => h, fun _ _ _ _ => by rw [h2.J], fun _ _ _ ho => h2.own ho⟩, h2.here hh, h1 E, h2.tr E.d⟩
end
end Go.Proofs.Ytilfphdeacogmaa.En

/- smartcard/block.Same and smartcardref06.Same: the walks (printed by wip/gen/same.py). -/
namespace Go.Proofs.Ytilfphdeacogmaa
open Go.RowKit
set_option linter.unusedVariables false
def sameBl (nad kind seq : Int) (more : Bool) (code : Int) (answer : Bool) (inf : List UInt8) (nad' kind' seq' : Int) (more' : Bool) (code' : Int) (answer' : Bool) (inf' : List UInt8) : Bool :=
  decide (nad = nad' /\ kind = kind' /\ seq = seq' /\ more = more' /\ code = code' /\ answer = answer' /\ inf = inf')
section
variable (nad kind seq : Int) (more : Bool) (code : Int) (answer : Bool) (A : Option Addr) (n c : Nat) (inf : List UInt8) (nad' kind' seq' : Int) (more' : Bool) (code' : Int) (answer' : Bool) (A' : Option Addr) (n' c' : Nat) (inf' : List UInt8) (w : World)
set_option maxHeartbeats 800000 in
theorem bsame_any (h : IsB w A n c inf) (h' : IsB w A' n' c' inf') : Calls Try.prog 45 #[.agg #[.int .i64 nad, .int .i64 kind, .int .i64 seq, .bool more, .int .i64 code, .bool answer, .slice A n c], .agg #[.int .i64 nad', .int .i64 kind', .int .i64 seq', .bool more', .int .i64 code', .bool answer', .slice A' n' c']] w
    fun e w' => e = .returned (.bool (sameBl nad kind seq more code answer inf nad' kind' seq' more' code' answer' inf')) /\ Below w.heap.size w w' := by
  have H := Lib.hid (And.intro h h')
  have HB : Hid (Below w.heap.size w ((w.alloc (.cells #[.int .i64 nad, .int .i64 kind, .int .i64 seq, .bool more, .int .i64 code, .bool answer, .slice A n c] 29)).alloc (.cells #[.int .i64 nad', .int .i64 kind', .int .i64 seq', .bool more', .int .i64 code', .bool answer', .slice A' n' c'] 29))) := ((Below.refl _ _).alloc (Nat.le_refl _) _).alloc (by simp) _
  clear h h'
  by_cases e0 : nad = nad'
  case neg =>
    have hs : sameBl nad kind seq more code answer inf nad' kind' seq' more' code' answer' inf' = false := by unfold sameBl; exact decide_eq_false (by simp [e0])
    have ef : (nad == nad') = false := by simpa using e0
    rw [hs]
    clear hs e0
    go_enter Try.func45, Try.ntmps45
    go_wp2_with fail
    go_ret
    exact ⟨rfl, HB.out⟩
  subst e0
  by_cases e1 : kind = kind'
  case neg =>
    have hs : sameBl nad kind seq more code answer inf nad kind' seq' more' code' answer' inf' = false := by unfold sameBl; exact decide_eq_false (by simp [e1])
    have ef : (kind == kind') = false := by simpa using e1
    rw [hs]
    clear hs e1
    go_enter Try.func45, Try.ntmps45
    go_wp2_with fail
    go_ret
    exact ⟨rfl, HB.out⟩
  subst e1
  by_cases e2 : seq = seq'
  case neg =>
    have hs : sameBl nad kind seq more code answer inf nad kind seq' more' code' answer' inf' = false := by unfold sameBl; exact decide_eq_false (by simp [e2])
    have ef : (seq == seq') = false := by simpa using e2
    rw [hs]
    clear hs e2
    go_enter Try.func45, Try.ntmps45
    go_wp2_with fail
    go_ret
    exact ⟨rfl, HB.out⟩
  subst e2
  by_cases e3 : more = more'
  case neg =>
    have hs : sameBl nad kind seq more code answer inf nad kind seq more' code' answer' inf' = false := by unfold sameBl; exact decide_eq_false (by simp [e3])
    have ef : (more == more') = false := by simpa using e3
    rw [hs]
    clear hs e3
    go_enter Try.func45, Try.ntmps45
    go_wp2_with fail
    go_ret
    exact ⟨rfl, HB.out⟩
  subst e3
  by_cases e4 : code = code'
  case neg =>
    have hs : sameBl nad kind seq more code answer inf nad kind seq more code' answer' inf' = false := by unfold sameBl; exact decide_eq_false (by simp [e4])
    have ef : (code == code') = false := by simpa using e4
    rw [hs]
    clear hs e4
    go_enter Try.func45, Try.ntmps45
    go_wp2_with fail
    go_ret
    exact ⟨rfl, HB.out⟩
  subst e4
  by_cases e5 : answer = answer'
  case neg =>
    have hs : sameBl nad kind seq more code answer inf nad kind seq more code answer' inf' = false := by unfold sameBl; exact decide_eq_false (by simp [e5])
    have ef : (answer == answer') = false := by simpa using e5
    rw [hs]
    clear hs e5
    go_enter Try.func45, Try.ntmps45
    go_wp2_with fail
    go_ret
    exact ⟨rfl, HB.out⟩
  subst e5
  have hs : sameBl nad kind seq more code answer inf nad kind seq more code answer inf' = decide (inf = inf') := by unfold sameBl; simp
  rw [hs]
  clear hs
  go_enter Try.func45, Try.ntmps45
  go_wp2_with fail
  refine (equal_any A n c inf A' n' c' inf' _ (Rd.alloc (Rd.alloc H.out.1 _) _) (Rd.alloc (Rd.alloc H.out.2 _) _)).mono ?_
  rintro e w3 ⟨rfl, rfl⟩
  go_wp2_with fail
  go_ret
  exact ⟨rfl, HB.out⟩
end
end Go.Proofs.Ytilfphdeacogmaa

/- Chapter 06's walks of both Encodes, both Decodes and Same, as entries of the engine. -/
namespace Go.Proofs.Ytilfphdeacogmaa.En
open Go Go.RowKit
set_option linter.unusedVariables false
theorem aggD_inv {E : Env} {g : G} {w : World} {dead : List Pos} {cs : List V} {u : Value} (h : RepD E g w dead (.agg (cs.map fun x => .v x .no)) u) : ∃ us, u = .agg us /\ RepV g w (.agg cs) (.agg us) := by
  generalize hd : D.agg (cs.map fun x => .v x .no) = d at h
  cases h with
  | agg ds us hn hr =>
    injection hd with hd
    subst hd
    refine ⟨us, rfl, .agg _ us (by simpa using hn) fun j y hy => ?_⟩
    have := hr j (.v y .no) (by simp [hy])
    cases this with | v _ _ _ hv _ => exact hv
  | _ => cases hd
theorem blk_inv {E : Env} {g : G} {w : World} {x0 x1 x2 : Int} {x3 : Bool} {x4 : Int} {x5 : Bool} {x6 : List UInt8} {u : Value} (h : RepD E g w [] (.agg [.v (.int .i64 x0) .no, .v (.int .i64 x1) .no, .v (.int .i64 x2) .no, .v (.bool x3) .no, .v (.int .i64 x4) .no, .v (.bool x5) .no, .v (.bytes x6) .no]) u) :
    ∃ A n c, u = .agg #[.int .i64 x0, .int .i64 x1, .int .i64 x2, .bool x3, .int .i64 x4, .bool x5, .slice A n c] /\ IsB w A n c x6 /\ RepV g w (.bytes x6) (.slice A n c) := by
  obtain ⟨us, rfl, hv⟩ := aggD_inv (cs := [.int .i64 x0, .int .i64 x1, .int .i64 x2, .bool x3, .int .i64 x4, .bool x5, .bytes x6]) h
  cases hv with
  | agg cs us hn hr3 =>
  obtain ⟨us⟩ := us
  match us, hn with
  | [u0, u1, u2, u3, u4, u5, u6], _ =>
  have r0 := hr3 0 _ rfl
  have r1 := hr3 1 _ rfl
  have r2 := hr3 2 _ rfl
  have r3 := hr3 3 _ rfl
  have r4 := hr3 4 _ rfl
  have r5 := hr3 5 _ rfl
  have r6 := hr3 6 _ rfl
  simp at r0 r1 r2 r3 r4 r5 r6
  cases r0; cases r1; cases r2; cases r3; cases r4; cases r5
  obtain ⟨A, n, c, rfl, hB⟩ := isB_of_rep r6
  exact ⟨A, n, c, rfl, hB, r6⟩
def newG (g : G) (w : World) : G := { g with Γ := fun b => if b < w.heap.size then g.Γ b else .imm }
theorem newG_tr {g : G} {w w' : World} (hb : Below w.heap.size w w') : PureTr g w (newG g w) w' :=
  ⟨⟨hb.os, hb.tape, hb.output, hb.size, hb.block⟩, fun b hlt => if_pos hlt, fun b hge => by
    show Perm.still (if b < w.heap.size then g.Γ b else .imm) = true
    rw [if_neg (by omega)]; rfl, rfl, rfl⟩
theorem newG_bytes {g : G} {w w' : World} {A : Option Addr} {n c : Nat} {xs : List UInt8} (h : IsB w' A n c xs) (hn : ∀ b off, A = some ⟨b, off, none⟩ -> w.heap.size <= b) : RepV (newG g w) w' (.bytes xs) (.slice A n c) := by
  refine .bytes xs A n c (by simpa using h.len) h.cap h.max fun k x hx => ?_
  obtain ⟨b, off, e, h2⟩ := Rd.at_ h k (u8 x) (by simp [hx])
  refine ⟨b, off, e, ?_, h2⟩
  have hge := hn b off e
  unfold Stable newG
  simp only
  rw [if_neg (by omega)]; trivial
theorem i64_ok {n : Int} (h : 0 <= n /\ n <= 1000) : IntKind.i64.min <= n /\ n <= IntKind.i64.max := by show (-9223372036854775808 : Int) <= _ /\ _ <= (9223372036854775807 : Int); omega
theorem checkE_range (x0 x1 x2 : Int) (x3 : Bool) (x4 : Int) (x5 : Bool) (x6 : List UInt8) : 0 <= checkE x0 x1 x2 x3 x4 x5 x6 /\ checkE x0 x1 x2 x3 x4 x5 x6 <= 4 := by
  unfold checkE infE
  repeat' split
  all_goals omega
theorem encE_range (k x0 x1 x2 : Int) (x3 : Bool) (x4 : Int) (x5 : Bool) (x6 : List UInt8) : 0 <= encE k x0 x1 x2 x3 x4 x5 x6 /\ encE k x0 x1 x2 x3 x4 x5 x6 <= 1000 := by
  have := checkE_range x0 x1 x2 x3 x4 x5 x6
  unfold encE
  split <;> omega
theorem bodyE_range (xs : List UInt8) : 0 <= bodyE xs /\ bodyE xs <= 4 := by
  unfold bodyE
  split
  . exact checkE_range ..
  . omega
theorem decE_range (k : Int) (xs : List UInt8) : 0 <= decE k xs /\ decE k xs <= 1000 := by
  have := bodyE_range (bodyB k xs)
  unfold decE
  repeat' split
  all_goals omega
theorem dec_range (k : Int) (xs : List UInt8) : (0 <= dNad k xs /\ dNad k xs <= 1000) /\ (0 <= dKind k xs /\ dKind k xs <= 1000) /\ (0 <= dSeq k xs /\ dSeq k xs <= 1000) /\ (0 <= dCode k xs /\ dCode k xs <= 1000) := by
  have h0 : b0N k xs < 256 := by unfold b0N; exact UInt8.toNat_lt _
  have h1 : b1N k xs < 256 := by unfold b1N; exact UInt8.toNat_lt _
  have key : ∀ c : Nat, c < 256 -> (0 <= kindC c /\ kindC c <= 1000) /\ (0 <= seqC c /\ seqC c <= 1000) /\ (0 <= codeC c /\ codeC c <= 1000) := by decide +kernel
  obtain ⟨k1, k2, k3⟩ := key _ h1
  unfold dNad dKind dSeq dCode
  refine ⟨?_, ?_, ?_, ?_⟩ <;> split <;> first | omega | assumption
noncomputable def s_bEncode (N : Nat) (x0 x1 x2 : Int) (x3 : Bool) (x4 : Int) (x5 : Bool) (x6 : List UInt8) (x7 : Int) : Option (List UInt8 × Int) := some (encL x7 x0 x1 x2 x3 x4 x5 x6, encE x7 x0 x1 x2 x3 x4 x5 x6)
theorem enc_pure {f : FuncId} (hf : ∀ (x0 x1 x2 : Int) (x3 : Bool) (x4 : Int) (x5 : Bool) (A : Option Addr) (n c : Nat) (x6 : List UInt8) (x7 : Int) (w : World), IsB w A n c x6 -> Calls Try.prog f #[.agg #[.int .i64 x0, .int .i64 x1, .int .i64 x2, .bool x3, .int .i64 x4, .bool x5, .slice A n c], .int .i64 x7] w (EncPost x7 x0 x1 x2 x3 x4 x5 x6 w))
    (x0 x1 x2 : Int) (x3 : Bool) (x4 : Int) (x5 : Bool) (x6 : List UInt8) (x7 : Int) : PureRet Try.prog T f [.agg [.v (.int .i64 x0) .no, .v (.int .i64 x1) .no, .v (.int .i64 x2) .no, .v (.bool x3) .no, .v (.int .i64 x4) .no, .v (.bool x5) .no, .v (.bytes x6) .no], .v (.int .i64 x7) .no]
      [.v (.bytes (encL x7 x0 x1 x2 x3 x4 x5 x6)) .no, .v (.int .i64 (encE x7 x0 x1 x2 x3 x4 x5 x6)) .no] := by
  intro E g w us hsz hus
  obtain ⟨hl, hr⟩ := hus
  match us, hl with
  | [u, v], _ =>
  have hu := hr 0 _ rfl
  have hv := hr 1 _ rfl
  simp only [List.getD_cons_zero, List.getD_cons_succ] at hu hv
  obtain ⟨A, n, c, rfl, hB, _⟩ := blk_inv hu
  cases hv with
  | v _ _ _ hv _ =>
  cases hv
  refine (hf x0 x1 x2 x3 x4 x5 A n c x6 x7 w hB).mono ?_
  rintro e w' ⟨A', n', c', rfl, ho, hb⟩
  refine ⟨[.slice A' n' c', .int .i64 (encE x7 x0 x1 x2 x3 x4 x5 x6)], newG g w, rfl, fun E' => ⟨rfl, fun k y hk => ?_⟩, newG_tr hb⟩
  rcases k with _ | _ | k
  . simp at hk; subst hk
    exact .v _ _ _ (newG_bytes ho.rd fun b off e => ho.block b (by subst e; rfl)) trivial
  . simp at hk; subst hk
    exact .v _ _ _ (.int _ _ (i64_ok (encE_range ..))) trivial
  . simp at hk
abbrev g0a (a0 a1 a2 : Int) (a3 : Bool) (a4 : Int) (a5 : Bool) (a6 : List UInt8) : D := .agg [dI a0, dI a1, dI a2, dB a3, dI a4, dB a5, dY a6]
theorem p_bEncode (N : Nat) (x0 x1 x2 : Int) (x3 : Bool) (x4 : Int) (x5 : Bool) (x6 : List UInt8) (x7 : Int) (r0 : List UInt8) (r1 : Int) (h : s_bEncode N x0 x1 x2 x3 x4 x5 x6 x7 = some (r0, r1)) :
    PureRet Try.prog T 95 [g0a x0 x1 x2 x3 x4 x5 x6, dI x7] [dY r0, dI r1] := by
  cases h
  exact enc_pure (fun x0 x1 x2 x3 x4 x5 A n c x6 x7 w hB => enc_any x0 x1 x2 x3 x4 x5 A n c x6 x7 w hB) x0 x1 x2 x3 x4 x5 x6 x7
noncomputable def s_bDecode (N : Nat) (x0 : List UInt8) (x1 : Int) : Option (Int × Int × Int × Bool × Int × Bool × List UInt8 × Int) := br (decide (x0.length <= 900000)) (some (dNad x1 x0, dKind x1 x0, dSeq x1 x0, dMore x1 x0, dCode x1 x0, dAns x1 x0, dInf x1 x0, decE x1 x0)) none
theorem dec_pure {f : FuncId} (hf : ∀ (A : Option Addr) (n c : Nat) (k : Int) (xs : List UInt8) (w : World), IsB w A n c xs -> xs.length <= 900000 -> Calls Try.prog f #[.slice A n c, .int .i64 k] w (DecPost k xs w))
    (x0 : List UInt8) (x1 : Int) (hx : x0.length <= 900000) : PureRet Try.prog T f [.v (.bytes x0) .no, .v (.int .i64 x1) .no]
      [.agg [.v (.int .i64 (dNad x1 x0)) .no, .v (.int .i64 (dKind x1 x0)) .no, .v (.int .i64 (dSeq x1 x0)) .no, .v (.bool (dMore x1 x0)) .no, .v (.int .i64 (dCode x1 x0)) .no, .v (.bool (dAns x1 x0)) .no, .v (.bytes (dInf x1 x0)) .no], .v (.int .i64 (decE x1 x0)) .no] := by
  intro E g w us hsz hus
  obtain ⟨hl, hr⟩ := hus
  match us, hl with
  | [u, v], _ =>
  have hu := hr 0 _ rfl
  have hv := hr 1 _ rfl
  simp only [List.getD_cons_zero, List.getD_cons_succ] at hu hv
  cases hu with
  | v _ _ _ hu _ =>
  cases hv with
  | v _ _ _ hv _ =>
  cases hv
  obtain ⟨A, n, c, rfl, hB⟩ := isB_of_rep hu
  refine (hf A n c x1 x0 w hB hx).mono ?_
  rintro e w' ⟨A', n', c', rfl, hi, hb, hnew⟩
  refine ⟨[.agg #[.int .i64 (dNad x1 x0), .int .i64 (dKind x1 x0), .int .i64 (dSeq x1 x0), .bool (dMore x1 x0), .int .i64 (dCode x1 x0), .bool (dAns x1 x0), .slice A' n' c'], .int .i64 (decE x1 x0)], newG g w, rfl, fun E' => ⟨rfl, fun k y hk => ?_⟩, newG_tr hb⟩
  obtain ⟨r1, r2, r3, r4⟩ := dec_range x1 x0
  rcases k with _ | _ | k
  . simp at hk; subst hk
    refine .agg _ _ rfl fun k y hk => ?_
    rcases k with _ | _ | _ | _ | _ | _ | _ | k
    . simp at hk; subst hk; exact .v _ _ _ (.int _ _ (i64_ok r1)) trivial
    . simp at hk; subst hk; exact .v _ _ _ (.int _ _ (i64_ok r2)) trivial
    . simp at hk; subst hk; exact .v _ _ _ (.int _ _ (i64_ok r3)) trivial
    . simp at hk; subst hk; exact .v _ _ _ (.bool _) trivial
    . simp at hk; subst hk; exact .v _ _ _ (.int _ _ (i64_ok r4)) trivial
    . simp at hk; subst hk; exact .v _ _ _ (.bool _) trivial
    . simp at hk; subst hk; exact .v _ _ _ (newG_bytes hi hnew) trivial
    . simp at hk
  . simp at hk; subst hk
    exact .v _ _ _ (.int _ _ (i64_ok (decE_range ..))) trivial
  . simp at hk
theorem p_bDecode (N : Nat) (x0 : List UInt8) (x1 r0 r1 r2 : Int) (r3 : Bool) (r4 : Int) (r5 : Bool) (r6 : List UInt8) (r7 : Int) (h : s_bDecode N x0 x1 = some (r0, r1, r2, r3, r4, r5, r6, r7)) :
    PureRet Try.prog T 79 [dY x0, dI x1] [g0a r0 r1 r2 r3 r4 r5 r6, dI r7] := by
  unfold s_bDecode br at h
  by_cases hx : x0.length <= 900000
  . simp only [hx, decide_true, cond_true] at h
    cases h
    exact dec_pure (fun A n c k xs w h1 h2 => dec_any A n c k xs w h1 h2) x0 x1 hx
  . simp only [hx, decide_false, cond_false] at h
    cases h
def s_bSame (N : Nat) (x0 x1 x2 : Int) (x3 : Bool) (x4 : Int) (x5 : Bool) (x6 : List UInt8) (x7 x8 x9 : Int) (x10 : Bool) (x11 : Int) (x12 : Bool) (x13 : List UInt8) : Option Bool := some (sameBl x0 x1 x2 x3 x4 x5 x6 x7 x8 x9 x10 x11 x12 x13)
theorem p_bSame (N : Nat) (x0 x1 x2 : Int) (x3 : Bool) (x4 : Int) (x5 : Bool) (x6 : List UInt8) (x7 x8 x9 : Int) (x10 : Bool) (x11 : Int) (x12 : Bool) (x13 : List UInt8) (r0 : Bool) (h : s_bSame N x0 x1 x2 x3 x4 x5 x6 x7 x8 x9 x10 x11 x12 x13 = some r0) :
    PureRet Try.prog T 45 [g0a x0 x1 x2 x3 x4 x5 x6, g0a x7 x8 x9 x10 x11 x12 x13] [dB r0] := by
  injection h with h
  subst h
  intro E g w us hsz hus
  obtain ⟨hl, hr⟩ := hus
  match us, hl with
  | [u, v], _ =>
  have hu := hr 0 _ rfl
  have hv := hr 1 _ rfl
  simp only [List.getD_cons_zero, List.getD_cons_succ] at hu hv
  obtain ⟨A, n, c, rfl, hB, _⟩ := blk_inv hu
  obtain ⟨A', n', c', rfl, hB', _⟩ := blk_inv hv
  refine (bsame_any x0 x1 x2 x3 x4 x5 A n c x6 x7 x8 x9 x10 x11 x12 A' n' c' x13 w hB hB').mono ?_
  rintro e w' ⟨rfl, hb⟩
  exact ⟨[.bool (sameBl x0 x1 x2 x3 x4 x5 x6 x7 x8 x9 x10 x11 x12 x13)], newG g w, rfl, fun E' => ⟨rfl, fun k y hk => by
    rcases k with _ | k
    . simp at hk; subst hk; exact .v _ _ _ (.bool _) trivial
    . simp at hk⟩, newG_tr hb⟩
end Go.Proofs.Ytilfphdeacogmaa.En

/- smartcardlaw08.arrives: the walk, and its entry. -/
namespace Go.Proofs.Ytilfphdeacogmaa
open Go.RowKit
set_option linter.unusedVariables false
theorem Rd.set {w : World} {g o n c : Nat} {vs : List Value} {k : Nat} {v : Value} (h : Rd w (some ⟨g, o, none⟩) n c vs) (hk : k < n) : Rd (w.setCell ⟨g, o + k, none⟩ v) (some ⟨g, o, none⟩) n c (vs.set k v) := by
  refine ⟨by rw [List.length_set, h.len], h.cap, h.max, fun j u hj => ?_⟩
  rw [List.getElem?_set] at hj
  by_cases hjk : k = j
  . subst hjk
    rw [if_pos rfl] at hj
    split at hj
    . injection hj with hj
      subst hj
      obtain ⟨b, off, hA, hc⟩ := h.at_ k vs[k] (List.getElem?_eq_getElem (by assumption))
      injection hA with hA
      injection hA with e1 e2
      subst e1 e2
      exact ⟨g, o, rfl, World.cell?_setCell_same _ _ _ hc⟩
    . cases hj
  . rw [if_neg hjk] at hj
    obtain ⟨b, off, hA, hc⟩ := h.at_ j u hj
    injection hA with hA
    injection hA with e1 e2
    subst e1 e2
    exact ⟨g, o, rfl, by rw [World.cell?_setCell_other _ _ _ _ (by simp <;> omega)]; exact hc⟩
def arrM (n : Nat) (flip : Int) : Nat := ((flip - 1) % (8 * (n : Int))).toNat
def arrB (xs : List UInt8) (lost : Bool) (flip : Int) : List UInt8 :=
  if lost = true then [] else if 0 < flip /\ xs ≠ [] then xs.set (arrM xs.length flip / 8) (xs.getD (arrM xs.length flip / 8) 0 ^^^ UInt8.ofNat (2 ^ (arrM xs.length flip % 8))) else xs
def ArrPost (xs : List UInt8) (lost : Bool) (flip : Int) (w : World) (e : Ending) (w' : World) : Prop :=
  ∃ A n c, e = .returned (.tuple #[.slice A n c, .bool (!lost)]) /\ IsB w' A n c (arrB xs lost flip) /\ Below w.heap.size w w' /\ ∀ b off, A = some ⟨b, off, none⟩ -> w.heap.size <= b
theorem cell_of_heap' {w w' : World} {b o : Nat} (h : w'.heap[b]? = w.heap[b]?) : w'.cell? ⟨b, o, none⟩ = w.cell? ⟨b, o, none⟩ := World.cell?_of_block (a := ⟨b, o, none⟩) h
theorem arr_lost (A : Option Addr) (n c : Nat) (xs : List UInt8) (flip : Int) (w : World) (h : IsB w A n c xs) :
    Calls Try.prog 91 #[.slice A n c, .agg #[.bool true, .int .i64 flip]] w (ArrPost xs true flip w) := by
  clear h
  go_enter Try.func91, Try.ntmps91
  go_wp2_with fail
  go_ret2
  exact ⟨none, 0, 0, rfl, Rd.nil, (Below.refl _ _).alloc (Nat.le_refl _) _, fun b off e => by cases e⟩
set_option maxRecDepth 8000 in
set_option maxHeartbeats 1000000 in
theorem arr_same (A : Option Addr) (n c : Nat) (xs : List UInt8) (flip : Int) (w : World) (h : IsB w A n c xs) (hf : -9223372036854775808 <= flip /\ flip <= 9223372036854775807) (hn9 : n <= 900000) (h0 : flip <= 0 ∨ n = 0) :
    Calls Try.prog 91 #[.slice A n c, .agg #[.bool false, .int .i64 flip]] w (ArrPost xs false flip w) := by
  have hl := h.len
  have hn := h.len63
  have hB : arrB xs false flip = xs := by
    unfold arrB
    rw [if_neg (by simp), if_neg]
    rintro ⟨h1, h2⟩
    rcases h0 with h0 | h0
    . omega
    . exact h2 (List.length_eq_zero_iff.1 (by simpa [h0] using hl))
  unfold ArrPost
  rw [hB]
  have HB := Lib.hid (Rd.alloc h (.cells #[.bool false, .int .i64 flip] 110))
  obtain ⟨i0, hi0, hz0, hz1, hz2⟩ := info_parts info8
  have HI := Lib.hid (And.intro hi0 (And.intro hz0 (And.intro hz1 hz2)))
  have HL := Lib.hid hl
  clear hi0 hz0 hz1 hz2 h hB hl
  have hzw : w.heap.size <= (w.alloc (.cells #[.bool false, .int .i64 flip] 110)).heap.size := by simp
  go_enter Try.func91, Try.ntmps91
  go_wp2_with (at_builtin; refine wpList_append_rd _ rfl (.tmp 10) (.tmp 11) 27 rfl w.heap.size 5 i0 _ 1 Try.underlying27 HI.out.1 HI.out.2.1 HI.out.2.2.1 HI.out.2.2.2 rfl none 0 0 [] rfl (Own.nil _ _) A n c _ rfl HB.out (u8_one _) ?_ (by omega) hzw ?_)
  case _ => omega
  intro A2 c2 w2 hown hg _
  have hbw2 := ((Below.refl w.heap.size w).alloc (Nat.le_refl _) (.cells #[.bool false, .int .i64 flip] 110)).grown hg hzw (by simp [Value.ownBlock])
  have hown2 : Own w2 w.heap.size 5 A2 n c2 (xs.map u8) := by simpa using hown
  have hb3 := (Below.refl _ _).grown hg (Nat.le_refl _) (by simp [Value.ownBlock])
  have hc1 : w2.cell? ⟨w.heap.size, 1, none⟩ = some (.int .i64 flip) := by
    rw [cell_of_heap' (hb3.block _ (by simp))]
    simp
  clear hb3
  clear hown hg
  have H2 := Lib.hid (And.intro hown2 hbw2)
  clear hown2 hbw2
  rcases h0 with h0 | h0
  . have g1 : ¬ 0 < flip := by omega
    go_wp2_with fail
    go_ret2
    exact ⟨A2, n, c2, rfl, H2.out.1.rd, H2.out.2, fun b off e => H2.out.1.block b (by subst e; rfl)⟩
  . subst h0
    by_cases g1 : 0 < flip
    . go_wp2_with fail
      go_ret2
      exact ⟨A2, 0, c2, rfl, H2.out.1.rd, H2.out.2, fun b off e => H2.out.1.block b (by subst e; rfl)⟩
    . go_wp2_with fail
      go_ret2
      exact ⟨A2, 0, c2, rfl, H2.out.1.rd, H2.out.2, fun b off e => H2.out.1.block b (by subst e; rfl)⟩
set_option maxRecDepth 8000 in
set_option maxHeartbeats 1000000 in
theorem arr_flip (A : Option Addr) (n c : Nat) (xs : List UInt8) (flip : Int) (w : World) (h : IsB w A n c xs) (hf : -9223372036854775808 <= flip /\ flip <= 9223372036854775807) (hn9 : n <= 900000) (g1 : 0 < flip) (g2 : 0 < n) :
    Calls Try.prog 91 #[.slice A n c, .agg #[.bool false, .int .i64 flip]] w (ArrPost xs false flip w) := by
  have hl := h.len
  obtain ⟨m, hm⟩ : ∃ m : Nat, (flip - 1) % (8 * (n : Int)) = (m : Int) := ⟨((flip - 1) % (8 * (n : Int))).toNat, by have := Int.emod_nonneg (flip - 1) (b := 8 * (n : Int)) (by omega); omega⟩
  have hm8 : m < 8 * n := by have := Int.emod_lt_of_pos (flip - 1) (b := 8 * (n : Int)) (by omega); omega
  have hlx : xs.length = n := by simpa using hl
  have hne : xs ≠ [] := by rintro rfl; simp at hlx; omega
  have hi : m / 8 < xs.length := by omega
  have hB : arrB xs false flip = xs.set (m / 8) (xs[m / 8] ^^^ UInt8.ofNat (2 ^ (m % 8))) := by
    unfold arrB
    have e : arrM xs.length flip = m := by unfold arrM; rw [hlx, hm]; rfl
    rw [if_neg (by simp), if_pos ⟨g1, hne⟩, e, show xs.getD (m / 8) 0 = xs[m / 8] by rw [List.getD_eq_getElem?_getD, List.getElem?_eq_getElem hi]; rfl]
  unfold ArrPost
  rw [hB]
  have HB := Lib.hid (Rd.alloc h (.cells #[.bool false, .int .i64 flip] 110))
  obtain ⟨i0, hi0, hz0, hz1, hz2⟩ := info_parts info8
  have HI := Lib.hid (And.intro hi0 (And.intro hz0 (And.intro hz1 hz2)))
  have HL := Lib.hid (And.intro hl hi)
  clear hi0 hz0 hz1 hz2 hB hl hlx hne
  have hz : ((n : Int) == 0) = false := by simp; omega
  have hzw : w.heap.size <= (w.alloc (.cells #[.bool false, .int .i64 flip] 110)).heap.size := by simp
  go_enter Try.func91, Try.ntmps91
  go_wp2_with (at_builtin; refine wpList_append_rd _ rfl (.tmp 10) (.tmp 11) 27 rfl w.heap.size 5 i0 _ 1 Try.underlying27 HI.out.1 HI.out.2.1 HI.out.2.2.1 HI.out.2.2.2 rfl none 0 0 [] rfl (Own.nil _ _) A n c _ rfl HB.out (u8_one _) ?_ (by omega) hzw ?_)
  case _ => omega
  intro A2 c2 w2 hown hg _
  have hbw2 := ((Below.refl w.heap.size w).alloc (Nat.le_refl _) (.cells #[.bool false, .int .i64 flip] 110)).grown hg hzw (by simp [Value.ownBlock])
  have hown2 : Own w2 w.heap.size 5 A2 n c2 (xs.map u8) := by simpa using hown
  have hb3 := (Below.refl _ _).grown hg (Nat.le_refl _) (by simp [Value.ownBlock])
  have hc1 : w2.cell? ⟨w.heap.size, 1, none⟩ = some (.int .i64 flip) := by
    rw [cell_of_heap' (hb3.block _ (by simp))]
    simp
  clear hb3 hown hg h
  rcases hown2.2 with ⟨hv, hn0⟩ | ⟨g, cap, cur, hv, hgB, hg, hnc, hcm, hcs, htk⟩
  . exact absurd hn0 (by omega)
  injection hv with hv1 hv2 hv3
  subst hv1 hv3
  have hr2 := hown2.rd
  have hfz : w2.frozen? ⟨g, m / 8, none⟩ = false := frozen_of_row w2 g (m / 8) cur _ hg
  have hcc : w2.cell? ⟨g, m / 8, none⟩ = some (.int .u8 (xs[m / 8].toNat : Int)) := by
    obtain ⟨b, off, hA, hcell⟩ := IsB.cells hr2 (by omega)
    injection hA with hA
    injection hA with e1 e2
    subst e1 e2
    have := hcell (m / 8) xs[m / 8] (List.getElem?_eq_getElem HL.out.2)
    rwa [Nat.zero_add] at this
  have H2 := Lib.hid (And.intro hr2 (And.intro hbw2 hgB))
  generalize hx : xs[m / 8] = x at hcc
  have hx8 : (x.toNat : Int) < 256 := by have := UInt8.toNat_lt x; omega
  clear hown2 hr2 hbw2 hg hcs htk
  have hm1 : (m : Int) / 8 < (n : Int) := by omega
  have hm2 : 0 <= (m : Int) / 8 := by omega
  have hm3 : ((m : Int) / 8).toNat = m / 8 := by omega
  go_wp2_with fail
  have hxor : bits .xor .u8 (x.toNat : Int) (2 ^ (m % 8) % 256) = ((x ^^^ UInt8.ofNat (2 ^ (m % 8))).toNat : Int) := by
    have h1 := u8_xor_byte x (UInt8.ofNat (2 ^ (m % 8)))
    rw [UInt8.toNat_ofNat'] at h1
    rw [← h1]
    congr 1
  rw [hxor]
  have hset := Rd.set (w := w2) (k := m / 8) (v := u8 (x ^^^ UInt8.ofNat (2 ^ (m % 8)))) H2.out.1 (by omega)
  rw [← List.map_set] at hset
  rw [Nat.zero_add] at hset
  go_ret2
  exact ⟨some ⟨g, 0, none⟩, n, c2, rfl, hset, H2.out.2.1.setCell (p := ⟨g, m / 8, none⟩) H2.out.2.2 _, fun b off e => by injection e with e; injection e with e1 e2; subst e1; exact H2.out.2.2⟩
theorem arr_any (A : Option Addr) (n c : Nat) (xs : List UInt8) (lost : Bool) (flip : Int) (w : World) (h : IsB w A n c xs) (hf : -9223372036854775808 <= flip /\ flip <= 9223372036854775807) (hn9 : xs.length <= 900000) :
    Calls Try.prog 91 #[.slice A n c, .agg #[.bool lost, .int .i64 flip]] w (ArrPost xs lost flip w) := by
  have hl : xs.length = n := by simpa using h.len
  cases lost with
  | true => exact arr_lost A n c xs flip w h
  | false =>
    by_cases g1 : 0 < flip /\ 0 < n
    . exact arr_flip A n c xs flip w h hf (by omega) g1.1 g1.2
    . exact arr_same A n c xs flip w h hf (by omega) (by omega)
end Go.Proofs.Ytilfphdeacogmaa
namespace Go.Proofs.Ytilfphdeacogmaa.En
open Go Go.RowKit
set_option linter.unusedVariables false
noncomputable def s_arrives (N : Nat) (x0 : List UInt8) (x1 : Bool) (x2 : Int) : Option (List UInt8 × Bool) := br (decide (x0.length <= 900000)) (some (arrB x0 x1 x2, !x1)) none
theorem p_arrives (N : Nat) (x0 : List UInt8) (x1 : Bool) (x2 : Int) (r0 : List UInt8) (r1 : Bool) (h : s_arrives N x0 x1 x2 = some (r0, r1)) :
    PureRet Try.prog T 91 [dY x0, .agg [dB x1, dI x2]] [dY r0, dB r1] := by
  unfold s_arrives br at h
  by_cases hx : x0.length <= 900000
  . simp only [hx, decide_true, cond_true] at h
    cases h
    intro E g w us hsz hus
    obtain ⟨hl, hr⟩ := hus
    match us, hl with
    | [u, v], _ =>
    have hu := hr 0 _ rfl
    have hv := hr 1 _ rfl
    simp only [List.getD_cons_zero, List.getD_cons_succ] at hu hv
    cases hu with
    | v _ _ _ hu _ =>
    obtain ⟨A, n, c, rfl, hB⟩ := isB_of_rep hu
    obtain ⟨us2, rfl, hv2⟩ := aggD_inv (cs := [.bool x1, .int .i64 x2]) hv
    cases hv2 with
    | agg cs us3 hn hr3 =>
    obtain ⟨us3⟩ := us2
    match us3, hn with
    | [u0, u1], _ =>
    have r0 := hr3 0 _ rfl
    have r1 := hr3 1 _ rfl
    simp at r0 r1
    cases r0
    cases r1 with
    | int _ _ hi =>
    refine (arr_any A n c x0 x1 x2 w hB (by exact hi) hx).mono ?_
    rintro e w' ⟨A', n', c', rfl, hi, hb, hnew⟩
    refine ⟨[.slice A' n' c', .bool (!x1)], newG g w, rfl, fun E' => ⟨rfl, fun k y hk => ?_⟩, newG_tr hb⟩
    rcases k with _ | _ | k
    . simp at hk; subst hk; exact .v _ _ _ (newG_bytes hi hnew) trivial
    . simp at hk; subst hk; exact .v _ _ _ (.bool _) trivial
    . simp at hk
  . simp only [hx, decide_false, cond_false] at h
    cases h
end Go.Proofs.Ytilfphdeacogmaa.En

/- Chapter 08: what arrives is understood, or known as damaged; a round of an exchange; in plain words. -/
namespace Go.Proofs.Ytilfphdeacogmaa.En
open Go
set_option linter.unusedVariables false
theorem rx_fit {s : Co} {b : Bl} (hk : s.sum = 0 ∨ s.sum = 1) (h : Fit s b) : rx s (b.enc s.sum) = (b, 0) := by
  obtain ⟨h1, h2, h3⟩ := h
  obtain ⟨e1, e2⟩ := dec_of hk h1
  have e3 : dNad s.sum (b.enc s.sum) = b.nad := congrArg Bl.nad e2
  have e4 : dKind s.sum (b.enc s.sum) = b.kind := congrArg Bl.kind e2
  have e5 : dInf s.sum (b.enc s.sum) = b.inf := congrArg Bl.inf e2
  unfold rx
  rw [e1, e2, e3, e4, e5, if_neg (by decide), if_neg]
  rintro (h | h | ⟨h, h'⟩)
  . exact h rfl
  . exact h h2
  . have := h3 h; omega
theorem rx_flip {s : Co} {b : Bl} (hk : s.sum = 0 ∨ s.sum = 1) (h : b.chk = 0) {flip : Int} (hf : 0 < flip) : (rx s (arrB (b.enc s.sum) false flip)).2 = 1 := by
  have hp := enc_pos hk h
  have hne : b.enc s.sum ≠ [] := by rintro e; rw [e] at hp; simp at hp
  have h6 : decE s.sum (arrB (b.enc s.sum) false flip) = 6 := by
    unfold arrB
    rw [if_neg (by decide), if_pos ⟨hf, hne⟩]
    have hm : arrM (b.enc s.sum).length flip < 8 * (b.enc s.sum).length := by
      unfold arrM
      have h1 := Int.emod_nonneg (flip - 1) (b := 8 * ((b.enc s.sum).length : Int)) (by omega)
      have h2 := Int.emod_lt_of_pos (flip - 1) (b := 8 * ((b.enc s.sum).length : Int)) (by omega)
      omega
    generalize arrM (b.enc s.sum).length flip = m at hm
    have hi : m / 8 < (b.enc s.sum).length := by omega
    rw [show (b.enc s.sum).getD (m / 8) 0 = (b.enc s.sum)[m / 8] by rw [List.getD_eq_getElem?_getD, List.getElem?_eq_getElem hi]; rfl]
    have hne2 := flip_ne ((b.enc s.sum)[m / 8]) (m % 8) (by omega)
    have he : b.enc s.sum = (UInt8.ofNat b.nad.toNat :: UInt8.ofNat (ctlN b.kind b.seq b.more b.code b.ans).toNat :: UInt8.ofNat b.inf.length :: b.inf) ++ sumB s.sum (UInt8.ofNat b.nad.toNat :: UInt8.ofNat (ctlN b.kind b.seq b.more b.code b.ans).toNat :: UInt8.ofNat b.inf.length :: b.inf) := by
      rw [enc_eq hk h]; exact encB_eq ..
    generalize b.enc s.sum = xs at *
    subst he
    exact damage hk _ (by simp) (m / 8) _ hi hne2
  unfold rx
  simp only [h6, if_true]
theorem done_fail (t : Tm) (e : Int) (b : Bl) : (tFailureF t e b).1.done = t.done := by unfold tFailureF; split <;> rfl
theorem done_recv {t t' : Tm} {x b : Bl} {r : Int} (h : tRecvF t x r = (t', some b)) : t'.done = t.done := by
  have e1 : t' = (tRecvF t x r).1 := by rw [h]
  have e2 : (tRecvF t x r).2 = some b := by rw [h]
  subst e1
  clear h
  unfold tRecvF at e2 ⊢
  split at e2
  . cases e2
  . rename_i c0
    rw [if_neg c0]
    split at e2
    . rename_i c1
      rw [if_pos c1]
      split at e2
      . cases e2
      . rename_i c2
        rw [if_neg c2]; exact done_fail ..
    . rename_i c1
      rw [if_neg c1]
      split at e2
      . rename_i c2
        rw [if_pos c2]; exact done_fail ..
      . rename_i c2
        rw [if_neg c2]
        split at e2
        . rename_i c3
          rw [if_pos c3]
          unfold tInfoF at e2 ⊢
          split at e2
          . rename_i c4
            rw [if_pos c4]; exact done_fail ..
          . rename_i c4
            rw [if_neg c4]
            split at e2
            . cases e2
            . rename_i c5
              rw [if_neg c5]
              split at e2
              . rename_i c6
                rw [if_pos c6]
              . cases e2
        . rename_i c3
          rw [if_neg c3]
          split at e2
          . rename_i c4
            rw [if_pos c4]
            unfold tAgainF at e2 ⊢
            split
            . exact done_fail ..
            . split
              . rfl
              . exact done_fail ..
          . rename_i c4
            rw [if_neg c4]
            unfold tSuperF at e2 ⊢
            split at e2
            . rename_i c5
              rw [if_pos c5]; exact done_fail ..
            . rename_i c5
              rw [if_neg c5]
              split at e2
              . cases e2
              . rename_i c6
                rw [if_neg c6]
                split <;> rfl
def lnk (ls : List (Bool × Int)) (n : Nat) : Bool × Int := ls.getD n (false, 0)
def badL (x : Bool × Int) : Bool := x.1 || decide (0 < x.2)
def dis (ls : List (Bool × Int)) : Nat := (ls.filter badL).length
theorem dis_step (ls : List (Bool × Int)) (n : Nat) : dis (ls.drop n) = (if badL (lnk ls n) = true then 1 else 0) + dis (ls.drop (n + 1)) := by
  by_cases h : n < ls.length
  . have e : lnk ls n = ls[n] := by unfold lnk; rw [List.getD_eq_getElem?_getD, List.getElem?_eq_getElem h]; rfl
    rw [e, List.drop_eq_getElem_cons h]
    unfold dis
    rw [List.filter_cons]
    split
    . rw [List.length_cons]; omega
    . omega
  . have e : lnk ls n = (false, 0) := by unfold lnk; rw [List.getD_eq_getElem?_getD, List.getElem?_eq_none (by omega)]; rfl
    rw [e, List.drop_eq_nil_of_le (by omega), List.drop_eq_nil_of_le (by omega)]
    rfl
theorem arr_good (xs : List UInt8) {f : Int} (h : ¬ 0 < f) : arrB xs false f = xs := by
  unfold arrB
  rw [if_neg (by decide), if_neg]
  exact fun e => h e.1
def roundF (cmd resp : List UInt8) (time : Int) (ls : List (Bool × Int)) (T : Tm) (K : CS) (n : Nat) (b : Bl) : (Tm × Option Bl) × CS × Nat :=
  if (lnk ls n).1 = true then (tTimeF T, K, n + 1)
  else match (cardF cmd resp time K (rx K.c.s (arrB (b.enc T.s.sum) false (lnk ls n).2)).1 (rx K.c.s (arrB (b.enc T.s.sum) false (lnk ls n).2)).2) with
    | (K', none) => (tTimeF T, K', n + 1)
    | (K', some o) =>
      if (lnk ls (n + 1)).1 = true then (tTimeF T, K', n + 2)
      else (tRecvF T (rx T.s (arrB (o.enc K'.c.s.sum) false (lnk ls (n + 1)).2)).1 (rx T.s (arrB (o.enc K'.c.s.sum) false (lnk ls (n + 1)).2)).2, K', n + 2)
section
variable {cmd resp : List UInt8} {time : Int} {L : Nat} {T : Tm} {K : CS}
theorem Ph.gn {b : Bl} {d m : Nat} (h : Ph cmd resp time L T K b d m) : Gn T K.c /\ T.state = 2 /\ 1 <= m := by
  rcases h with ⟨p, hb⟩ | ⟨p, _, h1, h2⟩ | ⟨p, h1, hb⟩ | ⟨p, _, h1, h2⟩ | ⟨p, _, h1, h2⟩
  . exact ⟨p.g, p.busy, by rcases hb with ⟨_, _, _⟩ | ⟨_, _, _⟩ <;> omega⟩
  . exact ⟨p.g, p.busy, by omega⟩
  . exact ⟨p.g, p.busy, by rcases hb with ⟨_, _⟩ | ⟨_, _⟩ <;> omega⟩
  . exact ⟨p.g, p.busy, by omega⟩
  . exact ⟨p.g, p.busy, by omega⟩
theorem Pre.gn {o : Bl} {d m : Nat} (h : Pre cmd resp time L T K o d m) : Gn T K.c := by
  rcases h with ⟨p, _⟩ | ⟨p, _⟩ | ⟨p, _⟩ | ⟨p, _⟩ | ⟨p, _⟩ | ⟨p, _⟩ <;> exact p.g
theorem back_ok (hr : resp.length <= 600) {o : Bl} {m : Nat} {ls : List (Bool × Int)} {n : Nat} (h : Pre cmd resp time L T K o (dis (ls.drop n)) m) :
    Nx cmd resp time L (if (lnk ls n).1 = true then tTimeF T else tRecvF T (rx T.s (arrB (o.enc K.c.s.sum) false (lnk ls n).2)).1 (rx T.s (arrB (o.enc K.c.s.sum) false (lnk ls n).2)).2) K (dis (ls.drop (n + 1))) m := by
  have g := h.gn
  obtain ⟨h1, h2⟩ := hear hr h
  have hs := dis_step ls n
  by_cases hl : (lnk ls n).1 = true
  . rw [if_pos hl]
    have hb : badL (lnk ls n) = true := by unfold badL; rw [hl]; rfl
    rw [if_pos hb] at hs
    have := hear_lost (by omega) h
    rw [show dis (ls.drop (n + 1)) = dis (ls.drop n) - 1 by omega]
    exact this
  . rw [if_neg hl, ← g.sum]
    by_cases hf : 0 < (lnk ls n).2
    . have hb : badL (lnk ls n) = true := by unfold badL; simp [hf]
      rw [if_pos hb] at hs
      rw [rx_flip g.tok.s.sum h2.1 hf]
      have := hear_bad (by omega) h (rx T.s (arrB (o.enc T.s.sum) false (lnk ls n).2)).1
      rw [show dis (ls.drop (n + 1)) = dis (ls.drop n) - 1 by omega]
      exact this
    . have hb : ¬ badL (lnk ls n) = true := by unfold badL; simp [hf, hl]
      rw [if_neg hb] at hs
      rw [arr_good _ hf, rx_fit g.tok.s.sum h2, show dis (ls.drop (n + 1)) = dis (ls.drop n) by omega]
      exact h1
theorem round_ok (hc : cmd.length <= 600) (hr : resp.length <= 600) (hL : resp.length + 1 <= L) {b : Bl} {m : Nat} {ls : List (Bool × Int)} {n : Nat} (h : Ph cmd resp time L T K b (dis (ls.drop n)) (m + 1)) :
    Nx cmd resp time L (roundF cmd resp time ls T K n b).1 (roundF cmd resp time ls T K n b).2.1 (dis (ls.drop (roundF cmd resp time ls T K n b).2.2)) m := by
  obtain ⟨g, _, _⟩ := h.gn
  obtain ⟨⟨K', o, e1, h1⟩, h2⟩ := card_ok hc hL h
  have hs := dis_step ls n
  unfold roundF
  by_cases hl : (lnk ls n).1 = true
  . rw [if_pos hl]
    have hb : badL (lnk ls n) = true := by unfold badL; rw [hl]; rfl
    rw [if_pos hb] at hs
    have := out_lost (by omega) h
    show Nx cmd resp time L (tTimeF T) K (dis (ls.drop (n + 1))) m
    rw [show dis (ls.drop (n + 1)) = dis (ls.drop n) - 1 by omega]
    exact this
  . rw [if_neg hl, g.sum]
    have key : ∀ {K' : CS} {o : Bl}, Pre cmd resp time L T K' o (dis (ls.drop (n + 1))) m -> Nx cmd resp time L
        (if (lnk ls (n + 1)).1 = true then (tTimeF T, K', n + 2) else (tRecvF T (rx T.s (arrB (o.enc K'.c.s.sum) false (lnk ls (n + 1)).2)).1 (rx T.s (arrB (o.enc K'.c.s.sum) false (lnk ls (n + 1)).2)).2, K', n + 2)).1
        (if (lnk ls (n + 1)).1 = true then (tTimeF T, K', n + 2) else (tRecvF T (rx T.s (arrB (o.enc K'.c.s.sum) false (lnk ls (n + 1)).2)).1 (rx T.s (arrB (o.enc K'.c.s.sum) false (lnk ls (n + 1)).2)).2, K', n + 2)).2.1
        (dis (ls.drop (if (lnk ls (n + 1)).1 = true then (tTimeF T, K', n + 2) else (tRecvF T (rx T.s (arrB (o.enc K'.c.s.sum) false (lnk ls (n + 1)).2)).1 (rx T.s (arrB (o.enc K'.c.s.sum) false (lnk ls (n + 1)).2)).2, K', n + 2)).2.2)) m := fun hp => by
      have := back_ok hr hp
      split
      . rename_i c; rw [if_pos c] at this; exact this
      . rename_i c; rw [if_neg c] at this; exact this
    by_cases hf : 0 < (lnk ls n).2
    . have hb : badL (lnk ls n) = true := by unfold badL; simp [hf]
      rw [if_pos hb] at hs
      rw [rx_flip g.cok.s.sum h2.1 hf]
      obtain ⟨K2, o2, e2, h3⟩ := card_bad (by omega) h (rx K.c.s (arrB (b.enc K.c.s.sum) false (lnk ls n).2)).1
      rw [e2]
      rw [show dis (ls.drop n) - 1 = dis (ls.drop (n + 1)) by omega] at h3
      exact key h3
    . have hb : ¬ badL (lnk ls n) = true := by unfold badL; simp [hf, hl]
      rw [if_neg hb] at hs
      rw [arr_good _ hf, rx_fit g.cok.s.sum h2, e1]
      rw [show dis (ls.drop n) = dis (ls.drop (n + 1)) by omega] at h1
      exact key h1
end
end Go.Proofs.Ytilfphdeacogmaa.En
