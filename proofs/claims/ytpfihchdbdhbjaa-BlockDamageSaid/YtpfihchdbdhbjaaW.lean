/- A region that draws its order, whatever the order: each operation is shown once, from what the operations that it waits for have yielded. No program in sight. -/
import Derived.Test.YtpfihchdbdhbjaaM
import Derived.Orders
import Derived.Deep.RegionHeld3
namespace Go.Proofs.Ytpfihchdbdhbjaa
open Go.RowKit

/-- The value in an operation's slot. -/
def slotAt (a : Act) (d : Option Tmp) : Value := match d with | some d => a.tmps[d]?.getD undef | none => undef
def dstAt (ops : Array Oper) (i : Nat) : Option Tmp := (ops[i]?).bind (·.dst)

/-- Each edge goes back to an earlier operation; each slot is written once, and lies in the frame. -/
def Region.plain (ops : Array Oper) (n : Nat) : Bool :=
  (List.range ops.size).all fun i => match ops[i]? with
    | none => false
    | some o => (o.after.all fun e => !Region.binds .any e || decide (e.on < i)) &&
      (match o.dst with
       | none => true
       | some d => decide (d < n) && (List.range ops.size).all fun j => decide (j = i) || dstAt ops j != some d)

/-- No operation that writes slot k comes up ahead of operation i. -/
def Region.before (ops : Array Oper) (i k : Nat) : Bool :=
  ops.all fun o => o.dst != some k || o.after.any fun e => Region.binds .any e && e.on == i

/-- What the operations that o waits for have yielded. -/
def Waited (ops : Array Oper) (φ : Nat → Value → World → Prop) (a : Act) (w : World) : List Edge → Prop
  | [] => True
  | e :: r => (match Region.binds .any e with | true => φ e.on (slotAt a (dstAt ops e.on)) w | false => True) ∧ Waited ops φ a w r

/-- The value that an operation leaves: none where it has no slot. -/
def ofDst (d : Option Tmp) (v : Value) : Value := match d with | some _ => v | none => undef
/-- One operation, in whatever state it may come up. -/
def StepAt (P : Program) (ops : Array Oper) (Q : Exit → Act → World → Prop) (T : World → World → Prop) (φ : Nat → Value → World → Prop) (a0 : Act) (w0 : World) (i : Nat) (o : Oper) : Prop :=
  ∀ (a : Act) (w : World) (K : Act → World → Prop), T w0 w → (∀ k, Region.before ops i k = true → a.tmps[k]?.getD undef = a0.tmps[k]?.getD undef) → Waited ops φ a w o.after.toList →
    (∀ v w', T w w' → φ i (ofDst o.dst v) w' → K (a.put o.dst v) w') → if Region.wanted o (yielded ops a.tmps) = true then Oper.wp P o a w K Q else K (a.put o.dst undef) w

def StepsAt (P : Program) (ops : Array Oper) (Q : Exit → Act → World → Prop) (T : World → World → Prop) (φ : Nat → Value → World → Prop) (a0 : Act) (w0 : World) : Nat → List Oper → Prop
  | _, [] => True
  | i, o :: r => StepAt P ops Q T φ a0 w0 i o ∧ StepsAt P ops Q T φ a0 w0 (i + 1) r

/-- The frame behind the region. -/
def putsAt (vs : Nat → Value) : Nat → List Oper → Act → Act
  | _, [], a => a
  | i, o :: r, a => putsAt vs (i + 1) r (a.put o.dst (vs i))

def AllAt (φ : Nat → Value → World → Prop) (vs : Nat → Value) (w : World) : Nat → List Oper → Prop
  | _, [] => True
  | i, _ :: r => φ i (vs i) w ∧ AllAt φ vs w (i + 1) r

section
variable {P : Program} {ops : Array Oper} {Q : Exit → Act → World → Prop} {T : World → World → Prop} {φ : Nat → Value → World → Prop} {a0 : Act} {w0 : World}

theorem StepsAt.get : ∀ (l : List Oper) (k : Nat), StepsAt P ops Q T φ a0 w0 k l → ∀ i o, l[i]? = some o → StepAt P ops Q T φ a0 w0 (k + i) o
  | [], _, _, i, o, h => by simp at h
  | x :: l, k, hs, 0, o, h => by simp at h; subst h; exact hs.1
  | x :: l, k, hs, i + 1, o, h => by
    have := StepsAt.get l (k + 1) hs.2 i o (by simpa using h)
    rwa [show k + 1 + i = k + (i + 1) by omega] at this
theorem AllAt.of : ∀ (l : List Oper) (k : Nat) {vs : Nat → Value} {w : World}, (∀ i, i < l.length → φ (k + i) (vs (k + i)) w) → AllAt φ vs w k l
  | [], _, _, _, _ => trivial
  | _ :: l, k, vs, w, h => ⟨by simpa using h 0 (by simp), AllAt.of l (k + 1) (fun i hi => by have := h (i + 1) (by simp; omega); rwa [show k + (i + 1) = k + 1 + i by omega] at this)⟩
theorem Waited.of {a : Act} {w : World} : ∀ (l : List Edge), (∀ e ∈ l, Region.binds .any e = true → φ e.on (slotAt a (dstAt ops e.on)) w) → Waited ops φ a w l
  | [], _ => trivial
  | e :: l, h => ⟨by cases hb : Region.binds .any e with | true => exact h e (by simp) hb | false => trivial, Waited.of l (fun e' he' => h e' (by simp [he']))⟩

theorem plain_spec {n : Nat} (h : Region.plain ops n = true) {i : Nat} {o : Oper} (ho : ops[i]? = some o) :
    (∀ e ∈ o.after, Region.binds .any e = true → e.on < i) ∧ (∀ d, o.dst = some d → d < n ∧ ∀ j, j < ops.size → j ≠ i → dstAt ops j ≠ some d) := by
  have hi : i < ops.size := (Array.getElem?_eq_some_iff.1 ho).1
  unfold Region.plain at h
  rw [List.all_eq_true] at h
  have h1 := h i (List.mem_range.2 hi)
  rw [ho] at h1
  simp only [Bool.and_eq_true] at h1
  refine ⟨fun e he hb => ?_, fun d hd => ?_⟩
  · have := Array.all_eq_true_iff_forall_mem.1 h1.1 e he
    simpa [hb] using this
  · have h2 := h1.2
    rw [hd] at h2
    simp only [Bool.and_eq_true, decide_eq_true_eq, List.all_eq_true] at h2
    refine ⟨h2.1, fun j hj hne => ?_⟩
    have := h2.2 j (List.mem_range.2 hj)
    simpa [hne] using this

/-- What holds while the operations marked in 'listed' have come up. -/
structure RegInv (ops : Array Oper) (T : World → World → Prop) (φ : Nat → Value → World → Prop) (a0 : Act) (w0 : World) (listed : Array Bool) (a : Act) (w : World) : Prop where
  world : T w0 w
  size : listed.size = ops.size
  defers : a.defers = a0.defers
  frame : a.tmps.size = a0.tmps.size
  same : ∀ k, (∀ j, listed.getD j false = true → dstAt ops j ≠ some k) → a.tmps[k]?.getD undef = a0.tmps[k]?.getD undef
  vals : ∀ j, listed.getD j false = true → φ j (slotAt a (dstAt ops j)) w
  closed : ∀ j o, ops[j]? = some o → listed.getD j false = true → ∀ e ∈ o.after, Region.binds .any e = true → listed.getD e.on false = true

theorem put_tmps_size (a : Act) (d : Option Tmp) (v : Value) : (a.put d v).tmps.size = a.tmps.size := by cases d <;> simp [Act.put]
theorem put_defers (a : Act) (d : Option Tmp) (v : Value) : (a.put d v).defers = a.defers := by cases d <;> simp [Act.put]
theorem put_getD_ne (a : Act) (d : Option Tmp) (v : Value) (k : Nat) (h : d ≠ some k) : (a.put d v).tmps[k]?.getD undef = a.tmps[k]?.getD undef := by
  cases d with
  | none => rfl
  | some d => simp only [Act.put]; rw [Array.getElem?_setIfInBounds_ne (fun e => h (by rw [e]))]
theorem put_getD_self (a : Act) (d : Nat) (v : Value) (h : d < a.tmps.size) : (a.put (some d) v).tmps[d]?.getD undef = v := by
  simp [Act.put, h]

theorem listed_set {listed : Array Bool} {i j : Nat} (hi : i < listed.size) : (listed.setIfInBounds i true).getD j false = true ↔ j = i ∨ listed.getD j false = true := by
  by_cases h : i = j
  · subst h; simp [hi]
  · rw [getD_set_ne false h]; simp [Ne.symm h]

theorem RegInv.step (hp : Region.plain ops a0.tmps.size = true) (htr : ∀ x y z : World, T x y → T y z → T x z) (hst : ∀ i v w w', T w w' → φ i v w → φ i v w')
    {listed : Array Bool} {a : Act} {w : World} (inv : RegInv ops T φ a0 w0 listed a w) {i : Nat} {o : Oper} (ho : ops[i]? = some o) (hr : i ∈ Region.ready .any ops listed)
    {v : Value} {w' : World} (hw : T w w') (hv : φ i (ofDst o.dst v) w') : RegInv ops T φ a0 w0 (listed.setIfInBounds i true) (a.put o.dst v) w' := by
  have hi : i < ops.size := (Array.getElem?_eq_some_iff.1 ho).1
  have hil : i < listed.size := by rw [inv.size]; exact hi
  obtain ⟨hun, o', ho', hall⟩ := mem_ready.1 hr
  rw [ho] at ho'; injection ho' with ho'; subst ho'
  obtain ⟨_, hd⟩ := plain_spec hp ho
  have hdi : dstAt ops i = o.dst := by simp [dstAt, ho]
  refine ⟨htr _ _ _ inv.world hw, by simpa using inv.size, by rw [put_defers]; exact inv.defers, by rw [put_tmps_size]; exact inv.frame, ?_, ?_, ?_⟩
  · intro k hk
    rw [put_getD_ne _ _ _ _ (by rw [← hdi]; exact hk i ((listed_set hil).2 (.inl rfl)))]
    exact inv.same k fun j hj => hk j ((listed_set hil).2 (.inr hj))
  · intro j hj
    rcases (listed_set hil).1 hj with rfl | hj2
    · rw [hdi]
      cases hdo : o.dst with
      | none => rw [hdo] at hv; exact hv
      | some d =>
        rw [hdo] at hv
        have := (hd d hdo).1
        rw [show slotAt (a.put (some d) v) (some d) = v from put_getD_self a d v (by rw [inv.frame]; exact this)]
        exact hv
    · have hne : j ≠ i := fun e => by
        subst e
        rcases Nat.lt_or_ge j listed.size with h' | h'
        · rw [Array.getD_eq_getD_getElem?, Array.getElem?_eq_getElem h'] at hun hj2
          simp only [Option.getD_some] at hun hj2
          rw [hun] at hj2; cases hj2
        · omega
      have hjl : j < ops.size := by
        rcases Nat.lt_or_ge j ops.size with h' | h'
        · exact h'
        · rw [← inv.size] at h'; simp [Array.getElem?_eq_none h'] at hj2
      have := hst j _ _ _ hw (inv.vals j hj2)
      have hs : slotAt (a.put o.dst v) (dstAt ops j) = slotAt a (dstAt ops j) := by
        cases hdj : dstAt ops j with
        | none => rfl
        | some k => exact put_getD_ne _ _ _ _ (fun e => (hd k e).2 j hjl hne hdj)
      rw [hs]; exact this
  · intro j oj hoj hj e he hb
    rcases (listed_set hil).1 hj with rfl | hj
    · rw [ho] at hoj; injection hoj with hoj; subst hoj
      exact (listed_set hil).2 (.inr (hall e he hb))
    · exact (listed_set hil).2 (.inr (inv.closed j oj hoj hj e he hb))

theorem RegInv.wpOp (hp : Region.plain ops a0.tmps.size = true) (htr : ∀ x y z : World, T x y → T y z → T x z) (hst : ∀ i v w w', T w w' → φ i v w → φ i v w')
    {listed : Array Bool} {a : Act} {w : World} (inv : RegInv ops T φ a0 w0 listed a w) {i : Nat} {o : Oper} (ho : ops[i]? = some o) (hr : i ∈ Region.ready .any ops listed)
    (hs : StepAt P ops Q T φ a0 w0 i o) :
    Go.wpOp P ops Q i (fun a' w' => RegInv ops T φ a0 w0 (listed.setIfInBounds i true) a' w') a w := by
  have hi : i < ops.size := (Array.getElem?_eq_some_iff.1 ho).1
  obtain ⟨hun, o', ho', hall⟩ := mem_ready.1 hr
  rw [ho] at ho'; injection ho' with ho'; subst ho'
  have hil : i < listed.size := by rw [inv.size]; exact hi
  have hstep := hs a w (fun a' w' => RegInv ops T φ a0 w0 (listed.setIfInBounds i true) a' w') inv.world
    (fun k hk => inv.same k fun j hj hdj => by
      unfold Region.before at hk
      have hjl : j < ops.size := by
        rcases Nat.lt_or_ge j ops.size with h' | h'
        · exact h'
        · rw [← inv.size] at h'; simp [Array.getElem?_eq_none h'] at hj
      have hoj : ops[j]? = some ops[j] := Array.getElem?_eq_getElem hjl
      have hdj' : (ops[j]).dst = some k := by simpa [dstAt, hoj] using hdj
      have h1 := Array.all_eq_true_iff_forall_mem.1 hk ops[j] (Array.getElem_mem hjl)
      simp only [hdj', bne_self_eq_false, Bool.false_or] at h1
      rw [Array.any_eq_true] at h1
      obtain ⟨q, hq, hb⟩ := h1
      simp only [Bool.and_eq_true, beq_iff_eq] at hb
      have h2 := inv.closed j _ hoj hj _ (Array.getElem_mem hq) hb.1
      rw [hb.2] at h2
      rw [Array.getD_eq_getD_getElem?, Array.getElem?_eq_getElem hil] at hun h2
      simp only [Option.getD_some] at hun h2
      rw [hun] at h2; cases h2)
    (Waited.of _ fun e he hb => inv.vals _ (hall e (by simpa using he) hb))
    (fun v w' hw hv => inv.step hp htr hst ho hr hw hv)
  unfold Go.wpOp
  simp only [ho]
  split
  · rename_i hw
    rw [if_pos hw] at hstep
    exact .inl hstep
  · rename_i hw
    rw [if_neg hw] at hstep
    exact hstep

/-- How many have come up. -/
def marked (listed : Array Bool) : Nat := listed.toList.countP (· = true)
theorem marked_set {listed : Array Bool} {i : Nat} (hi : i < listed.size) (h : listed.getD i true = false) : marked (listed.setIfInBounds i true) = marked listed + 1 := by
  have hf : listed[i] = false := by rw [Array.getD_eq_getD_getElem?, Array.getElem?_eq_getElem hi] at h; simpa using h
  unfold marked
  rw [Array.toList_setIfInBounds]
  have hl : listed.toList = listed.toList.take i ++ listed.toList[i]'(by simpa using hi) :: listed.toList.drop (i + 1) := by
    conv => lhs; rw [← List.take_append_drop i listed.toList, List.drop_eq_getElem_cons (by simpa using hi)]
  rw [List.set_eq_take_append_cons_drop, if_pos (by simpa using hi)]
  conv => rhs; rw [hl]
  simp [List.countP_append, hf]
  omega
theorem marked_le (listed : Array Bool) : marked listed ≤ listed.size := by
  unfold marked; rw [← Array.length_toList]; exact List.countP_le_length

theorem RegInv.any (hp : Region.plain ops a0.tmps.size = true) (htr : ∀ x y z : World, T x y → T y z → T x z) (hst : ∀ i v w w', T w w' → φ i v w → φ i v w')
    (hs : StepsAt P ops Q T φ a0 w0 0 ops.toList) (hfin : ∀ listed a w, RegInv ops T φ a0 w0 listed a w → (∀ j, j < ops.size → listed.getD j false = true) → Q .normal a w) :
    ∀ (fuel : Nat) (listed : Array Bool) (a : Act) (w : World), fuel + marked listed = ops.size → RegInv ops T φ a0 w0 listed a w → wpAny P .any ops Q fuel listed a w := by
  have hdone : ∀ (listed : Array Bool) (a : Act) (w : World), RegInv ops T φ a0 w0 listed a w → Region.ready .any ops listed = [] → ∀ j, j < ops.size → listed.getD j false = true := by
    intro listed a w inv hr j
    induction j using Nat.strongRecOn with
    | _ j ih =>
      intro hj
      have hoj : ops[j]? = some ops[j] := Array.getElem?_eq_getElem hj
      have hjl : j < listed.size := by rw [inv.size]; exact hj
      cases hl : listed.getD j false with
      | true => rfl
      | false =>
        have : j ∈ Region.ready .any ops listed := mem_ready.2 ⟨by
          rw [Array.getD_eq_getD_getElem?, Array.getElem?_eq_getElem hjl] at hl ⊢; exact hl, _, hoj, fun e he hb => by
          have hlt := (plain_spec hp hoj).1 e he hb
          exact ih e.on hlt (by omega)⟩
        rw [hr] at this; cases this
  intro fuel
  induction fuel with
  | zero =>
    intro listed a w hm inv
    have hall : ∀ j, j < ops.size → listed.getD j false = true := by
      intro j hj
      have hjl : j < listed.size := by rw [inv.size]; exact hj
      cases hl : listed.getD j false with
      | true => rfl
      | false =>
        have h1 := marked_set (listed := listed) hjl (by rw [Array.getD_eq_getD_getElem?, Array.getElem?_eq_getElem hjl] at hl ⊢; exact hl)
        have h2 := marked_le (listed.setIfInBounds j true)
        rw [Array.size_setIfInBounds, inv.size] at h2
        omega
    refine ⟨?_, hfin listed a w inv hall⟩
    rcases hr : Region.ready .any ops listed with _ | ⟨j, l⟩
    · rfl
    · have hj : j ∈ Region.ready .any ops listed := by rw [hr]; exact List.mem_cons_self
      obtain ⟨hun, o, ho, _⟩ := mem_ready.1 hj
      have hjs : j < ops.size := (Array.getElem?_eq_some_iff.1 ho).1
      have h1 := hall j hjs
      have hjl : j < listed.size := by rw [inv.size]; exact hjs
      rw [Array.getD_eq_getD_getElem?, Array.getElem?_eq_getElem hjl] at hun h1
      simp only [Option.getD_some] at hun h1
      rw [hun] at h1; cases h1
  | succ fuel ih =>
    intro listed a w hm inv
    refine ⟨fun hr => hfin listed a w inv (hdone listed a w inv hr), fun i hi => ?_⟩
    obtain ⟨hun, o, ho, _⟩ := mem_ready.1 hi
    have his : i < ops.size := (Array.getElem?_eq_some_iff.1 ho).1
    have hsi := StepsAt.get ops.toList 0 hs i o (by simpa using ho)
    rw [Nat.zero_add] at hsi
    refine wpOp_mono (fun a' w' inv' => ih _ a' w' ?_ inv') (inv.wpOp hp htr hst ho hi hsi)
    rw [marked_set (by rw [inv.size]; exact his) hun]
    omega

theorem putsAt_getD (vs : Nat → Value) (k : Nat) : ∀ (l : List Oper) (i : Nat) (a : Act), (∀ (j : Nat) (o : Oper), l[j]? = some o → o.dst ≠ some k) → (putsAt vs i l a).tmps[k]?.getD undef = a.tmps[k]?.getD undef
  | [], _, _, _ => rfl
  | o :: l, i, a, h => by
    rw [putsAt, putsAt_getD vs k l (i + 1) _ (fun j o' hj => h (j + 1) o' (by simpa using hj)), put_getD_ne _ _ _ _ (h 0 o rfl)]
theorem putsAt_size (vs : Nat → Value) : ∀ (l : List Oper) (i : Nat) (a : Act), (putsAt vs i l a).tmps.size = a.tmps.size
  | [], _, _ => rfl
  | o :: l, i, a => by rw [putsAt, putsAt_size vs l, put_tmps_size]
theorem putsAt_defers (vs : Nat → Value) : ∀ (l : List Oper) (i : Nat) (a : Act), (putsAt vs i l a).defers = a.defers
  | [], _, _ => rfl
  | o :: l, i, a => by rw [putsAt, putsAt_defers vs l, put_defers]
theorem putsAt_get (vs : Nat → Value) (k : Nat) : ∀ (l : List Oper) (i : Nat) (a : Act) (j : Nat) (o : Oper), l[j]? = some o → o.dst = some k → k < a.tmps.size → (∀ (j' : Nat) (o' : Oper), l[j']? = some o' → o'.dst = some k → j' = j) → (putsAt vs i l a).tmps[k]?.getD undef = vs (i + j)
  | [], _, _, _, _, h, _, _, _ => by simp at h
  | x :: l, i, a, 0, o, h, hd, hk, hu => by
    simp at h; subst h
    rw [putsAt, putsAt_getD vs k l (i + 1) _ (fun j o' hj hd' => by have := hu (j + 1) o' (by simpa using hj) hd'; omega), hd, put_getD_self _ _ _ hk]; rfl
  | x :: l, i, a, j + 1, o, h, hd, hk, hu => by
    rw [putsAt, putsAt_get vs k l (i + 1) _ j o (by simpa using h) hd (by rw [put_tmps_size]; exact hk) (fun j' o' hj' hd' => by have := hu (j' + 1) o' (by simpa using hj') hd'; omega)]
    congr 1; omega

/-- **A region that draws its order.** -/
theorem wp_region_steps {id : Nat} {l : List Oper} (T : World → World → Prop) (φ : Nat → Value → World → Prop) (hm : P.follows .mixedOrders = true) (hp : Region.plain l.toArray a0.tmps.size = true)
    (hrf : ∀ w, T w w) (htr : ∀ x y z : World, T x y → T y z → T x z) (hst : ∀ i v w w', T w w' → φ i v w → φ i v w')
    (hs : StepsAt P l.toArray Q T φ a0 w0.drew 0 l)
    (hfin : ∀ (vs : Nat → Value) w, T w0.drew w → AllAt φ vs w 0 l → Q .normal (putsAt vs 0 l a0) w) : (Code.region id l.toArray true).wp P Q a0 w0 := by
  refine wp_region_any hm (RegInv.any hp htr hst (by simpa using hs) ?_ _ _ _ _ ?_ ?_)
  · intro listed a w inv hall
    have hput : a = putsAt (fun i => slotAt a (dstAt l.toArray i)) 0 l a0 := by
      have hsz : a.tmps.size = (putsAt (fun i => slotAt a (dstAt l.toArray i)) 0 l a0).tmps.size := by rw [putsAt_size, inv.frame]
      have hd : a.defers = (putsAt (fun i => slotAt a (dstAt l.toArray i)) 0 l a0).defers := by rw [putsAt_defers, inv.defers]
      have ht : a.tmps = (putsAt (fun i => slotAt a (dstAt l.toArray i)) 0 l a0).tmps := by
        apply Array.ext hsz
        intro k hk1 hk2
        have hg : a.tmps[k]?.getD undef = (putsAt (fun i => slotAt a (dstAt l.toArray i)) 0 l a0).tmps[k]?.getD undef := by
          by_cases hex : ∃ (j : Nat) (o : Oper), l[j]? = some o ∧ o.dst = some k
          · obtain ⟨j, o, ho, hdo⟩ := hex
            have hoa : l.toArray[j]? = some o := by simpa using ho
            have hsp := (plain_spec hp hoa).2 k hdo
            rw [putsAt_get _ k l 0 a0 j o ho hdo hsp.1 (fun j' o' hj' hd' => by
              by_cases he : j' = j
              · exact he
              · exact absurd (by simp [dstAt, hj', hd'] : dstAt l.toArray j' = some k) (hsp.2 j' (by have := (List.getElem?_eq_some_iff.1 hj').1; simpa using this) he))]
            simp only [Nat.zero_add, dstAt, hoa, Option.bind_some, hdo, slotAt]
          · rw [putsAt_getD _ k l 0 a0 (fun j o ho hdo => hex ⟨j, o, ho, hdo⟩)]
            refine inv.same k fun j hj hdj => ?_
            have hjl : j < l.toArray.size := by
              rcases Nat.lt_or_ge j l.toArray.size with h' | h'
              · exact h'
              · rw [← inv.size] at h'; simp [Array.getElem?_eq_none h'] at hj
            have hoj : l.toArray[j]? = some l.toArray[j] := Array.getElem?_eq_getElem hjl
            exact hex ⟨j, l.toArray[j], by simp, by simpa [dstAt, hoj] using hdj⟩
        rw [Array.getElem?_eq_getElem hk1, Array.getElem?_eq_getElem hk2] at hg
        exact hg
      cases a with
      | mk t d => simp only at ht hd; cases hq : putsAt (fun i => slotAt (Act.mk t d) (dstAt l.toArray i)) 0 l a0 with | mk t' d' => rw [hq] at ht hd; simp only at ht hd; subst ht hd; rfl
    rw [hput]
    exact hfin _ w inv.world (AllAt.of l 0 fun i hi => by rw [Nat.zero_add]; exact inv.vals i (hall i (by simpa using hi)))
  · simp [marked, List.countP_replicate]
  · refine ⟨hrf _, by simp, rfl, rfl, fun _ _ => rfl, fun j hj => ?_, fun j o _ hj => ?_⟩
    · simp [Array.getElem?_replicate] at hj; split at hj <;> simp at hj
    · simp [Array.getElem?_replicate] at hj; split at hj <;> simp at hj

/-- What is known of an operation's value: it stands while the world goes on. -/
def St (T : World → World → Prop) : Type := { p : Value → World → Prop // ∀ v w w', T w w' → p v w → p v w' }
def St.is {T : World → World → Prop} (x : Value) : St T := ⟨fun v _ => v = x, fun _ _ _ _ h => h⟩
def St.pred {T : World → World → Prop} (p : Value → World → Prop) (h : ∀ v w w', T w w' → p v w → p v w') : St T := ⟨p, h⟩

/-- **A region that draws its order, with a list of what is known of each value.** -/
theorem wp_region_list' {id : Nat} {l : List Oper} {T : World → World → Prop} (L : List (St T)) (hm : P.follows .mixedOrders = true) (hp : Region.plain l.toArray a0.tmps.size = true)
    (hrf : ∀ w, T w w) (htr : ∀ x y z : World, T x y → T y z → T x z)
    (hs : StepsAt P l.toArray Q T (fun i v w => (L.getD i (St.is undef)).1 v w) a0 w0.drew 0 l)
    (hfin : ∀ (vs : Nat → Value) w, T w0.drew w → AllAt (fun i v w => (L.getD i (St.is undef)).1 v w) vs w 0 l → Q .normal (putsAt vs 0 l a0) w) : (Code.region id l.toArray true).wp P Q a0 w0 :=
  wp_region_steps T _ hm hp hrf htr (fun i v w w' hT h => (L.getD i (St.is undef)).2 v w w' hT h) hs hfin
theorem eval_tmp (a : Act) (k : Nat) {v : Value} (h : a.tmps[k]?.getD undef = v) : a.eval (.tmp k) = v := by
  rw [← h]; simp [Act.eval]

/-! ### What each operation's proof begins with -/
theorem yielded_of {ops : Array Oper} {a : Act} {g d : Nat} {b : Bool} (hd : dstAt ops g = some d) (h : a.tmps[d]?.getD undef = .bool b) : yielded ops a.tmps g = some b := by
  unfold yielded
  unfold dstAt at hd
  rw [hd]
  cases hq : a.tmps[d]? with
  | none => rw [hq] at h; cases h
  | some v => rw [hq] at h; simp at h; subst h; simp [hq]
/-- An operation without a guard. -/
theorem step_free {ops : Array Oper} {o : Oper} {a : Act} {w : World} {K : Act → World → Prop} (hg : o.guard = none) (h : Oper.wp P o a w K Q) :
    if Region.wanted o (yielded ops a.tmps) = true then Oper.wp P o a w K Q else K (a.put o.dst undef) w := by
  rw [if_pos (by simp [Region.wanted, hg])]; exact h
/-- A guard that says yes. -/
theorem step_yes {ops : Array Oper} {o : Oper} {a : Act} {w : World} {K : Act → World → Prop} {g d : Nat} {b : Bool} (hg : o.guard = some (g, b)) (hd : dstAt ops g = some d) (hv : a.tmps[d]?.getD undef = .bool b) (h : Oper.wp P o a w K Q) :
    if Region.wanted o (yielded ops a.tmps) = true then Oper.wp P o a w K Q else K (a.put o.dst undef) w := by
  rw [if_pos (by simp [Region.wanted, hg, yielded_of hd hv])]; exact h
/-- A guard that says no, or that has not been asked. -/
theorem step_no {ops : Array Oper} {o : Oper} {a : Act} {w : World} {K : Act → World → Prop} {g d : Nat} {b : Bool} (hg : o.guard = some (g, b)) (hd : dstAt ops g = some d) (hv : a.tmps[d]?.getD undef = .bool (!b) ∨ a.tmps[d]?.getD undef = undef) (h : K (a.put o.dst undef) w) :
    if Region.wanted o (yielded ops a.tmps) = true then Oper.wp P o a w K Q else K (a.put o.dst undef) w := by
  rw [if_neg]
  · exact h
  · rcases hv with hv | hv
    · cases b <;> simp [Region.wanted, hg, yielded_of hd hv]
    · have hy : yielded ops a.tmps g = none := by
        unfold yielded
        unfold dstAt at hd
        rw [hd]
        cases hq : a.tmps[d]? with
        | none => simp [hq]
        | some v => rw [hq] at hv; simp at hv; subst hv; simp [hq, undef]
      simp [Region.wanted, hg, hy]
end

/-! ### The relation of worlds: all that was there stands, but for one variable R of n cells, which ends as 'cs' once it is so -/
structure TR (R n : Nat) (cs : List Value) (w w' : World) : Prop where
  grown : w.grownBy w' (some R)
  there : w.there R 0 n → w'.there R 0 n
  fin : w.rangeAt R 0 cs → w'.rangeAt R 0 cs
theorem TR.refl (R n : Nat) (cs : List Value) (w : World) : TR R n cs w w := ⟨World.grownBy.refl w _, id, id⟩
theorem grown_trans {a b c : World} {row : Option Nat} (h : a.grownBy b row) (k : b.grownBy c row) : a.grownBy c row :=
  ⟨k.os.trans h.os, k.tape.trans h.tape, k.output.trans h.output, Nat.le_trans h.size k.size, fun i hi hne => (k.block i (Nat.lt_of_lt_of_le hi h.size) hne).trans (h.block i hi hne)⟩
theorem TR.trans (R n : Nat) (cs : List Value) (x y z : World) (h : TR R n cs x y) (k : TR R n cs y z) : TR R n cs x z :=
  ⟨grown_trans h.grown k.grown, fun q => k.there (h.there q), fun q => k.fin (h.fin q)⟩
theorem TR.of_below {R n : Nat} {cs : List Value} {w w' : World} (hR : R < w.heap.size) (h : Below w.heap.size w w') : TR R n cs w w' :=
  ⟨⟨h.os, h.tape, h.output, h.size, fun k hk _ => h.block k hk⟩,
   fun q j hj => ⟨by rw [h.cell (p := ⟨R, 0 + j, none⟩) hR]; exact (q j hj).1, by rw [h.frozen (p := ⟨R, 0 + j, none⟩) hR]; exact (q j hj).2⟩,
   fun q j v hv => by rw [h.cell (p := ⟨R, 0 + j, none⟩) hR]; exact q j v hv⟩
theorem TR.cell {R n : Nat} {cs : List Value} {w w' : World} (h : TR R n cs w w') {b o : Nat} (hb : b < w.heap.size) (hne : b ≠ R) : w'.cell? ⟨b, o, none⟩ = w.cell? ⟨b, o, none⟩ :=
  World.cell?_of_block (h.grown.block b hb (fun e => hne (by injection e)))
theorem grown_setCells {R : Nat} : ∀ (vs : List Value) (o : Nat) (w : World), w.grownBy (w.setCells R o vs) (some R)
  | [], _, w => World.grownBy.refl w _
  | v :: vs, o, w => by
    have h1 : w.grownBy (w.setCell ⟨R, o, none⟩ v) (some R) := ⟨rfl, rfl, rfl, by simp [World.setCell], fun k _ hne => Below.heap_setCell w ⟨R, o, none⟩ v k (fun e => hne (by rw [e]))⟩
    exact grown_trans h1 (grown_setCells vs (o + 1) (w.setCell ⟨R, o, none⟩ v))
theorem TR.store {R n : Nat} {cs : List Value} {w : World} (ht : w.there R 0 n) (hn : cs.length = n) : TR R n cs w (w.setCells R 0 cs) ∧ (w.setCells R 0 cs).rangeAt R 0 cs := by
  have hr := World.rangeAt_setCells_same w R 0 cs (by rw [hn]; exact ht)
  exact ⟨⟨grown_setCells cs 0 w, fun q => World.there_setCells q R 0 cs, fun _ => hr⟩, hr⟩
theorem TR.below {R n B : Nat} {cs : List Value} {w0 w w' : World} (h : TR R n cs w w') (hb : Below B w0 w) (hB : B ≤ R) (hs : w0.heap.size = B) : Below B w0 w' :=
  hb.grown h.grown (by have := hb.size; omega) (fun k hk => by injection hk with hk; omega)
/-- All that was there stands. -/
def TB (w w' : World) : Prop := Below w.heap.size w w'
theorem TB.refl (w : World) : TB w w := Below.refl _ _
theorem TB.trans (x y z : World) (h : TB x y) (k : TB y z) : TB x z := Below.trans h (Below.mono k h.size)
theorem TB.cell {w w' : World} (h : TB w w') {b o : Nat} (hb : b < w.heap.size) : w'.cell? ⟨b, o, none⟩ = w.cell? ⟨b, o, none⟩ := Below.cell h (p := ⟨b, o, none⟩) hb
theorem TB.alloc (w : World) (o : Obj) : TB w (w.alloc o) := (Below.refl _ _).alloc (Nat.le_refl _) o
end Go.Proofs.Ytpfihchdbdhbjaa
