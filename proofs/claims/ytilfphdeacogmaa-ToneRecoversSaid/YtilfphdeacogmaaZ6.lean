/- Several texts in one. -/
import Derived.Test.YtilfphdeacogmaaZ4
import Derived.Test.YtilfphdeacogmaaZ5
import Derived.ProofKit
import Derived.OpenShut
import Derived.ChangeOld
import Derived.Below
import Derived.Test.YtilfphdeacogmaaRows
import Derived.ShutString
import Derived.Lib.SmallJoins

set_option linter.unusedSimpArgs false
set_option linter.unusedVariables false
set_option linter.unusedSectionVars false
/- The engine: functions that give several new variables, which may point to one another; variables that hold pointers. -/
namespace Go.Proofs.Ytilfphdeacogmaa.En
open Go
set_option linter.unusedVariables false
def Perm.adopts (τ : Nat -> Option Nat) (d : Nat) : Perm -> Perm
  | .imm => .imm
  | .low n => .low n
  | .own p n => (match p with | .cell d' s' i => (match d', τ s' with | 0, some t => .own (.cell d t i) n | _, _ => .low n) | .slot _ _ => .low n)
  | .box d' s' => (match d', τ s' with | 0, some t => .box d t | _, _ => .low 0)
def G.adopts (g g' : G) (n d : Nat) (τ υ : Nat -> Option Nat) : G :=
  { Γ := fun b => if b < n then g.Γ b else (g'.Γ b).adopts τ d, J := fun d' s' => if d' = d then (match υ s' with | some s => g'.J 0 s | none => g.J d' s') else g.J d' s', sz := g.sz }
def RC (τ : Nat -> Option Nat) (c' c : D) : Prop := (c' = c /\ c.calm = true) ∨ ∃ s t, c = .ptr 0 s 0 /\ c' = .ptr 0 t 0 /\ τ s = some t
section
variable {R : Type} {P : Program} {T : TypeId -> Option Ty} {cx : Cx} {E : Env} {g : G} {w : World}
theorem news_entry (hm : P.follows .mixedOrders = true) (hcx : CxOK P cx) {f : FuncId} {fn : Func} (hf : P.funcs[f]? = some fn) (hb : fn.body = some (bodyOf fn)) (hro : (drawnOf (bodyOf fn)).all (orderB cx) = true) (hl : LoopsOK cx fn.ntmps (bodyOf fn))
    {ds : List D} (hargs : Nat.ble ds.length fn.ntmps = true) (hfar : fars ds = true) (hbare : bares ds = ds) {rf : List D -> Mem -> Option R} {r : R} (h : bodyK cx fn ds [] rf = some r)
    {τ υ : Nat -> Option Nat} (hτ : ∀ s t, τ s = some t ↔ υ t = some s) {Bn Bo : Nat -> Bx}
    (hcell : ∀ s t, τ s = some t -> (Bn s).ty = (Bo s).ty /\ (Bn s).cells.length = (Bo s).cells.length /\ ∀ (i : Nat) c' c, (Bn s).cells[i]? = some c' -> (Bo s).cells[i]? = some c -> RC τ c' c)
    {s0 t0 : Nat} (hs0 : τ s0 = some t0)
    (hrs : ∀ rs' m', rf rs' m' = some r -> ∃ fr, rs' = [.ptr 0 s0 0] /\ m' = [fr] /\ ∀ s t, τ s = some t -> frGet s fr = some (Bo s))
    {m m2 : Mem} {dst : Nat} (hn : ∀ s t, τ s = some t -> m.box? 0 t = none) (hlen : m2.length = m.length)
    (hbox : 0 < m.length -> ∀ k t, m2.box? k t = (if k = 0 then (match υ t with | some s => some (Bn s) | none => m.box? 0 t) else m.box? k t)) : MemRet P cx.T f dst ds m [.ptr 0 t0 0] m2 := by
  intro E g w us hh hus
  have hh0 : Here cx.T ⟨0, memDom [[]]⟩ g.hide w ([] :: []) := by
    refine ⟨fun k s b hb => ?_, rfl, hh.sk.later (hide_later g w), rfl⟩
    exfalso
    rcases k with _ | k
    . simp [Mem.box?, frGet] at hb
    . simp [Mem.box?] at hb
  have hr : RepDs ⟨0, memDom [[]]⟩ g.hide w [] ds us := by
    have := hus.far_ (E' := ⟨0, memDom [[]]⟩) (dead' := []) (hide_later g w) hfar
    rwa [hbare] at this
  have hml : 0 < m.length := by rw [hh.len]; omega
  have hbox := hbox hml
  refine body_sound hcx hf hb (regionsOK_of hm hcx hro) hl (Nat.le_of_ble_eq_true hargs) hh0 hr h fun rs' us' m' E' g' w' h1 h2 h3 h4 h5 => ?_
  obtain ⟨fr, rfl, rfl, hB⟩ := hrs rs' m' h1
  have h4 : E'.d = 0 := h4
  have hold : ∀ b, b < w.heap.size -> g'.Γ b = g.hide.Γ b /\ w'.heap[b]? = w.heap[b]? := fun b hb => h5.hid b hb (hid_perm _)
  have hbx := fun s t (e : τ s = some t) => h2.mem 0 s (Bo s) (hB s t e)
  have hpx : ∀ s t, τ s = some t -> g'.Γ (g'.J 0 s) = .box 0 s := fun s t e => by
    have := (hbx s t e).perm
    rw [h4] at this
    exact this
  have hxn : ∀ s t, τ s = some t -> ¬ g'.J 0 s < w.heap.size := fun s t e hlt => by
    have h6 := (hold _ hlt).1
    rw [hpx s t e] at h6
    simp only [G.hide] at h6
    rcases hid_perm (g.Γ (g'.J 0 s)) with e | ⟨n, e⟩ <;> rw [e] at h6 <;> cases h6
  have hset : Later g' w' (g.adopts g' w.heap.size E.d τ υ) w' := by
    refine ⟨?_, fun b o v a1 a2 => ⟨?_, a2⟩, fun b x a1 a2 => ⟨?_, a2⟩⟩
    . show g.sz = g'.sz
      rw [h5.later.sz]; rfl
    . unfold Stable G.adopts
      simp only
      by_cases hb : b < w.heap.size
      . rw [if_pos hb]
        have : Stable g.hide b o := by unfold Stable at a1 ⊢; rw [(hold b hb).1] at a1; exact a1
        exact (stable_hide g b o).1 this
      . rw [if_neg hb]
        unfold Stable at a1
        cases hp : g'.Γ b with
        | imm => trivial
        | low n => rw [hp] at a1; exact a1
        | own p n =>
          rw [hp] at a1
          cases p with
          | slot a c => exact a1
          | cell a c i =>
            rcases a with _ | a
            . simp only [Perm.adopts]
              cases τ c <;> exact a1
            . exact a1
        | box a c => rw [hp] at a1; exact a1.elim
    . unfold G.adopts
      simp only
      by_cases hb : b < w.heap.size
      . rw [if_pos hb]
        rw [(hold b hb).1] at a1
        simp only [G.hide] at a1
        cases hp : g.Γ b <;> rw [hp] at a1 <;> first | rfl | cases a1
      . rw [if_neg hb, a1]; rfl
  have hlat : Later g w (g.adopts g' w.heap.size E.d τ υ) w' := ((hide_later g w).trans h5.later).trans hset
  have hJx : ∀ s t, τ s = some t -> (g.adopts g' w.heap.size E.d τ υ).J (E.d - 0) t = g'.J 0 s := fun s t e => by
    show (if E.d - 0 = E.d then (match υ t with | some s => g'.J 0 s | none => g.J (E.d - 0) t) else g.J (E.d - 0) t) = _
    rw [if_pos (by omega), (hτ s t).1 e]
  have hJ : ∀ k s', k <= E.d -> E.dom k s' -> (g.adopts g' w.heap.size E.d τ υ).J (E.d - k) s' = g.J (E.d - k) s' := fun k s' hk hd => by
    show (if E.d - k = E.d then (match υ s' with | some s => g'.J 0 s | none => g.J (E.d - k) s') else g.J (E.d - k) s') = _
    split
    . rename_i e1
      have : k = 0 := by omega
      subst this
      cases hu : υ s' with
      | none => rfl
      | some s =>
        exfalso
        rw [hh.dom] at hd
        obtain ⟨b, hb⟩ := hd
        rw [hn s s' ((hτ s s').2 hu)] at hb
        cases hb
    . rfl
  have hΓ : ∀ b, b < w.heap.size -> (g.adopts g' w.heap.size E.d τ υ).Γ b = g.Γ b := fun b hb => if_pos hb
  have hown : ∀ p e v, OwnAt g w p e v -> OwnAt (g.adopts g' w.heap.size E.d τ υ) w' p e v := fun p e v ho => by
    rcases ho with h0 | ⟨b, n, cap, cur, a1, a2, a3, a4⟩
    . exact .inl h0
    . have hb := heap_lt a3
      exact .inr ⟨b, n, cap, cur, a1, by rw [hΓ b hb]; exact a2, by rw [(hold b hb).2]; exact a3, a4⟩
  have hownc : ∀ s t i e v, τ s = some t -> OwnAt g' w' (.cell 0 s i) e v -> OwnAt (g.adopts g' w.heap.size E.d τ υ) w' (.cell E.d t i) e v := fun s t i e v hst ho => by
    rcases ho with h0 | ⟨b, n, cap, cur, a1, a2, a3, a4⟩
    . exact .inl h0
    . have hb : ¬ b < w.heap.size := fun hlt => by
        have h6 := (hold _ hlt).1
        rw [a2] at h6
        simp only [G.hide] at h6
        rcases hid_perm (g.Γ b) with e | ⟨n, e⟩ <;> rw [e] at h6 <;> cases h6
      have hsz : (g.adopts g' w.heap.size E.d τ υ).sz = g'.sz := hset.sz
      refine .inr ⟨b, n, cap, cur, a1, ?_, a3, by rw [hsz]; exact a4⟩
      show (if b < w.heap.size then g.Γ b else (g'.Γ b).adopts τ E.d) = _
      rw [if_neg hb, a2]
      simp only [Perm.adopts, hst]
      rw [hsz]
  have hdom : ∀ k s', E.dom k s' -> ∃ b, m2.box? k s' = some b := fun k s' hd => by
    rw [hh.dom] at hd
    obtain ⟨b, hb⟩ := hd
    rw [hbox]
    split
    . rename_i e; subst e
      split
      . exact ⟨_, rfl⟩
      . exact ⟨b, hb⟩
    . exact ⟨b, hb⟩
  have hnew : ∀ s t, τ s = some t -> m2.box? 0 t = some (Bn s) := fun s t e => by
    rw [hbox, if_pos rfl, (hτ s t).1 e]
  refine ⟨us', g.adopts g' w.heap.size E.d τ υ, ⟨E.d, memDom m2⟩, rfl, ⟨hlat, rfl, fun k s' hd => hdom k s' hd, hJ, fun s' e v ho => hown _ _ _ ho⟩, ⟨fun k t b hbx' => ?_, rfl, hh.sk.later hlat, by rw [hlen]; exact hh.len⟩, ?_, ?_⟩
  . have hcase : (k = 0 /\ ∃ s, τ s = some t /\ b = Bn s) ∨ m.box? k t = some b := by
      rw [hbox] at hbx'
      split at hbx'
      . rename_i e; subst e
        split at hbx'
        . rename_i s hu
          injection hbx' with hbx'
          exact .inl ⟨rfl, s, (hτ s t).2 hu, hbx'.symm⟩
        . exact .inr hbx'
      . exact .inr hbx'
    rcases hcase with ⟨rfl, s, hst, rfl⟩ | hbm
    . obtain ⟨cs, c1, c2, c3⟩ := (hbx s t hst).heap
      rw [h4] at c1
      have c1 : w'.heap[g'.J 0 s]? = some (.cells cs (Bo s).ty (0, 0)) := c1
      obtain ⟨d1, d2, d3⟩ := hcell s t hst
      refine ⟨Nat.zero_le _, ?_, cs, by rw [hJx s t hst, d1]; exact c1, c2.trans d2.symm, fun i c' hc' => ?_⟩
      . rw [hJx s t hst]
        show (if g'.J 0 s < w.heap.size then g.Γ _ else (g'.Γ (g'.J 0 s)).adopts τ E.d) = _
        rw [if_neg (hxn s t hst), hpx s t hst]
        simp only [Perm.adopts, hst]
        rfl
      . have hi : i < (Bo s).cells.length := by rw [← d2]; exact (List.getElem?_eq_some_iff.1 hc').1
        obtain ⟨b1, b2, b3, b4⟩ := c3 i _ (List.getElem?_eq_getElem hi)
        have hrc := d3 i c' _ hc' (List.getElem?_eq_getElem hi)
        generalize (Bo s).cells[i] = c at b1 b2 b3 b4 hrc
        rcases hrc with ⟨rfl, hcalm⟩ | ⟨s2, t2, rfl, rfl, h2t⟩
        . refine ⟨b1, b2, fun e => ?_, ?_⟩
          . rw [hJx s t hst]
            have := b3 e
            rw [h4] at this
            exact this
          . generalize cs.getD i undef = u at b4 ⊢
            cases c' with
            | v x a =>
              cases a with
              | no => exact .v _ _ _ ((repV_of b4).later hset) trivial
              | nil e => cases b4 with | v x a v h ha => exact .v _ _ _ (h.later hset) ha
              | own p e =>
                cases b4 with
                | v x a v h ha =>
                  rcases ha with ha | ⟨_, ha⟩
                  . cases ha
                  . refine .v _ _ _ (h.later hset) (.inr ⟨Nat.zero_le _, ?_⟩)
                    refine hownc s t i e _ hst ?_
                    have : OwnAt g' w' (.cell (E'.d - 0) s i) e u := ha
                    rw [h4] at this
                    exact this
            | bld => exact .any _
            | nilp => cases b4; exact .nilp
            | nilF => cases b4; exact .nilF
            | eptr xs o => cases b4 with | eptr _ _ b off us h hr => exact .eptr xs o b off us (fun k y hy => hset.st _ _ _ (h k y hy).1 (h k y hy).2) (fun k y hy => (hr k y hy).later hset)
            | _ => cases hcalm
        . refine ⟨rfl, rfl, fun e => (by cases e), ?_⟩
          have h7 : ∀ u, RepD E' g' w' [] (.ptr 0 s2 0) u -> u = .pointer (some ⟨g'.J 0 s2, 0, none⟩) := fun u hu => by
            cases hu with | ptr k s o hk hd => rw [h4]
          rw [h7 _ b4, ← hJx s2 t2 h2t]
          exact .ptr (E := ⟨E.d, memDom m2⟩) 0 t2 0 (Nat.zero_le _) ⟨_, hnew s2 t2 h2t⟩
    . have hr := hh.mem k t b hbm
      obtain ⟨us2, a1, a2, a3⟩ := hr.heap
      have hlt := heap_lt a1
      have hd : E.dom k t := by rw [hh.dom]; exact ⟨b, hbm⟩
      have hJ' := hJ k t hr.le hd
      refine ⟨hr.le, ?_, us2, ?_, a2, fun i c hc => ?_⟩
      . show (g.adopts g' w.heap.size E.d τ υ).Γ ((g.adopts g' w.heap.size E.d τ υ).J (E.d - k) t) = _
        rw [hJ', hΓ _ hlt]; exact hr.perm
      . show w'.heap[(g.adopts g' w.heap.size E.d τ υ).J (E.d - k) t]? = _
        rw [hJ', (hold _ hlt).2]; exact a1
      . obtain ⟨b1, b2, b3, b4⟩ := a3 i c hc
        refine ⟨b1, b2, fun e => by
          show BldAt ((g.adopts g' w.heap.size E.d τ υ).J (E.d - k) t) _
          rw [hJ']; exact b3 e, ?_⟩
        exact cell_move (E' := ⟨E.d, memDom m2⟩) b2 b4 (by simp) (fun _ _ => true) hlat rfl (fun k s' hd _ => hdom k s' hd) (fun k s' hk hd _ => hJ k s' hk hd) (fun e v ho => hown _ _ _ ho) (fun _ => true) (fun _ _ _ _ => rfl) (fun _ _ _ _ _ _ => rfl) (fun _ _ _ _ _ => rfl) (fun _ _ _ _ _ => rfl) rfl (fun _ _ => rfl)
  . refine ⟨h3.1, fun k y hk => ?_⟩
    rcases k with _ | k
    . simp at hk
      subst hk
      have h6 := h3.2 0 _ rfl
      have h7 : ∀ u, RepD E' g' w' [] (.ptr 0 s0 0) u -> u = .pointer (some ⟨g'.J 0 s0, 0, none⟩) := fun u hu => by
        cases hu with | ptr k s o hk hd => rw [h4]
      rw [h7 _ h6, ← hJx s0 t0 hs0]
      exact .ptr (E := ⟨E.d, memDom m2⟩) 0 t0 0 (Nat.zero_le _) ⟨_, hnew s0 t0 hs0⟩
    . simp at hk
  . exact ⟨h5.os, h5.tape, h5.output, h5.size, hlat, fun b hb _ => ⟨hΓ b hb, (hold b hb).2⟩, fun d' s' hd => if_neg (by omega)⟩
end
end Go.Proofs.Ytilfphdeacogmaa.En

/- Variables of which the first points to the others; 26 results. -/
namespace Go.Proofs.Ytilfphdeacogmaa.En
open Go
set_option linter.unusedVariables false
theorem bren_hub3 {ps : List (Nat × Nat)} {k0 s1 s2 : Nat} {t : TypeId} {r : List D} (hr : r.all D.calm = true) (h1 : ps[1]? = some (k0, s1)) (h2 : ps[2]? = some (k0, s2)) :
    BRen (fun k s i => ps[i]? = some (k0 + k, s)) ⟨t, .ptr 0 s1 0 :: .ptr 0 s2 0 :: r⟩ ⟨t, .ptr 0 1 0 :: .ptr 0 2 0 :: r⟩ := by
  refine ⟨rfl, rfl, fun i c c₁ hc hc₁ => ?_⟩
  rcases i with _ | _ | i
  . simp at hc hc₁
    subst hc hc₁
    exact .ren (by simp) (by simp) rfl rfl rfl rfl (by simp) (.ptr 0 ⟨rfl, h1⟩)
  . simp at hc hc₁
    subst hc hc₁
    exact .ren (by simp) (by simp) rfl rfl rfl rfl (by simp) (.ptr 0 ⟨rfl, h2⟩)
  . simp at hc hc₁
    rw [hc] at hc₁
    injection hc₁ with hc₁
    subst hc₁
    exact calm_ren (List.all_eq_true.1 hr c (List.mem_of_getElem? hc))
theorem brens_hub3 {ps : List (Nat × Nat)} {k0 s0 s1 s2 : Nat} (hps : ps = [(k0, s0), (k0, s1), (k0, s2)]) {A A₁ B B₁ C C₁ : Bx} (hA : BRen (fun k s i => ps[i]? = some (k0 + k, s)) A A₁) (hB : BRen (fun k s i => ps[i]? = some (k0 + k, s)) B B₁) (hC : BRen (fun k s i => ps[i]? = some (k0 + k, s)) C C₁) :
    BRens ps [A, B, C] [A₁, B₁, C₁] := by
  subst hps
  intro j p D hj hD
  rcases j with _ | _ | _ | j
  . simp at hj hD; subst hj hD; exact ⟨A₁, rfl, hA⟩
  . simp at hj hD; subst hj hD; exact ⟨B₁, rfl, hB⟩
  . simp at hj hD; subst hj hD; exact ⟨C₁, rfl, hC⟩
  . simp at hj
def bnd26 {R a1 a2 a3 a4 a5 a6 a7 a8 a9 a10 a11 a12 a13 a14 a15 a16 a17 a18 a19 a20 a21 a22 a23 a24 a25 a26 : Type} (o : Option (a1 × a2 × a3 × a4 × a5 × a6 × a7 × a8 × a9 × a10 × a11 × a12 × a13 × a14 × a15 × a16 × a17 × a18 × a19 × a20 × a21 × a22 × a23 × a24 × a25 × a26)) (K : a1 -> a2 -> a3 -> a4 -> a5 -> a6 -> a7 -> a8 -> a9 -> a10 -> a11 -> a12 -> a13 -> a14 -> a15 -> a16 -> a17 -> a18 -> a19 -> a20 -> a21 -> a22 -> a23 -> a24 -> a25 -> a26 -> Option R) : Option R := match o with | some (x1, x2, x3, x4, x5, x6, x7, x8, x9, x10, x11, x12, x13, x14, x15, x16, x17, x18, x19, x20, x21, x22, x23, x24, x25, x26) => K x1 x2 x3 x4 x5 x6 x7 x8 x9 x10 x11 x12 x13 x14 x15 x16 x17 x18 x19 x20 x21 x22 x23 x24 x25 x26 | none => none
theorem bnd26_some {R a1 a2 a3 a4 a5 a6 a7 a8 a9 a10 a11 a12 a13 a14 a15 a16 a17 a18 a19 a20 a21 a22 a23 a24 a25 a26 : Type} {o : Option (a1 × a2 × a3 × a4 × a5 × a6 × a7 × a8 × a9 × a10 × a11 × a12 × a13 × a14 × a15 × a16 × a17 × a18 × a19 × a20 × a21 × a22 × a23 × a24 × a25 × a26)} {K : a1 -> a2 -> a3 -> a4 -> a5 -> a6 -> a7 -> a8 -> a9 -> a10 -> a11 -> a12 -> a13 -> a14 -> a15 -> a16 -> a17 -> a18 -> a19 -> a20 -> a21 -> a22 -> a23 -> a24 -> a25 -> a26 -> Option R} {r : R} (h : bnd26 o K = some r) : ∃ x1 x2 x3 x4 x5 x6 x7 x8 x9 x10 x11 x12 x13 x14 x15 x16 x17 x18 x19 x20 x21 x22 x23 x24 x25 x26, o = some (x1, x2, x3, x4, x5, x6, x7, x8, x9, x10, x11, x12, x13, x14, x15, x16, x17, x18, x19, x20, x21, x22, x23, x24, x25, x26) /\ K x1 x2 x3 x4 x5 x6 x7 x8 x9 x10 x11 x12 x13 x14 x15 x16 x17 x18 x19 x20 x21 x22 x23 x24 x25 x26 = some r := by
  rcases o with _ | ⟨x1, x2, x3, x4, x5, x6, x7, x8, x9, x10, x11, x12, x13, x14, x15, x16, x17, x18, x19, x20, x21, x22, x23, x24, x25, x26⟩
  . cases h
  . exact ⟨x1, x2, x3, x4, x5, x6, x7, x8, x9, x10, x11, x12, x13, x14, x15, x16, x17, x18, x19, x20, x21, x22, x23, x24, x25, x26, rfl, h⟩
theorem bnd26_mk {R a1 a2 a3 a4 a5 a6 a7 a8 a9 a10 a11 a12 a13 a14 a15 a16 a17 a18 a19 a20 a21 a22 a23 a24 a25 a26 : Type} (x1 : a1) (x2 : a2) (x3 : a3) (x4 : a4) (x5 : a5) (x6 : a6) (x7 : a7) (x8 : a8) (x9 : a9) (x10 : a10) (x11 : a11) (x12 : a12) (x13 : a13) (x14 : a14) (x15 : a15) (x16 : a16) (x17 : a17) (x18 : a18) (x19 : a19) (x20 : a20) (x21 : a21) (x22 : a22) (x23 : a23) (x24 : a24) (x25 : a25) (x26 : a26) (K : a1 -> a2 -> a3 -> a4 -> a5 -> a6 -> a7 -> a8 -> a9 -> a10 -> a11 -> a12 -> a13 -> a14 -> a15 -> a16 -> a17 -> a18 -> a19 -> a20 -> a21 -> a22 -> a23 -> a24 -> a25 -> a26 -> Option R) : bnd26 (some (x1, x2, x3, x4, x5, x6, x7, x8, x9, x10, x11, x12, x13, x14, x15, x16, x17, x18, x19, x20, x21, x22, x23, x24, x25, x26)) K = K x1 x2 x3 x4 x5 x6 x7 x8 x9 x10 x11 x12 x13 x14 x15 x16 x17 x18 x19 x20 x21 x22 x23 x24 x25 x26 := id rfl
end Go.Proofs.Ytilfphdeacogmaa.En

/- What the exchange calls, together. -/

/- Functions of the program in plain Lean, joined to the program by evaluation; printed by a program. -/
namespace Go.Proofs.Ytilfphdeacogmaa.En
open Go Go.Proofs
set_option maxRecDepth 100000
set_option maxHeartbeats 8000000
set_option linter.unusedVariables false
noncomputable def e_arrives {R : Type} (s : List UInt8 -> Bool -> Int -> Option (List UInt8 × Bool)) (ds : List D) (K : List D -> Option R) : Option R :=
  match ds with
  | [.v (.bytes x0) .no, .agg [.v (.bool x1) .no, .v (.int .i64 x2) .no]] => bnd2 (s x0 x1 x2) fun r0 r1 => K [dY r0, dB r1]
  | _ => none
abbrev Q_arrives (s : List UInt8 -> Bool -> Int -> Option (List UInt8 × Bool)) : Prop := ∀ x0 x1 x2 r0 r1, s x0 x1 x2 = some (r0, r1) -> PureRet Try.prog T 91 [dY x0, .agg [dB x1, dI x2]] [dY r0, dB r1]
theorem eo_arrives (s : List UInt8 -> Bool -> Int -> Option (List UInt8 × Bool)) (hs : Q_arrives s) : EntOK Try.prog T ⟨91, e_arrives s⟩ := by
  refine ⟨goes_of Try.func91 (by kernel_rfl) (c := bodyOf Try.f91) (by kernel_rfl), fun R ds K r h => ?_, fun R ds K => ?_⟩
  . simp only [e_arrives] at h
    split at h
    . obtain ⟨r0, r1, h1, h2⟩ := bnd2_some h
      exact ⟨_, h2, hs _ _ _ _ _ h1⟩
    . cases h
  . simp only [e_arrives]
    split
    . rw [bnd2_b]; rfl
    . rfl
noncomputable def e_disturbed {R : Type} (s : List V -> Option (Int)) (ds : List D) (K : List D -> Option R) : Option R :=
  match ds with
  | [.v (.sl 110 x0) .no] => bnd1 (s x0) fun r0 => K [dI r0]
  | _ => none
noncomputable def F_disturbed_3 {R : Type} (N : Nat) (vs0 : List V) (Lq : Int -> Int -> Option R) (K0 : Int -> Option R) (n1 n2 : Int) : Option R := br (decide (n2 < (vs0.length : Int))) (br (decide (n1 < 6)) (br (decide (0 <= n2) && decide (n2 < (vs0.length : Int))) (at? vs0 n2.toNat fun x0 => x0.unAgg fun l1 => unCons l1 fun x2 l3 => x2.unBool fun b4 => unCons l3 fun x5 l6 => V.unInt IntKind.i64 x5 fun n7 => unNil l6 (br b4 (Lq (IntKind.i64.wrap (n1 + 1)) (IntKind.i64.wrap (n2 + 1))) (br (decide (0 <= n2) && decide (n2 < (vs0.length : Int))) (at? vs0 n2.toNat fun x8 => x8.unAgg fun l9 => unCons l9 fun x10 l11 => x10.unBool fun b12 => unCons l11 fun x13 l14 => V.unInt IntKind.i64 x13 fun n15 => unNil l14 (br (decide (0 < n15)) (Lq (IntKind.i64.wrap (n1 + 1)) (IntKind.i64.wrap (n2 + 1))) (Lq n1 (IntKind.i64.wrap (n2 + 1))))) none))) none) (K0 n1)) (K0 n1)
noncomputable def S_disturbed_3 {R : Type} (N : Nat) (vs0 : List V) : Nat -> Int -> Int -> (Int -> Option R) -> Option R | 0, _, _, _ => none | t + 1, n1, n2, K0 => F_disturbed_3 N vs0 (fun n1 n2 => S_disturbed_3 N vs0 t n1 n2 K0) K0 n1 n2
noncomputable def l_disturbed_3 {R : Type} (N : Nat) (ds : List D) (m : Mem) (K : Ex -> List D -> Mem -> Option R) : Option R :=
  match ds, m with
  | [(.v (.sl 110 vs0) .no), (.v (.int .i64 n1) .no), (.v (.int .i64 n2) .no)], [[]] => S_disturbed_3 N vs0 N n1 n2 (fun a0 => K (.exit 0) [(.v (.int .i64 a0) .no)] [[]])
  | _, _ => none
noncomputable def s_disturbed (N : Nat) (x0 : List V) : Option (Int) := S_disturbed_3 N x0 N 0 0 fun n0 => some n0
noncomputable def cx_disturbed (N : Nat) : Cx := { T := T, isPure := tabP [], pureK := fun g ds K => tabK [] g ds K, memK := fun g dst ds m K => tabMK [] g dst ds m K, meth := tabM [], keep := fun r => match r with | 3 => [0, 3, 4] | _ => [], keepX := fun r => match r with | 3 => [3] | _ => [], loopT := fun r ds m K => match r with | 3 => l_disturbed_3 N ds m K | _ => none, jumps := 9 }
theorem F_disturbed_3_ok {R : Type} (N : Nat) (vs0 : List V) (n1 n2 : Int) (L : List D -> Mem -> Option R) (K : Ex -> List D -> Mem -> Option R) :
    roundK (fun st K => codeK (cx_disturbed N) (loopN Try.f40 0) st K) 31 [0, 3, 4] [3] L [(.v (.sl 110 vs0) .no), (dI n1), (dI n2)] [[]] K = F_disturbed_3 N vs0 (fun n1 n2 => L [(.v (.sl 110 vs0) .no), (dI n1), (dI n2)] [[]]) (fun a0 => K (.exit 0) [(dI a0)] [[]]) n1 n2 := by
  kernel_rfl
theorem S_disturbed_3_ok {R : Type} (N : Nat) (vs0 : List V) (K : Ex -> List D -> Mem -> Option R) : ∀ (t : Nat) (n1 n2 : Int),
    loopK (fun st K => codeK (cx_disturbed N) (loopN Try.f40 0) st K) 31 [0, 3, 4] [3] t [(.v (.sl 110 vs0) .no), (dI n1), (dI n2)] [[]] K = S_disturbed_3 N vs0 t n1 n2 (fun a0 => K (.exit 0) [(dI a0)] [[]])
  | 0, n1, n2 => rfl
  | t + 1, n1, n2 => (F_disturbed_3_ok N vs0 n1 n2 _ K).trans (congrArg (fun L => F_disturbed_3 N vs0 L (fun a0 => K (.exit 0) [(dI a0)] [[]]) n1 n2) (funext fun n1 => funext fun n2 => S_disturbed_3_ok N vs0 K t n1 n2))
theorem s_disturbed_ok (N : Nat) (x0 : _) : bodyK (cx_disturbed N) Try.f40 [.v (.sl 110 x0) .no] [] r_cSize = s_disturbed N x0 := by
  kernel_rfl
abbrev Q_disturbed (s : List V -> Option (Int)) : Prop := ∀ x0 r0, s x0 = some r0 -> PureRet Try.prog T 40 [.v (.sl 110 x0) .no] [dI r0]
theorem eo_disturbed (s : List V -> Option (Int)) (hs : Q_disturbed s) : EntOK Try.prog T ⟨40, e_disturbed s⟩ := by
  refine ⟨goes_of Try.func40 (by kernel_rfl) (c := bodyOf Try.f40) (by kernel_rfl), fun R ds K r h => ?_, fun R ds K => ?_⟩
  . simp only [e_disturbed] at h
    split at h
    . obtain ⟨r0, h1, h2⟩ := bnd1_some h
      exact ⟨_, h2, hs _ _ h1⟩
    . cases h
  . simp only [e_disturbed]
    split
    . rw [bnd1_b]; rfl
    . rfl
theorem co_disturbed (N : Nat) : CxOK Try.prog (cx_disturbed N) :=
  cxOK_of2 (es := []) (me := []) (ms := []) T_ok trivial trivial trivial rfl (fun _ _ _ _ => rfl) (fun _ _ _ _ _ _ => rfl) rfl
theorem lk_disturbed_3 (N : Nat) : LoopOK (cx_disturbed N) 31 (loopN Try.f40 0) := by
  refine loopOK_of (rid := 3) (by kernel_rfl) rfl rfl fun R ds m K r h => ?_
  have h : l_disturbed_3 N ds m K = some r := h
  unfold l_disturbed_3 at h
  split at h
  . exact ⟨N, Eq.trans (S_disturbed_3_ok ..) h⟩
  . cases h
theorem lo_disturbed (N : Nat) : LoopsOK (cx_disturbed N) Try.f40.ntmps (bodyOf Try.f40) :=
  loopsOK_of (k := 1) (by kernel_rfl) ⟨trivial, lk_disturbed_3 N⟩
theorem p_disturbed (N : Nat) : Q_disturbed (s_disturbed N) := fun x0 r0 h => pure_of (cx := cx_disturbed N) (by kernel_rfl) (co_disturbed N) Try.func40 (by kernel_rfl) (by kernel_rfl) (lo_disturbed N) (by rfl) (by rfl) (by rfl) (rf := r_cSize) ((s_disturbed_ok ..).trans h) (fun rs' m h => by
    unfold r_cSize at h
    split at h
    . cases h; exact ⟨rfl, rfl⟩
    . cases h)
abbrev Ty35 := List UInt8 -> List V -> Int -> Bool -> Int -> Bool -> Int -> Int -> Int -> Int -> Int -> List UInt8 -> Int -> List V -> List UInt8 -> Int -> Int -> List UInt8 -> Bool -> Int -> Int -> Int -> Int -> Int -> Int -> List UInt8 -> Int -> List V -> List UInt8 -> Int -> List UInt8 -> Option (List UInt8 × Bool × Int)
noncomputable def e_carry {R : Type} (s : Ty35) (dst : Nat) (ds : List D) (m : Mem) (K : List D -> Mem -> Option R) : Option R :=
  match ds with
  | [.ptr (kv0 + 1) sv0 0, .v (.bytes x0) .no, .v (.sl 110 x1) .no] => (match m.box? kv0 sv0 with
    | some ⟨106, [.ptr 0 sv1 0, .ptr 0 sv2 0, _, _, _, _]⟩ => viewK [(kv0, sv0), (kv0, sv1), (kv0, sv2)] m fun Bs => (match Bs with
      | [⟨106, [.ptr 0 tv1 0, .ptr 0 tv2 0, .v (.int .i64 y0) .no, .v (.bool y1) .no, .v (.int .i64 y2) .no, .v (.bool y3) .no]⟩, ⟨95, [.v (.int .i64 y4) .no, .v (.int .i64 y5) .no, .v (.int .i64 y6) .no, .v (.int .i64 y7) .no, .v (.int .i64 y8) .no, .v (.bytes y9) .no, .v (.int .i64 y10) .no, .v (.sl 27 y11) .no, .v (.bytes y12) (.own (.slot 0) 5), .v (.int .i64 y13) .no, .v (.int .i64 y14) .no, .v (.bytes y15) .no, .v (.bool y16) .no, .v (.int .i64 y17) .no]⟩, ⟨77, [.v (.int .i64 y18) .no, .v (.int .i64 y19) .no, .v (.int .i64 y20) .no, .v (.int .i64 y21) .no, .v (.int .i64 y22) .no, .v (.bytes y23) .no, .v (.int .i64 y24) .no, .v (.sl 27 y25) .no, .v (.bytes y26) (.own (.slot 0) 5), .v (.int .i64 y27) .no, .v (.bytes y28) .no]⟩] => cond ((Nat.beq sv1 tv1 && Nat.beq sv2 tv2)) (bnd3 (s x0 x1 y0 y1 y2 y3 y4 y5 y6 y7 y8 y9 y10 y11 y12 y13 y14 y15 y16 y17 y18 y19 y20 y21 y22 y23 y24 y25 y26 y27 y28) fun r0 r1 z0 => putAllK [(kv0, sv0), (kv0, sv1), (kv0, sv2)] [⟨106, [.ptr 0 sv1 0, .ptr 0 sv2 0, .v (.int .i64 z0) .no, .v (.bool y1) .no, .v (.int .i64 y2) .no, .v (.bool y3) .no]⟩, ⟨95, [.v (.int .i64 y4) .no, .v (.int .i64 y5) .no, .v (.int .i64 y6) .no, .v (.int .i64 y7) .no, .v (.int .i64 y8) .no, .v (.bytes y9) .no, .v (.int .i64 y10) .no, .v (.sl 27 y11) .no, .v (.bytes y12) (.own (.slot 0) 5), .v (.int .i64 y13) .no, .v (.int .i64 y14) .no, .v (.bytes y15) .no, .v (.bool y16) .no, .v (.int .i64 y17) .no]⟩, ⟨77, [.v (.int .i64 y18) .no, .v (.int .i64 y19) .no, .v (.int .i64 y20) .no, .v (.int .i64 y21) .no, .v (.int .i64 y22) .no, .v (.bytes y23) .no, .v (.int .i64 y24) .no, .v (.sl 27 y25) .no, .v (.bytes y26) (.own (.slot 0) 5), .v (.int .i64 y27) .no, .v (.bytes y28) .no]⟩] m fun m' => K [.v (.bytes r0) .no, .v (.bool r1) .no] m') none
      | _ => none)
    | _ => none)
  | _ => none
noncomputable def r_carry {α : Type} (K : List UInt8 -> Bool -> Int -> Bool -> Int -> Bool -> Int -> Int -> Int -> Int -> Int -> List UInt8 -> Int -> List V -> List UInt8 -> Int -> Int -> List UInt8 -> Bool -> Int -> Int -> Int -> Int -> Int -> Int -> List UInt8 -> Int -> List V -> List UInt8 -> Int -> List UInt8 -> Option α) (rs : List D) (m : Mem) : Option α :=
  match rs, m with
  | [.v (.bytes r0) _, .v (.bool r1) _], [_, [(0, ⟨106, [.ptr 0 1 0, .ptr 0 2 0, .v (.int .i64 z0) .no, .v (.bool z1) .no, .v (.int .i64 z2) .no, .v (.bool z3) .no]⟩), (1, ⟨95, [.v (.int .i64 z4) .no, .v (.int .i64 z5) .no, .v (.int .i64 z6) .no, .v (.int .i64 z7) .no, .v (.int .i64 z8) .no, .v (.bytes z9) .no, .v (.int .i64 z10) .no, .v (.sl 27 z11) .no, .v (.bytes z12) (.own (.slot 0) 5), .v (.int .i64 z13) .no, .v (.int .i64 z14) .no, .v (.bytes z15) .no, .v (.bool z16) .no, .v (.int .i64 z17) .no]⟩), (2, ⟨77, [.v (.int .i64 z18) .no, .v (.int .i64 z19) .no, .v (.int .i64 z20) .no, .v (.int .i64 z21) .no, .v (.int .i64 z22) .no, .v (.bytes z23) .no, .v (.int .i64 z24) .no, .v (.sl 27 z25) .no, .v (.bytes z26) (.own (.slot 0) 5), .v (.int .i64 z27) .no, .v (.bytes z28) .no]⟩)]] => K r0 r1 z0 z1 z2 z3 z4 z5 z6 z7 z8 z9 z10 z11 z12 z13 z14 z15 z16 z17 z18 z19 z20 z21 z22 z23 z24 z25 z26 z27 z28
  | _, _ => none
noncomputable def C_carry {R : Type} (N : Nat) (x0 : List UInt8) (x1 : List V) (y0 : Int) (y1 : Bool) (y2 : Int) (y3 : Bool) (y4 y5 y6 y7 y8 : Int) (y9 : List UInt8) (y10 : Int) (y11 : List V) (y12 : List UInt8) (y13 y14 : Int) (y15 : List UInt8) (y16 : Bool) (y17 y18 y19 y20 y21 y22 : Int) (y23 : List UInt8) (y24 : Int) (y25 : List V) (y26 : List UInt8) (y27 : Int) (y28 : List UInt8) (K0 : List UInt8 -> Bool -> Int -> Option R) : Option R := br (decide (y0 < (x1.length : Int))) (br (decide (0 <= y0) && decide (y0 < (x1.length : Int))) (at? x1 y0.toNat fun x0_1 => x0_1.unAgg fun l1 => unCons l1 fun x2 l3 => x2.unBool fun b4 => unCons l3 fun x5 l6 => V.unInt IntKind.i64 x5 fun n7 => unNil l6 (bnd2 (s_arrives N x0 b4 n7) fun l8 b9 => K0 l8 b9 (IntKind.i64.wrap (y0 + 1)))) none) (bnd2 (s_arrives N x0 false 0) fun l10 b11 => K0 l10 b11 (IntKind.i64.wrap (y0 + 1)))
noncomputable def s_carry (N : Nat) (x0 : List UInt8) (x1 : List V) (y0 : Int) (y1 : Bool) (y2 : Int) (y3 : Bool) (y4 y5 y6 y7 y8 : Int) (y9 : List UInt8) (y10 : Int) (y11 : List V) (y12 : List UInt8) (y13 y14 : Int) (y15 : List UInt8) (y16 : Bool) (y17 y18 y19 y20 y21 y22 : Int) (y23 : List UInt8) (y24 : Int) (y25 : List V) (y26 : List UInt8) (y27 : Int) (y28 : List UInt8) : Option (List UInt8 × Bool × Int) := C_carry N x0 x1 y0 y1 y2 y3 y4 y5 y6 y7 y8 y9 y10 y11 y12 y13 y14 y15 y16 y17 y18 y19 y20 y21 y22 y23 y24 y25 y26 y27 y28 (fun r0 r1 z0 => some (r0, r1, z0))
noncomputable def cx_carry (N : Nat) : Cx := cxO [⟨91, e_arrives (s_arrives N)⟩] []
theorem C_carry_ok {R : Type} (N : Nat) (x0 x1 y0 y1 y2 y3 y4 y5 y6 y7 y8 y9 y10 y11 y12 y13 y14 y15 y16 y17 y18 y19 y20 y21 y22 y23 y24 y25 y26 y27 y28 K : _) : bodyK (R := R) (cx_carry N) Try.f76 [.ptr 1 0 0, dY x0, .v (.sl 110 x1) .no] [frOf 0 [⟨106, [.ptr 0 1 0, .ptr 0 2 0, dI y0, dB y1, dI y2, dB y3]⟩, g2a y4 y5 y6 y7 y8 y9 y10 y11 y12 y13 y14 y15 y16 y17, g1a y18 y19 y20 y21 y22 y23 y24 y25 y26 y27 y28]] (r_carry K) = C_carry N x0 x1 y0 y1 y2 y3 y4 y5 y6 y7 y8 y9 y10 y11 y12 y13 y14 y15 y16 y17 y18 y19 y20 y21 y22 y23 y24 y25 y26 y27 y28 (fun r0 r1 z0 => K r0 r1 z0 y1 y2 y3 y4 y5 y6 y7 y8 y9 y10 y11 y12 y13 y14 y15 y16 y17 y18 y19 y20 y21 y22 y23 y24 y25 y26 y27 y28) := by
  kernel_rfl
abbrev Q_carry (s : Ty35) : Prop := ∀ x0 x1 y0 y1 y2 y3 y4 y5 y6 y7 y8 y9 y10 y11 y12 y13 y14 y15 y16 y17 y18 y19 y20 y21 y22 y23 y24 y25 y26 y27 y28 r0 r1 z0, s x0 x1 y0 y1 y2 y3 y4 y5 y6 y7 y8 y9 y10 y11 y12 y13 y14 y15 y16 y17 y18 y19 y20 y21 y22 y23 y24 y25 y26 y27 y28 = some (r0, r1, z0) -> ViewRet2 Try.prog T 76 [.ptr 1 0 0, dY x0, .v (.sl 110 x1) .no] [⟨106, [.ptr 0 1 0, .ptr 0 2 0, dI y0, dB y1, dI y2, dB y3]⟩, g2a y4 y5 y6 y7 y8 y9 y10 y11 y12 y13 y14 y15 y16 y17, g1a y18 y19 y20 y21 y22 y23 y24 y25 y26 y27 y28] [dY r0, dB r1] [⟨106, [.ptr 0 1 0, .ptr 0 2 0, dI z0, dB y1, dI y2, dB y3]⟩, g2a y4 y5 y6 y7 y8 y9 y10 y11 y12 y13 y14 y15 y16 y17, g1a y18 y19 y20 y21 y22 y23 y24 y25 y26 y27 y28]
theorem eo_carry (s : Ty35) (hs : Q_carry s) : MEntOK Try.prog T ⟨76, e_carry s⟩ := by
  refine ⟨goes_of Try.func76 (by kernel_rfl) (c := bodyOf Try.f76) (by kernel_rfl), fun R dst ds m K r h => ?_⟩
  simp only [e_carry] at h
  split at h
  . split at h
    . obtain ⟨Bs, a1, a2, a3, h⟩ := viewK_some h
      split at h
      . rcases cond_some h with ⟨hc, hk⟩ | ⟨_, hk⟩
        . simp only [Bool.and_eq_true] at hc
          obtain ⟨c1, c2⟩ := hc
          have c1 := Nat.eq_of_beq_eq_true c1
          have c2 := Nat.eq_of_beq_eq_true c2
          subst c1 c2
          obtain ⟨r0, r1, z0, h1, h2⟩ := bnd3_some hk
          rw [putAllK_eq] at h2
          exact ⟨_, _, h2, hs _ _ _ _ _ _ _ _ _ _ _ _ _ _ _ _ _ _ _ _ _ _ _ _ _ _ _ _ _ _ _ _ _ _ h1 _ _ m dst _ _ a1 a2 a3 rfl rfl ⟨aren_ptr _ rfl, aren_v _, aren_v _, trivial⟩ (brens_hub3 rfl (bren_hub3 rfl rfl rfl) (bren_calm rfl) (bren_calm rfl)) (brens_hub3 rfl (bren_hub3 rfl rfl rfl) (bren_calm rfl) (bren_calm rfl))⟩
        . cases hk
      . cases h
    . cases h
  . cases h
open Classical in
theorem p_carry (N : Nat) : Q_carry (s_carry N) := fun x0 x1 y0 y1 y2 y3 y4 y5 y6 y7 y8 y9 y10 y11 y12 y13 y14 y15 y16 y17 y18 y19 y20 y21 y22 y23 y24 y25 y26 y27 y28 r0 r1 z0 h => by
  refine view_of2 (Bs₁ := [⟨106, [.ptr 0 1 0, .ptr 0 2 0, dI y0, dB y1, dI y2, dB y3]⟩, g2a y4 y5 y6 y7 y8 y9 y10 y11 y12 y13 y14 y15 y16 y17, g1a y18 y19 y20 y21 y22 y23 y24 y25 y26 y27 y28]) (Bs₂ := [⟨106, [.ptr 0 1 0, .ptr 0 2 0, dI z0, dB y1, dI y2, dB y3]⟩, g2a y4 y5 y6 y7 y8 y9 y10 y11 y12 y13 y14 y15 y16 y17, g1a y18 y19 y20 y21 y22 y23 y24 y25 y26 y27 y28]) (cx := cx_carry N) (by kernel_rfl) (cxO_ok ⟨eo_arrives _ (p_arrives N), trivial⟩ trivial) Try.func76 (by kernel_rfl) (by kernel_rfl) (loopsOK_of (k := 0) (by kernel_rfl) trivial) rfl (rf := r_carry (fun r0' r1' z'0 z'1 z'2 z'3 z'4 z'5 z'6 z'7 z'8 z'9 z'10 z'11 z'12 z'13 z'14 z'15 z'16 z'17 z'18 z'19 z'20 z'21 z'22 z'23 z'24 z'25 z'26 z'27 z'28 => if z'1 = y1 /\ z'2 = y2 /\ z'3 = y3 /\ z'4 = y4 /\ z'5 = y5 /\ z'6 = y6 /\ z'7 = y7 /\ z'8 = y8 /\ z'9 = y9 /\ z'10 = y10 /\ z'11 = y11 /\ z'12 = y12 /\ z'13 = y13 /\ z'14 = y14 /\ z'15 = y15 /\ z'16 = y16 /\ z'17 = y17 /\ z'18 = y18 /\ z'19 = y19 /\ z'20 = y20 /\ z'21 = y21 /\ z'22 = y22 /\ z'23 = y23 /\ z'24 = y24 /\ z'25 = y25 /\ z'26 = y26 /\ z'27 = y27 /\ z'28 = y28 then some (r0', r1', z'0) else none)) (r := (r0, r1, z0)) ?_ ?_
  . exact (C_carry_ok ..).trans ((congrArg (fun K => C_carry N x0 x1 y0 y1 y2 y3 y4 y5 y6 y7 y8 y9 y10 y11 y12 y13 y14 y15 y16 y17 y18 y19 y20 y21 y22 y23 y24 y25 y26 y27 y28 K) (funext fun r0' => funext fun r1' => funext fun z'0 => if_pos ⟨rfl, rfl, rfl, rfl, rfl, rfl, rfl, rfl, rfl, rfl, rfl, rfl, rfl, rfl, rfl, rfl, rfl, rfl, rfl, rfl, rfl, rfl, rfl, rfl, rfl, rfl, rfl, rfl⟩)).trans h)
  . intro rs' m' hx
    unfold r_carry at hx
    split at hx
    . dsimp only at hx
      split at hx
      . rename_i hk
        obtain ⟨rfl, rfl, rfl, rfl, rfl, rfl, rfl, rfl, rfl, rfl, rfl, rfl, rfl, rfl, rfl, rfl, rfl, rfl, rfl, rfl, rfl, rfl, rfl, rfl, rfl, rfl, rfl, rfl⟩ := hk
        cases hx; exact ⟨rfl, rfl, _, rfl⟩
      . cases hx
    . cases hx
abbrev Ty36 := List UInt8 -> List UInt8 -> List UInt8 -> List V -> Int -> Int -> Bool -> Int -> Bool -> Int -> Int -> Int -> Int -> Int -> List UInt8 -> Int -> List V -> List UInt8 -> Int -> Int -> List UInt8 -> Bool -> Int -> Int -> Int -> Int -> Int -> Int -> List UInt8 -> Int -> List V -> List UInt8 -> Int -> List UInt8 -> Option (List UInt8 × Bool × Int × Bool × Int × Int × Int × List UInt8 × Int × List V × List UInt8 × Int × List UInt8)
noncomputable def e_wcard {R : Type} (s : Ty36) (dst : Nat) (ds : List D) (m : Mem) (K : List D -> Mem -> Option R) : Option R :=
  match ds with
  | [.ptr (kv0 + 1) sv0 0, .v (.bytes x0) .no, .agg [.v (.bytes x1) .no, .v (.bytes x2) .no, .v (.sl 110 x3) .no, .v (.int .i64 x4) .no]] => (match m.box? kv0 sv0 with
    | some ⟨106, [.ptr 0 sv1 0, .ptr 0 sv2 0, _, _, _, _]⟩ => viewK [(kv0, sv0), (kv0, sv1), (kv0, sv2)] m fun Bs => (match Bs with
      | [⟨106, [.ptr 0 tv1 0, .ptr 0 tv2 0, .v (.int .i64 y0) .no, .v (.bool y1) .no, .v (.int .i64 y2) .no, .v (.bool y3) .no]⟩, ⟨95, [.v (.int .i64 y4) .no, .v (.int .i64 y5) .no, .v (.int .i64 y6) .no, .v (.int .i64 y7) .no, .v (.int .i64 y8) .no, .v (.bytes y9) .no, .v (.int .i64 y10) .no, .v (.sl 27 y11) .no, .v (.bytes y12) (.own (.slot 0) 5), .v (.int .i64 y13) .no, .v (.int .i64 y14) .no, .v (.bytes y15) .no, .v (.bool y16) .no, .v (.int .i64 y17) .no]⟩, ⟨77, [.v (.int .i64 y18) .no, .v (.int .i64 y19) .no, .v (.int .i64 y20) .no, .v (.int .i64 y21) .no, .v (.int .i64 y22) .no, .v (.bytes y23) .no, .v (.int .i64 y24) .no, .v (.sl 27 y25) .no, .v (.bytes y26) (.own (.slot 0) 5), .v (.int .i64 y27) .no, .v (.bytes y28) .no]⟩] => cond ((Nat.beq sv1 tv1 && Nat.beq sv2 tv2)) (bnd13 (s x0 x1 x2 x3 x4 y0 y1 y2 y3 y4 y5 y6 y7 y8 y9 y10 y11 y12 y13 y14 y15 y16 y17 y18 y19 y20 y21 y22 y23 y24 y25 y26 y27 y28) fun r0 z1 z2 z3 z20 z21 z22 z23 z24 z25 z26 z27 z28 => putAllK [(kv0, sv0), (kv0, sv1), (kv0, sv2)] [⟨106, [.ptr 0 sv1 0, .ptr 0 sv2 0, .v (.int .i64 y0) .no, .v (.bool z1) .no, .v (.int .i64 z2) .no, .v (.bool z3) .no]⟩, ⟨95, [.v (.int .i64 y4) .no, .v (.int .i64 y5) .no, .v (.int .i64 y6) .no, .v (.int .i64 y7) .no, .v (.int .i64 y8) .no, .v (.bytes y9) .no, .v (.int .i64 y10) .no, .v (.sl 27 y11) .no, .v (.bytes y12) (.own (.slot 0) 5), .v (.int .i64 y13) .no, .v (.int .i64 y14) .no, .v (.bytes y15) .no, .v (.bool y16) .no, .v (.int .i64 y17) .no]⟩, ⟨77, [.v (.int .i64 y18) .no, .v (.int .i64 y19) .no, .v (.int .i64 z20) .no, .v (.int .i64 z21) .no, .v (.int .i64 z22) .no, .v (.bytes z23) .no, .v (.int .i64 z24) .no, .v (.sl 27 z25) .no, .v (.bytes z26) (.own (.slot 0) 5), .v (.int .i64 z27) .no, .v (.bytes z28) .no]⟩] m fun m' => K [.v (.bytes r0) .no] m') none
      | _ => none)
    | _ => none)
  | _ => none
noncomputable def r_wcard {α : Type} (K : List UInt8 -> Int -> Bool -> Int -> Bool -> Int -> Int -> Int -> Int -> Int -> List UInt8 -> Int -> List V -> List UInt8 -> Int -> Int -> List UInt8 -> Bool -> Int -> Int -> Int -> Int -> Int -> Int -> List UInt8 -> Int -> List V -> List UInt8 -> Int -> List UInt8 -> Option α) (rs : List D) (m : Mem) : Option α :=
  match rs, m with
  | [.v (.bytes r0) _], [_, [(0, ⟨106, [.ptr 0 1 0, .ptr 0 2 0, .v (.int .i64 z0) .no, .v (.bool z1) .no, .v (.int .i64 z2) .no, .v (.bool z3) .no]⟩), (1, ⟨95, [.v (.int .i64 z4) .no, .v (.int .i64 z5) .no, .v (.int .i64 z6) .no, .v (.int .i64 z7) .no, .v (.int .i64 z8) .no, .v (.bytes z9) .no, .v (.int .i64 z10) .no, .v (.sl 27 z11) .no, .v (.bytes z12) (.own (.slot 0) 5), .v (.int .i64 z13) .no, .v (.int .i64 z14) .no, .v (.bytes z15) .no, .v (.bool z16) .no, .v (.int .i64 z17) .no]⟩), (2, ⟨77, [.v (.int .i64 z18) .no, .v (.int .i64 z19) .no, .v (.int .i64 z20) .no, .v (.int .i64 z21) .no, .v (.int .i64 z22) .no, .v (.bytes z23) .no, .v (.int .i64 z24) .no, .v (.sl 27 z25) .no, .v (.bytes z26) (.own (.slot 0) 5), .v (.int .i64 z27) .no, .v (.bytes z28) .no]⟩)]] => K r0 z0 z1 z2 z3 z4 z5 z6 z7 z8 z9 z10 z11 z12 z13 z14 z15 z16 z17 z18 z19 z20 z21 z22 z23 z24 z25 z26 z27 z28
  | _, _ => none
noncomputable def C_wcard {R : Type} (N : Nat) (x0 x1 x2 : List UInt8) (x3 : List V) (x4 y0 : Int) (y1 : Bool) (y2 : Int) (y3 : Bool) (y4 y5 y6 y7 y8 : Int) (y9 : List UInt8) (y10 : Int) (y11 : List V) (y12 : List UInt8) (y13 y14 : Int) (y15 : List UInt8) (y16 : Bool) (y17 y18 y19 y20 y21 y22 : Int) (y23 : List UInt8) (y24 : Int) (y25 : List V) (y26 : List UInt8) (y27 : Int) (y28 : List UInt8) (K0 : List UInt8 -> Bool -> Int -> Bool -> Int -> Int -> Int -> List UInt8 -> Int -> List V -> List UInt8 -> Int -> List UInt8 -> Option R) : Option R := bnd9 (s_cReceive N x0 y18 y19 y20 y21 y22 y23 y24 y25 y26 y27 y28) fun l0 n1 n2 n3 l4 n5 l6 l7 n8 => br (decide (0 < (l0.length : Int))) (K0 l0 y1 y2 y3 n1 n2 n3 l4 n5 l6 l7 n8 y28) (bnd2 (s_cCommand N y18 y19 n1 n2 n3 l4 n5 l6 l7 n8 y28) fun l9 b10 => br (!b10) (K0 [] y1 y2 y3 n1 n2 n3 l4 n5 l6 l7 n8 y28) (br (decide (1 <= x4)) (br (decide (x4 <= 255)) (br (!y1) (bnd3 (s_cExtend N x4 y18 y19 n1 n2 n3 l4 n5 l6 l7 n8 y28) fun l11 n12 l13 => K0 l11 true y2 y3 n1 n2 n3 l4 n5 l6 l7 n12 l13) (br y3 (br (decide (l9.length <= 9223372036854775807)) (br (decide (x1.length <= 9223372036854775807)) (bnd6 (s_cReply N x2 y18 y19 n1 n2 n3 l4 n5 l6 l7 n8 y28) fun l14 n15 l16 n17 l18 n19 => K0 l14 y1 (IntKind.i64.wrap (y2 + 1)) (decide (l9 = x1)) n1 n2 n15 l16 n17 l18 l7 n19 y28) none) none) (bnd6 (s_cReply N x2 y18 y19 n1 n2 n3 l4 n5 l6 l7 n8 y28) fun l20 n21 l22 n23 l24 n25 => K0 l20 y1 (IntKind.i64.wrap (y2 + 1)) false n1 n2 n21 l22 n23 l24 l7 n25 y28))) (br y3 (br (decide (l9.length <= 9223372036854775807)) (br (decide (x1.length <= 9223372036854775807)) (bnd6 (s_cReply N x2 y18 y19 n1 n2 n3 l4 n5 l6 l7 n8 y28) fun l26 n27 l28 n29 l30 n31 => K0 l26 y1 (IntKind.i64.wrap (y2 + 1)) (decide (l9 = x1)) n1 n2 n27 l28 n29 l30 l7 n31 y28) none) none) (bnd6 (s_cReply N x2 y18 y19 n1 n2 n3 l4 n5 l6 l7 n8 y28) fun l32 n33 l34 n35 l36 n37 => K0 l32 y1 (IntKind.i64.wrap (y2 + 1)) false n1 n2 n33 l34 n35 l36 l7 n37 y28))) (br y3 (br (decide (l9.length <= 9223372036854775807)) (br (decide (x1.length <= 9223372036854775807)) (bnd6 (s_cReply N x2 y18 y19 n1 n2 n3 l4 n5 l6 l7 n8 y28) fun l38 n39 l40 n41 l42 n43 => K0 l38 y1 (IntKind.i64.wrap (y2 + 1)) (decide (l9 = x1)) n1 n2 n39 l40 n41 l42 l7 n43 y28) none) none) (bnd6 (s_cReply N x2 y18 y19 n1 n2 n3 l4 n5 l6 l7 n8 y28) fun l44 n45 l46 n47 l48 n49 => K0 l44 y1 (IntKind.i64.wrap (y2 + 1)) false n1 n2 n45 l46 n47 l48 l7 n49 y28))))
noncomputable def s_wcard (N : Nat) (x0 x1 x2 : List UInt8) (x3 : List V) (x4 y0 : Int) (y1 : Bool) (y2 : Int) (y3 : Bool) (y4 y5 y6 y7 y8 : Int) (y9 : List UInt8) (y10 : Int) (y11 : List V) (y12 : List UInt8) (y13 y14 : Int) (y15 : List UInt8) (y16 : Bool) (y17 y18 y19 y20 y21 y22 : Int) (y23 : List UInt8) (y24 : Int) (y25 : List V) (y26 : List UInt8) (y27 : Int) (y28 : List UInt8) : Option (List UInt8 × Bool × Int × Bool × Int × Int × Int × List UInt8 × Int × List V × List UInt8 × Int × List UInt8) := C_wcard N x0 x1 x2 x3 x4 y0 y1 y2 y3 y4 y5 y6 y7 y8 y9 y10 y11 y12 y13 y14 y15 y16 y17 y18 y19 y20 y21 y22 y23 y24 y25 y26 y27 y28 (fun r0 z1 z2 z3 z20 z21 z22 z23 z24 z25 z26 z27 z28 => some (r0, z1, z2, z3, z20, z21, z22, z23, z24, z25, z26, z27, z28))
noncomputable def cx_wcard (N : Nat) : Cx := cxO [] [⟨13, e_cReceive (s_cReceive N)⟩, ⟨19, e_cCommand (s_cCommand N)⟩, ⟨17, e_cExtend (s_cExtend N)⟩, ⟨15, e_cReply (s_cReply N)⟩]
theorem C_wcard_ok {R : Type} (N : Nat) (x0 x1 x2 x3 x4 y0 y1 y2 y3 y4 y5 y6 y7 y8 y9 y10 y11 y12 y13 y14 y15 y16 y17 y18 y19 y20 y21 y22 y23 y24 y25 y26 y27 y28 K : _) : bodyK (R := R) (cx_wcard N) Try.f77 [.ptr 1 0 0, dY x0, .agg [dY x1, dY x2, .v (.sl 110 x3) .no, dI x4]] [frOf 0 [⟨106, [.ptr 0 1 0, .ptr 0 2 0, dI y0, dB y1, dI y2, dB y3]⟩, g2a y4 y5 y6 y7 y8 y9 y10 y11 y12 y13 y14 y15 y16 y17, g1a y18 y19 y20 y21 y22 y23 y24 y25 y26 y27 y28]] (r_wcard K) = C_wcard N x0 x1 x2 x3 x4 y0 y1 y2 y3 y4 y5 y6 y7 y8 y9 y10 y11 y12 y13 y14 y15 y16 y17 y18 y19 y20 y21 y22 y23 y24 y25 y26 y27 y28 (fun r0 z1 z2 z3 z20 z21 z22 z23 z24 z25 z26 z27 z28 => K r0 y0 z1 z2 z3 y4 y5 y6 y7 y8 y9 y10 y11 y12 y13 y14 y15 y16 y17 y18 y19 z20 z21 z22 z23 z24 z25 z26 z27 z28) := by
  kernel_rfl
abbrev Q_wcard (s : Ty36) : Prop := ∀ x0 x1 x2 x3 x4 y0 y1 y2 y3 y4 y5 y6 y7 y8 y9 y10 y11 y12 y13 y14 y15 y16 y17 y18 y19 y20 y21 y22 y23 y24 y25 y26 y27 y28 r0 z1 z2 z3 z20 z21 z22 z23 z24 z25 z26 z27 z28, s x0 x1 x2 x3 x4 y0 y1 y2 y3 y4 y5 y6 y7 y8 y9 y10 y11 y12 y13 y14 y15 y16 y17 y18 y19 y20 y21 y22 y23 y24 y25 y26 y27 y28 = some (r0, z1, z2, z3, z20, z21, z22, z23, z24, z25, z26, z27, z28) -> ViewRet2 Try.prog T 77 [.ptr 1 0 0, dY x0, .agg [dY x1, dY x2, .v (.sl 110 x3) .no, dI x4]] [⟨106, [.ptr 0 1 0, .ptr 0 2 0, dI y0, dB y1, dI y2, dB y3]⟩, g2a y4 y5 y6 y7 y8 y9 y10 y11 y12 y13 y14 y15 y16 y17, g1a y18 y19 y20 y21 y22 y23 y24 y25 y26 y27 y28] [dY r0] [⟨106, [.ptr 0 1 0, .ptr 0 2 0, dI y0, dB z1, dI z2, dB z3]⟩, g2a y4 y5 y6 y7 y8 y9 y10 y11 y12 y13 y14 y15 y16 y17, g1a y18 y19 z20 z21 z22 z23 z24 z25 z26 z27 z28]
theorem eo_wcard (s : Ty36) (hs : Q_wcard s) : MEntOK Try.prog T ⟨77, e_wcard s⟩ := by
  refine ⟨goes_of Try.func77 (by kernel_rfl) (c := bodyOf Try.f77) (by kernel_rfl), fun R dst ds m K r h => ?_⟩
  simp only [e_wcard] at h
  split at h
  . split at h
    . obtain ⟨Bs, a1, a2, a3, h⟩ := viewK_some h
      split at h
      . rcases cond_some h with ⟨hc, hk⟩ | ⟨_, hk⟩
        . simp only [Bool.and_eq_true] at hc
          obtain ⟨c1, c2⟩ := hc
          have c1 := Nat.eq_of_beq_eq_true c1
          have c2 := Nat.eq_of_beq_eq_true c2
          subst c1 c2
          obtain ⟨r0, z1, z2, z3, z20, z21, z22, z23, z24, z25, z26, z27, z28, h1, h2⟩ := bnd13_some hk
          rw [putAllK_eq] at h2
          exact ⟨_, _, h2, hs _ _ _ _ _ _ _ _ _ _ _ _ _ _ _ _ _ _ _ _ _ _ _ _ _ _ _ _ _ _ _ _ _ _ _ _ _ _ _ _ _ _ _ _ _ _ _ h1 _ _ m dst _ _ a1 a2 a3 rfl rfl ⟨aren_ptr _ rfl, aren_v _, aren_agg ⟨aren_v _, aren_v _, aren_v _, aren_v _, trivial⟩, trivial⟩ (brens_hub3 rfl (bren_hub3 rfl rfl rfl) (bren_calm rfl) (bren_calm rfl)) (brens_hub3 rfl (bren_hub3 rfl rfl rfl) (bren_calm rfl) (bren_calm rfl))⟩
        . cases hk
      . cases h
    . cases h
  . cases h
open Classical in
theorem p_wcard (N : Nat) : Q_wcard (s_wcard N) := fun x0 x1 x2 x3 x4 y0 y1 y2 y3 y4 y5 y6 y7 y8 y9 y10 y11 y12 y13 y14 y15 y16 y17 y18 y19 y20 y21 y22 y23 y24 y25 y26 y27 y28 r0 z1 z2 z3 z20 z21 z22 z23 z24 z25 z26 z27 z28 h => by
  refine view_of2 (Bs₁ := [⟨106, [.ptr 0 1 0, .ptr 0 2 0, dI y0, dB y1, dI y2, dB y3]⟩, g2a y4 y5 y6 y7 y8 y9 y10 y11 y12 y13 y14 y15 y16 y17, g1a y18 y19 y20 y21 y22 y23 y24 y25 y26 y27 y28]) (Bs₂ := [⟨106, [.ptr 0 1 0, .ptr 0 2 0, dI y0, dB z1, dI z2, dB z3]⟩, g2a y4 y5 y6 y7 y8 y9 y10 y11 y12 y13 y14 y15 y16 y17, g1a y18 y19 z20 z21 z22 z23 z24 z25 z26 z27 z28]) (cx := cx_wcard N) (by kernel_rfl) (cxO_ok trivial ⟨eo_cReceive _ (p_cReceive N), eo_cCommand _ (p_cCommand N), eo_cExtend _ (p_cExtend N), eo_cReply _ (p_cReply N), trivial⟩) Try.func77 (by kernel_rfl) (by kernel_rfl) (loopsOK_of (k := 0) (by kernel_rfl) trivial) rfl (rf := r_wcard (fun r0' z'0 z'1 z'2 z'3 z'4 z'5 z'6 z'7 z'8 z'9 z'10 z'11 z'12 z'13 z'14 z'15 z'16 z'17 z'18 z'19 z'20 z'21 z'22 z'23 z'24 z'25 z'26 z'27 z'28 => if z'0 = y0 /\ z'4 = y4 /\ z'5 = y5 /\ z'6 = y6 /\ z'7 = y7 /\ z'8 = y8 /\ z'9 = y9 /\ z'10 = y10 /\ z'11 = y11 /\ z'12 = y12 /\ z'13 = y13 /\ z'14 = y14 /\ z'15 = y15 /\ z'16 = y16 /\ z'17 = y17 /\ z'18 = y18 /\ z'19 = y19 then some (r0', z'1, z'2, z'3, z'20, z'21, z'22, z'23, z'24, z'25, z'26, z'27, z'28) else none)) (r := (r0, z1, z2, z3, z20, z21, z22, z23, z24, z25, z26, z27, z28)) ?_ ?_
  . exact (C_wcard_ok ..).trans ((congrArg (fun K => C_wcard N x0 x1 x2 x3 x4 y0 y1 y2 y3 y4 y5 y6 y7 y8 y9 y10 y11 y12 y13 y14 y15 y16 y17 y18 y19 y20 y21 y22 y23 y24 y25 y26 y27 y28 K) (funext fun r0' => funext fun z'1 => funext fun z'2 => funext fun z'3 => funext fun z'20 => funext fun z'21 => funext fun z'22 => funext fun z'23 => funext fun z'24 => funext fun z'25 => funext fun z'26 => funext fun z'27 => funext fun z'28 => if_pos ⟨rfl, rfl, rfl, rfl, rfl, rfl, rfl, rfl, rfl, rfl, rfl, rfl, rfl, rfl, rfl, rfl, rfl⟩)).trans h)
  . intro rs' m' hx
    unfold r_wcard at hx
    split at hx
    . dsimp only at hx
      split at hx
      . rename_i hk
        obtain ⟨rfl, rfl, rfl, rfl, rfl, rfl, rfl, rfl, rfl, rfl, rfl, rfl, rfl, rfl, rfl, rfl, rfl⟩ := hk
        cases hx; exact ⟨rfl, rfl, _, rfl⟩
      . cases hx
    . cases hx
abbrev Ty37 := List UInt8 -> List UInt8 -> List V -> Int -> Int -> Bool -> Int -> Bool -> Int -> Int -> Int -> Int -> Int -> List UInt8 -> Int -> List V -> List UInt8 -> Int -> Int -> List UInt8 -> Bool -> Int -> Int -> Int -> Int -> Int -> Int -> List UInt8 -> Int -> List V -> List UInt8 -> Int -> List UInt8 -> Option (Bool × Int × Bool × Int × Bool × Int × Int × Int × Int × List UInt8 × Int × List V × List UInt8 × Int × Int × Bool × Int × Int × Int × Int × List UInt8 × Int × List V × List UInt8 × Int × List UInt8)
noncomputable def e_wexch {R : Type} (s : Ty37) (dst : Nat) (ds : List D) (m : Mem) (K : List D -> Mem -> Option R) : Option R :=
  match ds with
  | [.ptr (kv0 + 1) sv0 0, .agg [.v (.bytes x0) .no, .v (.bytes x1) .no, .v (.sl 110 x2) .no, .v (.int .i64 x3) .no]] => (match m.box? kv0 sv0 with
    | some ⟨106, [.ptr 0 sv1 0, .ptr 0 sv2 0, _, _, _, _]⟩ => viewK [(kv0, sv0), (kv0, sv1), (kv0, sv2)] m fun Bs => (match Bs with
      | [⟨106, [.ptr 0 tv1 0, .ptr 0 tv2 0, .v (.int .i64 y0) .no, .v (.bool y1) .no, .v (.int .i64 y2) .no, .v (.bool y3) .no]⟩, ⟨95, [.v (.int .i64 y4) .no, .v (.int .i64 y5) .no, .v (.int .i64 y6) .no, .v (.int .i64 y7) .no, .v (.int .i64 y8) .no, .v (.bytes y9) .no, .v (.int .i64 y10) .no, .v (.sl 27 y11) .no, .v (.bytes y12) (.own (.slot 0) 5), .v (.int .i64 y13) .no, .v (.int .i64 y14) .no, .v (.bytes y15) .no, .v (.bool y16) .no, .v (.int .i64 y17) .no]⟩, ⟨77, [.v (.int .i64 y18) .no, .v (.int .i64 y19) .no, .v (.int .i64 y20) .no, .v (.int .i64 y21) .no, .v (.int .i64 y22) .no, .v (.bytes y23) .no, .v (.int .i64 y24) .no, .v (.sl 27 y25) .no, .v (.bytes y26) (.own (.slot 0) 5), .v (.int .i64 y27) .no, .v (.bytes y28) .no]⟩] => cond ((Nat.beq sv1 tv1 && Nat.beq sv2 tv2)) (bnd26 (s x0 x1 x2 x3 y0 y1 y2 y3 y4 y5 y6 y7 y8 y9 y10 y11 y12 y13 y14 y15 y16 y17 y18 y19 y20 y21 y22 y23 y24 y25 y26 y27 y28) fun r0 z0 z1 z2 z3 z5 z6 z7 z8 z9 z10 z11 z12 z13 z14 z16 z17 z20 z21 z22 z23 z24 z25 z26 z27 z28 => putAllK [(kv0, sv0), (kv0, sv1), (kv0, sv2)] [⟨106, [.ptr 0 sv1 0, .ptr 0 sv2 0, .v (.int .i64 z0) .no, .v (.bool z1) .no, .v (.int .i64 z2) .no, .v (.bool z3) .no]⟩, ⟨95, [.v (.int .i64 y4) .no, .v (.int .i64 z5) .no, .v (.int .i64 z6) .no, .v (.int .i64 z7) .no, .v (.int .i64 z8) .no, .v (.bytes z9) .no, .v (.int .i64 z10) .no, .v (.sl 27 z11) .no, .v (.bytes z12) (.own (.slot 0) 5), .v (.int .i64 z13) .no, .v (.int .i64 z14) .no, .v (.bytes y15) .no, .v (.bool z16) .no, .v (.int .i64 z17) .no]⟩, ⟨77, [.v (.int .i64 y18) .no, .v (.int .i64 y19) .no, .v (.int .i64 z20) .no, .v (.int .i64 z21) .no, .v (.int .i64 z22) .no, .v (.bytes z23) .no, .v (.int .i64 z24) .no, .v (.sl 27 z25) .no, .v (.bytes z26) (.own (.slot 0) 5), .v (.int .i64 z27) .no, .v (.bytes z28) .no]⟩] m fun m' => K [.v (.bool r0) .no] m') none
      | _ => none)
    | _ => none)
  | _ => none
noncomputable def r_wexch {α : Type} (K : Bool -> Int -> Bool -> Int -> Bool -> Int -> Int -> Int -> Int -> Int -> List UInt8 -> Int -> List V -> List UInt8 -> Int -> Int -> List UInt8 -> Bool -> Int -> Int -> Int -> Int -> Int -> Int -> List UInt8 -> Int -> List V -> List UInt8 -> Int -> List UInt8 -> Option α) (rs : List D) (m : Mem) : Option α :=
  match rs, m with
  | [.v (.bool r0) _], [_, [(0, ⟨106, [.ptr 0 1 0, .ptr 0 2 0, .v (.int .i64 z0) .no, .v (.bool z1) .no, .v (.int .i64 z2) .no, .v (.bool z3) .no]⟩), (1, ⟨95, [.v (.int .i64 z4) .no, .v (.int .i64 z5) .no, .v (.int .i64 z6) .no, .v (.int .i64 z7) .no, .v (.int .i64 z8) .no, .v (.bytes z9) .no, .v (.int .i64 z10) .no, .v (.sl 27 z11) .no, .v (.bytes z12) (.own (.slot 0) 5), .v (.int .i64 z13) .no, .v (.int .i64 z14) .no, .v (.bytes z15) .no, .v (.bool z16) .no, .v (.int .i64 z17) .no]⟩), (2, ⟨77, [.v (.int .i64 z18) .no, .v (.int .i64 z19) .no, .v (.int .i64 z20) .no, .v (.int .i64 z21) .no, .v (.int .i64 z22) .no, .v (.bytes z23) .no, .v (.int .i64 z24) .no, .v (.sl 27 z25) .no, .v (.bytes z26) (.own (.slot 0) 5), .v (.int .i64 z27) .no, .v (.bytes z28) .no]⟩)]] => K r0 z0 z1 z2 z3 z4 z5 z6 z7 z8 z9 z10 z11 z12 z13 z14 z15 z16 z17 z18 z19 z20 z21 z22 z23 z24 z25 z26 z27 z28
  | _, _ => none
noncomputable def F_wexch_4 {R : Type} (N : Nat) (l2 l3 : List UInt8) (vs4 : List V) (n5 n10 : Int) (l21 : List UInt8) (n24 n25 : Int) (Lq : List UInt8 -> Int -> Int -> Bool -> Int -> Bool -> Int -> Int -> Int -> Int -> List UInt8 -> Int -> List V -> List UInt8 -> Int -> Int -> Bool -> Int -> Int -> Int -> Int -> List UInt8 -> Int -> List V -> List UInt8 -> Int -> List UInt8 -> Option R) (K0 : Int -> Bool -> Int -> Bool -> Int -> Int -> Int -> Int -> List UInt8 -> Int -> List V -> List UInt8 -> Int -> Int -> Bool -> Int -> Int -> Int -> Int -> List UInt8 -> Int -> List V -> List UInt8 -> Int -> List UInt8 -> Option R) (l0 : List UInt8) (n1 n6 : Int) (b7 : Bool) (n8 : Int) (b9 : Bool) (n11 n12 n13 n14 : Int) (l15 : List UInt8) (n16 : Int) (vs17 : List V) (l18 : List UInt8) (n19 n20 : Int) (b22 : Bool) (n23 n26 n27 n28 : Int) (l29 : List UInt8) (n30 : Int) (vs31 : List V) (l32 : List UInt8) (n33 : Int) (l34 : List UInt8) : Option R := br (decide (n1 < 6000)) (bnd2 (s_tResponse N n10 n11 n12 n13 n14 l15 n16 vs17 l18 n19 n20 l21 b22 n23) fun l0_1 b1 => br b1 (K0 n6 b7 n8 b9 n11 n12 n13 n14 l15 n16 vs17 l18 n19 n20 b22 n23 n26 n27 n28 l29 n30 vs31 l32 n33 l34) (bnd1 (s_tFailedS N n11 n23) fun n2 => br (!decide (n2 = 0)) (K0 n6 b7 n8 b9 n11 n12 n13 n14 l15 n16 vs17 l18 n19 n20 b22 n23 n26 n27 n28 l29 n30 vs31 l32 n33 l34) (bnd3 (s_carry N l0 vs4 n6 b7 n8 b9 n10 n11 n12 n13 n14 l15 n16 vs17 l18 n19 n20 l21 b22 n23 n24 n25 n26 n27 n28 l29 n30 vs31 l32 n33 l34) fun l3_1 b4 n5_1 => br b4 (bnd13 (s_wcard N l3_1 l2 l3 vs4 n5 n5_1 b7 n8 b9 n10 n11 n12 n13 n14 l15 n16 vs17 l18 n19 n20 l21 b22 n23 n24 n25 n26 n27 n28 l29 n30 vs31 l32 n33 l34) fun l6 b7 n8 b9 n10_1 n11_1 n12_1 l13 n14_1 l15_1 l16 n17 l18_1 => br (decide (0 < (l6.length : Int))) (bnd3 (s_carry N l6 vs4 n5_1 b7 n8 b9 n10 n11 n12 n13 n14 l15 n16 vs17 l18 n19 n20 l21 b22 n23 n24 n25 n10_1 n11_1 n12_1 l13 n14_1 l15_1 l16 n17 l18_1) fun l19 b20 n21 => br b20 (bnd13 (s_tReceive N l19 n10 n11 n12 n13 n14 l15 n16 vs17 l18 n19 n20 l21 b22 n23) fun l22 n23 n24 n25 n26 l27 n28 l29 l30 n31 n32 b33 n34 => Lq l22 (IntKind.i64.wrap (n1 + 1)) n21 b7 n8 b9 n23 n24 n25 n26 l27 n28 l29 l30 n31 n32 b33 n34 n10_1 n11_1 n12_1 l13 n14_1 l15_1 l16 n17 l18_1) (bnd4 (s_tTimeout N n10 n11 n12 n13 n14 l15 n16 vs17 l18 n19 n20 l21 b22 n23) fun l35 n36 n37 n38 => Lq l35 (IntKind.i64.wrap (n1 + 1)) n21 b7 n8 b9 n11 n12 n13 n14 l15 n16 vs17 l18 n36 n37 b22 n38 n10_1 n11_1 n12_1 l13 n14_1 l15_1 l16 n17 l18_1)) (bnd4 (s_tTimeout N n10 n11 n12 n13 n14 l15 n16 vs17 l18 n19 n20 l21 b22 n23) fun l39 n40 n41 n42 => Lq l39 (IntKind.i64.wrap (n1 + 1)) n5_1 b7 n8 b9 n11 n12 n13 n14 l15 n16 vs17 l18 n40 n41 b22 n42 n10_1 n11_1 n12_1 l13 n14_1 l15_1 l16 n17 l18_1)) (bnd4 (s_tTimeout N n10 n11 n12 n13 n14 l15 n16 vs17 l18 n19 n20 l21 b22 n23) fun l43 n44 n45 n46 => Lq l43 (IntKind.i64.wrap (n1 + 1)) n5_1 b7 n8 b9 n11 n12 n13 n14 l15 n16 vs17 l18 n44 n45 b22 n46 n26 n27 n28 l29 n30 vs31 l32 n33 l34)))) (K0 n6 b7 n8 b9 n11 n12 n13 n14 l15 n16 vs17 l18 n19 n20 b22 n23 n26 n27 n28 l29 n30 vs31 l32 n33 l34)
noncomputable def S_wexch_4 {R : Type} (N : Nat) (l2 l3 : List UInt8) (vs4 : List V) (n5 n10 : Int) (l21 : List UInt8) (n24 n25 : Int) : Nat -> List UInt8 -> Int -> Int -> Bool -> Int -> Bool -> Int -> Int -> Int -> Int -> List UInt8 -> Int -> List V -> List UInt8 -> Int -> Int -> Bool -> Int -> Int -> Int -> Int -> List UInt8 -> Int -> List V -> List UInt8 -> Int -> List UInt8 -> (Int -> Bool -> Int -> Bool -> Int -> Int -> Int -> Int -> List UInt8 -> Int -> List V -> List UInt8 -> Int -> Int -> Bool -> Int -> Int -> Int -> Int -> List UInt8 -> Int -> List V -> List UInt8 -> Int -> List UInt8 -> Option R) -> Option R | 0, _, _, _, _, _, _, _, _, _, _, _, _, _, _, _, _, _, _, _, _, _, _, _, _, _, _, _, _ => none | t + 1, l0, n1, n6, b7, n8, b9, n11, n12, n13, n14, l15, n16, vs17, l18, n19, n20, b22, n23, n26, n27, n28, l29, n30, vs31, l32, n33, l34, K0 => F_wexch_4 N l2 l3 vs4 n5 n10 l21 n24 n25 (fun l0 n1 n6 b7 n8 b9 n11 n12 n13 n14 l15 n16 vs17 l18 n19 n20 b22 n23 n26 n27 n28 l29 n30 vs31 l32 n33 l34 => S_wexch_4 N l2 l3 vs4 n5 n10 l21 n24 n25 t l0 n1 n6 b7 n8 b9 n11 n12 n13 n14 l15 n16 vs17 l18 n19 n20 b22 n23 n26 n27 n28 l29 n30 vs31 l32 n33 l34 K0) K0 l0 n1 n6 b7 n8 b9 n11 n12 n13 n14 l15 n16 vs17 l18 n19 n20 b22 n23 n26 n27 n28 l29 n30 vs31 l32 n33 l34
noncomputable def l_wexch_4 {R : Type} (N : Nat) (ds : List D) (m : Mem) (K : Ex -> List D -> Mem -> Option R) : Option R :=
  match ds, m with
  | [(.ptr 1 0 0), (.ptr 0 3 0), (.v (.bytes l0) .no), (.v (.int .i64 n1) .no)], [[(3, ⟨70, [(.v (.bytes l2) .no), (.v (.bytes l3) .no), (.v (.sl 110 vs4) .no), (.v (.int .i64 n5) .no)]⟩)], [(0, ⟨106, [(.ptr 0 1 0), (.ptr 0 2 0), (.v (.int .i64 n6) .no), (.v (.bool b7) .no), (.v (.int .i64 n8) .no), (.v (.bool b9) .no)]⟩), (1, ⟨95, [(.v (.int .i64 n10) .no), (.v (.int .i64 n11) .no), (.v (.int .i64 n12) .no), (.v (.int .i64 n13) .no), (.v (.int .i64 n14) .no), (.v (.bytes l15) .no), (.v (.int .i64 n16) .no), (.v (.sl 27 vs17) .no), (.v (.bytes l18) (.own (.slot 0) 5)), (.v (.int .i64 n19) .no), (.v (.int .i64 n20) .no), (.v (.bytes l21) .no), (.v (.bool b22) .no), (.v (.int .i64 n23) .no)]⟩), (2, ⟨77, [(.v (.int .i64 n24) .no), (.v (.int .i64 n25) .no), (.v (.int .i64 n26) .no), (.v (.int .i64 n27) .no), (.v (.int .i64 n28) .no), (.v (.bytes l29) .no), (.v (.int .i64 n30) .no), (.v (.sl 27 vs31) .no), (.v (.bytes l32) (.own (.slot 0) 5)), (.v (.int .i64 n33) .no), (.v (.bytes l34) .no)]⟩)]] => S_wexch_4 N l2 l3 vs4 n5 n10 l21 n24 n25 N l0 n1 n6 b7 n8 b9 n11 n12 n13 n14 l15 n16 vs17 l18 n19 n20 b22 n23 n26 n27 n28 l29 n30 vs31 l32 n33 l34 (fun a4 a5 a6 a7 a9 a10 a11 a12 a13 a14 a15 a16 a17 a18 a20 a21 a24 a25 a26 a27 a28 a29 a30 a31 a32 => K (.exit 0) [(.ptr 1 0 0), (.ptr 0 3 0)] [[(3, ⟨70, [(.v (.bytes l2) .no), (.v (.bytes l3) .no), (.v (.sl 110 vs4) .no), (.v (.int .i64 n5) .no)]⟩)], [(0, ⟨106, [(.ptr 0 1 0), (.ptr 0 2 0), (.v (.int .i64 a4) .no), (.v (.bool a5) .no), (.v (.int .i64 a6) .no), (.v (.bool a7) .no)]⟩), (1, ⟨95, [(.v (.int .i64 n10) .no), (.v (.int .i64 a9) .no), (.v (.int .i64 a10) .no), (.v (.int .i64 a11) .no), (.v (.int .i64 a12) .no), (.v (.bytes a13) .no), (.v (.int .i64 a14) .no), (.v (.sl 27 a15) .no), (.v (.bytes a16) (.own (.slot 0) 5)), (.v (.int .i64 a17) .no), (.v (.int .i64 a18) .no), (.v (.bytes l21) .no), (.v (.bool a20) .no), (.v (.int .i64 a21) .no)]⟩), (2, ⟨77, [(.v (.int .i64 n24) .no), (.v (.int .i64 n25) .no), (.v (.int .i64 a24) .no), (.v (.int .i64 a25) .no), (.v (.int .i64 a26) .no), (.v (.bytes a27) .no), (.v (.int .i64 a28) .no), (.v (.sl 27 a29) .no), (.v (.bytes a30) (.own (.slot 0) 5)), (.v (.int .i64 a31) .no), (.v (.bytes a32) .no)]⟩)]])
  | _, _ => none
noncomputable def C_wexch {R : Type} (N : Nat) (x0 x1 : List UInt8) (x2 : List V) (x3 y0 : Int) (y1 : Bool) (y2 : Int) (y3 : Bool) (y4 y5 y6 y7 y8 : Int) (y9 : List UInt8) (y10 : Int) (y11 : List V) (y12 : List UInt8) (y13 y14 : Int) (y15 : List UInt8) (y16 : Bool) (y17 y18 y19 y20 y21 y22 : Int) (y23 : List UInt8) (y24 : Int) (y25 : List V) (y26 : List UInt8) (y27 : Int) (y28 : List UInt8) (K0 : Bool -> Int -> Bool -> Int -> Bool -> Int -> Int -> Int -> Int -> List UInt8 -> Int -> List V -> List UInt8 -> Int -> Int -> Bool -> Int -> Int -> Int -> Int -> List UInt8 -> Int -> List V -> List UInt8 -> Int -> List UInt8 -> Option R) : Option R := bnd9 (s_tSend N x0 y4 y5 y6 y7 y8 y9 y10 y11 y12 y13 y14 y15 y16 y17) fun l0 n1 l2 n3 l4 l5 n6 n7 b8 => S_wexch_4 N x0 x1 x2 x3 y4 y15 y18 y19 N l0 0 0 false 0 true y5 y6 y7 n1 l2 n3 l4 l5 n6 n7 b8 y17 y20 y21 y22 y23 y24 y25 y26 y27 y28 fun n9 b10 n11 b12 n13 n14 n15 n16 l17 n18 l19 l20 n21 n22 b23 n24 n25 n26 n27 l28 n29 l30 l31 n32 l33 => bnd2 (s_tResponse N y4 n13 n14 n15 n16 l17 n18 l19 l20 n21 n22 y15 b23 n24) fun l34 b35 => br b35 (bnd1 (s_tFailedS N n13 n24) fun n36 => br (decide (n36 = 0)) (br (decide (n11 = 1)) (br b12 (br (decide (l34.length <= 9223372036854775807)) (br (decide (x1.length <= 9223372036854775807)) (K0 (decide (l34 = x1)) n9 b10 n11 b12 n13 n14 n15 n16 l17 n18 l19 l20 n21 n22 b23 n24 n25 n26 n27 l28 n29 l30 l31 n32 l33) none) none) (K0 false n9 b10 n11 b12 n13 n14 n15 n16 l17 n18 l19 l20 n21 n22 b23 n24 n25 n26 n27 l28 n29 l30 l31 n32 l33)) (K0 false n9 b10 n11 b12 n13 n14 n15 n16 l17 n18 l19 l20 n21 n22 b23 n24 n25 n26 n27 l28 n29 l30 l31 n32 l33)) (K0 false n9 b10 n11 b12 n13 n14 n15 n16 l17 n18 l19 l20 n21 n22 b23 n24 n25 n26 n27 l28 n29 l30 l31 n32 l33)) (K0 false n9 b10 n11 b12 n13 n14 n15 n16 l17 n18 l19 l20 n21 n22 b23 n24 n25 n26 n27 l28 n29 l30 l31 n32 l33)
noncomputable def s_wexch (N : Nat) (x0 x1 : List UInt8) (x2 : List V) (x3 y0 : Int) (y1 : Bool) (y2 : Int) (y3 : Bool) (y4 y5 y6 y7 y8 : Int) (y9 : List UInt8) (y10 : Int) (y11 : List V) (y12 : List UInt8) (y13 y14 : Int) (y15 : List UInt8) (y16 : Bool) (y17 y18 y19 y20 y21 y22 : Int) (y23 : List UInt8) (y24 : Int) (y25 : List V) (y26 : List UInt8) (y27 : Int) (y28 : List UInt8) : Option (Bool × Int × Bool × Int × Bool × Int × Int × Int × Int × List UInt8 × Int × List V × List UInt8 × Int × Int × Bool × Int × Int × Int × Int × List UInt8 × Int × List V × List UInt8 × Int × List UInt8) := C_wexch N x0 x1 x2 x3 y0 y1 y2 y3 y4 y5 y6 y7 y8 y9 y10 y11 y12 y13 y14 y15 y16 y17 y18 y19 y20 y21 y22 y23 y24 y25 y26 y27 y28 (fun r0 z0 z1 z2 z3 z5 z6 z7 z8 z9 z10 z11 z12 z13 z14 z16 z17 z20 z21 z22 z23 z24 z25 z26 z27 z28 => some (r0, z0, z1, z2, z3, z5, z6, z7, z8, z9, z10, z11, z12, z13, z14, z16, z17, z20, z21, z22, z23, z24, z25, z26, z27, z28))
noncomputable def cx_wexch (N : Nat) : Cx := { T := T, isPure := tabP [], pureK := fun g ds K => tabK [] g ds K, memK := fun g dst ds m K => tabMK [⟨76, e_carry (s_carry N)⟩, ⟨77, e_wcard (s_wcard N)⟩, ⟨24, e_tSend (s_tSend N)⟩, ⟨29, e_tResponse (s_tResponse N)⟩, ⟨27, e_tReceive (s_tReceive N)⟩, ⟨26, e_tTimeout (s_tTimeout N)⟩] g dst ds m K, meth := tabM [], keep := fun r => match r with | 4 => [0, 3, 5, 33] | _ => [], keepX := fun r => match r with | 4 => [0, 3] | _ => [], loopT := fun r ds m K => match r with | 4 => l_wexch_4 N ds m K | _ => none, jumps := 9, isStill := tabQ [⟨28, e_tFailedS (s_tFailedS N)⟩], stillK := fun g ds m K => tabSK [⟨28, e_tFailedS (s_tFailedS N)⟩] g ds m K }
theorem F_wexch_4_ok {R : Type} (N : Nat) (l2 l3 : List UInt8) (vs4 : List V) (n5 n10 : Int) (l21 : List UInt8) (n24 n25 : Int) (l0 : List UInt8) (n1 n6 : Int) (b7 : Bool) (n8 : Int) (b9 : Bool) (n11 n12 n13 n14 : Int) (l15 : List UInt8) (n16 : Int) (vs17 : List V) (l18 : List UInt8) (n19 n20 : Int) (b22 : Bool) (n23 n26 n27 n28 : Int) (l29 : List UInt8) (n30 : Int) (vs31 : List V) (l32 : List UInt8) (n33 : Int) (l34 : List UInt8) (L : List D -> Mem -> Option R) (K : Ex -> List D -> Mem -> Option R) :
    roundK (fun st K => codeK (cx_wexch N) (loopN Try.f39 0) st K) 127 [0, 3, 5, 33] [0, 3] L [(.ptr 1 0 0), (.ptr 0 3 0), (dY l0), (dI n1)] [[(3, ⟨70, [(dY l2), (dY l3), (.v (.sl 110 vs4) .no), (dI n5)]⟩)], [(0, ⟨106, [(.ptr 0 1 0), (.ptr 0 2 0), (dI n6), (dB b7), (dI n8), (dB b9)]⟩), (1, ⟨95, [(dI n10), (dI n11), (dI n12), (dI n13), (dI n14), (dY l15), (dI n16), (.v (.sl 27 vs17) .no), (.v (.bytes l18) (.own (.slot 0) 5)), (dI n19), (dI n20), (dY l21), (dB b22), (dI n23)]⟩), (2, ⟨77, [(dI n24), (dI n25), (dI n26), (dI n27), (dI n28), (dY l29), (dI n30), (.v (.sl 27 vs31) .no), (.v (.bytes l32) (.own (.slot 0) 5)), (dI n33), (dY l34)]⟩)]] K = F_wexch_4 N l2 l3 vs4 n5 n10 l21 n24 n25 (fun l0 n1 n6 b7 n8 b9 n11 n12 n13 n14 l15 n16 vs17 l18 n19 n20 b22 n23 n26 n27 n28 l29 n30 vs31 l32 n33 l34 => L [(.ptr 1 0 0), (.ptr 0 3 0), (dY l0), (dI n1)] [[(3, ⟨70, [(dY l2), (dY l3), (.v (.sl 110 vs4) .no), (dI n5)]⟩)], [(0, ⟨106, [(.ptr 0 1 0), (.ptr 0 2 0), (dI n6), (dB b7), (dI n8), (dB b9)]⟩), (1, ⟨95, [(dI n10), (dI n11), (dI n12), (dI n13), (dI n14), (dY l15), (dI n16), (.v (.sl 27 vs17) .no), (.v (.bytes l18) (.own (.slot 0) 5)), (dI n19), (dI n20), (dY l21), (dB b22), (dI n23)]⟩), (2, ⟨77, [(dI n24), (dI n25), (dI n26), (dI n27), (dI n28), (dY l29), (dI n30), (.v (.sl 27 vs31) .no), (.v (.bytes l32) (.own (.slot 0) 5)), (dI n33), (dY l34)]⟩)]]) (fun a4 a5 a6 a7 a9 a10 a11 a12 a13 a14 a15 a16 a17 a18 a20 a21 a24 a25 a26 a27 a28 a29 a30 a31 a32 => K (.exit 0) [(.ptr 1 0 0), (.ptr 0 3 0)] [[(3, ⟨70, [(dY l2), (dY l3), (.v (.sl 110 vs4) .no), (dI n5)]⟩)], [(0, ⟨106, [(.ptr 0 1 0), (.ptr 0 2 0), (dI a4), (dB a5), (dI a6), (dB a7)]⟩), (1, ⟨95, [(dI n10), (dI a9), (dI a10), (dI a11), (dI a12), (dY a13), (dI a14), (.v (.sl 27 a15) .no), (.v (.bytes a16) (.own (.slot 0) 5)), (dI a17), (dI a18), (dY l21), (dB a20), (dI a21)]⟩), (2, ⟨77, [(dI n24), (dI n25), (dI a24), (dI a25), (dI a26), (dY a27), (dI a28), (.v (.sl 27 a29) .no), (.v (.bytes a30) (.own (.slot 0) 5)), (dI a31), (dY a32)]⟩)]]) l0 n1 n6 b7 n8 b9 n11 n12 n13 n14 l15 n16 vs17 l18 n19 n20 b22 n23 n26 n27 n28 l29 n30 vs31 l32 n33 l34 := by
  kernel_rfl
theorem S_wexch_4_ok {R : Type} (N : Nat) (l2 l3 : List UInt8) (vs4 : List V) (n5 n10 : Int) (l21 : List UInt8) (n24 n25 : Int) (K : Ex -> List D -> Mem -> Option R) : ∀ (t : Nat) (l0 : List UInt8) (n1 n6 : Int) (b7 : Bool) (n8 : Int) (b9 : Bool) (n11 n12 n13 n14 : Int) (l15 : List UInt8) (n16 : Int) (vs17 : List V) (l18 : List UInt8) (n19 n20 : Int) (b22 : Bool) (n23 n26 n27 n28 : Int) (l29 : List UInt8) (n30 : Int) (vs31 : List V) (l32 : List UInt8) (n33 : Int) (l34 : List UInt8),
    loopK (fun st K => codeK (cx_wexch N) (loopN Try.f39 0) st K) 127 [0, 3, 5, 33] [0, 3] t [(.ptr 1 0 0), (.ptr 0 3 0), (dY l0), (dI n1)] [[(3, ⟨70, [(dY l2), (dY l3), (.v (.sl 110 vs4) .no), (dI n5)]⟩)], [(0, ⟨106, [(.ptr 0 1 0), (.ptr 0 2 0), (dI n6), (dB b7), (dI n8), (dB b9)]⟩), (1, ⟨95, [(dI n10), (dI n11), (dI n12), (dI n13), (dI n14), (dY l15), (dI n16), (.v (.sl 27 vs17) .no), (.v (.bytes l18) (.own (.slot 0) 5)), (dI n19), (dI n20), (dY l21), (dB b22), (dI n23)]⟩), (2, ⟨77, [(dI n24), (dI n25), (dI n26), (dI n27), (dI n28), (dY l29), (dI n30), (.v (.sl 27 vs31) .no), (.v (.bytes l32) (.own (.slot 0) 5)), (dI n33), (dY l34)]⟩)]] K = S_wexch_4 N l2 l3 vs4 n5 n10 l21 n24 n25 t l0 n1 n6 b7 n8 b9 n11 n12 n13 n14 l15 n16 vs17 l18 n19 n20 b22 n23 n26 n27 n28 l29 n30 vs31 l32 n33 l34 (fun a4 a5 a6 a7 a9 a10 a11 a12 a13 a14 a15 a16 a17 a18 a20 a21 a24 a25 a26 a27 a28 a29 a30 a31 a32 => K (.exit 0) [(.ptr 1 0 0), (.ptr 0 3 0)] [[(3, ⟨70, [(dY l2), (dY l3), (.v (.sl 110 vs4) .no), (dI n5)]⟩)], [(0, ⟨106, [(.ptr 0 1 0), (.ptr 0 2 0), (dI a4), (dB a5), (dI a6), (dB a7)]⟩), (1, ⟨95, [(dI n10), (dI a9), (dI a10), (dI a11), (dI a12), (dY a13), (dI a14), (.v (.sl 27 a15) .no), (.v (.bytes a16) (.own (.slot 0) 5)), (dI a17), (dI a18), (dY l21), (dB a20), (dI a21)]⟩), (2, ⟨77, [(dI n24), (dI n25), (dI a24), (dI a25), (dI a26), (dY a27), (dI a28), (.v (.sl 27 a29) .no), (.v (.bytes a30) (.own (.slot 0) 5)), (dI a31), (dY a32)]⟩)]])
  | 0, l0, n1, n6, b7, n8, b9, n11, n12, n13, n14, l15, n16, vs17, l18, n19, n20, b22, n23, n26, n27, n28, l29, n30, vs31, l32, n33, l34 => rfl
  | t + 1, l0, n1, n6, b7, n8, b9, n11, n12, n13, n14, l15, n16, vs17, l18, n19, n20, b22, n23, n26, n27, n28, l29, n30, vs31, l32, n33, l34 => (F_wexch_4_ok N l2 l3 vs4 n5 n10 l21 n24 n25 l0 n1 n6 b7 n8 b9 n11 n12 n13 n14 l15 n16 vs17 l18 n19 n20 b22 n23 n26 n27 n28 l29 n30 vs31 l32 n33 l34 _ K).trans (congrArg (fun L => F_wexch_4 N l2 l3 vs4 n5 n10 l21 n24 n25 L (fun a4 a5 a6 a7 a9 a10 a11 a12 a13 a14 a15 a16 a17 a18 a20 a21 a24 a25 a26 a27 a28 a29 a30 a31 a32 => K (.exit 0) [(.ptr 1 0 0), (.ptr 0 3 0)] [[(3, ⟨70, [(dY l2), (dY l3), (.v (.sl 110 vs4) .no), (dI n5)]⟩)], [(0, ⟨106, [(.ptr 0 1 0), (.ptr 0 2 0), (dI a4), (dB a5), (dI a6), (dB a7)]⟩), (1, ⟨95, [(dI n10), (dI a9), (dI a10), (dI a11), (dI a12), (dY a13), (dI a14), (.v (.sl 27 a15) .no), (.v (.bytes a16) (.own (.slot 0) 5)), (dI a17), (dI a18), (dY l21), (dB a20), (dI a21)]⟩), (2, ⟨77, [(dI n24), (dI n25), (dI a24), (dI a25), (dI a26), (dY a27), (dI a28), (.v (.sl 27 a29) .no), (.v (.bytes a30) (.own (.slot 0) 5)), (dI a31), (dY a32)]⟩)]]) l0 n1 n6 b7 n8 b9 n11 n12 n13 n14 l15 n16 vs17 l18 n19 n20 b22 n23 n26 n27 n28 l29 n30 vs31 l32 n33 l34) (funext fun l0 => funext fun n1 => funext fun n6 => funext fun b7 => funext fun n8 => funext fun b9 => funext fun n11 => funext fun n12 => funext fun n13 => funext fun n14 => funext fun l15 => funext fun n16 => funext fun vs17 => funext fun l18 => funext fun n19 => funext fun n20 => funext fun b22 => funext fun n23 => funext fun n26 => funext fun n27 => funext fun n28 => funext fun l29 => funext fun n30 => funext fun vs31 => funext fun l32 => funext fun n33 => funext fun l34 => S_wexch_4_ok N l2 l3 vs4 n5 n10 l21 n24 n25 K t l0 n1 n6 b7 n8 b9 n11 n12 n13 n14 l15 n16 vs17 l18 n19 n20 b22 n23 n26 n27 n28 l29 n30 vs31 l32 n33 l34))
theorem C_wexch_ok {R : Type} (N : Nat) (x0 x1 x2 x3 y0 y1 y2 y3 y4 y5 y6 y7 y8 y9 y10 y11 y12 y13 y14 y15 y16 y17 y18 y19 y20 y21 y22 y23 y24 y25 y26 y27 y28 K : _) : bodyK (R := R) (cx_wexch N) Try.f39 [.ptr 1 0 0, .agg [dY x0, dY x1, .v (.sl 110 x2) .no, dI x3]] [frOf 0 [⟨106, [.ptr 0 1 0, .ptr 0 2 0, dI y0, dB y1, dI y2, dB y3]⟩, g2a y4 y5 y6 y7 y8 y9 y10 y11 y12 y13 y14 y15 y16 y17, g1a y18 y19 y20 y21 y22 y23 y24 y25 y26 y27 y28]] (r_wexch K) = C_wexch N x0 x1 x2 x3 y0 y1 y2 y3 y4 y5 y6 y7 y8 y9 y10 y11 y12 y13 y14 y15 y16 y17 y18 y19 y20 y21 y22 y23 y24 y25 y26 y27 y28 (fun r0 z0 z1 z2 z3 z5 z6 z7 z8 z9 z10 z11 z12 z13 z14 z16 z17 z20 z21 z22 z23 z24 z25 z26 z27 z28 => K r0 z0 z1 z2 z3 y4 z5 z6 z7 z8 z9 z10 z11 z12 z13 z14 y15 z16 z17 y18 y19 z20 z21 z22 z23 z24 z25 z26 z27 z28) := by
  kernel_rfl
abbrev Q_wexch (s : Ty37) : Prop := ∀ x0 x1 x2 x3 y0 y1 y2 y3 y4 y5 y6 y7 y8 y9 y10 y11 y12 y13 y14 y15 y16 y17 y18 y19 y20 y21 y22 y23 y24 y25 y26 y27 y28 r0 z0 z1 z2 z3 z5 z6 z7 z8 z9 z10 z11 z12 z13 z14 z16 z17 z20 z21 z22 z23 z24 z25 z26 z27 z28, s x0 x1 x2 x3 y0 y1 y2 y3 y4 y5 y6 y7 y8 y9 y10 y11 y12 y13 y14 y15 y16 y17 y18 y19 y20 y21 y22 y23 y24 y25 y26 y27 y28 = some (r0, z0, z1, z2, z3, z5, z6, z7, z8, z9, z10, z11, z12, z13, z14, z16, z17, z20, z21, z22, z23, z24, z25, z26, z27, z28) -> ViewRet2 Try.prog T 39 [.ptr 1 0 0, .agg [dY x0, dY x1, .v (.sl 110 x2) .no, dI x3]] [⟨106, [.ptr 0 1 0, .ptr 0 2 0, dI y0, dB y1, dI y2, dB y3]⟩, g2a y4 y5 y6 y7 y8 y9 y10 y11 y12 y13 y14 y15 y16 y17, g1a y18 y19 y20 y21 y22 y23 y24 y25 y26 y27 y28] [dB r0] [⟨106, [.ptr 0 1 0, .ptr 0 2 0, dI z0, dB z1, dI z2, dB z3]⟩, g2a y4 z5 z6 z7 z8 z9 z10 z11 z12 z13 z14 y15 z16 z17, g1a y18 y19 z20 z21 z22 z23 z24 z25 z26 z27 z28]
theorem eo_wexch (s : Ty37) (hs : Q_wexch s) : MEntOK Try.prog T ⟨39, e_wexch s⟩ := by
  refine ⟨goes_of Try.func39 (by kernel_rfl) (c := bodyOf Try.f39) (by kernel_rfl), fun R dst ds m K r h => ?_⟩
  simp only [e_wexch] at h
  split at h
  . split at h
    . obtain ⟨Bs, a1, a2, a3, h⟩ := viewK_some h
      split at h
      . rcases cond_some h with ⟨hc, hk⟩ | ⟨_, hk⟩
        . simp only [Bool.and_eq_true] at hc
          obtain ⟨c1, c2⟩ := hc
          have c1 := Nat.eq_of_beq_eq_true c1
          have c2 := Nat.eq_of_beq_eq_true c2
          subst c1 c2
          obtain ⟨r0, z0, z1, z2, z3, z5, z6, z7, z8, z9, z10, z11, z12, z13, z14, z16, z17, z20, z21, z22, z23, z24, z25, z26, z27, z28, h1, h2⟩ := bnd26_some hk
          rw [putAllK_eq] at h2
          exact ⟨_, _, h2, hs _ _ _ _ _ _ _ _ _ _ _ _ _ _ _ _ _ _ _ _ _ _ _ _ _ _ _ _ _ _ _ _ _ _ _ _ _ _ _ _ _ _ _ _ _ _ _ _ _ _ _ _ _ _ _ _ _ _ _ h1 _ _ m dst _ _ a1 a2 a3 rfl rfl ⟨aren_ptr _ rfl, aren_agg ⟨aren_v _, aren_v _, aren_v _, aren_v _, trivial⟩, trivial⟩ (brens_hub3 rfl (bren_hub3 rfl rfl rfl) (bren_calm rfl) (bren_calm rfl)) (brens_hub3 rfl (bren_hub3 rfl rfl rfl) (bren_calm rfl) (bren_calm rfl))⟩
        . cases hk
      . cases h
    . cases h
  . cases h
theorem co_wexch (N : Nat) : CxOK Try.prog (cx_wexch N) :=
  cxOK_of3 (es := []) (me := [⟨76, e_carry (s_carry N)⟩, ⟨77, e_wcard (s_wcard N)⟩, ⟨24, e_tSend (s_tSend N)⟩, ⟨29, e_tResponse (s_tResponse N)⟩, ⟨27, e_tReceive (s_tReceive N)⟩, ⟨26, e_tTimeout (s_tTimeout N)⟩]) (ms := []) (ss := [⟨28, e_tFailedS (s_tFailedS N)⟩]) T_ok trivial ⟨eo_carry _ (p_carry N), eo_wcard _ (p_wcard N), eo_tSend _ (p_tSend N), eo_tResponse _ (p_tResponse N), eo_tReceive _ (p_tReceive N), eo_tTimeout _ (p_tTimeout N), trivial⟩ trivial ⟨eo_tFailedS _ (p_tFailedS N), trivial⟩ rfl (fun _ _ _ _ => rfl) (fun _ _ _ _ _ _ => rfl) rfl (fun _ _ _ _ _ => rfl)
theorem lk_wexch_4 (N : Nat) : LoopOK (cx_wexch N) 127 (loopN Try.f39 0) := by
  refine loopOK_of (rid := 4) (by kernel_rfl) rfl rfl fun R ds m K r h => ?_
  have h : l_wexch_4 N ds m K = some r := h
  unfold l_wexch_4 at h
  split at h
  . exact ⟨N, Eq.trans (S_wexch_4_ok ..) h⟩
  . cases h
theorem lo_wexch (N : Nat) : LoopsOK (cx_wexch N) Try.f39.ntmps (bodyOf Try.f39) :=
  loopsOK_of (k := 1) (by kernel_rfl) ⟨trivial, lk_wexch_4 N⟩
open Classical in
theorem p_wexch (N : Nat) : Q_wexch (s_wexch N) := fun x0 x1 x2 x3 y0 y1 y2 y3 y4 y5 y6 y7 y8 y9 y10 y11 y12 y13 y14 y15 y16 y17 y18 y19 y20 y21 y22 y23 y24 y25 y26 y27 y28 r0 z0 z1 z2 z3 z5 z6 z7 z8 z9 z10 z11 z12 z13 z14 z16 z17 z20 z21 z22 z23 z24 z25 z26 z27 z28 h => by
  refine view_of2 (Bs₁ := [⟨106, [.ptr 0 1 0, .ptr 0 2 0, dI y0, dB y1, dI y2, dB y3]⟩, g2a y4 y5 y6 y7 y8 y9 y10 y11 y12 y13 y14 y15 y16 y17, g1a y18 y19 y20 y21 y22 y23 y24 y25 y26 y27 y28]) (Bs₂ := [⟨106, [.ptr 0 1 0, .ptr 0 2 0, dI z0, dB z1, dI z2, dB z3]⟩, g2a y4 z5 z6 z7 z8 z9 z10 z11 z12 z13 z14 y15 z16 z17, g1a y18 y19 z20 z21 z22 z23 z24 z25 z26 z27 z28]) (cx := cx_wexch N) (by kernel_rfl) (co_wexch N) Try.func39 (by kernel_rfl) (by kernel_rfl) (lo_wexch N) rfl (rf := r_wexch (fun r0' z'0 z'1 z'2 z'3 z'4 z'5 z'6 z'7 z'8 z'9 z'10 z'11 z'12 z'13 z'14 z'15 z'16 z'17 z'18 z'19 z'20 z'21 z'22 z'23 z'24 z'25 z'26 z'27 z'28 => if z'4 = y4 /\ z'15 = y15 /\ z'18 = y18 /\ z'19 = y19 then some (r0', z'0, z'1, z'2, z'3, z'5, z'6, z'7, z'8, z'9, z'10, z'11, z'12, z'13, z'14, z'16, z'17, z'20, z'21, z'22, z'23, z'24, z'25, z'26, z'27, z'28) else none)) (r := (r0, z0, z1, z2, z3, z5, z6, z7, z8, z9, z10, z11, z12, z13, z14, z16, z17, z20, z21, z22, z23, z24, z25, z26, z27, z28)) ?_ ?_
  . exact (C_wexch_ok ..).trans ((congrArg (fun K => C_wexch N x0 x1 x2 x3 y0 y1 y2 y3 y4 y5 y6 y7 y8 y9 y10 y11 y12 y13 y14 y15 y16 y17 y18 y19 y20 y21 y22 y23 y24 y25 y26 y27 y28 K) (funext fun r0' => funext fun z'0 => funext fun z'1 => funext fun z'2 => funext fun z'3 => funext fun z'5 => funext fun z'6 => funext fun z'7 => funext fun z'8 => funext fun z'9 => funext fun z'10 => funext fun z'11 => funext fun z'12 => funext fun z'13 => funext fun z'14 => funext fun z'16 => funext fun z'17 => funext fun z'20 => funext fun z'21 => funext fun z'22 => funext fun z'23 => funext fun z'24 => funext fun z'25 => funext fun z'26 => funext fun z'27 => funext fun z'28 => if_pos ⟨rfl, rfl, rfl, rfl⟩)).trans h)
  . intro rs' m' hx
    unfold r_wexch at hx
    split at hx
    . dsimp only at hx
      split at hx
      . rename_i hk
        obtain ⟨rfl, rfl, rfl, rfl⟩ := hk
        cases hx; exact ⟨rfl, rfl, _, rfl⟩
      . cases hx
    . cases hx
end Go.Proofs.Ytilfphdeacogmaa.En

/- The printed functions, together. -/

/- Chapter 08: the world's calls: what is carried, what the card makes of it. -/
namespace Go.Proofs.Ytilfphdeacogmaa.En
open Go
set_option linter.unusedVariables false
def lnkV (x : Bool × Int) : V := .agg [.bool x.1, .int .i64 x.2]
def lnkE (ls : List (Bool × Int)) : List V := ls.map lnkV
theorem lnk_at {R : Type} (ls : List (Bool × Int)) {n : Nat} (h : n < ls.length) (K : V -> Option R) : at? (lnkE ls) n K = K (lnkV (lnk ls n)) := by
  unfold at? lnkE lnk
  rw [List.getElem?_map, List.getElem?_eq_getElem h, List.getD_eq_getElem?_getD, List.getElem?_eq_getElem h]
  rfl
theorem lnk_out (ls : List (Bool × Int)) {n : Nat} (h : ¬ n < ls.length) : lnk ls n = (false, 0) := by
  unfold lnk; rw [List.getD_eq_getElem?_getD, List.getElem?_eq_none (by omega)]; rfl
section
variable (N : Nat)
theorem arrives_eq {b : List UInt8} (h : b.length <= 900000) (x : Bool) (f : Int) : s_arrives N b x f = some (arrB b x f, !x) := by
  unfold s_arrives; rw [br_dec, if_pos h]
theorem arr_len {b : List UInt8} {x : Bool} {f : Int} {k : Nat} (h : b.length <= k) : (arrB b x f).length <= k := by
  unfold arrB
  split
  . simp
  . split
    . rw [List.length_set]; exact h
    . exact h
section
variable (y1 : Bool) (y2 : Int) (y3 : Bool) (y4 y5 y6 y7 y8 : Int) (y9 : List UInt8) (y10 : Int) (y11 : List V) (y12 : List UInt8) (y13 y14 : Int) (y15 : List UInt8) (y16 : Bool) (y17 y18 y19 y20 y21 y22 : Int) (y23 : List UInt8) (y24 : Int) (y25 : List V) (y26 : List UInt8) (y27 : Int) (y28 : List UInt8)
theorem carry_eq {b : List UInt8} (hb : b.length <= 900000) (ls : List (Bool × Int)) {n : Nat} (hn : n <= 1000000) :
    s_carry N b (lnkE ls) (n : Int) y1 y2 y3 y4 y5 y6 y7 y8 y9 y10 y11 y12 y13 y14 y15 y16 y17 y18 y19 y20 y21 y22 y23 y24 y25 y26 y27 y28 = some (arrB b (lnk ls n).1 (lnk ls n).2, !(lnk ls n).1, ((n + 1 : Nat) : Int)) := by
  have hw : IntKind.i64.wrap ((n : Int) + 1) = ((n + 1 : Nat) : Int) := by rw [w64 (by omega) (by omega)]; omega
  have hl : (lnkE ls).length = ls.length := List.length_map _
  unfold s_carry C_carry
  rw [br_dec, hl]
  by_cases h : n < ls.length
  . have h1 : (n : Int) < (ls.length : Int) := by omega
    have h0 : (0 : Int) <= (n : Int) := by omega
    rw [if_pos h1, decide_eq_true h0, decide_eq_true h1, show ((n : Int)).toNat = n by omega, Bool.and_self, br_t, lnk_at ls h]
    show bnd2 (s_arrives N b (lnk ls n).1 (lnk ls n).2) (fun l8 b9 => some (l8, b9, IntKind.i64.wrap ((n : Int) + 1))) = _
    rw [arrives_eq N hb, bnd2_mk, hw]
  . rw [if_neg (by omega), lnk_out ls h, arrives_eq N hb, bnd2_mk, hw]
end
section
variable (y4 y5 y6 y7 y8 : Int) (y9 : List UInt8) (y10 : Int) (y11 : List V) (y12 : List UInt8) (y13 y14 : Int) (y15 : List UInt8) (y16 : Bool) (y17 : Int)
set_option maxHeartbeats 4000000 in
theorem wcard_eq {K : CS} (hc : CdOK K.c) (cmd : List UInt8) {resp : List UInt8} (time : Int) {b : List UInt8} (hb : b.length <= 900000) (hN : resp.length < N) (hr : resp.length <= 1000000) (hcm : cmd.length <= 1000000) (ht : 0 <= K.times /\ K.times <= 1000000) (vs : List V) (n : Int) :
    onC K.c (s_wcard N b cmd resp vs time n K.asked K.times K.right y4 y5 y6 y7 y8 y9 y10 y11 y12 y13 y14 y15 y16 y17) =
      some (outB K.c.s.sum (cardF cmd resp time K (rx K.c.s b).1 (rx K.c.s b).2).2, (cardF cmd resp time K (rx K.c.s b).1 (rx K.c.s b).2).1.asked, (cardF cmd resp time K (rx K.c.s b).1 (rx K.c.s b).2).1.times, (cardF cmd resp time K (rx K.c.s b).1 (rx K.c.s b).2).1.right,
        (cardF cmd resp time K (rx K.c.s b).1 (rx K.c.s b).2).1.c.s.other, (cardF cmd resp time K (rx K.c.s b).1 (rx K.c.s b).2).1.c.s.expect, (cardF cmd resp time K (rx K.c.s b).1 (rx K.c.s b).2).1.c.s.next, sentB (cardF cmd resp time K (rx K.c.s b).1 (rx K.c.s b).2).1.c.s, (cardF cmd resp time K (rx K.c.s b).1 (rx K.c.s b).2).1.c.s.sent.seq,
        pcs (cardF cmd resp time K (rx K.c.s b).1 (rx K.c.s b).2).1.c.s.pieces, (cardF cmd resp time K (rx K.c.s b).1 (rx K.c.s b).2).1.c.s.inn, (cardF cmd resp time K (rx K.c.s b).1 (rx K.c.s b).2).1.c.state, askB (cardF cmd resp time K (rx K.c.s b).1 (rx K.c.s b).2).1.c) := by
  have h1 := cReceive_eq N hc b hb
  obtain ⟨hr0, hx0⟩ := rx_range K.c.s b
  obtain ⟨ok1, out1⟩ := cRecv_ok hc hr0 (fun e => (hx0 e).1)
  obtain ⟨q0, q1, q2⟩ := cRecv_same K.c (rx K.c.s b).1 (rx K.c.s b).2
  unfold onC at h1 ⊢
  unfold s_wcard C_wcard
  rw [h1, bnd9_mk]
  unfold cardF
  clear h1 hr0 hx0
  generalize cRecvF K.c (rx K.c.s b).1 (rx K.c.s b).2 = p at *
  obtain ⟨c1, o⟩ := p
  have q3 : askB K.c = askB c1 := (askB_same q2).symm
  simp only at ok1 out1 q0 q1 q2 ⊢
  rw [← q0, ← q1, q3]
  have hw : IntKind.i64.wrap (K.times + 1) = K.times + 1 := w64 (by omega) (by omega)
  cases o with
  | some bl =>
    have hp := enc_pos ok1.s.sum (out1 bl rfl)
    show br (decide (0 < ((bl.enc c1.s.sum).length : Int))) _ _ = _
    rw [br_dec, if_pos (by omega)]
  | none =>
    show br (decide (0 < (([] : List UInt8).length : Int))) _ _ = _
    rw [br_dec, if_neg (by decide)]
    have h2 := cCommand_eq N ok1
    unfold onC at h2
    have hcl := cmd_len ok1
    have hcl2 : cmd.length <= 9223372036854775807 := by omega
    rw [h2]
    show bnd2 (some ((cCmdF c1).1, (cCmdF c1).2)) _ = _
    rw [bnd2_mk]
    have h3 := cReply_eq N ok1 resp hN hr
    have h4 := cExtend_eq N ok1 time
    unfold onC at h3 h4
    obtain ⟨r0, r1, r2, r3, r4, r5⟩ := cReply_same c1 resp
    have r6 := cExtend_same c1 time
    have r7 : askB (cReplyF c1 resp).1 = askB c1 := askB_same r5
    rw [h3, h4]
    simp only [bnd3_mk, bnd6_mk, hw, hcl, hcl2, decide_true, br_t, br_dec, br_not]
    cases hcmd : (cCmdF c1).2 with
    | false => rfl
    | true =>
      simp only [br_t, br_f, if_true]
      by_cases ht1 : 1 <= time
      . by_cases ht2 : time <= 255
        . cases ha : K.asked with
          | false =>
            simp only [ht1, ht2, if_true, and_self, br_t, br_f]
            rw [r6]
          | true =>
            cases hg : K.right <;> simp [ht1, ht2, br_t, br_f, ← r0, r1, r2, r3, r4, r7]
        . cases hg : K.right <;> simp [ht1, ht2, br_t, br_f, ← r0, r1, r2, r3, r4, r7]
      . cases hg : K.right <;> simp [ht1, br_t, br_f, ← r0, r1, r2, r3, r4, r7]
end
end
end Go.Proofs.Ytilfphdeacogmaa.En

/- Chapter 08: an exchange comes to its end. -/
namespace Go.Proofs.Ytilfphdeacogmaa.En
open Go
set_option linter.unusedVariables false
theorem card_out {K : CS} (hc : CdOK K.c) (cmd resp : List UInt8) (time : Int) {x : Bl} {r : Int} (hr : r = 0 ∨ r = 1 ∨ r = 2) (hx : r = 0 -> x.chk = 0) :
    OutOK (cardF cmd resp time K x r).2 /\ (cardF cmd resp time K x r).1.c.s.sum = K.c.s.sum /\ (cardF cmd resp time K x r).1.c.s.own = K.c.s.own := by
  obtain ⟨ok1, out1⟩ := cRecv_ok hc hr hx
  obtain ⟨q0, q1, q2⟩ := cRecv_same K.c x r
  unfold cardF
  generalize cRecvF K.c x r = p at *
  obtain ⟨c1, o⟩ := p
  simp only at ok1 out1 q0 q1 q2 ⊢
  cases o with
  | some b => exact ⟨out1, q0, q1⟩
  | none =>
    simp only
    split
    . split
      . exact ⟨(cExtend_ok ok1 time).2, by simp only; rw [cExtend_same]; exact q0, by simp only; rw [cExtend_same]; exact q1⟩
      . obtain ⟨r0, r1, r2, r3, r4, r5⟩ := cReply_same c1 resp
        exact ⟨(cReply_ok ok1 resp).2, r0.trans q0, r1.trans q1⟩
    . exact ⟨outOK_none, q0, q1⟩
section
variable {cmd resp : List UInt8} {time : Int} {L : Nat} {T : Tm} {K : CS}
theorem Ph.times {b : Bl} {d m : Nat} (h : Ph cmd resp time L T K b d m) : 0 <= K.times /\ K.times <= 1 := by
  rcases h with ⟨p, _⟩ | ⟨p, _⟩ | ⟨p, _⟩ | ⟨p, _⟩ | ⟨p, _⟩ <;> have := p.times <;> omega
end
section
variable (N : Nat)
set_option maxHeartbeats 8000000 in
theorem exch_loop {R : Type} {cmd resp : List UInt8} {time : Int} (ls : List (Bool × Int)) (hc : cmd.length <= 600) (hr : resp.length <= 600) (hN : 6000 < N) (K0 : Int -> Bool -> Int -> Bool -> Int -> Int -> Int -> Int -> List UInt8 -> Int -> List V -> List UInt8 -> Int -> Int -> Bool -> Int -> Int -> Int -> Int -> List UInt8 -> Int -> List V -> List UInt8 -> Int -> List UInt8 -> Option R) :
    ∀ (m : Nat) (T : Tm) (K : CS) (b : Bl) (n i fuel : Nat), Ph cmd resp time 601 T K b (dis (ls.drop n)) m -> T.done = false -> n <= 2 * i -> i + m <= 5000 -> m < fuel ->
      ∃ T' K' n', Fin resp T' K' /\ T'.s.sum = T.s.sum /\ offB T' = offB T /\ K'.c.s.sum = K.c.s.sum /\ K'.c.s.own = K.c.s.own /\
      S_wexch_4 N cmd resp (lnkE ls) time T.s.sum (offB T) K.c.s.sum K.c.s.own fuel (b.enc T.s.sum) (i : Int) ((n : Nat) : Int) K.asked K.times K.right T.s.own T.s.other T.s.expect T.s.next (sentB T.s) T.s.sent.seq (pcs T.s.pieces) T.s.inn T.state T.fails T.done T.cause K.c.s.other K.c.s.expect K.c.s.next (sentB K.c.s) K.c.s.sent.seq (pcs K.c.s.pieces) K.c.s.inn K.c.state (askB K.c) K0 = K0 (n' : Int) K'.asked K'.times K'.right T'.s.own T'.s.other T'.s.expect T'.s.next (sentB T'.s) T'.s.sent.seq (pcs T'.s.pieces) T'.s.inn T'.state T'.fails T'.done T'.cause K'.c.s.other K'.c.s.expect K'.c.s.next (sentB K'.c.s) K'.c.s.sent.seq (pcs K'.c.s.pieces) K'.c.s.inn K'.c.state (askB K'.c) := by
  intro m
  induction m with
  | zero => intro T K b n i fuel h; exact absurd h.gn.2.2 (by omega)
  | succ m ih =>
    intro T K b n i fuel h hd hni him hfu
    obtain ⟨f, rfl⟩ : ∃ f, fuel = f + 1 := ⟨fuel - 1, by omega⟩
    obtain ⟨g, h2, _⟩ := h.gn
    have htm := h.times
    have hsum := g.tok.s.sum
    have hcsum := g.cok.s.sum
    have hgs := g.sum
    have hb0 : b.chk = 0 := (card_ok hc (L := 601) (by omega) h).2.1
    have hbl := enc_pos hsum hb0
    have hRd := round_ok hc hr (L := 601) (by omega) h
    have hw : IntKind.i64.wrap ((i : Int) + 1) = ((i + 1 : Nat) : Int) := by rw [w64 (by omega) (by omega)]; omega
    -- how it goes on
    have after : ∀ (r : Tm × Option Bl) (K' : CS) (n' : Nat), Nx cmd resp time 601 r K' (dis (ls.drop n')) m -> (∀ b', r.2 = some b' -> r.1.done = false) -> r.1.s.sum = T.s.sum -> offB r.1 = offB T -> K'.c.s.sum = K.c.s.sum -> K'.c.s.own = K.c.s.own -> n' <= 2 * (i + 1) ->
        ∃ T' K'' n'', Fin resp T' K'' /\ T'.s.sum = T.s.sum /\ offB T' = offB T /\ K''.c.s.sum = K.c.s.sum /\ K''.c.s.own = K.c.s.own /\
        S_wexch_4 N cmd resp (lnkE ls) time T.s.sum (offB T) K.c.s.sum K.c.s.own f (outB T.s.sum r.2) ((i + 1 : Nat) : Int) (n' : Int) K'.asked K'.times K'.right r.1.s.own r.1.s.other r.1.s.expect r.1.s.next (sentB r.1.s) r.1.s.sent.seq (pcs r.1.s.pieces) r.1.s.inn r.1.state r.1.fails r.1.done r.1.cause K'.c.s.other K'.c.s.expect K'.c.s.next (sentB K'.c.s) K'.c.s.sent.seq (pcs K'.c.s.pieces) K'.c.s.inn K'.c.state (askB K'.c) K0 = K0 (n'' : Int) K''.asked K''.times K''.right T'.s.own T'.s.other T'.s.expect T'.s.next (sentB T'.s) T'.s.sent.seq (pcs T'.s.pieces) T'.s.inn T'.state T'.fails T'.done T'.cause K''.c.s.other K''.c.s.expect K''.c.s.next (sentB K''.c.s) K''.c.s.sent.seq (pcs K''.c.s.pieces) K''.c.s.inn K''.c.state (askB K''.c) := by
      intro r K' n' hx hdn e1 e2 e3 e4 hn'
      rcases hx with ⟨b', hb', hp⟩ | ⟨hn, hf⟩
      . obtain ⟨T', K'', n'', f1, f2, f3, f4, f5, f6⟩ := ih r.1 K' b' n' (i + 1) f hp (hdn b' hb') hn' (by omega) (by omega)
        refine ⟨T', K'', n'', f1, f2.trans e1, f3.trans e2, f4.trans e3, f5.trans e4, ?_⟩
        rw [hb']
        rw [e1, e2, e3, e4] at f6
        exact f6
      . refine ⟨r.1, K', n', hf, e1, e2, e3, e4, ?_⟩
        obtain ⟨f', rfl⟩ : ∃ f', f = f' + 1 := ⟨f - 1, by have := h.gn.2.2; omega⟩
        rw [hn, ← e1, ← e2]
        unfold S_wexch_4 F_wexch_4
        have hT := tResp_eq N hf.rest.g.tok
        unfold onT tRespF at hT
        rw [if_pos hf.done] at hT
        rw [br_dec, if_pos (by omega), hT, bnd2_mk, br_t]
    unfold S_wexch_4 F_wexch_4
    have hT := tResp_eq N g.tok
    unfold onT tRespF at hT
    rw [if_neg (by rw [hd]; decide)] at hT
    have hF := failS_eq N g.tok
    rw [g.tok.cause (by omega)] at hF
    rw [br_dec, if_pos (by omega), hT, bnd2_mk, br_f]
    have hcause := g.tok.cause (by omega)
    have hfs : s_tFailedS N T.s.own T.cause = some 0 := by rw [hcause]; exact hF
    rw [hfs, bnd1_mk, br_not, br_dec, if_pos rfl]
    rw [carry_eq N _ _ _ _ _ _ _ _ _ _ _ _ _ _ _ _ _ _ _ _ _ _ _ _ _ _ _ _ (by omega) ls (by omega), bnd3_mk]
    have hTm := tTime_eq N g.tok
    obtain ⟨s1, s2, s3⟩ := tTime_same T
    have s4 : offB (tTimeF T).1 = offB T := offB_same s3
    have hsent : ∀ {α : Type} (F : Tm -> α) (G : Co -> α), True := fun _ _ => trivial
    unfold onT at hTm
    unfold roundF at hRd
    by_cases hl : (lnk ls n).1 = true
    . rw [if_pos hl] at hRd
      rw [hl, Bool.not_true, br_f, hTm, bnd4_mk, hw]
      have := after (tTimeF T) K (n + 1) hRd (fun _ _ => s2.trans hd) (by rw [s1]) s4 rfl rfl (by omega)
      rw [s1, s2] at this
      exact this
    . rw [if_neg hl] at hRd
      have hl' : (lnk ls n).1 = false := by simpa using hl
      rw [hl', Bool.not_false, br_t]
      have hin : (arrB (b.enc T.s.sum) false (lnk ls n).2).length <= 900000 := arr_len (by omega)
      have hCd := fun y4 y5 y6 y7 y8 y9 y10 y11 y12 y13 y14 y15 y16 y17 v => wcard_eq N y4 y5 y6 y7 y8 y9 y10 y11 y12 y13 y14 y15 y16 y17 g.cok cmd (resp := resp) time hin (by omega) (by omega) (by omega) (by omega) (lnkE ls) v
      unfold onC at hCd
      rw [hCd, bnd13_mk]
      obtain ⟨x1, x2⟩ := rx_range K.c.s (arrB (b.enc T.s.sum) false (lnk ls n).2)
      obtain ⟨o1, o2, o3⟩ := card_out g.cok cmd resp time x1 (fun e => (x2 e).1)
      clear hCd
      generalize cardF cmd resp time K (rx K.c.s (arrB (b.enc T.s.sum) false (lnk ls n).2)).1 (rx K.c.s (arrB (b.enc T.s.sum) false (lnk ls n).2)).2 = p at *
      obtain ⟨K', o⟩ := p
      simp only at o1 o2 o3 hRd ⊢
      cases o with
      | none =>
        simp only at hRd
        rw [show outB K.c.s.sum none = [] from rfl, br_dec, if_neg (by decide), hTm, bnd4_mk, hw]
        have := after (tTimeF T) K' (n + 1) hRd (fun _ _ => s2.trans hd) (by rw [s1]) s4 o2 o3 (by omega)
        rw [s1, s2] at this
        exact this
      | some o =>
        simp only at hRd
        have hol := enc_pos hcsum (o1 o rfl)
        rw [show outB K.c.s.sum (some o) = o.enc K.c.s.sum from rfl, br_dec, if_pos (by omega)]
        rw [carry_eq N _ _ _ _ _ _ _ _ _ _ _ _ _ _ _ _ _ _ _ _ _ _ _ _ _ _ _ _ (by omega) ls (by omega), bnd3_mk]
        by_cases hm : (lnk ls (n + 1)).1 = true
        . rw [if_pos hm] at hRd
          rw [hm, Bool.not_true, br_f, hTm, bnd4_mk, hw]
          have := after (tTimeF T) K' (n + 2) hRd (fun _ _ => s2.trans hd) (by rw [s1]) s4 o2 o3 (by omega)
          rw [s1, s2] at this
          exact this
        . rw [if_neg hm, o2] at hRd
          have hm' : (lnk ls (n + 1)).1 = false := by simpa using hm
          rw [hm', Bool.not_false, br_t]
          have hin2 : (arrB (o.enc K.c.s.sum) false (lnk ls (n + 1)).2).length <= 900000 := arr_len (by omega)
          have hRc := tReceive_eq N g.tok (arrB (o.enc K.c.s.sum) false (lnk ls (n + 1)).2) hin2
          unfold onT at hRc
          rw [hRc, bnd13_mk, hw]
          have hsm := tRecv_same T (rx T.s (arrB (o.enc K.c.s.sum) false (lnk ls (n + 1)).2)).1 (rx T.s (arrB (o.enc K.c.s.sum) false (lnk ls (n + 1)).2)).2
          exact after _ K' (n + 2) hRd (fun b' e => (done_recv (t' := (tRecvF T _ _).1) (by rw [← e])).trans hd) hsm.1 (offB_same hsm.2) o2 o3 (by omega)
end
end Go.Proofs.Ytilfphdeacogmaa.En

/- Chapter 08: an exchange, whole. -/
namespace Go.Proofs.Ytilfphdeacogmaa.En
open Go
set_option linter.unusedVariables false
section
variable (N : Nat)
set_option maxHeartbeats 8000000 in
theorem wexch_eq {T : Tm} {c : Cd} (h : Rest T c) {cmd resp : List UInt8} (time : Int) (ls : List (Bool × Int)) (hc : cmd.length <= 600) (hr : resp.length <= 600) (hN : 6000 < N) (hd : dis ls <= 4) (y0 : Int) (y1 : Bool) (y2 : Int) (y3 : Bool) :
    ∃ T' K' n', Rest T' (CS.c K') /\ T'.s.sum = T.s.sum /\ offB T' = offB T /\ K'.c.s.sum = c.s.sum /\ K'.c.s.own = c.s.own /\
      s_wexch N cmd resp (lnkE ls) time y0 y1 y2 y3 T.s.sum T.s.own T.s.other T.s.expect T.s.next (sentB T.s) T.s.sent.seq (pcs T.s.pieces) T.s.inn T.state T.fails (offB T) T.done T.cause c.s.sum c.s.own c.s.other c.s.expect c.s.next (sentB c.s) c.s.sent.seq (pcs c.s.pieces) c.s.inn c.state (askB c) = some (true, (n' : Int), K'.asked, K'.times, K'.right, T'.s.own, T'.s.other, T'.s.expect, T'.s.next, (sentB T'.s), T'.s.sent.seq, (pcs T'.s.pieces), T'.s.inn, T'.state, T'.fails, T'.done, T'.cause, K'.c.s.other, K'.c.s.expect, K'.c.s.next, (sentB K'.c.s), K'.c.s.sent.seq, (pcs K'.c.s.pieces), K'.c.s.inn, K'.c.state, (askB K'.c)) := by
  obtain ⟨b, hb, hp⟩ := begin_ok (K := ⟨c, false, 0, true⟩) (resp := resp) (time := time) (L := 601) h hc rfl rfl rfl hd (by omega)
  have hS := tSend_eq N h.g.tok cmd (by omega) (by omega)
  obtain ⟨q0, q1, q2, q3, q4, q5⟩ := tSend_same T cmd
  have q6 : offB (tSendF T cmd).1 = offB T := offB_same q4
  have hdn : (tSendF T cmd).1.done = false := by unfold tSendF; rw [if_neg (by rw [h.t0]; decide)]
  unfold onT at hS
  unfold s_wexch C_wexch
  rw [hS, bnd9_mk, hb]
  generalize (tSendF T cmd).1 = T1 at *
  obtain ⟨T', K', n', f1, f2, f3, f4, f5, f6⟩ := exch_loop N ls hc hr hN (fun n9 b10 n11 b12 n13 n14 n15 n16 l17 n18 l19 l20 n21 n22 b23 n24 n25 n26 n27 l28 n29 l30 l31 n32 l33 =>
    bnd2 (s_tResponse N T.s.sum n13 n14 n15 n16 l17 n18 l19 l20 n21 n22 (offB T) b23 n24) fun l34 b35 =>
      br b35
        (bnd1 (s_tFailedS N n13 n24) fun n36 =>
          br (decide (n36 = 0))
            (br (decide (n11 = 1))
              (br b12
                (br (decide (l34.length <= 9223372036854775807)) (br (decide (resp.length <= 9223372036854775807)) (some (decide (l34 = resp), n9, b10, n11, b12, n13, n14, n15, n16, l17, n18, l19, l20, n21, n22, b23, n24, n25, n26, n27, l28, n29, l30, l31, n32, l33)) none)
                  none)
                (some (false, n9, b10, n11, b12, n13, n14, n15, n16, l17, n18, l19, l20, n21, n22, b23, n24, n25, n26, n27, l28, n29, l30, l31, n32, l33)))
              (some (false, n9, b10, n11, b12, n13, n14, n15, n16, l17, n18, l19, l20, n21, n22, b23, n24, n25, n26, n27, l28, n29, l30, l31, n32, l33)))
            (some (false, n9, b10, n11, b12, n13, n14, n15, n16, l17, n18, l19, l20, n21, n22, b23, n24, n25, n26, n27, l28, n29, l30, l31, n32, l33)))
        (some (false, n9, b10, n11, b12, n13, n14, n15, n16, l17, n18, l19, l20, n21, n22, b23, n24, n25, n26, n27, l28, n29, l30, l31, n32, l33)))
    2999 T1 ⟨c, false, 0, true⟩ b 0 0 N hp hdn (by omega) (by omega) (by omega)
  refine ⟨T', K', n', f1.rest, f2.trans q0, f3.trans q6, f4, f5, ?_⟩
  rw [q0, q6, q1, q2, q3, q5] at f6
  refine Eq.trans (by exact f6) ?_
  have hT := tResp_eq N f1.rest.g.tok
  unfold onT tRespF at hT
  rw [if_pos f1.done, f2, f3, q0, q6, f1.inn] at hT
  have hF := failS_eq N f1.rest.g.tok
  have hcz := f1.rest.g.tok.cause (by have := f1.rest.t0; omega)
  rw [f1.inn, hT, bnd2_mk, br_t, hF, bnd1_mk, hcz, br_dec, if_pos rfl, f1.times, br_dec, if_pos rfl, f1.right, br_t, br_dec, if_pos (by omega), br_dec, if_pos (by omega), decide_eq_true rfl]
end
end Go.Proofs.Ytilfphdeacogmaa.En

/- smartcardlaw08.between: three new variables, or none; as an entry. -/
namespace Go.Proofs.Ytilfphdeacogmaa.En
open Go
set_option linter.unusedVariables false
set_option maxRecDepth 100000
set_option maxHeartbeats 8000000
def tBx (y0 y1 y2 y3 y4 : Int) (y5 : List UInt8) (y6 : Int) (y7 : List V) (y8 : List UInt8) (y9 y10 : Int) (y11 : List UInt8) (y12 : Bool) (y13 : Int) : Bx := ⟨95, [.v (.int .i64 y0) .no, .v (.int .i64 y1) .no, .v (.int .i64 y2) .no, .v (.int .i64 y3) .no, .v (.int .i64 y4) .no, .v (.bytes y5) .no, .v (.int .i64 y6) .no, .v (.sl 27 y7) .no, .v (.bytes y8) (.own (.slot 0) 5), .v (.int .i64 y9) .no, .v (.int .i64 y10) .no, .v (.bytes y11) .no, .v (.bool y12) .no, .v (.int .i64 y13) .no]⟩
def cBx (z0 z1 z2 z3 z4 : Int) (z5 : List UInt8) (z6 : Int) (z7 : List V) (z8 : List UInt8) (z9 : Int) (z10 : List UInt8) : Bx := ⟨77, [.v (.int .i64 z0) .no, .v (.int .i64 z1) .no, .v (.int .i64 z2) .no, .v (.int .i64 z3) .no, .v (.int .i64 z4) .no, .v (.bytes z5) .no, .v (.int .i64 z6) .no, .v (.sl 27 z7) .no, .v (.bytes z8) (.own (.slot 0) 5), .v (.int .i64 z9) .no, .v (.bytes z10) .no]⟩
def wBx (a b : Nat) : Bx := ⟨106, [.ptr 0 a 0, .ptr 0 b 0, .v (.int .i64 0) .no, .v (.bool false) .no, .v (.int .i64 0) .no, .v (.bool false) .no]⟩
def rBtw {α : Type} (K : Int -> Int -> Int -> Int -> Int -> List UInt8 -> Int -> List V -> List UInt8 -> Int -> Int -> List UInt8 -> Bool -> Int -> Int -> Int -> Int -> Int -> Int -> List UInt8 -> Int -> List V -> List UInt8 -> Int -> List UInt8 -> Option α) (F : Option α) (rs : List D) (m : Mem) : Option α :=
  match rs, m with
  | [.nilp], _ => F
  | [.ptr 0 39 0], [fr] => (match frGet 11 fr with
    | some ⟨95, [.v (.int .i64 y0) .no, .v (.int .i64 y1) .no, .v (.int .i64 y2) .no, .v (.int .i64 y3) .no, .v (.int .i64 y4) .no, .v (.bytes y5) .no, .v (.int .i64 y6) .no, .v (.sl 27 y7) .no, .v (.bytes y8) (.own (.slot 0) 5), .v (.int .i64 y9) .no, .v (.int .i64 y10) .no, .v (.bytes y11) .no, .v (.bool y12) .no, .v (.int .i64 y13) .no]⟩ => (match frGet 14 fr with
      | some ⟨77, [.v (.int .i64 z0) .no, .v (.int .i64 z1) .no, .v (.int .i64 z2) .no, .v (.int .i64 z3) .no, .v (.int .i64 z4) .no, .v (.bytes z5) .no, .v (.int .i64 z6) .no, .v (.sl 27 z7) .no, .v (.bytes z8) (.own (.slot 0) 5), .v (.int .i64 z9) .no, .v (.bytes z10) .no]⟩ => (match frGet 39 fr with
        | some ⟨106, [.ptr 0 11 0, .ptr 0 14 0, .v (.int .i64 0) .no, .v (.bool false) .no, .v (.int .i64 0) .no, .v (.bool false) .no]⟩ => K y0 y1 y2 y3 y4 y5 y6 y7 y8 y9 y10 y11 y12 y13 z0 z1 z2 z3 z4 z5 z6 z7 z8 z9 z10
        | _ => none)
      | _ => none)
    | _ => none)
  | _, _ => none
noncomputable def C_btw {α : Type} (N : Nat) (x0 x1 x2 : Int) (K : Int -> Int -> Int -> Int -> Int -> List UInt8 -> Int -> List V -> List UInt8 -> Int -> Int -> List UInt8 -> Bool -> Int -> Int -> Int -> Int -> Int -> Int -> List UInt8 -> Int -> List V -> List UInt8 -> Int -> List UInt8 -> Option α) (F : Option α) : Option α := bnd1 (s_tNew N x0 x2) fun b1 => br b1 (bnd1 (s_cNew N x0 x2) fun b2 => br b2 (br (decide (1 <= x1)) (br (decide (x1 <= 254)) (bnd4 (s_tOffer N x1 x2 32 x0 0 0 [] 0 [] [] 0 0 [] false 0) fun l p9 p10 p11 => bnd9 (s_cReceive N l x2 x0 32 0 0 [] 0 [] [] 0 []) fun l2 q2 q3 q4 q5 q6 q7 q8 q9 => bnd13 (s_tReceive N l2 x2 32 x0 0 0 [] 0 [] [] p9 p10 p11 false 0) fun l3 r1 r2 r3 r4 r5 r6 r7 r8 r9 r10 r12 r13 => br (decide (0 < (l3.length : Int))) F (K x2 r1 r2 r3 r4 r5 r6 r7 r8 r9 r10 p11 r12 r13 x2 x0 q2 q3 q4 q5 q6 q7 q8 q9 [])) (K x2 32 x0 0 0 [] 0 [] [] 0 0 [] false 0 x2 x0 32 0 0 [] 0 [] [] 0 [])) (K x2 32 x0 0 0 [] 0 [] [] 0 0 [] false 0 x2 x0 32 0 0 [] 0 [] [] 0 [])) F) (bnd1 (s_cNew N x0 x2) fun b2 => br b2 F F)
noncomputable def s_btw (N : Nat) (x0 x1 x2 : Int) : Option (Bool × Int × Int × Int × Int × Int × List UInt8 × Int × List V × List UInt8 × Int × Int × List UInt8 × Bool × Int × Int × Int × Int × Int × Int × List UInt8 × Int × List V × List UInt8 × Int × List UInt8) := C_btw N x0 x1 x2 (fun y0 y1 y2 y3 y4 y5 y6 y7 y8 y9 y10 y11 y12 y13 z0 z1 z2 z3 z4 z5 z6 z7 z8 z9 z10 => some (true, y0, y1, y2, y3, y4, y5, y6, y7, y8, y9, y10, y11, y12, y13, z0, z1, z2, z3, z4, z5, z6, z7, z8, z9, z10)) (some (false, 0, 0, 0, 0, 0, [], 0, [], [], 0, 0, [], false, 0, 0, 0, 0, 0, 0, [], 0, [], [], 0, []))
noncomputable def cx_btw (N : Nat) : Cx := cxO [] [⟨23, e_tNew (s_tNew N)⟩, ⟨11, e_cNew (s_cNew N)⟩, ⟨33, e_tOffer (s_tOffer N)⟩, ⟨13, e_cReceive (s_cReceive N)⟩, ⟨27, e_tReceive (s_tReceive N)⟩]
theorem n_btw {α : Type} (N : Nat) (x0 x1 x2 : Int) (K : Int -> Int -> Int -> Int -> Int -> List UInt8 -> Int -> List V -> List UInt8 -> Int -> Int -> List UInt8 -> Bool -> Int -> Int -> Int -> Int -> Int -> Int -> List UInt8 -> Int -> List V -> List UInt8 -> Int -> List UInt8 -> Option α) (F : Option α) : bodyK (cx_btw N) Try.f38 [.v (.int .i64 x0) .no, .v (.int .i64 x1) .no, .v (.int .i64 x2) .no] [] (rBtw K F) = C_btw N x0 x1 x2 K F := by
  kernel_rfl
def τb (dst s : Nat) : Option Nat := if s = 39 then some dst else if s = 11 then some (dst + 1000) else if s = 14 then some (dst + 2000) else none
def υb (dst t : Nat) : Option Nat := if t = dst then some 39 else if t = dst + 1000 then some 11 else if t = dst + 2000 then some 14 else none
theorem τυb (dst s t : Nat) : τb dst s = some t ↔ υb dst t = some s := by
  unfold τb υb
  constructor
  . intro h
    split at h
    . injection h with h; subst h; rename_i e; subst e; simp
    . split at h
      . injection h with h; subst h; rename_i e; subst e; simp
      . split at h
        . injection h with h; subst h; rename_i e; subst e; simp
        . cases h
  . intro h
    split at h
    . injection h with h; subst h; rename_i e; subst e; simp
    . split at h
      . injection h with h; subst h; rename_i e; subst e; simp
      . split at h
        . injection h with h; subst h; rename_i e; subst e; simp
        . cases h
def Ret_btw (x0 x1 x2 : Int) (b : Bool) (y0 y1 y2 y3 y4 : Int) (y5 : List UInt8) (y6 : Int) (y7 : List V) (y8 : List UInt8) (y9 y10 : Int) (y11 : List UInt8) (y12 : Bool) (y13 z0 z1 z2 z3 z4 : Int) (z5 : List UInt8) (z6 : Int) (z7 : List V) (z8 : List UInt8) (z9 : Int) (z10 : List UInt8) : Prop :=
  (b = true -> ∀ (m : Mem) (dst : Nat), m.box? 0 dst = none -> m.box? 0 (dst + 1000) = none -> m.box? 0 (dst + 2000) = none -> MemRet Try.prog T 38 dst [.v (.int .i64 x0) .no, .v (.int .i64 x1) .no, .v (.int .i64 x2) .no] m [.ptr 0 dst 0] (((m.setBox 0 (dst + 1000) (tBx y0 y1 y2 y3 y4 y5 y6 y7 y8 y9 y10 y11 y12 y13)).setBox 0 (dst + 2000) (cBx z0 z1 z2 z3 z4 z5 z6 z7 z8 z9 z10)).setBox 0 dst (wBx (dst + 1000) (dst + 2000)))) /\
  (b = false -> PureRet Try.prog T 38 [.v (.int .i64 x0) .no, .v (.int .i64 x1) .no, .v (.int .i64 x2) .no] [.nilp])
theorem rBtw_true {α : Type} {K : Int -> Int -> Int -> Int -> Int -> List UInt8 -> Int -> List V -> List UInt8 -> Int -> Int -> List UInt8 -> Bool -> Int -> Int -> Int -> Int -> Int -> Int -> List UInt8 -> Int -> List V -> List UInt8 -> Int -> List UInt8 -> Option α} {F : Option α} {rs : List D} {m : Mem} {r : α} (h : rBtw K F rs m = some r) : (rs = [.nilp] /\ F = some r) ∨ ∃ fr y0 y1 y2 y3 y4 y5 y6 y7 y8 y9 y10 y11 y12 y13 z0 z1 z2 z3 z4 z5 z6 z7 z8 z9 z10, rs = [.ptr 0 39 0] /\ m = [fr] /\ frGet 11 fr = some (tBx y0 y1 y2 y3 y4 y5 y6 y7 y8 y9 y10 y11 y12 y13) /\ frGet 14 fr = some (cBx z0 z1 z2 z3 z4 z5 z6 z7 z8 z9 z10) /\ frGet 39 fr = some (wBx 11 14) /\ K y0 y1 y2 y3 y4 y5 y6 y7 y8 y9 y10 y11 y12 y13 z0 z1 z2 z3 z4 z5 z6 z7 z8 z9 z10 = some r := by
  unfold rBtw at h
  split at h
  . exact .inl ⟨rfl, h⟩
  . split at h
    . split at h
      . split at h
        . refine .inr ⟨_, _, _, _, _, _, _, _, _, _, _, _, _, _, _, _, _, _, _, _, _, _, _, _, _, _, rfl, rfl, ?_, ?_, ?_, h⟩ <;> assumption
        . cases h
      . cases h
    . cases h
  . cases h
theorem p_btw (N : Nat) (x0 x1 x2 : Int) (b : Bool) (y0 y1 y2 y3 y4 : Int) (y5 : List UInt8) (y6 : Int) (y7 : List V) (y8 : List UInt8) (y9 y10 : Int) (y11 : List UInt8) (y12 : Bool) (y13 z0 z1 z2 z3 z4 : Int) (z5 : List UInt8) (z6 : Int) (z7 : List V) (z8 : List UInt8) (z9 : Int) (z10 : List UInt8) (h : s_btw N x0 x1 x2 = some (b, y0, y1, y2, y3, y4, y5, y6, y7, y8, y9, y10, y11, y12, y13, z0, z1, z2, z3, z4, z5, z6, z7, z8, z9, z10)) : Ret_btw x0 x1 x2 b y0 y1 y2 y3 y4 y5 y6 y7 y8 y9 y10 y11 y12 y13 z0 z1 z2 z3 z4 z5 z6 z7 z8 z9 z10 := by
  refine ⟨?_, ?_⟩
  . rintro rfl m dst h1 h2 h3
    refine news_entry (cx := cx_btw N) (by kernel_rfl) (cxO_ok trivial ⟨eo_tNew _ (p_tNew N), eo_cNew _ (p_cNew N), eo_tOffer _ (p_tOffer N), eo_cReceive _ (p_cReceive N), eo_tReceive _ (p_tReceive N), trivial⟩) Try.func38 (by kernel_rfl) (by kernel_rfl) (loopsOK_of (k := 0) (by kernel_rfl) trivial) rfl rfl rfl (rf := rBtw (fun y0 y1 y2 y3 y4 y5 y6 y7 y8 y9 y10 y11 y12 y13 z0 z1 z2 z3 z4 z5 z6 z7 z8 z9 z10 => some (true, y0, y1, y2, y3, y4, y5, y6, y7, y8, y9, y10, y11, y12, y13, z0, z1, z2, z3, z4, z5, z6, z7, z8, z9, z10)) (some (false, 0, 0, 0, 0, 0, [], 0, [], [], 0, 0, [], false, 0, 0, 0, 0, 0, 0, [], 0, [], [], 0, []))) (r := (true, y0, y1, y2, y3, y4, y5, y6, y7, y8, y9, y10, y11, y12, y13, z0, z1, z2, z3, z4, z5, z6, z7, z8, z9, z10)) ((n_btw N x0 x1 x2 _ _).trans h) (τ := τb dst) (υ := υb dst) (τυb dst)
      (Bn := fun s => if s = 39 then wBx (dst + 1000) (dst + 2000) else if s = 11 then tBx y0 y1 y2 y3 y4 y5 y6 y7 y8 y9 y10 y11 y12 y13 else cBx z0 z1 z2 z3 z4 z5 z6 z7 z8 z9 z10) (Bo := fun s => if s = 39 then wBx 11 14 else if s = 11 then tBx y0 y1 y2 y3 y4 y5 y6 y7 y8 y9 y10 y11 y12 y13 else cBx z0 z1 z2 z3 z4 z5 z6 z7 z8 z9 z10) (fun s t hst => ?_) (s0 := 39) (t0 := dst) rfl (fun rs' m' hr => ?_) (fun s t hst => ?_) (by simp [setBox_length]) (fun hml k t => ?_)
    . have calm : ∀ B : Bx, B.cells.all D.calm = true -> B.ty = B.ty /\ B.cells.length = B.cells.length /\ ∀ (i : Nat) c' c, B.cells[i]? = some c' -> B.cells[i]? = some c -> RC (τb dst) c' c := fun B hB => ⟨rfl, rfl, fun i c' c e1 e2 => by
        rw [e1] at e2; injection e2 with e2; subst e2
        exact .inl ⟨rfl, List.all_eq_true.1 hB c' (List.mem_of_getElem? e1)⟩⟩
      by_cases e1 : s = 39
      . subst e1
        simp only [if_true]
        refine ⟨rfl, rfl, fun i c' c a1 a2 => ?_⟩
        rcases i with _ | _ | _ | _ | _ | _ | i
        . simp [wBx] at a1 a2; subst a1 a2; exact .inr ⟨11, dst + 1000, rfl, rfl, by simp [τb]⟩
        . simp [wBx] at a1 a2; subst a1 a2; exact .inr ⟨14, dst + 2000, rfl, rfl, by simp [τb]⟩
        . simp [wBx] at a1 a2; subst a1 a2; exact .inl ⟨rfl, rfl⟩
        . simp [wBx] at a1 a2; subst a1 a2; exact .inl ⟨rfl, rfl⟩
        . simp [wBx] at a1 a2; subst a1 a2; exact .inl ⟨rfl, rfl⟩
        . simp [wBx] at a1 a2; subst a1 a2; exact .inl ⟨rfl, rfl⟩
        . simp [wBx] at a1
      . by_cases e2 : s = 11
        . subst e2
          exact calm (tBx y0 y1 y2 y3 y4 y5 y6 y7 y8 y9 y10 y11 y12 y13) rfl
        . simp only [e1, e2, if_false]
          exact ⟨trivial, trivial, (calm (cBx z0 z1 z2 z3 z4 z5 z6 z7 z8 z9 z10) rfl).2.2⟩
    . rcases rBtw_true hr with ⟨_, h⟩ | ⟨fr, a0, a1, a2, a3, a4, a5, a6, a7, a8, a9, a10, a11, a12, a13, a14, a15, a16, a17, a18, a19, a20, a21, a22, a23, a24, e1, e2, e3, e4, e5, e6⟩
      . cases h
      . cases e6
        refine ⟨fr, e1, e2, fun s t hst => ?_⟩
        unfold τb at hst
        split at hst
        . rename_i e; subst e; exact e5
        . split at hst
          . rename_i e; subst e; exact e3
          . split at hst
            . rename_i e; subst e; exact e4
            . cases hst
    . unfold τb at hst
      split at hst
      . injection hst with e; subst e; exact h1
      . split at hst
        . injection hst with e; subst e; exact h2
        . split at hst
          . injection hst with e; subst e; exact h3
          . cases hst
    . rw [box_set, box_set, box_set]
      simp only [setBox_length]
      unfold υb
      by_cases e0 : k = 0
      . subst e0
        by_cases e1 : t = dst
        . subst e1; simp [hml]
        . by_cases e2 : t = dst + 1000
          . subst e2; simp [hml]
          . by_cases e3 : t = dst + 2000
            . subst e3; simp [hml]
            . simp [e1, e2, e3]
      . simp [e0]
  . rintro rfl
    exact pure_of (cx := cx_btw N) (by kernel_rfl) (cxO_ok trivial ⟨eo_tNew _ (p_tNew N), eo_cNew _ (p_cNew N), eo_tOffer _ (p_tOffer N), eo_cReceive _ (p_cReceive N), eo_tReceive _ (p_tReceive N), trivial⟩) Try.func38 (by kernel_rfl) (by kernel_rfl) (loopsOK_of (k := 0) (by kernel_rfl) trivial) rfl rfl rfl (rf := rBtw (fun y0 y1 y2 y3 y4 y5 y6 y7 y8 y9 y10 y11 y12 y13 z0 z1 z2 z3 z4 z5 z6 z7 z8 z9 z10 => some (true, y0, y1, y2, y3, y4, y5, y6, y7, y8, y9, y10, y11, y12, y13, z0, z1, z2, z3, z4, z5, z6, z7, z8, z9, z10)) (some (false, 0, 0, 0, 0, 0, [], 0, [], [], 0, 0, [], false, 0, 0, 0, 0, 0, 0, [], 0, [], [], 0, []))) (r := (false, y0, y1, y2, y3, y4, y5, y6, y7, y8, y9, y10, y11, y12, y13, z0, z1, z2, z3, z4, z5, z6, z7, z8, z9, z10)) ((n_btw N x0 x1 x2 _ _).trans h) (fun rs' m' hr => by
      rcases rBtw_true hr with ⟨e, _⟩ | ⟨fr, a0, a1, a2, a3, a4, a5, a6, a7, a8, a9, a10, a11, a12, a13, a14, a15, a16, a17, a18, a19, a20, a21, a22, a23, a24, e1, e2, e3, e4, e5, e6⟩
      . subst e; exact ⟨rfl, rfl⟩
      . cases e6)
abbrev Ty38 := Int -> Int -> Int -> Option (Bool × Int × Int × Int × Int × Int × List UInt8 × Int × List V × List UInt8 × Int × Int × List UInt8 × Bool × Int × Int × Int × Int × Int × Int × List UInt8 × Int × List V × List UInt8 × Int × List UInt8)
noncomputable def e_btw {R : Type} (s : Ty38) (dst : Nat) (ds : List D) (m : Mem) (K : List D -> Mem -> Option R) : Option R :=
  match ds with
  | [.v (.int .i64 x0) .no, .v (.int .i64 x1) .no, .v (.int .i64 x2) .no] => bnd26 (s x0 x1 x2) fun b y0 y1 y2 y3 y4 y5 y6 y7 y8 y9 y10 y11 y12 y13 z0 z1 z2 z3 z4 z5 z6 z7 z8 z9 z10 => br b (match m.box? 0 dst with
    | none => (match m.box? 0 (dst + 1000) with
      | none => (match m.box? 0 (dst + 2000) with
        | none => memPutK m 0 (dst + 1000) (tBx y0 y1 y2 y3 y4 y5 y6 y7 y8 y9 y10 y11 y12 y13) fun m => memPutK m 0 (dst + 2000) (cBx z0 z1 z2 z3 z4 z5 z6 z7 z8 z9 z10) fun m => memPutK m 0 dst (wBx (dst + 1000) (dst + 2000)) fun m => K [.ptr 0 dst 0] m
        | some _ => none)
      | some _ => none)
    | some _ => none) (K [.nilp] m)
  | _ => none
abbrev Q_btw (s : Ty38) : Prop := ∀ x0 x1 x2 b y0 y1 y2 y3 y4 y5 y6 y7 y8 y9 y10 y11 y12 y13 z0 z1 z2 z3 z4 z5 z6 z7 z8 z9 z10, s x0 x1 x2 = some (b, y0, y1, y2, y3, y4, y5, y6, y7, y8, y9, y10, y11, y12, y13, z0, z1, z2, z3, z4, z5, z6, z7, z8, z9, z10) -> Ret_btw x0 x1 x2 b y0 y1 y2 y3 y4 y5 y6 y7 y8 y9 y10 y11 y12 y13 z0 z1 z2 z3 z4 z5 z6 z7 z8 z9 z10
theorem eo_btw (s : Ty38) (hs : Q_btw s) : MEntOK Try.prog T ⟨38, e_btw s⟩ := by
  refine ⟨goes_of Try.func38 (by kernel_rfl) (c := bodyOf Try.f38) (by kernel_rfl), fun R dst ds m K r h => ?_⟩
  simp only [e_btw] at h
  split at h
  . obtain ⟨b, y0, y1, y2, y3, y4, y5, y6, y7, y8, y9, y10, y11, y12, y13, z0, z1, z2, z3, z4, z5, z6, z7, z8, z9, z10, h1, h2⟩ := bnd26_some h
    have h3 := hs _ _ _ _ _ _ _ _ _ _ _ _ _ _ _ _ _ _ _ _ _ _ _ _ _ _ _ _ _ h1
    cases b with
    | true =>
      simp only [br_t] at h2
      split at h2
      . rename_i n1
        split at h2
        . rename_i n2
          split at h2
          . rename_i n3
            rw [memPutK_eq, memPutK_eq, memPutK_eq] at h2
            exact ⟨_, _, h2, h3.1 rfl m dst n1 n2 n3⟩
          . cases h2
        . cases h2
      . cases h2
    | false =>
      have h2 : K [.nilp] m = some r := h2
      exact ⟨_, _, h2, mem_of_pure (h3.2 rfl) rfl rfl m dst⟩
  . cases h
end Go.Proofs.Ytilfphdeacogmaa.En

/- Chapter 08: between; how many transmissions are disturbed. -/
namespace Go.Proofs.Ytilfphdeacogmaa.En
open Go
set_option linter.unusedVariables false
def tOff (card terminal sum : Int) : Tm := { t0 card sum with state := 1, offered := terminal, fails := 0 }
def tFit (card terminal sum : Int) : Tm := { t0 card sum with s := { (t0 card sum).s with own := terminal }, state := 0, offered := terminal, fails := 0 }
def cFit (card terminal sum : Int) : Cd := ⟨{ (c0 card sum).s with other := terminal }, 0, 0⟩
section
variable {card terminal sum : Int}
theorem offer_new (h1 : 1 <= terminal) (h2 : terminal <= 254) : tOfferF (t0 card sum) terminal = (tOff card terminal sum, some (bS 1 false [b8 terminal])) := by
  unfold tOfferF
  rw [if_neg]
  . rfl
  . rintro (h | h | h)
    . exact h rfl
    . omega
    . omega
theorem inf_b8 (h1 : 1 <= terminal) (h2 : terminal <= 254) (a : Bool) : inf0 (bS 1 a [b8 terminal]) = terminal := by
  show ((b8 terminal).toNat : Int) = terminal
  exact b8_toNat (by omega) (by omega)
theorem card_fit (h1 : 1 <= terminal) (h2 : terminal <= 254) : cRecvF (c0 card sum) (bS 1 false [b8 terminal]) 0 = (cFit card terminal sum, some (bS 1 true [b8 terminal])) := by
  unfold cRecvF
  rw [if_neg (show ¬ (c0 card sum).state = 2 by show ¬ (0 : Int) = 2; decide), if_neg (show ¬ (c0 card sum).state = 3 by show ¬ (0 : Int) = 3; decide), if_neg (by decide), if_neg (show ¬ (bS 1 false [b8 terminal]).kind = 0 by show ¬ (2 : Int) = 0; decide), if_neg (show ¬ (bS 1 false [b8 terminal]).kind = 1 by show ¬ (2 : Int) = 1; decide)]
  unfold cSuperF
  rw [if_neg (by rintro (h | h); · exact absurd (show false = true from h) (by decide)
                 . exact absurd (show (1 : Int) = 3 from h) (by decide)), if_pos (show (bS 1 false [b8 terminal]).code = 1 from rfl), inf_b8 h1 h2]
  rfl
theorem term_fit (h1 : 1 <= terminal) (h2 : terminal <= 254) : tRecvF (tOff card terminal sum) (bS 1 true [b8 terminal]) 0 = (tFit card terminal sum, none) := by
  unfold tRecvF
  rw [if_neg (by rintro (h | h); · exact absurd (show (1 : Int) = 0 from h) (by decide)
                 . exact absurd (show (1 : Int) = 3 from h) (by decide)), if_pos (show (tOff card terminal sum).state = 1 from rfl), if_pos ⟨rfl, rfl, rfl, rfl, inf_b8 h1 h2 true⟩]
  rfl
end
section
variable (N : Nat)
set_option maxHeartbeats 4000000 in
theorem btw_eq {card sum : Int} (terminal : Int) (h : sideB card sum = true) : ∃ T c, Rest T c /\ s_btw N card terminal sum = some (true, T.s.sum, T.s.own, T.s.other, T.s.expect, T.s.next, (sentB T.s), T.s.sent.seq, (pcs T.s.pieces), T.s.inn, T.state, T.fails, (offB T), T.done, T.cause, c.s.sum, c.s.own, c.s.other, c.s.expect, c.s.next, (sentB c.s), c.s.sent.seq, (pcs c.s.pieces), c.s.inn, c.state, (askB c)) := by
  have hs := h
  unfold sideB at hs
  have hs := of_decide_eq_true hs
  have tok := t0_ok h
  have cok := c0_ok h
  have r0 : Rest (t0 card sum) (c0 card sum) := ⟨⟨tok, cok, rfl, rfl, rfl⟩, rfl, .inl rfl, rfl, rfl, rfl, fun e => absurd (show (0 : Int) = 4 from e) (by decide)⟩
  unfold s_btw C_btw
  rw [tNew_eq N, h, bnd1_mk, br_t, cNew_eq N, h, bnd1_mk, br_t, br_dec]
  by_cases h1 : 1 <= terminal
  . rw [if_pos h1, br_dec]
    by_cases h2 : terminal <= 254
    . rw [if_pos h2]
      have hk : sum = 0 ∨ sum = 1 := hs.2.2
      have hO := tOffer_eq N tok terminal
      rw [offer_new h1 h2] at hO
      have hO' : s_tOffer N terminal sum 32 card 0 0 [] 0 [] [] 0 0 [] false 0 = some ((bS 1 false [b8 terminal]).enc sum, 1, 0, offB (tOff card terminal sum)) := hO
      have tok1 := (tOffer_ok tok terminal).1
      rw [offer_new h1 h2] at tok1
      have f1 : Fit (c0 card sum).s (bS 1 false [b8 terminal]) := ⟨bS_one (.inl rfl) h1 (by omega) (fun _ => h2) false, rfl, fun e => absurd (show (2 : Int) = 0 from e) (by decide)⟩
      have f2 : Fit (tOff card terminal sum).s (bS 1 true [b8 terminal]) := ⟨bS_one (.inl rfl) h1 (by omega) (fun _ => h2) true, rfl, fun e => absurd (show (2 : Int) = 0 from e) (by decide)⟩
      have e1 : rx (c0 card sum).s ((bS 1 false [b8 terminal]).enc sum) = (bS 1 false [b8 terminal], 0) := rx_fit (s := (c0 card sum).s) hk f1
      have e2 : rx (tOff card terminal sum).s ((bS 1 true [b8 terminal]).enc sum) = (bS 1 true [b8 terminal], 0) := rx_fit (s := (tOff card terminal sum).s) hk f2
      have l1 := enc_pos hk f1.1
      have l2 := enc_pos hk f2.1
      have hC := cReceive_eq N cok ((bS 1 false [b8 terminal]).enc sum) (by omega)
      rw [e1, card_fit h1 h2] at hC
      have hC' : s_cReceive N ((bS 1 false [b8 terminal]).enc sum) sum card 32 0 0 [] 0 [] [] 0 [] = some ((bS 1 true [b8 terminal]).enc sum, terminal, 0, 0, [], 0, [], [], 0) := hC
      have cok1 := (cRecv_ok cok (x := bS 1 false [b8 terminal]) (r := 0) (.inl rfl) (fun _ => f1.1)).1
      rw [card_fit h1 h2] at cok1
      have hT := tReceive_eq N tok1 ((bS 1 true [b8 terminal]).enc sum) (by omega)
      simp only at hT
      rw [e2, term_fit h1 h2] at hT
      have hT' : s_tReceive N ((bS 1 true [b8 terminal]).enc sum) sum 32 card 0 0 [] 0 [] [] 1 0 (offB (tOff card terminal sum)) false 0 = some ([], terminal, card, 0, 0, [], 0, [], [], 0, 0, false, 0) := hT
      have tok2 := (tRecv_ok tok1 (x := bS 1 true [b8 terminal]) (r := 0) (.inl rfl) (fun _ => f2.1)).1
      simp only at tok2
      rw [term_fit h1 h2] at tok2
      rw [hO', bnd4_mk, hC', bnd9_mk, hT', bnd13_mk, br_dec, if_neg (by decide)]
      exact ⟨tFit card terminal sum, cFit card terminal sum, ⟨⟨tok2, cok1, rfl, rfl, rfl⟩, rfl, .inl rfl, rfl, rfl, rfl, fun e => absurd (show (0 : Int) = 4 from e) (by decide)⟩, rfl⟩
    . rw [if_neg h2]
      exact ⟨_, _, r0, rfl⟩
  . rw [if_neg h1]
    exact ⟨_, _, r0, rfl⟩
theorem dist_loop {R : Type} (ls : List (Bool × Int)) (hls : ls.length <= 9223372036854775807) (K0 : Int -> Option R) : ∀ (k n1 n2 t : Nat), n2 + k = ls.length -> k < t -> n1 <= 6 ->
    ∃ r : Int, S_disturbed_3 N (lnkE ls) t (n1 : Int) ((n2 : Nat) : Int) K0 = K0 r /\ (r <= 4 -> n1 + dis (ls.drop n2) <= 4) := by
  have hl : (lnkE ls).length = ls.length := List.length_map _
  intro k
  induction k with
  | zero =>
    intro n1 n2 t hk ht h1
    obtain ⟨f, rfl⟩ : ∃ f, t = f + 1 := ⟨t - 1, by omega⟩
    unfold S_disturbed_3 F_disturbed_3
    rw [br_dec, hl, if_neg (by omega)]
    refine ⟨_, rfl, fun h => ?_⟩
    rw [List.drop_eq_nil_of_le (by omega)]
    show n1 + 0 <= 4
    omega
  | succ k ih =>
    intro n1 n2 t hk ht h1
    obtain ⟨f, rfl⟩ : ∃ f, t = f + 1 := ⟨t - 1, by omega⟩
    have hn : n2 < ls.length := by omega
    have h0 : (0 : Int) <= (n2 : Int) := by omega
    have hlt : (n2 : Int) < (ls.length : Int) := by omega
    have w2 : IntKind.i64.wrap ((n2 : Int) + 1) = ((n2 + 1 : Nat) : Int) := by rw [w64 (by omega) (by omega)]; omega
    have w1' : IntKind.i64.wrap ((n1 : Int) + 1) = ((n1 + 1 : Nat) : Int) := by rw [w64 (by omega) (by omega)]; omega
    have hs := dis_step ls n2
    unfold S_disturbed_3 F_disturbed_3
    rw [br_dec, hl, if_pos hlt, br_dec]
    by_cases h6 : (n1 : Int) < 6
    . rw [if_pos h6, decide_eq_true h0, decide_eq_true hlt, show ((n2 : Int)).toNat = n2 by omega, Bool.and_self, br_t, br_t, lnk_at ls hn, lnk_at ls hn, w2, w1']
      show ∃ r, br (lnk ls n2).1 (S_disturbed_3 N (lnkE ls) f ((n1 + 1 : Nat) : Int) ((n2 + 1 : Nat) : Int) K0) (br (decide (0 < (lnk ls n2).2)) (S_disturbed_3 N (lnkE ls) f ((n1 + 1 : Nat) : Int) ((n2 + 1 : Nat) : Int) K0) (S_disturbed_3 N (lnkE ls) f (n1 : Int) ((n2 + 1 : Nat) : Int) K0)) = K0 r /\ _
      obtain ⟨ra, a1, a2⟩ := ih (n1 + 1) (n2 + 1) f (by omega) (by omega) (by omega)
      obtain ⟨rb, b1, b2⟩ := ih n1 (n2 + 1) f (by omega) (by omega) (by omega)
      cases hx : (lnk ls n2).1 with
      | true =>
        have hb : badL (lnk ls n2) = true := by unfold badL; rw [hx]; rfl
        rw [if_pos hb] at hs
        exact ⟨ra, a1, fun e => by have := a2 e; omega⟩
      | false =>
        rw [br_f, br_dec]
        by_cases hf : 0 < (lnk ls n2).2
        . have hb : badL (lnk ls n2) = true := by unfold badL; simp [hf]
          rw [if_pos hb] at hs
          rw [if_pos hf]
          exact ⟨ra, a1, fun e => by have := a2 e; omega⟩
        . have hb : ¬ badL (lnk ls n2) = true := by unfold badL; simp [hf, hx]
          rw [if_neg hb] at hs
          rw [if_neg hf]
          exact ⟨rb, b1, fun e => by have := b2 e; omega⟩
    . rw [if_neg h6]
      exact ⟨_, rfl, fun e => by omega⟩
theorem dist_eq (ls : List (Bool × Int)) (hls : ls.length <= 9223372036854775807) (hN : ls.length < N) : ∃ r : Int, s_disturbed N (lnkE ls) = some r /\ (r <= 4 -> dis ls <= 4) := by
  obtain ⟨r, h1, h2⟩ := dist_loop N ls hls (fun n0 => some n0) ls.length 0 0 N (by omega) hN (by omega)
  refine ⟨r, h1, fun e => ?_⟩
  have := h2 e
  rw [List.drop_zero] at this
  omega
end
end Go.Proofs.Ytilfphdeacogmaa.En

/- What the laws about exchanges call, together. -/

/- Functions of the program in plain Lean, joined to the program by evaluation; printed by a program. -/
namespace Go.Proofs.Ytilfphdeacogmaa.En
open Go Go.Proofs
set_option maxRecDepth 100000
set_option maxHeartbeats 8000000
set_option linter.unusedVariables false
noncomputable def F_wPerfect_7 {R : Type} (N : Nat) (vs0 : List V) (n6 : Int) (l17 : List UInt8) (n20 n21 : Int) (Lq : Int -> Int -> Bool -> Int -> Bool -> Int -> Int -> Int -> Int -> List UInt8 -> Int -> List V -> List UInt8 -> Int -> Int -> Bool -> Int -> Int -> Int -> Int -> List UInt8 -> Int -> List V -> List UInt8 -> Int -> List UInt8 -> Option R) (K0 : Bool -> Int -> Bool -> Int -> Bool -> Int -> Int -> Int -> Int -> List UInt8 -> Int -> List V -> List UInt8 -> Int -> Int -> Bool -> Int -> Int -> Int -> Int -> List UInt8 -> Int -> List V -> List UInt8 -> Int -> List UInt8 -> Option R) (K1 : Int -> Bool -> Int -> Bool -> Int -> Int -> Int -> Int -> List UInt8 -> Int -> List V -> List UInt8 -> Int -> Int -> Bool -> Int -> Int -> Int -> Int -> List UInt8 -> Int -> List V -> List UInt8 -> Int -> List UInt8 -> Option R) (n1 n2 : Int) (b3 : Bool) (n4 : Int) (b5 : Bool) (n7 n8 n9 n10 : Int) (l11 : List UInt8) (n12 : Int) (vs13 : List V) (l14 : List UInt8) (n15 n16 : Int) (b18 : Bool) (n19 n22 n23 n24 : Int) (l25 : List UInt8) (n26 : Int) (vs27 : List V) (l28 : List UInt8) (n29 : Int) (l30 : List UInt8) : Option R := br (decide (n1 < (vs0.length : Int))) (br (decide (0 <= n1) && decide (n1 < (vs0.length : Int))) (at? vs0 n1.toNat fun x0 => x0.unAgg fun l1 => unCons l1 fun x2 l3 => x2.unBytes fun l4 => unCons l3 fun x5 l6 => x5.unBytes fun l7 => unCons l6 fun x8 l9 => V.unSl 110 x8 fun l10 => unCons l9 fun x11 l12 => V.unInt IntKind.i64 x11 fun n13 => unNil l12 (br (decide (600 < (l4.length : Int))) (bnd1 (s_works N) fun b14 => K0 b14 n2 b3 n4 b5 n7 n8 n9 n10 l11 n12 vs13 l14 n15 n16 b18 n19 n22 n23 n24 l25 n26 vs27 l28 n29 l30) (br (decide (0 <= n1) && decide (n1 < (vs0.length : Int))) (at? vs0 n1.toNat fun x15 => x15.unAgg fun l16 => unCons l16 fun x17 l18 => x17.unBytes fun l19 => unCons l18 fun x20 l21 => x20.unBytes fun l22 => unCons l21 fun x23 l24 => V.unSl 110 x23 fun l25_1 => unCons l24 fun x26 l27 => V.unInt IntKind.i64 x26 fun n28 => unNil l27 (br (decide (600 < (l22.length : Int))) (bnd1 (s_works N) fun b29 => K0 b29 n2 b3 n4 b5 n7 n8 n9 n10 l11 n12 vs13 l14 n15 n16 b18 n19 n22 n23 n24 l25 n26 vs27 l28 n29 l30) (br (decide (0 <= n1) && decide (n1 < (vs0.length : Int))) (at? vs0 n1.toNat fun x30 => x30.unAgg fun l31 => unCons l31 fun x32 l33 => x32.unBytes fun l34 => unCons l33 fun x35 l36 => x35.unBytes fun l37 => unCons l36 fun x38 l39 => V.unSl 110 x38 fun l40 => unCons l39 fun x41 l42 => V.unInt IntKind.i64 x41 fun n43 => unNil l42 (br (decide (0 <= n1) && decide (n1 < (vs0.length : Int))) (at? vs0 n1.toNat fun x44 => x44.unAgg fun l45 => unCons l45 fun x46 l47 => x46.unBytes fun l48 => unCons l47 fun x49 l50 => x49.unBytes fun l51 => unCons l50 fun x52 l53 => V.unSl 110 x52 fun l54 => unCons l53 fun x55 l56 => V.unInt IntKind.i64 x55 fun n57 => unNil l56 (br (decide (0 <= n1) && decide (n1 < (vs0.length : Int))) (at? vs0 n1.toNat fun x58 => x58.unAgg fun l59 => unCons l59 fun x60 l61 => x60.unBytes fun l62 => unCons l61 fun x63 l64 => x63.unBytes fun l65 => unCons l64 fun x66 l67 => V.unSl 110 x66 fun l68 => unCons l67 fun x69 l70 => V.unInt IntKind.i64 x69 fun n71 => unNil l70 (bnd26 (s_wexch N l34 l51 [] n71 n2 b3 n4 b5 n6 n7 n8 n9 n10 l11 n12 vs13 l14 n15 n16 l17 b18 n19 n20 n21 n22 n23 n24 l25 n26 vs27 l28 n29 l30) fun b72 n73 b74 n75 b76 n77 n78 n79 n80 l81 n82 l83 l84 n85 n86 b87 n88 n89 n90 n91 l92 n93 l94 l95 n96 l97 => br (!b72) (K0 false n73 b74 n75 b76 n77 n78 n79 n80 l81 n82 l83 l84 n85 n86 b87 n88 n89 n90 n91 l92 n93 l94 l95 n96 l97) (Lq (IntKind.i64.wrap (n1 + 1)) n73 b74 n75 b76 n77 n78 n79 n80 l81 n82 l83 l84 n85 n86 b87 n88 n89 n90 n91 l92 n93 l94 l95 n96 l97))) none)) none)) none))) none))) none) (K1 n2 b3 n4 b5 n7 n8 n9 n10 l11 n12 vs13 l14 n15 n16 b18 n19 n22 n23 n24 l25 n26 vs27 l28 n29 l30)
noncomputable def S_wPerfect_7 {R : Type} (N : Nat) (vs0 : List V) (n6 : Int) (l17 : List UInt8) (n20 n21 : Int) : Nat -> Int -> Int -> Bool -> Int -> Bool -> Int -> Int -> Int -> Int -> List UInt8 -> Int -> List V -> List UInt8 -> Int -> Int -> Bool -> Int -> Int -> Int -> Int -> List UInt8 -> Int -> List V -> List UInt8 -> Int -> List UInt8 -> (Bool -> Int -> Bool -> Int -> Bool -> Int -> Int -> Int -> Int -> List UInt8 -> Int -> List V -> List UInt8 -> Int -> Int -> Bool -> Int -> Int -> Int -> Int -> List UInt8 -> Int -> List V -> List UInt8 -> Int -> List UInt8 -> Option R) -> (Int -> Bool -> Int -> Bool -> Int -> Int -> Int -> Int -> List UInt8 -> Int -> List V -> List UInt8 -> Int -> Int -> Bool -> Int -> Int -> Int -> Int -> List UInt8 -> Int -> List V -> List UInt8 -> Int -> List UInt8 -> Option R) -> Option R | 0, _, _, _, _, _, _, _, _, _, _, _, _, _, _, _, _, _, _, _, _, _, _, _, _, _, _, _, _ => none | t + 1, n1, n2, b3, n4, b5, n7, n8, n9, n10, l11, n12, vs13, l14, n15, n16, b18, n19, n22, n23, n24, l25, n26, vs27, l28, n29, l30, K0, K1 => F_wPerfect_7 N vs0 n6 l17 n20 n21 (fun n1 n2 b3 n4 b5 n7 n8 n9 n10 l11 n12 vs13 l14 n15 n16 b18 n19 n22 n23 n24 l25 n26 vs27 l28 n29 l30 => S_wPerfect_7 N vs0 n6 l17 n20 n21 t n1 n2 b3 n4 b5 n7 n8 n9 n10 l11 n12 vs13 l14 n15 n16 b18 n19 n22 n23 n24 l25 n26 vs27 l28 n29 l30 K0 K1) K0 K1 n1 n2 b3 n4 b5 n7 n8 n9 n10 l11 n12 vs13 l14 n15 n16 b18 n19 n22 n23 n24 l25 n26 vs27 l28 n29 l30
noncomputable def l_wPerfect_7 {R : Type} (N : Nat) (ds : List D) (m : Mem) (K : Ex -> List D -> Mem -> Option R) : Option R :=
  match ds, m with
  | [(.v (.sl 70 vs0) .no), (.ptr 0 24 0), (.v (.int .i64 n1) .no), (.ptr 0 24 0), .any, .any], [[(24, ⟨106, [(.ptr 0 1024 0), (.ptr 0 2024 0), (.v (.int .i64 n2) .no), (.v (.bool b3) .no), (.v (.int .i64 n4) .no), (.v (.bool b5) .no)]⟩), (1024, ⟨95, [(.v (.int .i64 n6) .no), (.v (.int .i64 n7) .no), (.v (.int .i64 n8) .no), (.v (.int .i64 n9) .no), (.v (.int .i64 n10) .no), (.v (.bytes l11) .no), (.v (.int .i64 n12) .no), (.v (.sl 27 vs13) .no), (.v (.bytes l14) (.own (.slot 0) 5)), (.v (.int .i64 n15) .no), (.v (.int .i64 n16) .no), (.v (.bytes l17) .no), (.v (.bool b18) .no), (.v (.int .i64 n19) .no)]⟩), (2024, ⟨77, [(.v (.int .i64 n20) .no), (.v (.int .i64 n21) .no), (.v (.int .i64 n22) .no), (.v (.int .i64 n23) .no), (.v (.int .i64 n24) .no), (.v (.bytes l25) .no), (.v (.int .i64 n26) .no), (.v (.sl 27 vs27) .no), (.v (.bytes l28) (.own (.slot 0) 5)), (.v (.int .i64 n29) .no), (.v (.bytes l30) .no)]⟩)]] => S_wPerfect_7 N vs0 n6 l17 n20 n21 N n1 n2 b3 n4 b5 n7 n8 n9 n10 l11 n12 vs13 l14 n15 n16 b18 n19 n22 n23 n24 l25 n26 vs27 l28 n29 l30 (fun a0 a1 a2 a3 a4 a6 a7 a8 a9 a10 a11 a12 a13 a14 a15 a17 a18 a21 a22 a23 a24 a25 a26 a27 a28 a29 => K .ret [(.v (.bool a0) .no), (.ptr 0 24 0), .any, .any] [[(24, ⟨106, [(.ptr 0 1024 0), (.ptr 0 2024 0), (.v (.int .i64 a1) .no), (.v (.bool a2) .no), (.v (.int .i64 a3) .no), (.v (.bool a4) .no)]⟩), (1024, ⟨95, [(.v (.int .i64 n6) .no), (.v (.int .i64 a6) .no), (.v (.int .i64 a7) .no), (.v (.int .i64 a8) .no), (.v (.int .i64 a9) .no), (.v (.bytes a10) .no), (.v (.int .i64 a11) .no), (.v (.sl 27 a12) .no), (.v (.bytes a13) (.own (.slot 0) 5)), (.v (.int .i64 a14) .no), (.v (.int .i64 a15) .no), (.v (.bytes l17) .no), (.v (.bool a17) .no), (.v (.int .i64 a18) .no)]⟩), (2024, ⟨77, [(.v (.int .i64 n20) .no), (.v (.int .i64 n21) .no), (.v (.int .i64 a21) .no), (.v (.int .i64 a22) .no), (.v (.int .i64 a23) .no), (.v (.bytes a24) .no), (.v (.int .i64 a25) .no), (.v (.sl 27 a26) .no), (.v (.bytes a27) (.own (.slot 0) 5)), (.v (.int .i64 a28) .no), (.v (.bytes a29) .no)]⟩)]]) (fun a0 a1 a2 a3 a5 a6 a7 a8 a9 a10 a11 a12 a13 a14 a16 a17 a20 a21 a22 a23 a24 a25 a26 a27 a28 => K (.exit 0) [.any, (.ptr 0 24 0), .any, .any] [[(24, ⟨106, [(.ptr 0 1024 0), (.ptr 0 2024 0), (.v (.int .i64 a0) .no), (.v (.bool a1) .no), (.v (.int .i64 a2) .no), (.v (.bool a3) .no)]⟩), (1024, ⟨95, [(.v (.int .i64 n6) .no), (.v (.int .i64 a5) .no), (.v (.int .i64 a6) .no), (.v (.int .i64 a7) .no), (.v (.int .i64 a8) .no), (.v (.bytes a9) .no), (.v (.int .i64 a10) .no), (.v (.sl 27 a11) .no), (.v (.bytes a12) (.own (.slot 0) 5)), (.v (.int .i64 a13) .no), (.v (.int .i64 a14) .no), (.v (.bytes l17) .no), (.v (.bool a16) .no), (.v (.int .i64 a17) .no)]⟩), (2024, ⟨77, [(.v (.int .i64 n20) .no), (.v (.int .i64 n21) .no), (.v (.int .i64 a20) .no), (.v (.int .i64 a21) .no), (.v (.int .i64 a22) .no), (.v (.bytes a23) .no), (.v (.int .i64 a24) .no), (.v (.sl 27 a25) .no), (.v (.bytes a26) (.own (.slot 0) 5)), (.v (.int .i64 a27) .no), (.v (.bytes a28) .no)]⟩)]])
  | _, _ => none
noncomputable def s_wPerfect (N : Nat) (x0 x1 x2 : Int) (x3 : List V) : Option (Bool) := br (decide (6 < (x3.length : Int))) (bnd1 (s_works N) fun b0 => some b0) (bnd1 (s_sides N x0 x2) fun b1 => br (!b1) (bnd1 (s_works N) fun b2 => some b2) (bnd26 (s_btw N x0 x1 x2) fun b3 n4 n5 n6 n7 n8 l9 n10 l11 l12 n13 n14 l15 b16 n17 n18 n19 n20 n21 n22 l23 n24 l25 l26 n27 l28 => br b3 (S_wPerfect_7 N x3 n4 l15 n18 n19 N 0 0 false 0 false n5 n6 n7 n8 l9 n10 l11 l12 n13 n14 b16 n17 n20 n21 n22 l23 n24 l25 l26 n27 l28 (fun b29 n30 b31 n32 b33 n34 n35 n36 n37 l38 n39 l40 l41 n42 n43 b44 n45 n46 n47 n48 l49 n50 l51 l52 n53 l54 => some b29) fun n55 b56 n57 b58 n59 n60 n61 n62 l63 n64 l65 l66 n67 n68 b69 n70 n71 n72 n73 l74 n75 l76 l77 n78 l79 => bnd1 (s_works N) fun b80 => some b80) (some false)))
noncomputable def cx_wPerfect (N : Nat) : Cx := { T := T, isPure := tabP [⟨22, e_sides (s_sides N)⟩, ⟨10, e_works (s_works N)⟩], pureK := fun g ds K => tabK [⟨22, e_sides (s_sides N)⟩, ⟨10, e_works (s_works N)⟩] g ds K, memK := fun g dst ds m K => tabMK [⟨38, e_btw (s_btw N)⟩, ⟨39, e_wexch (s_wexch N)⟩] g dst ds m K, meth := tabM [], keep := fun r => match r with | 7 => [3, 9, 10, 24, 1024, 2024] | _ => [], keepX := fun r => match r with | 7 => [8, 24, 1024, 2024] | _ => [], loopT := fun r ds m K => match r with | 7 => l_wPerfect_7 N ds m K | _ => none, jumps := 9 }
theorem F_wPerfect_7_ok {R : Type} (N : Nat) (vs0 : List V) (n6 : Int) (l17 : List UInt8) (n20 n21 n1 n2 : Int) (b3 : Bool) (n4 : Int) (b5 : Bool) (n7 n8 n9 n10 : Int) (l11 : List UInt8) (n12 : Int) (vs13 : List V) (l14 : List UInt8) (n15 n16 : Int) (b18 : Bool) (n19 n22 n23 n24 : Int) (l25 : List UInt8) (n26 : Int) (vs27 : List V) (l28 : List UInt8) (n29 : Int) (l30 : List UInt8) (L : List D -> Mem -> Option R) (K : Ex -> List D -> Mem -> Option R) :
    roundK (fun st K => codeK (cx_wPerfect N) (loopN Try.f6 0) st K) 70 [3, 9, 10, 24, 1024, 2024] [8, 24, 1024, 2024] L [(.v (.sl 70 vs0) .no), (.ptr 0 24 0), (dI n1), (.ptr 0 24 0), .any, .any] [[(24, ⟨106, [(.ptr 0 1024 0), (.ptr 0 2024 0), (dI n2), (dB b3), (dI n4), (dB b5)]⟩), (1024, ⟨95, [(dI n6), (dI n7), (dI n8), (dI n9), (dI n10), (dY l11), (dI n12), (.v (.sl 27 vs13) .no), (.v (.bytes l14) (.own (.slot 0) 5)), (dI n15), (dI n16), (dY l17), (dB b18), (dI n19)]⟩), (2024, ⟨77, [(dI n20), (dI n21), (dI n22), (dI n23), (dI n24), (dY l25), (dI n26), (.v (.sl 27 vs27) .no), (.v (.bytes l28) (.own (.slot 0) 5)), (dI n29), (dY l30)]⟩)]] K = F_wPerfect_7 N vs0 n6 l17 n20 n21 (fun n1 n2 b3 n4 b5 n7 n8 n9 n10 l11 n12 vs13 l14 n15 n16 b18 n19 n22 n23 n24 l25 n26 vs27 l28 n29 l30 => L [(.v (.sl 70 vs0) .no), (.ptr 0 24 0), (dI n1), (.ptr 0 24 0), .any, .any] [[(24, ⟨106, [(.ptr 0 1024 0), (.ptr 0 2024 0), (dI n2), (dB b3), (dI n4), (dB b5)]⟩), (1024, ⟨95, [(dI n6), (dI n7), (dI n8), (dI n9), (dI n10), (dY l11), (dI n12), (.v (.sl 27 vs13) .no), (.v (.bytes l14) (.own (.slot 0) 5)), (dI n15), (dI n16), (dY l17), (dB b18), (dI n19)]⟩), (2024, ⟨77, [(dI n20), (dI n21), (dI n22), (dI n23), (dI n24), (dY l25), (dI n26), (.v (.sl 27 vs27) .no), (.v (.bytes l28) (.own (.slot 0) 5)), (dI n29), (dY l30)]⟩)]]) (fun a0 a1 a2 a3 a4 a6 a7 a8 a9 a10 a11 a12 a13 a14 a15 a17 a18 a21 a22 a23 a24 a25 a26 a27 a28 a29 => K .ret [(dB a0), (.ptr 0 24 0), .any, .any] [[(24, ⟨106, [(.ptr 0 1024 0), (.ptr 0 2024 0), (dI a1), (dB a2), (dI a3), (dB a4)]⟩), (1024, ⟨95, [(dI n6), (dI a6), (dI a7), (dI a8), (dI a9), (dY a10), (dI a11), (.v (.sl 27 a12) .no), (.v (.bytes a13) (.own (.slot 0) 5)), (dI a14), (dI a15), (dY l17), (dB a17), (dI a18)]⟩), (2024, ⟨77, [(dI n20), (dI n21), (dI a21), (dI a22), (dI a23), (dY a24), (dI a25), (.v (.sl 27 a26) .no), (.v (.bytes a27) (.own (.slot 0) 5)), (dI a28), (dY a29)]⟩)]]) (fun a0 a1 a2 a3 a5 a6 a7 a8 a9 a10 a11 a12 a13 a14 a16 a17 a20 a21 a22 a23 a24 a25 a26 a27 a28 => K (.exit 0) [.any, (.ptr 0 24 0), .any, .any] [[(24, ⟨106, [(.ptr 0 1024 0), (.ptr 0 2024 0), (dI a0), (dB a1), (dI a2), (dB a3)]⟩), (1024, ⟨95, [(dI n6), (dI a5), (dI a6), (dI a7), (dI a8), (dY a9), (dI a10), (.v (.sl 27 a11) .no), (.v (.bytes a12) (.own (.slot 0) 5)), (dI a13), (dI a14), (dY l17), (dB a16), (dI a17)]⟩), (2024, ⟨77, [(dI n20), (dI n21), (dI a20), (dI a21), (dI a22), (dY a23), (dI a24), (.v (.sl 27 a25) .no), (.v (.bytes a26) (.own (.slot 0) 5)), (dI a27), (dY a28)]⟩)]]) n1 n2 b3 n4 b5 n7 n8 n9 n10 l11 n12 vs13 l14 n15 n16 b18 n19 n22 n23 n24 l25 n26 vs27 l28 n29 l30 := by
  kernel_rfl
theorem S_wPerfect_7_ok {R : Type} (N : Nat) (vs0 : List V) (n6 : Int) (l17 : List UInt8) (n20 n21 : Int) (K : Ex -> List D -> Mem -> Option R) : ∀ (t : Nat) (n1 n2 : Int) (b3 : Bool) (n4 : Int) (b5 : Bool) (n7 n8 n9 n10 : Int) (l11 : List UInt8) (n12 : Int) (vs13 : List V) (l14 : List UInt8) (n15 n16 : Int) (b18 : Bool) (n19 n22 n23 n24 : Int) (l25 : List UInt8) (n26 : Int) (vs27 : List V) (l28 : List UInt8) (n29 : Int) (l30 : List UInt8),
    loopK (fun st K => codeK (cx_wPerfect N) (loopN Try.f6 0) st K) 70 [3, 9, 10, 24, 1024, 2024] [8, 24, 1024, 2024] t [(.v (.sl 70 vs0) .no), (.ptr 0 24 0), (dI n1), (.ptr 0 24 0), .any, .any] [[(24, ⟨106, [(.ptr 0 1024 0), (.ptr 0 2024 0), (dI n2), (dB b3), (dI n4), (dB b5)]⟩), (1024, ⟨95, [(dI n6), (dI n7), (dI n8), (dI n9), (dI n10), (dY l11), (dI n12), (.v (.sl 27 vs13) .no), (.v (.bytes l14) (.own (.slot 0) 5)), (dI n15), (dI n16), (dY l17), (dB b18), (dI n19)]⟩), (2024, ⟨77, [(dI n20), (dI n21), (dI n22), (dI n23), (dI n24), (dY l25), (dI n26), (.v (.sl 27 vs27) .no), (.v (.bytes l28) (.own (.slot 0) 5)), (dI n29), (dY l30)]⟩)]] K = S_wPerfect_7 N vs0 n6 l17 n20 n21 t n1 n2 b3 n4 b5 n7 n8 n9 n10 l11 n12 vs13 l14 n15 n16 b18 n19 n22 n23 n24 l25 n26 vs27 l28 n29 l30 (fun a0 a1 a2 a3 a4 a6 a7 a8 a9 a10 a11 a12 a13 a14 a15 a17 a18 a21 a22 a23 a24 a25 a26 a27 a28 a29 => K .ret [(dB a0), (.ptr 0 24 0), .any, .any] [[(24, ⟨106, [(.ptr 0 1024 0), (.ptr 0 2024 0), (dI a1), (dB a2), (dI a3), (dB a4)]⟩), (1024, ⟨95, [(dI n6), (dI a6), (dI a7), (dI a8), (dI a9), (dY a10), (dI a11), (.v (.sl 27 a12) .no), (.v (.bytes a13) (.own (.slot 0) 5)), (dI a14), (dI a15), (dY l17), (dB a17), (dI a18)]⟩), (2024, ⟨77, [(dI n20), (dI n21), (dI a21), (dI a22), (dI a23), (dY a24), (dI a25), (.v (.sl 27 a26) .no), (.v (.bytes a27) (.own (.slot 0) 5)), (dI a28), (dY a29)]⟩)]]) (fun a0 a1 a2 a3 a5 a6 a7 a8 a9 a10 a11 a12 a13 a14 a16 a17 a20 a21 a22 a23 a24 a25 a26 a27 a28 => K (.exit 0) [.any, (.ptr 0 24 0), .any, .any] [[(24, ⟨106, [(.ptr 0 1024 0), (.ptr 0 2024 0), (dI a0), (dB a1), (dI a2), (dB a3)]⟩), (1024, ⟨95, [(dI n6), (dI a5), (dI a6), (dI a7), (dI a8), (dY a9), (dI a10), (.v (.sl 27 a11) .no), (.v (.bytes a12) (.own (.slot 0) 5)), (dI a13), (dI a14), (dY l17), (dB a16), (dI a17)]⟩), (2024, ⟨77, [(dI n20), (dI n21), (dI a20), (dI a21), (dI a22), (dY a23), (dI a24), (.v (.sl 27 a25) .no), (.v (.bytes a26) (.own (.slot 0) 5)), (dI a27), (dY a28)]⟩)]])
  | 0, n1, n2, b3, n4, b5, n7, n8, n9, n10, l11, n12, vs13, l14, n15, n16, b18, n19, n22, n23, n24, l25, n26, vs27, l28, n29, l30 => rfl
  | t + 1, n1, n2, b3, n4, b5, n7, n8, n9, n10, l11, n12, vs13, l14, n15, n16, b18, n19, n22, n23, n24, l25, n26, vs27, l28, n29, l30 => (F_wPerfect_7_ok N vs0 n6 l17 n20 n21 n1 n2 b3 n4 b5 n7 n8 n9 n10 l11 n12 vs13 l14 n15 n16 b18 n19 n22 n23 n24 l25 n26 vs27 l28 n29 l30 _ K).trans (congrArg (fun L => F_wPerfect_7 N vs0 n6 l17 n20 n21 L (fun a0 a1 a2 a3 a4 a6 a7 a8 a9 a10 a11 a12 a13 a14 a15 a17 a18 a21 a22 a23 a24 a25 a26 a27 a28 a29 => K .ret [(dB a0), (.ptr 0 24 0), .any, .any] [[(24, ⟨106, [(.ptr 0 1024 0), (.ptr 0 2024 0), (dI a1), (dB a2), (dI a3), (dB a4)]⟩), (1024, ⟨95, [(dI n6), (dI a6), (dI a7), (dI a8), (dI a9), (dY a10), (dI a11), (.v (.sl 27 a12) .no), (.v (.bytes a13) (.own (.slot 0) 5)), (dI a14), (dI a15), (dY l17), (dB a17), (dI a18)]⟩), (2024, ⟨77, [(dI n20), (dI n21), (dI a21), (dI a22), (dI a23), (dY a24), (dI a25), (.v (.sl 27 a26) .no), (.v (.bytes a27) (.own (.slot 0) 5)), (dI a28), (dY a29)]⟩)]]) (fun a0 a1 a2 a3 a5 a6 a7 a8 a9 a10 a11 a12 a13 a14 a16 a17 a20 a21 a22 a23 a24 a25 a26 a27 a28 => K (.exit 0) [.any, (.ptr 0 24 0), .any, .any] [[(24, ⟨106, [(.ptr 0 1024 0), (.ptr 0 2024 0), (dI a0), (dB a1), (dI a2), (dB a3)]⟩), (1024, ⟨95, [(dI n6), (dI a5), (dI a6), (dI a7), (dI a8), (dY a9), (dI a10), (.v (.sl 27 a11) .no), (.v (.bytes a12) (.own (.slot 0) 5)), (dI a13), (dI a14), (dY l17), (dB a16), (dI a17)]⟩), (2024, ⟨77, [(dI n20), (dI n21), (dI a20), (dI a21), (dI a22), (dY a23), (dI a24), (.v (.sl 27 a25) .no), (.v (.bytes a26) (.own (.slot 0) 5)), (dI a27), (dY a28)]⟩)]]) n1 n2 b3 n4 b5 n7 n8 n9 n10 l11 n12 vs13 l14 n15 n16 b18 n19 n22 n23 n24 l25 n26 vs27 l28 n29 l30) (funext fun n1 => funext fun n2 => funext fun b3 => funext fun n4 => funext fun b5 => funext fun n7 => funext fun n8 => funext fun n9 => funext fun n10 => funext fun l11 => funext fun n12 => funext fun vs13 => funext fun l14 => funext fun n15 => funext fun n16 => funext fun b18 => funext fun n19 => funext fun n22 => funext fun n23 => funext fun n24 => funext fun l25 => funext fun n26 => funext fun vs27 => funext fun l28 => funext fun n29 => funext fun l30 => S_wPerfect_7_ok N vs0 n6 l17 n20 n21 K t n1 n2 b3 n4 b5 n7 n8 n9 n10 l11 n12 vs13 l14 n15 n16 b18 n19 n22 n23 n24 l25 n26 vs27 l28 n29 l30))
theorem s_wPerfect_ok (N : Nat) (x0 x1 x2 x3 : _) : bodyK (cx_wPerfect N) Try.f6 [dI x0, dI x1, dI x2, .v (.sl 70 x3) .no] [] r_valid = s_wPerfect N x0 x1 x2 x3 := by
  kernel_rfl
theorem co_wPerfect (N : Nat) : CxOK Try.prog (cx_wPerfect N) :=
  cxOK_of2 (es := [⟨22, e_sides (s_sides N)⟩, ⟨10, e_works (s_works N)⟩]) (me := [⟨38, e_btw (s_btw N)⟩, ⟨39, e_wexch (s_wexch N)⟩]) (ms := []) T_ok ⟨eo_sides _ (p_sides N), eo_works _ (p_works N), trivial⟩ ⟨eo_btw _ (p_btw N), eo_wexch _ (p_wexch N), trivial⟩ trivial rfl (fun _ _ _ _ => rfl) (fun _ _ _ _ _ _ => rfl) rfl
theorem lk_wPerfect_7 (N : Nat) : LoopOK (cx_wPerfect N) 70 (loopN Try.f6 0) := by
  refine loopOK_of (rid := 7) (by kernel_rfl) rfl rfl fun R ds m K r h => ?_
  have h : l_wPerfect_7 N ds m K = some r := h
  unfold l_wPerfect_7 at h
  split at h
  . exact ⟨N, Eq.trans (S_wPerfect_7_ok ..) h⟩
  . cases h
theorem lo_wPerfect (N : Nat) : LoopsOK (cx_wPerfect N) Try.f6.ntmps (bodyOf Try.f6) :=
  loopsOK_of (k := 1) (by kernel_rfl) ⟨trivial, lk_wPerfect_7 N⟩
theorem p_wPerfect (N : Nat) (x0 x1 x2 : Int) (x3 : List V) (r0 : Bool) (h : s_wPerfect N x0 x1 x2 x3 = some r0) : PureRet Try.prog T 6 [dI x0, dI x1, dI x2, .v (.sl 70 x3) .no] [dB r0] :=
  pure_of (cx := cx_wPerfect N) (by kernel_rfl) (co_wPerfect N) Try.func6 (by kernel_rfl) (by kernel_rfl) (lo_wPerfect N) rfl rfl rfl (rf := r_valid) ((s_wPerfect_ok ..).trans h) (fun rs' m h => by
    unfold r_valid at h
    split at h
    . cases h; exact ⟨rfl, rfl⟩
    . cases h)
noncomputable def F_wRecovers_4 {R : Type} (N : Nat) (n0 n1 n2 : Int) (vs3 : List V) (Lq : Int -> Option R) (K0 : Bool -> Option R) (K1 : Option R) (n4 : Int) : Option R := br (decide (n4 < (vs3.length : Int))) (br (decide (0 <= n4) && decide (n4 < (vs3.length : Int))) (at? vs3 n4.toNat fun x0 => x0.unAgg fun l1 => unCons l1 fun x2 l3 => x2.unBytes fun l4 => unCons l3 fun x5 l6 => x5.unBytes fun l7 => unCons l6 fun x8 l9 => V.unSl 110 x8 fun l10 => unCons l9 fun x11 l12 => V.unInt IntKind.i64 x11 fun n13 => unNil l12 (br (decide (600 < (l4.length : Int))) (bnd1 (s_works N) fun b14 => K0 b14) (br (decide (0 <= n4) && decide (n4 < (vs3.length : Int))) (at? vs3 n4.toNat fun x15 => x15.unAgg fun l16 => unCons l16 fun x17 l18 => x17.unBytes fun l19 => unCons l18 fun x20 l21 => x20.unBytes fun l22 => unCons l21 fun x23 l24 => V.unSl 110 x23 fun l25 => unCons l24 fun x26 l27 => V.unInt IntKind.i64 x26 fun n28 => unNil l27 (br (decide (600 < (l22.length : Int))) (bnd1 (s_works N) fun b29 => K0 b29) (br (decide (0 <= n4) && decide (n4 < (vs3.length : Int))) (at? vs3 n4.toNat fun x30 => x30.unAgg fun l31 => unCons l31 fun x32 l33 => x32.unBytes fun l34 => unCons l33 fun x35 l36 => x35.unBytes fun l37 => unCons l36 fun x38 l39 => V.unSl 110 x38 fun l40 => unCons l39 fun x41 l42 => V.unInt IntKind.i64 x41 fun n43 => unNil l42 (bnd1 (s_disturbed N l40) fun n44 => br (decide (4 < n44)) (bnd1 (s_works N) fun b45 => K0 b45) (Lq (IntKind.i64.wrap (n4 + 1))))) none))) none))) none) K1
noncomputable def S_wRecovers_4 {R : Type} (N : Nat) (n0 n1 n2 : Int) (vs3 : List V) : Nat -> Int -> (Bool -> Option R) -> (Option R) -> Option R | 0, _, _, _ => none | t + 1, n4, K0, K1 => F_wRecovers_4 N n0 n1 n2 vs3 (fun n4 => S_wRecovers_4 N n0 n1 n2 vs3 t n4 K0 K1) K0 K1 n4
noncomputable def l_wRecovers_4 {R : Type} (N : Nat) (ds : List D) (m : Mem) (K : Ex -> List D -> Mem -> Option R) : Option R :=
  match ds, m with
  | [(.v (.int .i64 n0) .no), (.v (.int .i64 n1) .no), (.v (.int .i64 n2) .no), (.v (.sl 70 vs3) .no), (.v (.int .i64 n4) .no), .any, .any, .any], [[]] => S_wRecovers_4 N n0 n1 n2 vs3 N n4 (fun a4 => K .ret [(.v (.int .i64 n0) .no), (.v (.int .i64 n1) .no), (.v (.int .i64 n2) .no), (.v (.sl 70 vs3) .no), (.v (.bool a4) .no), .any, .any, .any] [[]]) (K (.exit 0) [(.v (.int .i64 n0) .no), (.v (.int .i64 n1) .no), (.v (.int .i64 n2) .no), (.v (.sl 70 vs3) .no), .any, .any, .any, .any] [[]])
  | _, _ => none
noncomputable def F_wRecovers_12 {R : Type} (N : Nat) (vs0 : List V) (n6 : Int) (l17 : List UInt8) (n20 n21 : Int) (Lq : Int -> Int -> Bool -> Int -> Bool -> Int -> Int -> Int -> Int -> List UInt8 -> Int -> List V -> List UInt8 -> Int -> Int -> Bool -> Int -> Int -> Int -> Int -> List UInt8 -> Int -> List V -> List UInt8 -> Int -> List UInt8 -> Option R) (K0 : Bool -> Int -> Bool -> Int -> Bool -> Int -> Int -> Int -> Int -> List UInt8 -> Int -> List V -> List UInt8 -> Int -> Int -> Bool -> Int -> Int -> Int -> Int -> List UInt8 -> Int -> List V -> List UInt8 -> Int -> List UInt8 -> Option R) (K1 : Int -> Bool -> Int -> Bool -> Int -> Int -> Int -> Int -> List UInt8 -> Int -> List V -> List UInt8 -> Int -> Int -> Bool -> Int -> Int -> Int -> Int -> List UInt8 -> Int -> List V -> List UInt8 -> Int -> List UInt8 -> Option R) (n1 n2 : Int) (b3 : Bool) (n4 : Int) (b5 : Bool) (n7 n8 n9 n10 : Int) (l11 : List UInt8) (n12 : Int) (vs13 : List V) (l14 : List UInt8) (n15 n16 : Int) (b18 : Bool) (n19 n22 n23 n24 : Int) (l25 : List UInt8) (n26 : Int) (vs27 : List V) (l28 : List UInt8) (n29 : Int) (l30 : List UInt8) : Option R := br (decide (n1 < (vs0.length : Int))) (br (decide (0 <= n1) && decide (n1 < (vs0.length : Int))) (at? vs0 n1.toNat fun x0 => x0.unAgg fun l1 => unCons l1 fun x2 l3 => x2.unBytes fun l4 => unCons l3 fun x5 l6 => x5.unBytes fun l7 => unCons l6 fun x8 l9 => V.unSl 110 x8 fun l10 => unCons l9 fun x11 l12 => V.unInt IntKind.i64 x11 fun n13 => unNil l12 (bnd26 (s_wexch N l4 l7 l10 n13 n2 b3 n4 b5 n6 n7 n8 n9 n10 l11 n12 vs13 l14 n15 n16 l17 b18 n19 n20 n21 n22 n23 n24 l25 n26 vs27 l28 n29 l30) fun b14 n15 b16 n17 b18 n19 n20 n21 n22 l23 n24 l25 l26 n27 n28 b29 n30 n31 n32 n33 l34 n35 l36 l37 n38 l39 => br (!b14) (K0 false n15 b16 n17 b18 n19 n20 n21 n22 l23 n24 l25 l26 n27 n28 b29 n30 n31 n32 n33 l34 n35 l36 l37 n38 l39) (Lq (IntKind.i64.wrap (n1 + 1)) n15 b16 n17 b18 n19 n20 n21 n22 l23 n24 l25 l26 n27 n28 b29 n30 n31 n32 n33 l34 n35 l36 l37 n38 l39))) none) (K1 n2 b3 n4 b5 n7 n8 n9 n10 l11 n12 vs13 l14 n15 n16 b18 n19 n22 n23 n24 l25 n26 vs27 l28 n29 l30)
noncomputable def S_wRecovers_12 {R : Type} (N : Nat) (vs0 : List V) (n6 : Int) (l17 : List UInt8) (n20 n21 : Int) : Nat -> Int -> Int -> Bool -> Int -> Bool -> Int -> Int -> Int -> Int -> List UInt8 -> Int -> List V -> List UInt8 -> Int -> Int -> Bool -> Int -> Int -> Int -> Int -> List UInt8 -> Int -> List V -> List UInt8 -> Int -> List UInt8 -> (Bool -> Int -> Bool -> Int -> Bool -> Int -> Int -> Int -> Int -> List UInt8 -> Int -> List V -> List UInt8 -> Int -> Int -> Bool -> Int -> Int -> Int -> Int -> List UInt8 -> Int -> List V -> List UInt8 -> Int -> List UInt8 -> Option R) -> (Int -> Bool -> Int -> Bool -> Int -> Int -> Int -> Int -> List UInt8 -> Int -> List V -> List UInt8 -> Int -> Int -> Bool -> Int -> Int -> Int -> Int -> List UInt8 -> Int -> List V -> List UInt8 -> Int -> List UInt8 -> Option R) -> Option R | 0, _, _, _, _, _, _, _, _, _, _, _, _, _, _, _, _, _, _, _, _, _, _, _, _, _, _, _, _ => none | t + 1, n1, n2, b3, n4, b5, n7, n8, n9, n10, l11, n12, vs13, l14, n15, n16, b18, n19, n22, n23, n24, l25, n26, vs27, l28, n29, l30, K0, K1 => F_wRecovers_12 N vs0 n6 l17 n20 n21 (fun n1 n2 b3 n4 b5 n7 n8 n9 n10 l11 n12 vs13 l14 n15 n16 b18 n19 n22 n23 n24 l25 n26 vs27 l28 n29 l30 => S_wRecovers_12 N vs0 n6 l17 n20 n21 t n1 n2 b3 n4 b5 n7 n8 n9 n10 l11 n12 vs13 l14 n15 n16 b18 n19 n22 n23 n24 l25 n26 vs27 l28 n29 l30 K0 K1) K0 K1 n1 n2 b3 n4 b5 n7 n8 n9 n10 l11 n12 vs13 l14 n15 n16 b18 n19 n22 n23 n24 l25 n26 vs27 l28 n29 l30
noncomputable def l_wRecovers_12 {R : Type} (N : Nat) (ds : List D) (m : Mem) (K : Ex -> List D -> Mem -> Option R) : Option R :=
  match ds, m with
  | [(.v (.sl 70 vs0) .no), (.ptr 0 57 0), (.v (.int .i64 n1) .no), (.ptr 0 57 0), .any, .any], [[(57, ⟨106, [(.ptr 0 1057 0), (.ptr 0 2057 0), (.v (.int .i64 n2) .no), (.v (.bool b3) .no), (.v (.int .i64 n4) .no), (.v (.bool b5) .no)]⟩), (1057, ⟨95, [(.v (.int .i64 n6) .no), (.v (.int .i64 n7) .no), (.v (.int .i64 n8) .no), (.v (.int .i64 n9) .no), (.v (.int .i64 n10) .no), (.v (.bytes l11) .no), (.v (.int .i64 n12) .no), (.v (.sl 27 vs13) .no), (.v (.bytes l14) (.own (.slot 0) 5)), (.v (.int .i64 n15) .no), (.v (.int .i64 n16) .no), (.v (.bytes l17) .no), (.v (.bool b18) .no), (.v (.int .i64 n19) .no)]⟩), (2057, ⟨77, [(.v (.int .i64 n20) .no), (.v (.int .i64 n21) .no), (.v (.int .i64 n22) .no), (.v (.int .i64 n23) .no), (.v (.int .i64 n24) .no), (.v (.bytes l25) .no), (.v (.int .i64 n26) .no), (.v (.sl 27 vs27) .no), (.v (.bytes l28) (.own (.slot 0) 5)), (.v (.int .i64 n29) .no), (.v (.bytes l30) .no)]⟩)]] => S_wRecovers_12 N vs0 n6 l17 n20 n21 N n1 n2 b3 n4 b5 n7 n8 n9 n10 l11 n12 vs13 l14 n15 n16 b18 n19 n22 n23 n24 l25 n26 vs27 l28 n29 l30 (fun a0 a1 a2 a3 a4 a6 a7 a8 a9 a10 a11 a12 a13 a14 a15 a17 a18 a21 a22 a23 a24 a25 a26 a27 a28 a29 => K .ret [(.v (.bool a0) .no), (.ptr 0 57 0), .any, .any] [[(57, ⟨106, [(.ptr 0 1057 0), (.ptr 0 2057 0), (.v (.int .i64 a1) .no), (.v (.bool a2) .no), (.v (.int .i64 a3) .no), (.v (.bool a4) .no)]⟩), (1057, ⟨95, [(.v (.int .i64 n6) .no), (.v (.int .i64 a6) .no), (.v (.int .i64 a7) .no), (.v (.int .i64 a8) .no), (.v (.int .i64 a9) .no), (.v (.bytes a10) .no), (.v (.int .i64 a11) .no), (.v (.sl 27 a12) .no), (.v (.bytes a13) (.own (.slot 0) 5)), (.v (.int .i64 a14) .no), (.v (.int .i64 a15) .no), (.v (.bytes l17) .no), (.v (.bool a17) .no), (.v (.int .i64 a18) .no)]⟩), (2057, ⟨77, [(.v (.int .i64 n20) .no), (.v (.int .i64 n21) .no), (.v (.int .i64 a21) .no), (.v (.int .i64 a22) .no), (.v (.int .i64 a23) .no), (.v (.bytes a24) .no), (.v (.int .i64 a25) .no), (.v (.sl 27 a26) .no), (.v (.bytes a27) (.own (.slot 0) 5)), (.v (.int .i64 a28) .no), (.v (.bytes a29) .no)]⟩)]]) (fun a0 a1 a2 a3 a5 a6 a7 a8 a9 a10 a11 a12 a13 a14 a16 a17 a20 a21 a22 a23 a24 a25 a26 a27 a28 => K (.exit 2) [.any, (.ptr 0 57 0), .any, .any] [[(57, ⟨106, [(.ptr 0 1057 0), (.ptr 0 2057 0), (.v (.int .i64 a0) .no), (.v (.bool a1) .no), (.v (.int .i64 a2) .no), (.v (.bool a3) .no)]⟩), (1057, ⟨95, [(.v (.int .i64 n6) .no), (.v (.int .i64 a5) .no), (.v (.int .i64 a6) .no), (.v (.int .i64 a7) .no), (.v (.int .i64 a8) .no), (.v (.bytes a9) .no), (.v (.int .i64 a10) .no), (.v (.sl 27 a11) .no), (.v (.bytes a12) (.own (.slot 0) 5)), (.v (.int .i64 a13) .no), (.v (.int .i64 a14) .no), (.v (.bytes l17) .no), (.v (.bool a16) .no), (.v (.int .i64 a17) .no)]⟩), (2057, ⟨77, [(.v (.int .i64 n20) .no), (.v (.int .i64 n21) .no), (.v (.int .i64 a20) .no), (.v (.int .i64 a21) .no), (.v (.int .i64 a22) .no), (.v (.bytes a23) .no), (.v (.int .i64 a24) .no), (.v (.sl 27 a25) .no), (.v (.bytes a26) (.own (.slot 0) 5)), (.v (.int .i64 a27) .no), (.v (.bytes a28) .no)]⟩)]])
  | _, _ => none
noncomputable def s_wRecovers (N : Nat) (x0 x1 x2 : Int) (x3 : List V) : Option (Bool) := br (decide (6 < (x3.length : Int))) (bnd1 (s_works N) fun b0 => some b0) (bnd1 (s_sides N x0 x2) fun b1 => br (!b1) (bnd1 (s_works N) fun b2 => some b2) (S_wRecovers_4 N x0 x1 x2 x3 N 0 (fun b3 => some b3) (bnd26 (s_btw N x0 x1 x2) fun b4 n5 n6 n7 n8 n9 l10 n11 l12 l13 n14 n15 l16 b17 n18 n19 n20 n21 n22 n23 l24 n25 l26 l27 n28 l29 => br b4 (S_wRecovers_12 N x3 n5 l16 n19 n20 N 0 0 false 0 false n6 n7 n8 n9 l10 n11 l12 l13 n14 n15 b17 n18 n21 n22 n23 l24 n25 l26 l27 n28 l29 (fun b30 n31 b32 n33 b34 n35 n36 n37 n38 l39 n40 l41 l42 n43 n44 b45 n46 n47 n48 n49 l50 n51 l52 l53 n54 l55 => some b30) fun n56 b57 n58 b59 n60 n61 n62 n63 l64 n65 l66 l67 n68 n69 b70 n71 n72 n73 n74 l75 n76 l77 l78 n79 l80 => bnd1 (s_works N) fun b81 => some b81) (some false))))
noncomputable def cx_wRecovers (N : Nat) : Cx := { T := T, isPure := tabP [⟨22, e_sides (s_sides N)⟩, ⟨10, e_works (s_works N)⟩, ⟨40, e_disturbed (s_disturbed N)⟩], pureK := fun g ds K => tabK [⟨22, e_sides (s_sides N)⟩, ⟨10, e_works (s_works N)⟩, ⟨40, e_disturbed (s_disturbed N)⟩] g ds K, memK := fun g dst ds m K => tabMK [⟨38, e_btw (s_btw N)⟩, ⟨39, e_wexch (s_wexch N)⟩] g dst ds m K, meth := tabM [], keep := fun r => match r with | 4 => [0, 1, 2, 3, 9, 57, 1057, 2057] | 12 => [3, 10, 11, 57, 1057, 2057] | _ => [], keepX := fun r => match r with | 4 => [0, 1, 2, 3, 8, 57, 1057, 2057] | 12 => [8, 57, 1057, 2057] | _ => [], loopT := fun r ds m K => match r with | 4 => l_wRecovers_4 N ds m K | 12 => l_wRecovers_12 N ds m K | _ => none, jumps := 9 }
theorem F_wRecovers_4_ok {R : Type} (N : Nat) (n0 n1 n2 : Int) (vs3 : List V) (n4 : Int) (L : List D -> Mem -> Option R) (K : Ex -> List D -> Mem -> Option R) :
    roundK (fun st K => codeK (cx_wRecovers N) (loopN Try.f7 0) st K) 74 [0, 1, 2, 3, 9, 57, 1057, 2057] [0, 1, 2, 3, 8, 57, 1057, 2057] L [(dI n0), (dI n1), (dI n2), (.v (.sl 70 vs3) .no), (dI n4), .any, .any, .any] [[]] K = F_wRecovers_4 N n0 n1 n2 vs3 (fun n4 => L [(dI n0), (dI n1), (dI n2), (.v (.sl 70 vs3) .no), (dI n4), .any, .any, .any] [[]]) (fun a4 => K .ret [(dI n0), (dI n1), (dI n2), (.v (.sl 70 vs3) .no), (dB a4), .any, .any, .any] [[]]) (K (.exit 0) [(dI n0), (dI n1), (dI n2), (.v (.sl 70 vs3) .no), .any, .any, .any, .any] [[]]) n4 := by
  kernel_rfl
theorem S_wRecovers_4_ok {R : Type} (N : Nat) (n0 n1 n2 : Int) (vs3 : List V) (K : Ex -> List D -> Mem -> Option R) : ∀ (t : Nat) (n4 : Int),
    loopK (fun st K => codeK (cx_wRecovers N) (loopN Try.f7 0) st K) 74 [0, 1, 2, 3, 9, 57, 1057, 2057] [0, 1, 2, 3, 8, 57, 1057, 2057] t [(dI n0), (dI n1), (dI n2), (.v (.sl 70 vs3) .no), (dI n4), .any, .any, .any] [[]] K = S_wRecovers_4 N n0 n1 n2 vs3 t n4 (fun a4 => K .ret [(dI n0), (dI n1), (dI n2), (.v (.sl 70 vs3) .no), (dB a4), .any, .any, .any] [[]]) (K (.exit 0) [(dI n0), (dI n1), (dI n2), (.v (.sl 70 vs3) .no), .any, .any, .any, .any] [[]])
  | 0, n4 => rfl
  | t + 1, n4 => (F_wRecovers_4_ok N n0 n1 n2 vs3 n4 _ K).trans (congrArg (fun L => F_wRecovers_4 N n0 n1 n2 vs3 L (fun a4 => K .ret [(dI n0), (dI n1), (dI n2), (.v (.sl 70 vs3) .no), (dB a4), .any, .any, .any] [[]]) (K (.exit 0) [(dI n0), (dI n1), (dI n2), (.v (.sl 70 vs3) .no), .any, .any, .any, .any] [[]]) n4) (funext fun n4 => S_wRecovers_4_ok N n0 n1 n2 vs3 K t n4))
theorem F_wRecovers_12_ok {R : Type} (N : Nat) (vs0 : List V) (n6 : Int) (l17 : List UInt8) (n20 n21 n1 n2 : Int) (b3 : Bool) (n4 : Int) (b5 : Bool) (n7 n8 n9 n10 : Int) (l11 : List UInt8) (n12 : Int) (vs13 : List V) (l14 : List UInt8) (n15 n16 : Int) (b18 : Bool) (n19 n22 n23 n24 : Int) (l25 : List UInt8) (n26 : Int) (vs27 : List V) (l28 : List UInt8) (n29 : Int) (l30 : List UInt8) (L : List D -> Mem -> Option R) (K : Ex -> List D -> Mem -> Option R) :
    roundK (fun st K => codeK (cx_wRecovers N) (loopN Try.f7 1) st K) 74 [3, 10, 11, 57, 1057, 2057] [8, 57, 1057, 2057] L [(.v (.sl 70 vs0) .no), (.ptr 0 57 0), (dI n1), (.ptr 0 57 0), .any, .any] [[(57, ⟨106, [(.ptr 0 1057 0), (.ptr 0 2057 0), (dI n2), (dB b3), (dI n4), (dB b5)]⟩), (1057, ⟨95, [(dI n6), (dI n7), (dI n8), (dI n9), (dI n10), (dY l11), (dI n12), (.v (.sl 27 vs13) .no), (.v (.bytes l14) (.own (.slot 0) 5)), (dI n15), (dI n16), (dY l17), (dB b18), (dI n19)]⟩), (2057, ⟨77, [(dI n20), (dI n21), (dI n22), (dI n23), (dI n24), (dY l25), (dI n26), (.v (.sl 27 vs27) .no), (.v (.bytes l28) (.own (.slot 0) 5)), (dI n29), (dY l30)]⟩)]] K = F_wRecovers_12 N vs0 n6 l17 n20 n21 (fun n1 n2 b3 n4 b5 n7 n8 n9 n10 l11 n12 vs13 l14 n15 n16 b18 n19 n22 n23 n24 l25 n26 vs27 l28 n29 l30 => L [(.v (.sl 70 vs0) .no), (.ptr 0 57 0), (dI n1), (.ptr 0 57 0), .any, .any] [[(57, ⟨106, [(.ptr 0 1057 0), (.ptr 0 2057 0), (dI n2), (dB b3), (dI n4), (dB b5)]⟩), (1057, ⟨95, [(dI n6), (dI n7), (dI n8), (dI n9), (dI n10), (dY l11), (dI n12), (.v (.sl 27 vs13) .no), (.v (.bytes l14) (.own (.slot 0) 5)), (dI n15), (dI n16), (dY l17), (dB b18), (dI n19)]⟩), (2057, ⟨77, [(dI n20), (dI n21), (dI n22), (dI n23), (dI n24), (dY l25), (dI n26), (.v (.sl 27 vs27) .no), (.v (.bytes l28) (.own (.slot 0) 5)), (dI n29), (dY l30)]⟩)]]) (fun a0 a1 a2 a3 a4 a6 a7 a8 a9 a10 a11 a12 a13 a14 a15 a17 a18 a21 a22 a23 a24 a25 a26 a27 a28 a29 => K .ret [(dB a0), (.ptr 0 57 0), .any, .any] [[(57, ⟨106, [(.ptr 0 1057 0), (.ptr 0 2057 0), (dI a1), (dB a2), (dI a3), (dB a4)]⟩), (1057, ⟨95, [(dI n6), (dI a6), (dI a7), (dI a8), (dI a9), (dY a10), (dI a11), (.v (.sl 27 a12) .no), (.v (.bytes a13) (.own (.slot 0) 5)), (dI a14), (dI a15), (dY l17), (dB a17), (dI a18)]⟩), (2057, ⟨77, [(dI n20), (dI n21), (dI a21), (dI a22), (dI a23), (dY a24), (dI a25), (.v (.sl 27 a26) .no), (.v (.bytes a27) (.own (.slot 0) 5)), (dI a28), (dY a29)]⟩)]]) (fun a0 a1 a2 a3 a5 a6 a7 a8 a9 a10 a11 a12 a13 a14 a16 a17 a20 a21 a22 a23 a24 a25 a26 a27 a28 => K (.exit 2) [.any, (.ptr 0 57 0), .any, .any] [[(57, ⟨106, [(.ptr 0 1057 0), (.ptr 0 2057 0), (dI a0), (dB a1), (dI a2), (dB a3)]⟩), (1057, ⟨95, [(dI n6), (dI a5), (dI a6), (dI a7), (dI a8), (dY a9), (dI a10), (.v (.sl 27 a11) .no), (.v (.bytes a12) (.own (.slot 0) 5)), (dI a13), (dI a14), (dY l17), (dB a16), (dI a17)]⟩), (2057, ⟨77, [(dI n20), (dI n21), (dI a20), (dI a21), (dI a22), (dY a23), (dI a24), (.v (.sl 27 a25) .no), (.v (.bytes a26) (.own (.slot 0) 5)), (dI a27), (dY a28)]⟩)]]) n1 n2 b3 n4 b5 n7 n8 n9 n10 l11 n12 vs13 l14 n15 n16 b18 n19 n22 n23 n24 l25 n26 vs27 l28 n29 l30 := by
  kernel_rfl
theorem S_wRecovers_12_ok {R : Type} (N : Nat) (vs0 : List V) (n6 : Int) (l17 : List UInt8) (n20 n21 : Int) (K : Ex -> List D -> Mem -> Option R) : ∀ (t : Nat) (n1 n2 : Int) (b3 : Bool) (n4 : Int) (b5 : Bool) (n7 n8 n9 n10 : Int) (l11 : List UInt8) (n12 : Int) (vs13 : List V) (l14 : List UInt8) (n15 n16 : Int) (b18 : Bool) (n19 n22 n23 n24 : Int) (l25 : List UInt8) (n26 : Int) (vs27 : List V) (l28 : List UInt8) (n29 : Int) (l30 : List UInt8),
    loopK (fun st K => codeK (cx_wRecovers N) (loopN Try.f7 1) st K) 74 [3, 10, 11, 57, 1057, 2057] [8, 57, 1057, 2057] t [(.v (.sl 70 vs0) .no), (.ptr 0 57 0), (dI n1), (.ptr 0 57 0), .any, .any] [[(57, ⟨106, [(.ptr 0 1057 0), (.ptr 0 2057 0), (dI n2), (dB b3), (dI n4), (dB b5)]⟩), (1057, ⟨95, [(dI n6), (dI n7), (dI n8), (dI n9), (dI n10), (dY l11), (dI n12), (.v (.sl 27 vs13) .no), (.v (.bytes l14) (.own (.slot 0) 5)), (dI n15), (dI n16), (dY l17), (dB b18), (dI n19)]⟩), (2057, ⟨77, [(dI n20), (dI n21), (dI n22), (dI n23), (dI n24), (dY l25), (dI n26), (.v (.sl 27 vs27) .no), (.v (.bytes l28) (.own (.slot 0) 5)), (dI n29), (dY l30)]⟩)]] K = S_wRecovers_12 N vs0 n6 l17 n20 n21 t n1 n2 b3 n4 b5 n7 n8 n9 n10 l11 n12 vs13 l14 n15 n16 b18 n19 n22 n23 n24 l25 n26 vs27 l28 n29 l30 (fun a0 a1 a2 a3 a4 a6 a7 a8 a9 a10 a11 a12 a13 a14 a15 a17 a18 a21 a22 a23 a24 a25 a26 a27 a28 a29 => K .ret [(dB a0), (.ptr 0 57 0), .any, .any] [[(57, ⟨106, [(.ptr 0 1057 0), (.ptr 0 2057 0), (dI a1), (dB a2), (dI a3), (dB a4)]⟩), (1057, ⟨95, [(dI n6), (dI a6), (dI a7), (dI a8), (dI a9), (dY a10), (dI a11), (.v (.sl 27 a12) .no), (.v (.bytes a13) (.own (.slot 0) 5)), (dI a14), (dI a15), (dY l17), (dB a17), (dI a18)]⟩), (2057, ⟨77, [(dI n20), (dI n21), (dI a21), (dI a22), (dI a23), (dY a24), (dI a25), (.v (.sl 27 a26) .no), (.v (.bytes a27) (.own (.slot 0) 5)), (dI a28), (dY a29)]⟩)]]) (fun a0 a1 a2 a3 a5 a6 a7 a8 a9 a10 a11 a12 a13 a14 a16 a17 a20 a21 a22 a23 a24 a25 a26 a27 a28 => K (.exit 2) [.any, (.ptr 0 57 0), .any, .any] [[(57, ⟨106, [(.ptr 0 1057 0), (.ptr 0 2057 0), (dI a0), (dB a1), (dI a2), (dB a3)]⟩), (1057, ⟨95, [(dI n6), (dI a5), (dI a6), (dI a7), (dI a8), (dY a9), (dI a10), (.v (.sl 27 a11) .no), (.v (.bytes a12) (.own (.slot 0) 5)), (dI a13), (dI a14), (dY l17), (dB a16), (dI a17)]⟩), (2057, ⟨77, [(dI n20), (dI n21), (dI a20), (dI a21), (dI a22), (dY a23), (dI a24), (.v (.sl 27 a25) .no), (.v (.bytes a26) (.own (.slot 0) 5)), (dI a27), (dY a28)]⟩)]])
  | 0, n1, n2, b3, n4, b5, n7, n8, n9, n10, l11, n12, vs13, l14, n15, n16, b18, n19, n22, n23, n24, l25, n26, vs27, l28, n29, l30 => rfl
  | t + 1, n1, n2, b3, n4, b5, n7, n8, n9, n10, l11, n12, vs13, l14, n15, n16, b18, n19, n22, n23, n24, l25, n26, vs27, l28, n29, l30 => (F_wRecovers_12_ok N vs0 n6 l17 n20 n21 n1 n2 b3 n4 b5 n7 n8 n9 n10 l11 n12 vs13 l14 n15 n16 b18 n19 n22 n23 n24 l25 n26 vs27 l28 n29 l30 _ K).trans (congrArg (fun L => F_wRecovers_12 N vs0 n6 l17 n20 n21 L (fun a0 a1 a2 a3 a4 a6 a7 a8 a9 a10 a11 a12 a13 a14 a15 a17 a18 a21 a22 a23 a24 a25 a26 a27 a28 a29 => K .ret [(dB a0), (.ptr 0 57 0), .any, .any] [[(57, ⟨106, [(.ptr 0 1057 0), (.ptr 0 2057 0), (dI a1), (dB a2), (dI a3), (dB a4)]⟩), (1057, ⟨95, [(dI n6), (dI a6), (dI a7), (dI a8), (dI a9), (dY a10), (dI a11), (.v (.sl 27 a12) .no), (.v (.bytes a13) (.own (.slot 0) 5)), (dI a14), (dI a15), (dY l17), (dB a17), (dI a18)]⟩), (2057, ⟨77, [(dI n20), (dI n21), (dI a21), (dI a22), (dI a23), (dY a24), (dI a25), (.v (.sl 27 a26) .no), (.v (.bytes a27) (.own (.slot 0) 5)), (dI a28), (dY a29)]⟩)]]) (fun a0 a1 a2 a3 a5 a6 a7 a8 a9 a10 a11 a12 a13 a14 a16 a17 a20 a21 a22 a23 a24 a25 a26 a27 a28 => K (.exit 2) [.any, (.ptr 0 57 0), .any, .any] [[(57, ⟨106, [(.ptr 0 1057 0), (.ptr 0 2057 0), (dI a0), (dB a1), (dI a2), (dB a3)]⟩), (1057, ⟨95, [(dI n6), (dI a5), (dI a6), (dI a7), (dI a8), (dY a9), (dI a10), (.v (.sl 27 a11) .no), (.v (.bytes a12) (.own (.slot 0) 5)), (dI a13), (dI a14), (dY l17), (dB a16), (dI a17)]⟩), (2057, ⟨77, [(dI n20), (dI n21), (dI a20), (dI a21), (dI a22), (dY a23), (dI a24), (.v (.sl 27 a25) .no), (.v (.bytes a26) (.own (.slot 0) 5)), (dI a27), (dY a28)]⟩)]]) n1 n2 b3 n4 b5 n7 n8 n9 n10 l11 n12 vs13 l14 n15 n16 b18 n19 n22 n23 n24 l25 n26 vs27 l28 n29 l30) (funext fun n1 => funext fun n2 => funext fun b3 => funext fun n4 => funext fun b5 => funext fun n7 => funext fun n8 => funext fun n9 => funext fun n10 => funext fun l11 => funext fun n12 => funext fun vs13 => funext fun l14 => funext fun n15 => funext fun n16 => funext fun b18 => funext fun n19 => funext fun n22 => funext fun n23 => funext fun n24 => funext fun l25 => funext fun n26 => funext fun vs27 => funext fun l28 => funext fun n29 => funext fun l30 => S_wRecovers_12_ok N vs0 n6 l17 n20 n21 K t n1 n2 b3 n4 b5 n7 n8 n9 n10 l11 n12 vs13 l14 n15 n16 b18 n19 n22 n23 n24 l25 n26 vs27 l28 n29 l30))
theorem s_wRecovers_ok (N : Nat) (x0 x1 x2 x3 : _) : bodyK (cx_wRecovers N) Try.f7 [dI x0, dI x1, dI x2, .v (.sl 70 x3) .no] [] r_valid = s_wRecovers N x0 x1 x2 x3 := by
  kernel_rfl
theorem co_wRecovers (N : Nat) : CxOK Try.prog (cx_wRecovers N) :=
  cxOK_of2 (es := [⟨22, e_sides (s_sides N)⟩, ⟨10, e_works (s_works N)⟩, ⟨40, e_disturbed (s_disturbed N)⟩]) (me := [⟨38, e_btw (s_btw N)⟩, ⟨39, e_wexch (s_wexch N)⟩]) (ms := []) T_ok ⟨eo_sides _ (p_sides N), eo_works _ (p_works N), eo_disturbed _ (p_disturbed N), trivial⟩ ⟨eo_btw _ (p_btw N), eo_wexch _ (p_wexch N), trivial⟩ trivial rfl (fun _ _ _ _ => rfl) (fun _ _ _ _ _ _ => rfl) rfl
theorem lk_wRecovers_4 (N : Nat) : LoopOK (cx_wRecovers N) 74 (loopN Try.f7 0) := by
  refine loopOK_of (rid := 4) (by kernel_rfl) rfl rfl fun R ds m K r h => ?_
  have h : l_wRecovers_4 N ds m K = some r := h
  unfold l_wRecovers_4 at h
  split at h
  . exact ⟨N, Eq.trans (S_wRecovers_4_ok ..) h⟩
  . cases h
theorem lk_wRecovers_12 (N : Nat) : LoopOK (cx_wRecovers N) 74 (loopN Try.f7 1) := by
  refine loopOK_of (rid := 12) (by kernel_rfl) rfl rfl fun R ds m K r h => ?_
  have h : l_wRecovers_12 N ds m K = some r := h
  unfold l_wRecovers_12 at h
  split at h
  . exact ⟨N, Eq.trans (S_wRecovers_12_ok ..) h⟩
  . cases h
theorem lo_wRecovers (N : Nat) : LoopsOK (cx_wRecovers N) Try.f7.ntmps (bodyOf Try.f7) :=
  loopsOK_of (k := 2) (by kernel_rfl) ⟨⟨trivial, lk_wRecovers_4 N⟩, lk_wRecovers_12 N⟩
theorem p_wRecovers (N : Nat) (x0 x1 x2 : Int) (x3 : List V) (r0 : Bool) (h : s_wRecovers N x0 x1 x2 x3 = some r0) : PureRet Try.prog T 7 [dI x0, dI x1, dI x2, .v (.sl 70 x3) .no] [dB r0] :=
  pure_of (cx := cx_wRecovers N) (by kernel_rfl) (co_wRecovers N) Try.func7 (by kernel_rfl) (by kernel_rfl) (lo_wRecovers N) rfl rfl rfl (rf := r_valid) ((s_wRecovers_ok ..).trans h) (fun rs' m h => by
    unfold r_valid at h
    split at h
    . cases h; exact ⟨rfl, rfl⟩
    . cases h)
end Go.Proofs.Ytilfphdeacogmaa.En

/- The printed functions, together. -/

/- Functions of the program in plain Lean, joined to the program by evaluation; printed by a program. -/
namespace Go.Proofs.Ytilfphdeacogmaa.En
open Go Go.Proofs
set_option maxRecDepth 100000
set_option maxHeartbeats 8000000
set_option linter.unusedVariables false
end Go.Proofs.Ytilfphdeacogmaa.En

/- The printed functions, together. -/

/- Chapter 08: the statements about a terminal that gives up, and about sides that are nil. -/
namespace Go.Proofs.Ytilfphdeacogmaa.En
open Go
set_option linter.unusedVariables false
section
variable (N : Nat)
end
end Go.Proofs.Ytilfphdeacogmaa.En

/- Chapter 08: the statements about exchanges. -/
namespace Go.Proofs.Ytilfphdeacogmaa.En
open Go
set_option linter.unusedVariables false
structure ExP where
  cmd : List UInt8
  resp : List UInt8
  links : List (Bool × Int)
  time : Int
def exV (x : ExP) : V := .agg [.bytes x.cmd, .bytes x.resp, .sl 110 (lnkE x.links), .int .i64 x.time]
def exE (l : List ExP) : List V := l.map exV
theorem ex_read {R : Type} (x : ExP) (K : List UInt8 -> List UInt8 -> List V -> Int -> Option R) : ((exV x).unAgg fun l1 => unCons l1 fun x2 l3 => x2.unBytes fun l4 => unCons l3 fun x5 l6 => x5.unBytes fun l7 => unCons l6 fun x8 l9 => V.unSl 110 x8 fun l10 => unCons l9 fun x11 l12 => V.unInt .i64 x11 fun n13 => unNil l12 (K l4 l7 l10 n13)) = K x.cmd x.resp (lnkE x.links) x.time := rfl
section
variable (N : Nat)
set_option maxHeartbeats 8000000 in
theorem perf_loop (hN : 6000 < N) : ∀ (l : List ExP) (pre : List V) (t : Nat) (T : Tm) (c : Cd) (a0 : Int) (a1 : Bool) (a2 : Int) (a3 : Bool), Rest T c -> l.length < t -> pre.length + l.length <= 1000 ->
    S_wPerfect_7 N (pre ++ exE l) T.s.sum (offB T) c.s.sum c.s.own t (pre.length : Int) a0 a1 a2 a3 T.s.own T.s.other T.s.expect T.s.next (sentB T.s) T.s.sent.seq (pcs T.s.pieces) T.s.inn T.state T.fails T.done T.cause c.s.other c.s.expect c.s.next (sentB c.s) c.s.sent.seq (pcs c.s.pieces) c.s.inn c.state (askB c) (fun b _ _ _ _ _ _ _ _ _ _ _ _ _ _ _ _ _ _ _ _ _ _ _ _ _ => some b) (fun _ _ _ _ _ _ _ _ _ _ _ _ _ _ _ _ _ _ _ _ _ _ _ _ _ => bnd1 (s_works N) fun b => some b) = some true
  | l, pre, 0, T, c, _, _, _, _, _, ht, _ => by omega
  | [], pre, t + 1, T, c, _, _, _, _, _, _, _ => by
    have : ¬ ((pre.length : Int) < ((pre ++ exE []).length : Int)) := by simp [exE]
    unfold S_wPerfect_7 F_wPerfect_7
    rw [br_dec, if_neg this, works_eq N (by omega)]
    rfl
  | x :: l, pre, t + 1, T, c, a0, a1, a2, a3, hr, ht, hl => by
    simp only [List.length_cons] at ht hl
    have e : pre ++ exE (x :: l) = (pre ++ [exV x]) ++ exE l := by simp [exE]
    have h1 : (pre.length : Int) < ((pre ++ exE (x :: l)).length : Int) := by simp [exE]; omega
    have h1' : (0 : Int) <= (pre.length : Int) := by omega
    have hn : ((pre.length : Int)).toNat = pre.length := by omega
    have h2 : ∀ {α : Type} (K : V -> Option α), at? (pre ++ exE (x :: l)) pre.length K = K (exV x) := fun K => at_mid pre (exV x) (exE l) K
    have h3 : IntKind.i64.wrap ((pre.length : Int) + 1) = (((pre ++ [exV x]).length : Nat) : Int) := by rw [w64 (by omega) (by omega)]; simp
    unfold S_wPerfect_7 F_wPerfect_7
    simp only [h1, h1', hn, h2, ex_read, decide_true, Bool.and_self, br_t]
    rw [br_dec]
    by_cases hc : 600 < (x.cmd.length : Int)
    . rw [if_pos hc, works_eq N (by omega)]; rfl
    rw [if_neg hc, br_dec]
    by_cases hp : 600 < (x.resp.length : Int)
    . rw [if_pos hp, works_eq N (by omega)]; rfl
    rw [if_neg hp]
    obtain ⟨T', K', n', f1, f2, f3, f4, f5, f6⟩ := wexch_eq N hr (cmd := x.cmd) (resp := x.resp) x.time [] (by omega) (by omega) hN (by decide) a0 a1 a2 a3
    rw [show (lnkE [] : List V) = [] from rfl] at f6
    rw [f6, bnd26_mk, br_not, br_t, h3, e]
    have IH := perf_loop hN l (pre ++ [exV x]) t T' K'.c (n' : Int) K'.asked K'.times K'.right f1 (by omega) (by simp; omega)
    rw [f2, f3, f4, f5] at IH
    exact IH
set_option maxHeartbeats 8000000 in
theorem rec_loop (hN : 6000 < N) : ∀ (l : List ExP) (pre : List V) (t : Nat) (T : Tm) (c : Cd) (a0 : Int) (a1 : Bool) (a2 : Int) (a3 : Bool), Rest T c -> (∀ x ∈ l, x.cmd.length <= 600 /\ x.resp.length <= 600 /\ dis x.links <= 4) -> l.length < t -> pre.length + l.length <= 1000 ->
    S_wRecovers_12 N (pre ++ exE l) T.s.sum (offB T) c.s.sum c.s.own t (pre.length : Int) a0 a1 a2 a3 T.s.own T.s.other T.s.expect T.s.next (sentB T.s) T.s.sent.seq (pcs T.s.pieces) T.s.inn T.state T.fails T.done T.cause c.s.other c.s.expect c.s.next (sentB c.s) c.s.sent.seq (pcs c.s.pieces) c.s.inn c.state (askB c) (fun b _ _ _ _ _ _ _ _ _ _ _ _ _ _ _ _ _ _ _ _ _ _ _ _ _ => some b) (fun _ _ _ _ _ _ _ _ _ _ _ _ _ _ _ _ _ _ _ _ _ _ _ _ _ => bnd1 (s_works N) fun b => some b) = some true
  | l, pre, 0, T, c, _, _, _, _, _, _, ht, _ => by omega
  | [], pre, t + 1, T, c, _, _, _, _, _, _, _, _ => by
    have : ¬ ((pre.length : Int) < ((pre ++ exE []).length : Int)) := by simp [exE]
    unfold S_wRecovers_12 F_wRecovers_12
    rw [br_dec, if_neg this, works_eq N (by omega)]
    rfl
  | x :: l, pre, t + 1, T, c, a0, a1, a2, a3, hr, hb, ht, hl => by
    simp only [List.length_cons] at ht hl
    have e : pre ++ exE (x :: l) = (pre ++ [exV x]) ++ exE l := by simp [exE]
    have h1 : (pre.length : Int) < ((pre ++ exE (x :: l)).length : Int) := by simp [exE]; omega
    have h1' : (0 : Int) <= (pre.length : Int) := by omega
    have hn : ((pre.length : Int)).toNat = pre.length := by omega
    have h2 : ∀ {α : Type} (K : V -> Option α), at? (pre ++ exE (x :: l)) pre.length K = K (exV x) := fun K => at_mid pre (exV x) (exE l) K
    have h3 : IntKind.i64.wrap ((pre.length : Int) + 1) = (((pre ++ [exV x]).length : Nat) : Int) := by rw [w64 (by omega) (by omega)]; simp
    unfold S_wRecovers_12 F_wRecovers_12
    simp only [h1, h1', hn, h2, ex_read, decide_true, Bool.and_self, br_t]
    obtain ⟨b1, b2, b3⟩ := hb x (by simp)
    obtain ⟨T', K', n', f1, f2, f3, f4, f5, f6⟩ := wexch_eq N hr (cmd := x.cmd) (resp := x.resp) x.time x.links b1 b2 hN b3 a0 a1 a2 a3
    rw [f6, bnd26_mk, br_not, br_t, h3, e]
    have IH := rec_loop hN l (pre ++ [exV x]) t T' K'.c (n' : Int) K'.asked K'.times K'.right f1 (fun y hy => hb y (by simp [hy])) (by omega) (by simp; omega)
    rw [f2, f3, f4, f5] at IH
    exact IH
theorem wPerfect_eq (hN : 6000 < N) (card terminal sum : Int) (l : List ExP) : s_wPerfect N card terminal sum (exE l) = some true := by
  unfold s_wPerfect
  have hl : (exE l).length = l.length := List.length_map _
  rw [br_dec, hl]
  by_cases h6 : 6 < (l.length : Int)
  . rw [if_pos h6, works_eq N (by omega)]; rfl
  rw [if_neg h6, sides_eq, bnd1_mk, br_not]
  cases hs : sideB card sum with
  | false => rw [br_f, works_eq N (by omega)]; rfl
  | true =>
    obtain ⟨T, c, hr, hb⟩ := btw_eq N terminal hs
    rw [br_t, hb, bnd26_mk, br_t]
    exact perf_loop N hN l [] N T c 0 false 0 false hr (by omega) (by simp; omega)
set_option maxHeartbeats 8000000 in
theorem chk_loop {R : Type} (x0 x1 x2 : Int) (hN : 9223372036854775807 + 6000 < N) (K0 : Bool -> Option R) (K1 : Option R) : ∀ (l : List ExP) (pre : List V) (t : Nat), (∀ x ∈ l, x.links.length <= 9223372036854775807) -> l.length < t -> pre.length + l.length <= 1000 ->
    S_wRecovers_4 N x0 x1 x2 (pre ++ exE l) t (pre.length : Int) K0 K1 = K0 true ∨ (S_wRecovers_4 N x0 x1 x2 (pre ++ exE l) t (pre.length : Int) K0 K1 = K1 /\ ∀ x ∈ l, x.cmd.length <= 600 /\ x.resp.length <= 600 /\ dis x.links <= 4)
  | l, pre, 0, _, ht, _ => by omega
  | [], pre, t + 1, _, _, _ => by
    have : ¬ ((pre.length : Int) < ((pre ++ exE []).length : Int)) := by simp [exE]
    unfold S_wRecovers_4 F_wRecovers_4
    rw [br_dec, if_neg this]
    exact .inr ⟨rfl, by simp⟩
  | x :: l, pre, t + 1, hx, ht, hl => by
    simp only [List.length_cons] at ht hl
    have e : pre ++ exE (x :: l) = (pre ++ [exV x]) ++ exE l := by simp [exE]
    have h1 : (pre.length : Int) < ((pre ++ exE (x :: l)).length : Int) := by simp [exE]; omega
    have h1' : (0 : Int) <= (pre.length : Int) := by omega
    have hn : ((pre.length : Int)).toNat = pre.length := by omega
    have h2 : ∀ {α : Type} (K : V -> Option α), at? (pre ++ exE (x :: l)) pre.length K = K (exV x) := fun K => at_mid pre (exV x) (exE l) K
    have h3 : IntKind.i64.wrap ((pre.length : Int) + 1) = (((pre ++ [exV x]).length : Nat) : Int) := by rw [w64 (by omega) (by omega)]; simp
    unfold S_wRecovers_4 F_wRecovers_4
    simp only [h1, h1', hn, h2, ex_read, decide_true, Bool.and_self, br_t]
    have hw := works_eq N (by omega)
    obtain ⟨r, d1, d2⟩ := dist_eq N x.links (hx x (by simp)) (by have := hx x (by simp); omega)
    rw [br_dec]
    by_cases hc : 600 < (x.cmd.length : Int)
    . rw [if_pos hc, hw]; exact .inl rfl
    rw [if_neg hc, br_dec]
    by_cases hp : 600 < (x.resp.length : Int)
    . rw [if_pos hp, hw]; exact .inl rfl
    rw [if_neg hp, d1, bnd1_mk, br_dec]
    by_cases hd : 4 < r
    . rw [if_pos hd, hw]; exact .inl rfl
    rw [if_neg hd, h3, e]
    rcases chk_loop x0 x1 x2 hN K0 K1 l (pre ++ [exV x]) t (fun y hy => hx y (by simp [hy])) (by omega) (by simp; omega) with g | ⟨g1, g2⟩
    . exact .inl g
    . refine .inr ⟨g1, fun y hy => ?_⟩
      rcases List.mem_cons.1 hy with rfl | hy
      . exact ⟨by omega, by omega, d2 (by omega)⟩
      . exact g2 y hy
theorem wRecovers_eq (hN : 9223372036854775807 + 6000 < N) (card terminal sum : Int) (l : List ExP) (hx : ∀ x ∈ l, x.links.length <= 9223372036854775807) : s_wRecovers N card terminal sum (exE l) = some true := by
  unfold s_wRecovers
  have hl : (exE l).length = l.length := List.length_map _
  rw [br_dec, hl]
  by_cases h6 : 6 < (l.length : Int)
  . rw [if_pos h6, works_eq N (by omega)]; rfl
  rw [if_neg h6, sides_eq, bnd1_mk, br_not]
  cases hs : sideB card sum with
  | false => rw [br_f, works_eq N (by omega)]; rfl
  | true =>
    obtain ⟨T, c, hr, hb⟩ := btw_eq N terminal hs
    rw [br_t, hb, bnd26_mk, br_t]
    rcases chk_loop N card terminal sum hN (fun b3 => some b3) _ l [] N hx (by omega) (by simp; omega) with g | ⟨g1, g2⟩
    . exact g
    . refine Eq.trans g1 ?_
      exact rec_loop N (by omega) l [] N T c 0 false 0 false hr g2 (by omega) (by simp; omega)
end
end Go.Proofs.Ytilfphdeacogmaa.En

/- The engine, part 2r: what an argument that came in reads as. No program in sight. -/
namespace Go.Proofs.Ytilfphdeacogmaa.En
open Go Go.RowKit
set_option linter.unusedVariables false
def immG (T : TypeId -> Option Ty) : G := { Γ := fun _ => .imm, J := fun _ _ => 0, sz := sizes T }
theorem stable_imm (T : TypeId -> Option Ty) (b o : Nat) : Stable (immG T) b o := trivial
def mkEl (row : Bool) (cs : List V) : V := match row with | true => .agg cs | false => cs.headD .nilI
def FitsFs (F : TypeId -> List V -> Prop) : List Field -> List V -> Prop
  | [], xs => xs = []
  | f :: fs, xs => ∃ a r, xs = a ++ r /\ F f.type a /\ FitsFs F fs r
def Fits (T : TypeId -> Option Ty) : Nat -> TypeId -> List V -> Prop
  | 0, _, _ => False
  | n + 1, t, xs => match T t with
    | none => False
    | some ty => match ty.desc with
      | .bool => ∃ b, xs = [.bool b]
      | .int k => ∃ i, xs = [.int k i] /\ k.min <= i /\ i <= k.max
      | .string => ∃ s, xs = [.str s] /\ s.length <= maxLen
      | .slice e => match ty.cks with
        | [.bytes _] => ∃ s, xs = [.bytes s] /\ s.length <= maxLen
        | [.slc e'] => e' = e /\ ∃ ys, xs = [.sl e ys] /\ ys.length <= maxLen /\ ∀ y ∈ ys, ∃ te cs, T e = some te /\ y = mkEl te.row cs /\ Fits T n e cs
        | _ => False
      | .struct fs => FitsFs (Fits T n) fs.toList xs
      | _ => False
def readable (T : TypeId -> Option Ty) (t : TypeId) : Bool :=
  match T t with
  | none => false
  | some ty => match ty.desc with
    | .bool => true
    | .int _ => true
    | .string => true
    | .slice e => (match T e with
      | none => false
      | some te => (match ty.cks with
        | [.bytes _] => (match te.desc with | .int .u8 => Nat.beq te.size 1 | _ => false)
        | [.slc e'] => Nat.beq e' e && Nat.ble 1 te.size && (match te.row with | true => true | false => Nat.beq te.size 1)
        | _ => false))
    | .struct fs => contigT T ty.size 0 fs.toList && fs.toList.all (fun f => match T f.type with | some _ => true | none => false)
    | _ => false
def closedT (T : TypeId -> Option Ty) (l : List TypeId) : Bool :=
  l.all fun t => readable T t && (match T t with
    | none => false
    | some ty => match ty.desc with
      | .slice e => l.any (Nat.beq e)
      | .struct fs => fs.toList.all fun f => l.any (Nat.beq f.type)
      | _ => true)
section
variable {H : Type} {enc : TypeId × Value -> H} {P : Program} {T : TypeId -> Option Ty} {w : World} {base : Nat} {spare : Nat -> Bool} {held : Bool}
structure RepC (T : TypeId -> Option Ty) (w : World) (xs : List V) (cs : List Value) : Prop where
  len : xs.length = cs.length
  one : ∀ x ∈ xs, x.one = true
  rep : ∀ (k : Nat) y, xs[k]? = some y -> RepV (immG T) w y (cs.getD k undef)
theorem RepC.single {x : V} {v : Value} (h1 : x.one = true) (h : RepV (immG T) w x v) : RepC T w [x] [v] :=
  ⟨rfl, fun y hy => by simp at hy; subst hy; exact h1, fun k y hk => by
    rcases k with _ | k
    . simp at hk; subst hk; simpa using h
    . simp at hk⟩
theorem RepC.append {xs ys : List V} {cs ds : List Value} (h : RepC T w xs cs) (k : RepC T w ys ds) : RepC T w (xs ++ ys) (cs ++ ds) := by
  refine ⟨by simp [h.len, k.len], fun x hx => ?_, fun i y hy => ?_⟩
  . rcases List.mem_append.1 hx with hx | hx
    . exact h.one x hx
    . exact k.one x hx
  . rcases Nat.lt_or_ge i xs.length with hl | hl
    . rw [List.getElem?_append_left hl] at hy
      have := h.rep i y hy
      rw [List.getD_eq_getElem?_getD, List.getElem?_append_left (by rw [← h.len]; exact hl), ← List.getD_eq_getElem?_getD]
      exact this
    . rw [List.getElem?_append_right hl] at hy
      have := k.rep _ y hy
      rw [List.getD_eq_getElem?_getD, List.getElem?_append_right (by rw [← h.len]; exact hl), ← h.len, ← List.getD_eq_getElem?_getD]
      exact this
theorem cellsOf_eq (hT : TypesOK P T) {t : TypeId} {ty : Ty} (h : T t = some ty) : P.cellsOf t = ty.size := by
  obtain ⟨i, h1, _, h2, _⟩ := (hT t ty h).info
  simp [Program.cellsOf, h1, h2]
theorem sizes_eq {t : TypeId} {ty : Ty} (h : T t = some ty) : sizes T t = ty.size := by unfold sizes; rw [h]
theorem add_none (b off i : Nat) : (⟨b, off, none⟩ : Addr).add i = ⟨b, off + i, none⟩ := by
  unfold Addr.add
  by_cases h0 : i = 0
  . subst h0; rfl
  . rw [if_neg h0]
theorem spot_row {a : Addr} {n k : Nat} {cs : List Value} (h : w.cells? base (a.add (0 * n)) k = some cs) (hk : 0 < k) : a.spot = none := by
  obtain ⟨_, hl, h5⟩ := World.cells?_some h
  have h6 := h5 0 hk
  rw [List.getElem?_eq_getElem (by omega)] at h6
  have := World.cell?_spot h6
  simpa [Addr.add] using this
theorem mkEl_cells {row : Bool} {cs : List V} (ho : ∀ x ∈ cs, x.one = true) (h : row = false -> cs.length = 1) : (mkEl row cs).cells = cs := by
  cases row with
  | true => rfl
  | false =>
    have := h rfl
    match cs, this with
    | [x], _ =>
      have := ho x (by simp)
      show V.cells x = [x]
      cases x <;> first | rfl | cases this
theorem okEl_mk {row : Bool} {cs : List V} {n : Nat} (hl : cs.length = n) (ho : ∀ x ∈ cs, x.one = true) (h : row = false -> cs.length = 1) : okEl n (mkEl row cs) = true := by
  unfold okEl
  rw [mkEl_cells ho h]
  simp only [Bool.and_eq_true, beq_iff_eq, List.all_eq_true]
  exact ⟨hl, ho⟩
theorem flatT_get {α : Type} {n : Nat} : ∀ (l : List (List α)) (i j : Nat) (c : List α), (∀ c ∈ l, c.length = n) -> l[i]? = some c -> j < n -> l.flatten[i * n + j]? = c[j]?
  | [], i, j, c, _, h, _ => by simp at h
  | d :: l, 0, j, c, hl, h, hj => by
    simp at h; subst h
    have := hl d (by simp)
    rw [List.flatten_cons, Nat.zero_mul, Nat.zero_add, List.getElem?_append_left (by omega)]
  | d :: l, i + 1, j, c, hl, h, hj => by
    have hd := hl d (by simp)
    rw [List.flatten_cons, Nat.succ_mul, List.getElem?_append_right (by omega)]
    rw [show i * n + n + j - d.length = i * n + j by omega]
    exact flatT_get l i j c (fun c hc => hl c (by simp [hc])) (by simpa using h) hj
theorem flatT_len {α : Type} {n : Nat} : ∀ (l : List (List α)), (∀ c ∈ l, c.length = n) -> l.flatten.length = l.length * n
  | [], _ => by simp
  | d :: l, h => by
    rw [List.flatten_cons, List.length_append, h d (by simp), flatT_len l fun c hc => h c (by simp [hc]), List.length_cons, Nat.succ_mul]; omega
theorem choose_list {α : Type} {p : Nat -> α -> Prop} : ∀ (n : Nat), (∀ i, i < n -> ∃ a, p i a) -> ∃ l : List α, l.length = n /\ ∀ (i : Nat) a, l[i]? = some a -> p i a
  | 0, _ => ⟨[], rfl, fun i a h => by simp at h⟩
  | n + 1, h => by
    obtain ⟨l, h1, h2⟩ := choose_list n fun i hi => h i (by omega)
    obtain ⟨a, ha⟩ := h n (by omega)
    refine ⟨l ++ [a], by simp [h1], fun i b hb => ?_⟩
    rcases Nat.lt_or_ge i l.length with hl | hl
    . rw [List.getElem?_append_left hl] at hb; exact h2 i b hb
    . rw [List.getElem?_append_right hl] at hb
      have : i = n := by
        have := (List.getElem?_eq_some_iff.1 hb).1
        simp at this; omega
      subst this
      rw [h1] at hb
      simp at hb
      subst hb; exact ha
theorem trod_rep (hT : TypesOK P T) {l : List TypeId} (hl : closedT T l = true) : ∀ (fuel : Nat) (t : TypeId) (cs : List Value) (x : DataW H × List MemPlace), t ∈ l -> DataW.trod enc P w base spare held fuel t cs = some x ->
    ∃ xs, RepC T w xs cs /\ Fits T fuel t xs /\ ∀ ty, T t = some ty -> cs.length = ty.size
  | 0, t, cs, x, _, h => by simp [DataW.trod] at h
  | n + 1, t, cs, x, hm, h => by
    have hcl := List.all_eq_true.1 hl t hm
    simp only [Bool.and_eq_true] at hcl
    obtain ⟨hre, hlead⟩ := hcl
    unfold Fits
    unfold readable at hre
    cases hTt : T t with
    | none => rw [hTt] at hre; simp at hre
    | some ty =>
    rw [hTt] at hre hlead
    simp only at hre hlead ⊢
    have hd := (hT t ty hTt).desc
    have h1c : ty.row = false -> ty.size = 1 := (hT t ty hTt).one
    cases hdesc : ty.desc <;> rw [hdesc] at hre hlead hd <;> simp only [Bool.false_eq_true] at hre hlead ⊢
    . obtain ⟨b, rfl, _⟩ := DataW.trod_bool hd h
      exact ⟨[.bool b], .single rfl (.bool b), ⟨b, rfl⟩, fun ty' e => by cases e; rw [h1c (by simp [Ty.row, hdesc])]; rfl⟩
    . rename_i k
      obtain ⟨i, rfl, _, hwf⟩ := DataW.trod_int hd h
      have hb : k.min <= i /\ i <= k.max := by simpa [Lit.wf] using hwf
      exact ⟨[.int k i], .single rfl (.int k i hb), ⟨i, rfl, hb⟩, fun ty' e => by cases e; rw [h1c (by simp [Ty.row, hdesc])]; rfl⟩
    . obtain ⟨s, rfl, _, hs⟩ := DataW.trod_string hd h
      have e : s = ⟨s.data.toList.toArray⟩ := by cases s; simp
      have hsl : s.data.toList.length = s.size := by cases s; rfl
      refine ⟨[.str s.data.toList], .single rfl ?_, ⟨_, rfl, by rw [hsl]; exact hs⟩, fun ty' e => by cases e; rw [h1c (by simp [Ty.row, hdesc])]; rfl⟩
      have := RepV.str (g := immG T) (w := w) s.data.toList (by rw [hsl]; unfold maxLen at hs; omega)
      rwa [← e] at this
    . rename_i e
      cases hTe : T e with
      | none => rw [hTe] at hre; simp at hre
      | some te =>
      rw [hTe] at hre
      simp only at hre
      have hsz := cellsOf_eq hT hTe
      have hmem : e ∈ l := by
        obtain ⟨z, hz, hb⟩ := List.any_eq_true.1 hlead
        have := Nat.eq_of_beq_eq_true hb
        subst this; exact hz
      have hsize : ∀ ty', some ty = some ty' -> ∀ v : Value, [v].length = ty'.size := fun ty' e v => by cases e; rw [h1c (by simp [Ty.row, hdesc])]; rfl
      split at hre
      . rename_i e0 hcks
        split at hre
        . rename_i hte
          have hte1 := Nat.eq_of_beq_eq_true hre
          rw [hte1] at hsz
          have hde := (hT e te hTe).desc
          rw [hte] at hde
          rcases DataW.trod_slice hd h with ⟨rfl, _⟩ | ⟨a, len, cap, elems, rest, m, e1, rfl, _, hb, hlc, hcm, hel, hget, _, _⟩
          . exact ⟨[.bytes []], .single rfl (.bytes [] none 0 0 rfl (Nat.le_refl _) (by simp) (fun k x hx => by simp at hx)), ⟨[], rfl, by simp⟩, fun ty' e => hsize ty' e _⟩
          . have key : ∀ i, i < len -> ∃ b : UInt8, ∃ bb off, a = ⟨bb, off, none⟩ /\ w.cell? ⟨bb, off + i, none⟩ = some (.int .u8 (b.toNat : Int)) := by
              intro i hi
              have h2 := hget i hi
              rw [List.getElem?_eq_getElem (by rw [hel]; exact hi), Option.bind_eq_some_iff] at h2
              obtain ⟨cs, h3, h4⟩ := h2
              obtain ⟨z, rfl, _, hwf⟩ := DataW.trod_int hde h4
              rw [hsz, Nat.mul_one] at h3
              obtain ⟨_, _, h5⟩ := World.cells?_some h3
              have h6 := h5 0 (by omega)
              simp at h6
              have hzr : 0 <= z /\ z <= 255 := by simpa [Lit.wf, IntKind.min, IntKind.max, IntKind.signed, IntKind.bits] using hwf
              have hspn : a.spot = none := by
                have h2 := hget 0 (by omega)
                rw [List.getElem?_eq_getElem (by omega), Option.bind_eq_some_iff] at h2
                obtain ⟨cs, h3, _⟩ := h2
                exact spot_row h3 (by omega)
              obtain ⟨bb, off, sp⟩ := a
              simp only at hspn
              subst hspn
              refine ⟨UInt8.ofNat z.toNat, bb, off, rfl, ?_⟩
              rw [add_none] at h6
              have hz2 : (off + i + 0) = off + i := rfl
              rw [show ((UInt8.ofNat z.toNat).toNat : Int) = z by rw [UInt8.toNat_ofNat', Nat.mod_eq_of_lt (by omega)]; omega]
              simpa [Addr.add] using h6
            obtain ⟨bs, b1, b2⟩ := choose_list len key
            refine ⟨[.bytes bs], .single rfl (.bytes bs (some a) len cap b1 hlc hcm fun k x hx => ?_), ⟨bs, rfl, by omega⟩, fun ty' e => hsize ty' e _⟩
            obtain ⟨bb, off, c1, c2⟩ := b2 k x hx
            exact ⟨bb, off, by rw [c1], stable_imm T _ _, c2⟩
        . cases hre
      . rename_i e0 hcks
        simp only [Bool.and_eq_true] at hre
        obtain ⟨⟨he0, hte1⟩, hrow⟩ := hre
        have he0 := Nat.eq_of_beq_eq_true he0
        have hte1 := Nat.le_of_ble_eq_true hte1
        have hrow1 : te.row = false -> te.size = 1 := (hT e te hTe).one
        have hszs : (immG T).sz e = te.size := sizes_eq hTe
        rcases DataW.trod_slice hd h with ⟨rfl, _⟩ | ⟨a, len, cap, elems, rest, m, e1, rfl, _, hb, hlc, hcm, hel, hget, _, _⟩
        . exact ⟨[.sl e []], .single rfl (.sl e [] none 0 0 (fun _ => undef) rfl (Nat.le_refl _) (by simp) (by simp) (fun k y hy => by simp at hy) (fun k y hy => by simp at hy)), ⟨he0, [], rfl, by simp, by simp⟩, fun ty' e => hsize ty' e _⟩
        . obtain rfl : n = m := by omega
          have key : ∀ i, i < len -> ∃ p : List V × List Value, RepC T w p.1 p.2 /\ Fits T n e p.1 /\ p.2.length = te.size /\ ∃ bb off, a = ⟨bb, off, none⟩ /\ ∀ j, j < te.size -> w.cell? ⟨bb, off + (i * te.size + j), none⟩ = some (p.2.getD j undef) := by
            intro i hi
            have h2 := hget i hi
            rw [List.getElem?_eq_getElem (by rw [hel]; exact hi), Option.bind_eq_some_iff] at h2
            obtain ⟨cs, h3, h4⟩ := h2
            obtain ⟨xs, c1, c2, c3⟩ := trod_rep hT hl n e cs _ hmem h4
            have c3 := c3 te hTe
            rw [hsz] at h3
            obtain ⟨_, _, h5⟩ := World.cells?_some h3
            have hspn : a.spot = none := by
              have h2 := hget 0 (by omega)
              rw [List.getElem?_eq_getElem (by omega), Option.bind_eq_some_iff] at h2
              obtain ⟨cs, h3, _⟩ := h2
              exact spot_row h3 (by omega)
            obtain ⟨bb, off, sp⟩ := a
            simp only at hspn
            subst hspn
            refine ⟨(xs, cs), c1, c2, c3, bb, off, rfl, fun j hj => ?_⟩
            have h7 := h5 j hj
            rw [add_none, add_none, Nat.add_assoc] at h7
            rw [h7, List.getD_eq_getElem?_getD]
            show cs[j]? = some (cs[j]?.getD undef)
            rw [List.getElem?_eq_getElem (by omega)]; rfl
          obtain ⟨ps, b1, b2⟩ := choose_list len key
          have hxl : ∀ p ∈ ps, p.1.length = te.size /\ ∀ x ∈ p.1, x.one = true := by
            intro p hp
            obtain ⟨i, hi⟩ := List.getElem?_of_mem hp
            obtain ⟨c1, _, c3, _⟩ := b2 i p hi
            exact ⟨by rw [c1.len, c3], c1.one⟩
          have hcells : ∀ p ∈ ps, (mkEl te.row p.1).cells = p.1 := fun p hp => mkEl_cells (hxl p hp).2 fun hr => by rw [(hxl p hp).1, hrow1 hr]
          have hflat : (ps.map fun p => mkEl te.row p.1).flatMap V.cells = (ps.map (·.1)).flatten := by
            rw [List.flatMap_def, List.map_map]
            congr 1
            exact List.map_congr_left fun p hp => hcells p hp
          have hall : ∀ c ∈ ps.map (·.1), c.length = te.size := fun c hc => by
            obtain ⟨p, hp, rfl⟩ := List.mem_map.1 hc
            exact (hxl p hp).1
          have hlook : ∀ (k : Nat) (y : V), ((ps.map fun p => mkEl te.row p.1).flatMap V.cells)[k]? = some y -> ∃ i j p, k = i * te.size + j /\ j < te.size /\ ps[i]? = some p /\ p.1[j]? = some y := by
            intro k y hk
            rw [hflat] at hk
            have hk1 := (List.getElem?_eq_some_iff.1 hk).1
            rw [flatT_len _ hall, List.length_map, b1] at hk1
            have hpos : 0 < te.size := by omega
            have hi : k / te.size < len := (Nat.div_lt_iff_lt_mul hpos).2 hk1
            have hj : k % te.size < te.size := Nat.mod_lt _ hpos
            have hkk : k = k / te.size * te.size + k % te.size := by rw [Nat.mul_comm]; exact (Nat.div_add_mod k te.size).symm
            have hp : ps[k / te.size]? = some (ps[k / te.size]'(by omega)) := List.getElem?_eq_getElem (by omega)
            refine ⟨k / te.size, k % te.size, _, hkk, hj, hp, ?_⟩
            rw [hkk] at hk
            rw [flatT_get _ _ _ _ hall (by rw [List.getElem?_map, hp]; rfl) hj] at hk
            exact hk
          refine ⟨[.sl e (ps.map fun p => mkEl te.row p.1)], .single rfl (.sl e _ (some a) len cap (fun k => ((ps.map (·.2)).flatten).getD k undef) (by simp [b1]) hlc hcm (fun x hx => ?_) (fun k y hk => ?_) (fun k y hk => ?_)), ⟨he0, _, rfl, by simp [b1]; omega, fun y hy => ?_⟩, fun ty' e => hsize ty' e _⟩
          . obtain ⟨p, hp, rfl⟩ := List.mem_map.1 hx
            rw [hszs]
            exact okEl_mk (hxl p hp).1 (hxl p hp).2 fun hr => by rw [(hxl p hp).1, hrow1 hr]
          . obtain ⟨i, j, p, rfl, hj, hp, hy⟩ := hlook k y hk
            obtain ⟨_, _, c3, bb, off, c4, c5⟩ := b2 i p hp
            refine ⟨bb, off, by rw [c4], stable_imm T _ _, ?_⟩
            rw [c5 j hj]
            have : (ps.map (·.2)).flatten[i * te.size + j]? = p.2[j]? := flatT_get _ _ _ _ (fun c hc => by
              obtain ⟨q, hq, rfl⟩ := List.mem_map.1 hc
              obtain ⟨i', hi'⟩ := List.getElem?_of_mem hq
              exact (b2 i' q hi').2.2.1) (by rw [List.getElem?_map, hp]; rfl) hj
            rw [List.getD_eq_getElem?_getD, List.getD_eq_getElem?_getD, this]
          . obtain ⟨i, j, p, rfl, hj, hp, hy⟩ := hlook k y hk
            obtain ⟨c1, _, c3, _⟩ := b2 i p hp
            have : (ps.map (·.2)).flatten[i * te.size + j]? = p.2[j]? := flatT_get _ _ _ _ (fun c hc => by
              obtain ⟨q, hq, rfl⟩ := List.mem_map.1 hc
              obtain ⟨i', hi'⟩ := List.getElem?_of_mem hq
              exact (b2 i' q hi').2.2.1) (by rw [List.getElem?_map, hp]; rfl) hj
            have := c1.rep j y hy
            rw [List.getD_eq_getElem?_getD] at this ⊢
            rwa [‹(ps.map (·.2)).flatten[i * te.size + j]? = p.2[j]?›]
          . obtain ⟨p, hp, rfl⟩ := List.mem_map.1 hy
            obtain ⟨i, hi⟩ := List.getElem?_of_mem hp
            exact ⟨te, p.1, rfl, rfl, (b2 i p hi).2.1⟩
      . cases hre
    . rename_i fs
      simp only [Bool.and_eq_true] at hre
      obtain ⟨hco, hfa⟩ := hre
      obtain ⟨ys, m, e1, _, hlen, _, hg⟩ := DataW.trod_struct hd h
      obtain rfl : n = m := by omega
      rw [cellsOf_eq hT hTt] at hlen
      have main : ∀ (l' : List Field) (i off : Nat), fs.toList.drop i = l' -> contigT T ty.size off l' = true -> off <= ty.size -> ∃ xs, RepC T w xs (cs.drop off) /\ FitsFs (Fits T n) l' xs := by
        intro l'
        induction l' with
        | nil =>
          intro i off hdr hc ho
          have := Nat.eq_of_beq_eq_true hc
          refine ⟨[], ⟨by simp; omega, by simp, by simp⟩, rfl⟩
        | cons f l' ih =>
          intro i off hdr hc ho
          simp only [contigT, Bool.and_eq_true] at hc
          obtain ⟨hc1, hc2⟩ := hc
          have hc1 := Nat.eq_of_beq_eq_true hc1
          have hfi : fs.toList[i]? = some f := by
            have : (fs.toList.drop i)[0]? = some f := by rw [hdr]; rfl
            simpa using this
          have hfm : f ∈ fs.toList := List.mem_of_getElem? hfi
          have h1 := List.all_eq_true.1 hfa f hfm
          have hfl : f.type ∈ l := by
            have := List.all_eq_true.1 hlead f hfm
            obtain ⟨z, hz, hb⟩ := List.any_eq_true.1 this
            have := Nat.eq_of_beq_eq_true hb
            rw [this]; exact hz
          cases hTf : T f.type with
          | none => rw [hTf] at h1; simp at h1
          | some tf =>
          have h2 := hg i f (by simpa using hfi)
          rw [cellsOf_eq hT hTf, hc1] at h2
          have hle : off + tf.size <= ty.size := by
            have : ∀ (l' : List Field) (off : Nat), contigT T ty.size off l' = true -> off <= ty.size := by
              intro l'
              induction l' with
              | nil => intro off hc; have := Nat.eq_of_beq_eq_true hc; omega
              | cons f l' ih => intro off hc; simp only [contigT, Bool.and_eq_true] at hc; have := ih _ hc.2; omega
            have := this l' _ hc2
            rw [sizes_eq hTf] at this
            exact this
          have hys : i < ys.length := by
            cases hyi : ys[i]? with
            | none =>
              have hfi2 : i < fs.size := by
                have := (List.getElem?_eq_some_iff.1 hfi).1
                simpa using this
              have : ys.length = fs.size := by assumption
              rw [this]; exact hfi2
            | some y => exact (List.getElem?_eq_some_iff.1 hyi).1
          rw [List.getElem?_eq_getElem hys] at h2
          obtain ⟨xs, c1, c2, _⟩ := trod_rep hT hl n f.type _ _ hfl h2
          obtain ⟨rs, d1, d2⟩ := ih (i + 1) (off + sizes T f.type) (by rw [List.drop_add_one_eq_tail_drop, hdr]; rfl) hc2 (by rw [sizes_eq hTf]; exact hle)
          refine ⟨xs ++ rs, ?_, xs, rs, rfl, c2, d2⟩
          have := c1.append d1
          rw [sizes_eq hTf, ← List.drop_drop, List.take_append_drop] at this
          exact this
      obtain ⟨xs, c1, c2⟩ := main fs.toList 0 0 rfl hco (Nat.zero_le _)
      exact ⟨xs, by simpa using c1, c2, fun ty' e => by cases e; exact hlen⟩
theorem arg_rep (hT : TypesOK P T) {l : List TypeId} (hl : closedT T l = true) {t : TypeId} (ht : t ∈ l) {v : Value} {d : DataW H} {ps : List MemPlace} (hrow : ∀ ty, T t = some ty -> (ty.row = true -> ∃ cs, v = .agg cs) /\ (ty.row = false -> v.cells = #[v]))
    (hd : DataW.Trod enc P w base spare held t v d ps) : ∃ n x, Fits T n t (V.cells x) /\ RepV (immG T) w x v /\ ∀ ty, T t = some ty -> x = mkEl ty.row (V.cells x) := by
  obtain ⟨fuel, hf⟩ := hd
  obtain ⟨xs, h1, h2, h3⟩ := trod_rep hT hl fuel t _ _ ht hf
  cases hTt : T t with
  | none => cases fuel <;> simp [Fits, hTt] at h2
  | some ty =>
  have h3 := h3 ty hTt
  obtain ⟨r1, r2⟩ := hrow ty hTt
  cases hr : ty.row with
  | true =>
    obtain ⟨cs, rfl⟩ := r1 hr
    refine ⟨fuel, .agg xs, h2, .agg xs cs (by rw [h1.len]; rfl) fun k y hk => ?_, fun ty' e => by cases e; rw [hr]; rfl⟩
    have := h1.rep k y hk
    simpa [Value.cells, List.getD_eq_getElem?_getD, Array.getD_eq_getD_getElem?] using this
  | false =>
    have hv := r2 hr
    rw [hv] at h1 h3
    have hl1 := h1.len
    simp at hl1
    match xs, hl1 with
    | [x], _ =>
      have ho := h1.one x (by simp)
      have hc : V.cells x = [x] := by cases x <;> first | rfl | cases ho
      exact ⟨fuel, x, by rw [hc]; exact h2, by simpa using h1.rep 0 x rfl, fun ty' e => by cases e; rw [hr, hc]; rfl⟩
end
end Go.Proofs.Ytilfphdeacogmaa.En

/- The engine, part 2s: rows: arguments that came in, what a law's function leaves. -/
namespace Go.Proofs.Ytilfphdeacogmaa.En
open Go Go.RowKit Go.WideShapes
set_option linter.unusedVariables false
theorem own : ownKnob Try.prog.godebug = none := by kernel_rfl
theorem laidOut : laidOutB Try.prog = true := by kernel_rfl
section
variable {P : Program} {T : TypeId -> Option Ty} {f : FuncId} {w : World}
def noEnv : Env := { d := 0, dom := fun _ _ => False }
def Globs (w : World) : Prop := ∀ b ∈ globD, ∃ x, w.heap[b]? = some x /\ GlobV b x
theorem imm_sk (h : Globs w) : SzOK T (immG T) w := ⟨rfl, fun b hb => ⟨rfl, h b hb⟩⟩
theorem walk_of {ds : List D} (hp : PureRet P T f ds [.v (.bool true) .no]) {us : List Value} (hr : RepDs noEnv (immG T) w [] ds us) (hgl : Globs w := by intro _ h; cases h) :
    Calls P f us.toArray w fun e w' => e = .returned (.bool true) /\ Below w.heap.size w w' := by
  refine (hp noEnv (immG T) w us (imm_sk hgl) hr).mono ?_
  rintro e w' ⟨us', g', rfl, h1, h2⟩
  obtain ⟨l, hr'⟩ := h1 noEnv
  match us', l with
  | [u], _ =>
  have := hr' 0 _ rfl
  simp only [List.getD_cons_zero] at this
  cases this with
  | v x a v h ha =>
  cases h
  exact ⟨rfl, ⟨h2.grows.os, h2.grows.tape, h2.grows.output, h2.grows.size, h2.grows.old⟩⟩
theorem reps_nil : RepDs noEnv (immG T) w [] [] [] := ⟨rfl, fun k y h => by simp at h⟩
theorem reps_cons {d : D} {u : Value} {ds : List D} {us : List Value} (h : RepD noEnv (immG T) w [] d u) (hs : RepDs noEnv (immG T) w [] ds us) : RepDs noEnv (immG T) w [] (d :: ds) (u :: us) :=
  ⟨by simp [hs.1], fun k y hk => by
    rcases k with _ | k
    . simp at hk; subst hk; exact h
    . simpa using hs.2 k y (by simpa using hk)⟩
theorem rep_v {x : V} {u : Value} (h : RepV (immG T) w x u) : RepD noEnv (immG T) w [] (.v x .no) u := .v _ _ _ h trivial
variable {H : Type} {enc : TypeId × Value -> H} {base : Nat} {spare : Nat -> Bool} {held : Bool} {r : Reach} {b0 : Nat} {t : TypeId} {v : Value} {d : DataW H} {ps : List MemPlace} {l : List TypeId}
theorem row_of (hT : TypesOK P T) {desc : TypeDesc} (ht : P.underlying t = some desc) {ty : Ty} (h : T t = some ty) : ty.desc = desc := by
  have := (hT t ty h).desc
  rw [ht] at this
  injection this with this
  exact this.symm
theorem cells_self {x : V} (h : x = mkEl false (V.cells x)) : V.cells x = [x] := by
  cases x with
  | agg cs =>
    exfalso
    simp only [V.cells, mkEl] at h
    cases cs with
    | nil => simp at h
    | cons c r =>
      have h' : V.agg (c :: r) = c := h
      have : _root_.SizeOf.sizeOf (V.agg (c :: r)) = _root_.SizeOf.sizeOf c := by rw [h']
      simp at this
      omega
  | _ => rfl
theorem fits_self (hT : TypesOK P T) {desc : TypeDesc} (ht : P.underlying t = some desc) (hnr : ∀ ty : Ty, ty.desc = desc -> ty.row = false) {n : Nat} {x : V} (h1 : Fits T n t (V.cells x)) (h3 : ∀ ty, T t = some ty -> x = mkEl ty.row (V.cells x)) : Fits T n t [x] := by
  cases hTt : T t with
  | none => cases n <;> simp [Fits, hTt] at h1
  | some ty =>
    have := h3 ty hTt
    rw [hnr ty (row_of hT ht hTt)] at this
    rw [← cells_self this]; exact h1
theorem arg_slice (hT : TypesOK P T) (hl : closedT T l = true) (hm : t ∈ l) {e : TypeId} (ht : P.underlying t = some (.slice e)) (hv : Value.okWide P w r b0 t v) (hd : DataW.Trod enc P w base spare held t v d ps) :
    ∃ n x, Fits T n t [x] /\ RepV (immG T) w x v := by
  obtain ⟨A, n, c, rfl⟩ := okWide_slice ht hv
  obtain ⟨n, x, h1, h2, h3⟩ := arg_rep hT hl hm (fun ty hty => ⟨fun hr => (by rw [Ty.row, row_of hT ht hty] at hr; cases hr), fun _ => rfl⟩) hd
  exact ⟨n, x, fits_self hT ht (fun ty e => by rw [Ty.row, e]) h1 h3, h2⟩
theorem arg_int (hT : TypesOK P T) (hl : closedT T l = true) (hm : t ∈ l) {k : IntKind} (ht : P.underlying t = some (.int k)) (hv : Value.okWide P w r b0 t v) (hd : DataW.Trod enc P w base spare held t v d ps) :
    ∃ n x, Fits T n t [x] /\ RepV (immG T) w x v := by
  obtain ⟨i, rfl⟩ := okWide_int ht hv
  obtain ⟨n, x, h1, h2, h3⟩ := arg_rep hT hl hm (fun ty hty => ⟨fun hr => (by rw [Ty.row, row_of hT ht hty] at hr; cases hr), fun _ => rfl⟩) hd
  exact ⟨n, x, fits_self hT ht (fun ty e => by rw [Ty.row, e]) h1 h3, h2⟩
theorem fits_int {k : IntKind} {ty : Ty} (h : T t = some ty) (hd : ty.desc = .int k) {n : Nat} {xs : List V} (hf : Fits T n t xs) : ∃ i, xs = [.int k i] /\ k.min <= i /\ i <= k.max := by
  cases n with
  | zero => cases hf
  | succ n => unfold Fits at hf; rw [h] at hf; simp only [hd] at hf; exact hf
theorem fits_bool {ty : Ty} (h : T t = some ty) (hd : ty.desc = .bool) {n : Nat} {xs : List V} (hf : Fits T n t xs) : ∃ b, xs = [.bool b] := by
  cases n with
  | zero => cases hf
  | succ n => unfold Fits at hf; rw [h] at hf; simp only [hd] at hf; exact hf
theorem fits_bytes {e e' : TypeId} {ty : Ty} (h : T t = some ty) (hd : ty.desc = .slice e) (hc : ty.cks = [.bytes e']) {n : Nat} {xs : List V} (hf : Fits T n t xs) : ∃ s, xs = [.bytes s] /\ s.length <= maxLen := by
  cases n with
  | zero => cases hf
  | succ n => unfold Fits at hf; rw [h] at hf; simp only [hd, hc] at hf; exact hf
theorem fits_slice {e e' : TypeId} {ty te : Ty} (h : T t = some ty) (hd : ty.desc = .slice e) (hc : ty.cks = [.slc e']) (he : T e = some te) {n : Nat} {xs : List V} (hf : Fits T n t xs) :
    ∃ m ys, n = m + 1 /\ xs = [.sl e ys] /\ ys.length <= maxLen /\ ∀ y ∈ ys, ∃ cs, y = mkEl te.row cs /\ Fits T m e cs := by
  cases n with
  | zero => cases hf
  | succ n =>
    unfold Fits at hf; rw [h] at hf; simp only [hd, hc] at hf
    obtain ⟨rfl, ys, h1, h2, h3⟩ := hf
    refine ⟨n, ys, rfl, h1, h2, fun y hy => ?_⟩
    obtain ⟨te', cs, h4, h5, h6⟩ := h3 y hy
    rw [he] at h4
    injection h4 with h4
    subst h4
    exact ⟨cs, h5, h6⟩
theorem fits_struct {fs : Array Field} {ty : Ty} (h : T t = some ty) (hd : ty.desc = .struct fs) {n : Nat} {xs : List V} (hf : Fits T n t xs) : ∃ m, n = m + 1 /\ FitsFs (Fits T m) fs.toList xs := by
  cases n with
  | zero => cases hf
  | succ n => unfold Fits at hf; rw [h] at hf; simp only [hd] at hf; exact ⟨n, rfl, hf⟩
end
end Go.Proofs.Ytilfphdeacogmaa.En

/- What the arguments of the statements about exchanges read as. -/
namespace Go.Proofs.Ytilfphdeacogmaa.En
open Go Go.RowKit
set_option linter.unusedVariables false
theorem T_int : T 3 = some ty3 := by kernel_rfl
theorem T_bool : T 4 = some ty4 := by kernel_rfl
theorem T_bytes : T 27 = some ty27 := by kernel_rfl
theorem T_exch : T 70 = some ty70 := by kernel_rfl
theorem T_exs : T 65 = some ty65 := by kernel_rfl
theorem T_link : T 110 = some ty110 := by kernel_rfl
theorem T_links : T 68 = some ty68 := by kernel_rfl
theorem links_of (n : Nat) : ∀ (ys : List V), (∀ y ∈ ys, ∃ cs, y = mkEl true cs /\ Fits T n 110 cs) -> ∃ l : List (Bool × Int), ys = lnkE l
  | [], _ => ⟨[], rfl⟩
  | y :: ys, h => by
    obtain ⟨l, h1⟩ := links_of n ys fun z hz => h z (List.mem_cons_of_mem _ hz)
    obtain ⟨cs, rfl, hc⟩ := h y (by simp)
    obtain ⟨m, rfl, a, r1, rfl, ha, b, r2, rfl, hb, rfl⟩ := fits_struct T_link rfl hc
    obtain ⟨i, rfl⟩ := fits_bool T_bool rfl ha
    obtain ⟨k, rfl, _⟩ := fits_int T_int rfl hb
    exact ⟨(i, k) :: l, by rw [h1]; rfl⟩
theorem exs_of (n : Nat) : ∀ (ys : List V), (∀ y ∈ ys, ∃ cs, y = mkEl true cs /\ Fits T n 70 cs) -> ∃ l : List ExP, ys = exE l /\ ∀ x ∈ l, x.links.length <= 9223372036854775807
  | [], _ => ⟨[], rfl, by simp⟩
  | y :: ys, h => by
    obtain ⟨l, h1, h2⟩ := exs_of n ys fun z hz => h z (List.mem_cons_of_mem _ hz)
    obtain ⟨cs, rfl, hc⟩ := h y (by simp)
    obtain ⟨m, rfl, a, r1, rfl, ha, b, r2, rfl, hb, c, r3, rfl, hcc, d, r4, rfl, hd, rfl⟩ := fits_struct T_exch rfl hc
    obtain ⟨s, rfl, _⟩ := fits_bytes T_bytes rfl rfl ha
    obtain ⟨t, rfl, _⟩ := fits_bytes T_bytes rfl rfl hb
    obtain ⟨m2, zs, rfl, rfl, g1, g2⟩ := fits_slice T_links rfl rfl T_link hcc
    obtain ⟨k, rfl, _⟩ := fits_int T_int rfl hd
    obtain ⟨ls, rfl⟩ := links_of m2 zs g2
    refine ⟨⟨s, t, ls, k⟩ :: l, by rw [h1]; rfl, fun x hx => ?_⟩
    rcases List.mem_cons.1 hx with rfl | hx
    . have e : (lnkE ls).length = ls.length := List.length_map _
      rw [e] at g1
      have e2 : maxLen = 9223372036854775807 := by unfold maxLen; rfl
      rw [e2] at g1
      exact g1
    . exact h2 x hx
theorem exs_arg {n : Nat} {x : V} (h : Fits T n 65 [x]) : ∃ l : List ExP, x = .sl 70 (exE l) /\ ∀ x ∈ l, x.links.length <= 9223372036854775807 := by
  obtain ⟨m, ys, rfl, e, h1, h2⟩ := fits_slice T_exs rfl rfl T_exch h
  obtain ⟨l, rfl, h3⟩ := exs_of m ys h2
  injection e with e _
  exact ⟨l, e, h3⟩
theorem int_arg {n : Nat} {x : V} (h : Fits T n 3 [x]) : ∃ i : Int, x = .int .i64 i := by
  obtain ⟨i, e, _⟩ := fits_int T_int rfl h
  injection e with e _
  exact ⟨i, e⟩
def argTys : List TypeId := [70, 65, 110, 68, 3, 4, 27, 5]
theorem argTys_ok : closedT T argTys = true := by kernel_rfl
end Go.Proofs.Ytilfphdeacogmaa.En
