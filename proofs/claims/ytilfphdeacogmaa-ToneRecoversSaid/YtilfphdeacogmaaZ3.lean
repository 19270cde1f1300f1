/- Several texts in one. -/
import Derived.Test.YtilfphdeacogmaaZ2
import Derived.Laws.IdiomStrings
import Derived.Laws.CopyRow
import Derived.Lib.AppendStr
import Derived.Great.BuildSlice
import Derived.Laws.MakeOwn
import Derived.BigFrame
import Derived.ScopeJumps

set_option linter.unusedSimpArgs false
set_option linter.unusedVariables false
set_option linter.unusedSectionVars false
/- The engine, part l: new blocks; conversions, tuples, interfaces, closures. -/
namespace Go.Proofs.Ytilfphdeacogmaa.En
open Go
set_option linter.unusedVariables false
structure Grows (w w' : World) : Prop where
  os : w'.os = w.os
  tape : w'.tape = w.tape
  output : w'.output = w.output
  size : w.heap.size <= w'.heap.size
  old : ∀ b, b < w.heap.size -> w'.heap[b]? = w.heap[b]?
theorem Grows.refl (w : World) : Grows w w := ⟨rfl, rfl, rfl, Nat.le_refl _, fun _ _ => rfl⟩
theorem Grows.trans {a b c : World} (h : Grows a b) (k : Grows b c) : Grows a c :=
  ⟨k.os.trans h.os, k.tape.trans h.tape, k.output.trans h.output, Nat.le_trans h.size k.size, fun x hx => (k.old x (Nat.lt_of_lt_of_le hx h.size)).trans (h.old x hx)⟩
theorem Grows.alloc (w : World) (o : Obj) : Grows w (w.alloc o) :=
  ⟨rfl, rfl, rfl, by simp, fun b hb => by
    show (w.heap.push o)[b]? = _
    rw [Array.getElem?_push]; rw [if_neg (by omega)]⟩
theorem Grows.drew (w : World) : Grows w w.drew := ⟨rfl, rfl, rfl, Nat.le_refl _, fun _ _ => rfl⟩
def G.at_ (g : G) (b : Nat) (p : Perm) : G := { g with Γ := fun x => if x = b then p else g.Γ x }
theorem G.at_ne (g : G) (b : Nat) (p : Perm) {x : Nat} (h : x ≠ b) : (g.at_ b p).Γ x = g.Γ x := by simp [G.at_, h]
theorem G.at_eq (g : G) (b : Nat) (p : Perm) : (g.at_ b p).Γ b = p := by simp [G.at_]
theorem stable_at {g : G} {b : Nat} {p : Perm} {x o : Nat} (h : x ≠ b) : Stable (g.at_ b p) x o ↔ Stable g x o := by
  unfold Stable; rw [G.at_ne g b p h]
theorem cell_lt {w : World} {b o : Nat} {v : Value} (h : w.cell? ⟨b, o, none⟩ = some v) : b < w.heap.size := by
  unfold World.cell? at h
  rcases Nat.lt_or_ge b w.heap.size with h' | h'
  . exact h'
  . rw [Array.getElem?_eq_none h'] at h; cases h
theorem heap_lt {w : World} {b : Nat} {o : Obj} (h : w.heap[b]? = some o) : b < w.heap.size := (Array.getElem?_eq_some_iff.1 h).1
theorem cell_of_heap {w w' : World} {b o : Nat} (h : w'.heap[b]? = w.heap[b]?) : w'.cell? ⟨b, o, none⟩ = w.cell? ⟨b, o, none⟩ := World.cell?_of_block (a := ⟨b, o, none⟩) h
section
variable {P : Program} {T : TypeId -> Option Ty} {E : Env} {g : G} {w w' : World} {dead : List Pos}
theorem later_grow (h : Grows w w') {b : Nat} (hb : w.heap.size <= b) (p : Perm) : Later g w (g.at_ b p) w' :=
  ⟨rfl, fun x o v h1 h2 => by
    have hx := cell_lt h2
    exact ⟨(stable_at (by omega)).2 h1, by rw [cell_of_heap (h.old x hx)]; exact h2⟩, fun x o h1 h2 => by
    have hx := heap_lt h2
    exact ⟨by rw [G.at_ne _ _ _ (by omega)]; exact h1, by rw [h.old x hx]; exact h2⟩⟩
theorem own_grow (h : Grows w w') {b : Nat} (hb : w.heap.size <= b) (p : Perm) {q : APos} {e : TypeId} {v : Value} (ho : OwnAt g w q e v) : OwnAt (g.at_ b p) w' q e v := by
  rcases ho with h0 | ⟨x, n, cap, cur, h1, h2, h3, h4⟩
  . exact .inl h0
  . have hx := heap_lt h3
    exact .inr ⟨x, n, cap, cur, h1, by rw [G.at_ne _ _ _ (by omega)]; exact h2, by rw [h.old x hx]; exact h3, h4⟩
theorem keeps_grow (h : Grows w w') {b : Nat} (hb : w.heap.size <= b) (p : Perm) : Keeps E g w dead E (g.at_ b p) w' dead :=
  ⟨later_grow h hb p, rfl, fun _ _ h => h, fun _ _ _ _ => rfl, fun _ h => h, fun _ _ _ _ _ ho => own_grow h hb p ho⟩
theorem tr_grow (h : Grows w w') {b : Nat} (hb : w.heap.size <= b) (p : Perm) (d : Nat) : Tr d g w (g.at_ b p) w' :=
  ⟨h.os, h.tape, h.output, h.size, later_grow h hb p, fun x hx hi => ⟨by rw [G.at_ne _ _ _ (by omega)], h.old x hx⟩, fun _ _ _ => rfl⟩
theorem box_grow (h : Grows w w') {b : Nat} (hb : w.heap.size <= b) (p : Perm) {k s : Nat} {bx : Bx} (hr : BoxRep E g w k s bx) : BoxRep E (g.at_ b p) w' k s bx := by
  obtain ⟨us, h1, h2, h3⟩ := hr.heap
  have hx := heap_lt h1
  refine ⟨hr.le, ?_, us, ?_, h2, fun i c hc => ⟨(h3 i c hc).1, (h3 i c hc).2.1, (h3 i c hc).2.2.1, (h3 i c hc).2.2.2.keep (keeps_grow h hb p)⟩⟩
  . rw [G.at_ne _ _ _ (by show g.J (E.d - k) s ≠ b; omega)]; exact hr.perm
  . show w'.heap[g.J (E.d - k) s]? = _
    rw [h.old _ hx]; exact h1
theorem here_grow {m : Mem} (h : Grows w w') {b : Nat} (hb : w.heap.size <= b) (p : Perm) (hh : Here T E g w m) : Here T E (g.at_ b p) w' m :=
  ⟨fun k s bx hbx => box_grow h hb p (hh.mem k s bx hbx), hh.dom, hh.sk.later (later_grow h hb p), hh.len⟩
theorem Res.grow {m : Mem} {o : Oper} {a : Act} {x : D} (hh : Here T E g w m) (h : Grows w w') {b : Nat} (hb : w.heap.size <= b) (p : Perm) {v : Value}
    (hr : (execOp a.eval o).run P w = .ok (.value v) w') (hx : RepD E (g.at_ b p) w' dead x v) : Res P T E g w m dead o a x m dead :=
  ⟨v, w', g.at_ b p, E, .inl hr, keeps_grow h hb p, here_grow h hb p hh, hx, tr_grow h hb p _⟩
theorem bytes_cells (s : List UInt8) (cap k : Nat) (x : UInt8) (h : s[k]? = some x) : (bytesRow ⟨s.toArray⟩ cap)[k]? = some (.int .u8 (x.toNat : Int)) := by
  unfold bytesRow
  have hk := (List.getElem?_eq_some_iff.1 h).1
  rw [Array.getElem?_append_left (by simpa using hk)]
  simp [h]
theorem convK_sound (hT : TypesOK P T) (src dst : TypeId) (x : D) (vx : Value) (hx : RepD E g w dead x vx) (d : D) (h : convK T src dst x some = some d) :
    ∃ v w', (convert src dst vx).run P w = .ok v w' /\ Grows w w' /\ RepD E (g.at_ w.heap.size .imm) w' dead d v := by
  unfold convK at h
  split at h
  . rename_i ts td hts htd
    have hs := (hT _ _ hts).desc
    have hd := (hT _ _ htd).desc
    have same : ∀ {d : D} {v : Value}, RepD E g w dead d v -> RepD E (g.at_ w.heap.size .imm) w dead d v := fun h => h.keep (keeps_grow (Grows.refl w) (Nat.le_refl _) _)
    split at h
    . rename_i k0 k k1 n a h1 h2
      injection h with h; subst h
      obtain ⟨rfl, hb⟩ := hx.int_inv
      have hk : P.intKind dst = k := by simp [Program.intKind, hd, h2]
      refine ⟨_, w, run_convert_int w src dst k1 n (by rw [hs]; rfl) (by rw [hd, h2, hk]), Grows.refl w, ?_⟩
      rw [hk]
      exact same (RepD.int_ (wrap_bound _ _))
    . rename_i e s a h1 h2
      split at h
      . rename_i te hte
        split at h
        . rename_i hu8
          obtain ⟨h3, h⟩ := check_some h
          injection h with h; subst h
          simp at h3
          obtain ⟨hr, _, A, n, c, rfl, hn, hc, hm⟩ := hx.bytes_inv
          rw [h1] at hs
          rw [h2] at hd
          have hed := (hT _ _ hte).desc
          rw [hu8] at hed
          cases hr with
          | bytes xs A n c hn' hc' hm' hxx =>
            refine ⟨.string ⟨s.toArray⟩, w, ?_, Grows.refl w, same (RepD.str_ h3)⟩
            cases s with
            | nil =>
              simp at hn'
              subst hn'
              have := run_convert_bytes_string (P := P) w src dst e A 0 c hs hed hd
              rw [this]
              cases A <;> simp [Conv.bytesToString, loadCells, loadCellsFrom] <;> rfl
            | cons y ys =>
              obtain ⟨b, off, rfl, _, _⟩ := hxx 0 y rfl
              have hl := run_convert_bytes_back (P := P) w src dst e ⟨b, off, none⟩ c (y :: ys) hs hed hd (fun j hj => by
                obtain ⟨b2, off2, e1, _, h5⟩ := hxx j _ (List.getElem?_eq_getElem hj)
                injection e1 with e1; injection e1 with e1 e2; subst e1 e2
                simpa [Addr.add_mid] using h5)
              rw [← hn']
              exact hl
        . cases h
      . cases h
    . rename_i e s a h1 h2
      split at h
      . rename_i te hte
        split at h
        . rename_i hu8
          obtain ⟨h3, h⟩ := check_some h
          injection h with h; subst h
          simp at h3
          obtain ⟨rfl, hl⟩ := hx.str_inv
          rw [h1] at hs
          rw [h2] at hd
          have hed := (hT _ _ hte).desc
          rw [hu8] at hed
          have hsz : (⟨s.toArray⟩ : ByteArray).size = s.length := by simp [ByteArray.size]
          refine ⟨_, _, run_bytes_of_string w src dst e ⟨s.toArray⟩ hs hd hed, (Grows.drew w).trans (Grows.alloc w.drew _), .v _ _ _ (.bytes _ _ _ _ hsz.symm (grownCap_ge w _ _ _) (grownCap_le_maxLen w _ _ _ (by rw [hsz]; unfold maxLen; omega)) fun k x hk => ?_) trivial⟩
          refine ⟨w.heap.size, 0, rfl, ?_, ?_⟩
          . unfold Stable; rw [G.at_eq]; trivial
          . have := bytes_cells s (grownCap w (⟨s.toArray⟩ : ByteArray).size 0 e) k x hk
            have h9 := cell_of_row _ w.heap.size (0 + k) _ _ _ (heap_alloc_new w.drew (.cells (bytesRow ⟨s.toArray⟩ (grownCap w (⟨s.toArray⟩ : ByteArray).size 0 e)) e ((bytesRow ⟨s.toArray⟩ (grownCap w (⟨s.toArray⟩ : ByteArray).size 0 e)).size, (bytesRow ⟨s.toArray⟩ (grownCap w (⟨s.toArray⟩ : ByteArray).size 0 e)).size + 1)))
            exact h9.trans (by rw [Nat.zero_add]; exact this)
        . cases h
      . cases h
    . rename_i s a h1 h2
      injection h with h; subst h
      obtain ⟨rfl, hl⟩ := hx.str_inv
      rw [h1] at hs
      rw [h2] at hd
      refine ⟨_, w, ?_, Grows.refl w, same hx⟩
      simp [convert, run_underlying hs, run_underlying hd]
    . cases h
  . cases h
end
end Go.Proofs.Ytilfphdeacogmaa.En

/- The engine, part m: variables made and written. -/
namespace Go.Proofs.Ytilfphdeacogmaa.En
open Go
set_option linter.unusedVariables false
section
variable {R : Type} {P : Program} {T : TypeId -> Option Ty} {E : Env} {g : G} {w w' : World} {dead : List Pos}
theorem setRK_eq : ∀ (r cs : List D) (off : Nat) (K : List D -> Option R), setRK cs off r K = K (setR cs off r)
  | [], _, _, _ => rfl
  | d :: r, cs, off, K => by simp only [setRK, setK_eq, setRK_eq r]; rfl
theorem low_rep {k : Nat} {x : D} {v : Value} (h : RepD E g w dead x v) : ∀ {x' : D}, x.low k = some x' -> RepD E g w [] (x'.shift k) v /\ x'.noOwn = true /\ (x.one = true -> x'.one = true) := by
  have hl : ∀ (ds ds' : List D), lows k ds = some ds' -> ds'.length = ds.length /\ ∀ (i : Nat) y, ds'[i]? = some y -> ∃ z, ds[i]? = some z /\ z.low k = some y := by
    intro ds
    induction ds with
    | nil => intro ds' h; simp only [lows, Option.some.injEq] at h; subst h; exact ⟨rfl, fun i y h => by simp at h⟩
    | cons d ds ih =>
      intro ds' h
      unfold lows at h
      split at h
      . rename_i x hx
        split at h
        . rename_i r hr
          injection h with h; subst h
          obtain ⟨h1, h2⟩ := ih r hr
          refine ⟨by simp [h1], fun i y hy => ?_⟩
          rcases i with _ | i
          . simp at hy; subst hy; exact ⟨d, by simp, hx⟩
          . obtain ⟨z, a, b⟩ := h2 i y (by simpa using hy); exact ⟨z, by simpa using a, b⟩
        . cases h
      . cases h
  have hs : ∀ (ds : List D) (i : Nat) y, (D.shifts k ds)[i]? = some y -> ∃ z, ds[i]? = some z /\ y = z.shift k := by
    intro ds
    induction ds with
    | nil => intro i y h; simp [D.shifts] at h
    | cons d ds ih =>
      intro i y h
      rcases i with _ | i
      . simp [D.shifts] at h; exact ⟨d, by simp, h.symm⟩
      . simp [D.shifts] at h; obtain ⟨z, a, b⟩ := ih i y h; exact ⟨z, by simpa using a, b⟩
  have hn : ∀ ds : List D, (D.shifts k ds).length = ds.length := by
    intro ds; induction ds with | nil => rfl | cons d ds ih => simp [D.shifts, ih]
  have ho : ∀ ds : List D, (∀ (i : Nat) y, ds[i]? = some y -> y.noOwn = true) -> noOwns ds = true := by
    intro ds
    induction ds with
    | nil => intro _; rfl
    | cons d ds ih =>
      intro h
      simp only [noOwns, Bool.and_eq_true]
      exact ⟨h 0 d (by simp), ih fun i y hy => h (i + 1) y (by simpa using hy)⟩
  induction h with
  | v x a v h ha =>
    intro x' hx
    simp only [D.low, Option.some.injEq] at hx
    subst hx
    cases a with
    | nil e => exact ⟨.v _ _ _ h ha, rfl, fun h => h⟩
    | no => exact ⟨.v _ _ _ h trivial, rfl, fun h => h⟩
    | own p e => exact ⟨.v _ _ _ h trivial, rfl, fun h => h⟩
  | ptr k' s o h1 h2 =>
    intro x' hx
    simp only [D.low, Bool.cond_eq_ite] at hx
    split at hx
    . rename_i hle
      have hle := Nat.le_of_ble_eq_true hle
      injection hx with hx; subst hx
      refine ⟨?_, rfl, fun _ => rfl⟩
      simp only [D.shift]
      rw [show k' - k + k = k' by omega]
      exact .ptr _ _ _ h1 h2
    . cases hx
  | nilp => intro x' hx; simp only [D.low, Option.some.injEq] at hx; subst hx; exact ⟨.nilp, rfl, fun _ => rfl⟩
  | eptr cs o b off us h hr => intro x' hx; simp only [D.low, Option.some.injEq] at hx; subst hx; exact ⟨.eptr _ _ _ _ _ h hr, rfl, fun _ => rfl⟩
  | clos f caps us hn' hr ih =>
    intro x' hx
    simp only [D.low, Option.map_eq_some_iff] at hx
    obtain ⟨cs, h1, rfl⟩ := hx
    obtain ⟨h2, h3⟩ := hl _ _ h1
    refine ⟨.clos f _ us (by rw [hn, h2]; exact hn') fun i y hy => ?_, ho _ fun i y hy => ?_, fun _ => rfl⟩
    . obtain ⟨z, a, rfl⟩ := hs _ i y hy
      obtain ⟨q, b, c⟩ := h3 i z a
      exact (ih i q b c).1
    . obtain ⟨q, b, c⟩ := h3 i y hy
      exact (ih i q b c).2.1
  | nilF => intro x' hx; simp only [D.low, Option.some.injEq] at hx; subst hx; exact ⟨.nilF, rfl, fun _ => rfl⟩
  | bld => intro x' hx; simp only [D.low, Option.some.injEq] at hx; subst hx; exact ⟨.bld, rfl, fun _ => rfl⟩
  | agg ds us hn' hr ih =>
    intro x' hx
    simp only [D.low, Option.map_eq_some_iff] at hx
    obtain ⟨cs, h1, rfl⟩ := hx
    obtain ⟨h2, h3⟩ := hl _ _ h1
    refine ⟨.agg _ us (by rw [hn, h2]; exact hn') fun i y hy => ?_, ho _ fun i y hy => ?_, fun h => by simp [D.one] at h⟩
    . obtain ⟨z, a, rfl⟩ := hs _ i y hy
      obtain ⟨q, b, c⟩ := h3 i z a
      exact (ih i q b c).1
    . obtain ⟨q, b, c⟩ := h3 i y hy
      exact (ih i q b c).2.1
  | tup ds us hn' hr ih =>
    intro x' hx
    simp only [D.low, Option.map_eq_some_iff] at hx
    obtain ⟨cs, h1, rfl⟩ := hx
    obtain ⟨h2, h3⟩ := hl _ _ h1
    refine ⟨.tup _ us (by rw [hn, h2]; exact hn') fun i y hy => ?_, ho _ fun i y hy => ?_, fun h => by simp [D.one] at h⟩
    . obtain ⟨z, a, rfl⟩ := hs _ i y hy
      obtain ⟨q, b, c⟩ := h3 i z a
      exact (ih i q b c).1
    . obtain ⟨q, b, c⟩ := h3 i y hy
      exact (ih i q b c).2.1
  | any v => intro x' hx; simp [D.low] at hx
theorem flat_of_noOwn {d : D} (h : d.noOwn = true) : d.flat = true := by cases d <;> first | rfl | exact h
mutual
theorem noOwn_shift (k : Nat) : ∀ d : D, d.noOwn = true -> (d.shift k).noOwn = true
  | .v x a, h => by cases a with
    | own p e => simp [D.noOwn] at h
    | _ => rfl
  | .clos f caps, h => noOwns_shift k caps h
  | .agg ds, h => noOwns_shift k ds h
  | .tup ds, h => noOwns_shift k ds h
  | .ptr _ _ _, _ => rfl
  | .nilp, _ => rfl
  | .eptr _ _, _ => rfl
  | .nilF, _ => rfl
  | .bld, _ => rfl
  | .any, _ => rfl
theorem noOwns_shift (k : Nat) : ∀ ds : List D, noOwns ds = true -> noOwns (D.shifts k ds) = true
  | [], _ => rfl
  | d :: ds, h => by
    simp only [noOwns, Bool.and_eq_true] at h
    simp only [D.shifts, noOwns, Bool.and_eq_true]
    exact ⟨noOwn_shift k d h.1, noOwns_shift k ds h.2⟩
end
theorem noOwns_get : ∀ (ds : List D), noOwns ds = true -> ∀ (i : Nat) y, ds[i]? = some y -> y.noOwn = true
  | [], _, i, y, hy => by simp at hy
  | d :: ds, h, 0, y, hy => by simp only [noOwns, Bool.and_eq_true] at h; simp at hy; subst hy; exact h.1
  | d :: ds, h, i + 1, y, hy => by simp only [noOwns, Bool.and_eq_true] at h; exact noOwns_get ds h.2 i y (by simpa using hy)
theorem noOwn_clear {x : D} {u : Value} (hx : RepD E g w dead x u) : x.noOwn = true -> RepD E g w [] x u := by
  induction hx with
  | v x a v h ha =>
    intro hn
    cases a with
    | own p e => simp [D.noOwn] at hn
    | no => exact .v _ _ _ h trivial
    | nil e => exact .v _ _ _ h ha
  | ptr k s o h1 h2 => intro _; exact .ptr k s o h1 h2
  | nilp => intro _; exact .nilp
  | eptr cs o b off us h hr => intro _; exact .eptr cs o b off us h hr
  | clos f caps us hn' hr ih => intro hn; exact .clos f caps us hn' fun i y hy => ih i y hy (noOwns_get _ hn i y hy)
  | nilF => intro _; exact .nilF
  | bld => intro _; exact .bld
  | agg ds us hn' hr ih => intro hn; exact .agg ds us hn' fun i y hy => ih i y hy (noOwns_get _ hn i y hy)
  | tup ds us hn' hr ih => intro hn; exact .tup ds us hn' fun i y hy => ih i y hy (noOwns_get _ hn i y hy)
  | any v => intro _; exact .any v
theorem loadCell_clear {k s i : Nat} {c : D} {u : Value} (hf : c.flat = true) (h : RepD E g w dead (loadCell k s i c) u) (hn : Pos.cell k s i ∉ dead) : RepD E g w [] (loadCell k s i c) u := by
  cases c with
  | v x a =>
    cases a with
    | own p e =>
      cases h with
      | v x a v h ha =>
        refine .v _ _ _ h ?_
        rcases ha with ha | ha
        . exact absurd ha hn
        . exact .inr ha
    | no => exact noOwn_clear h rfl
    | nil e => exact noOwn_clear h rfl
  | bld => exact .any _
  | _ => exact noOwn_clear h (noOwn_shift k _ hf)
theorem relabel {e : TypeId} {v : Value} {q : Nat} {p' : APos} (ho : OwnAt g w (.slot E.d q) e v) :
    ∃ g1, (∀ dd, Keeps E g w dd E g1 w (.slot q :: dd)) /\ (∀ d, Tr d g w g1 w) /\ (∀ m, MemRep E g w m -> MemRep E g1 w m) /\ OwnAt g1 w p' e v /\ g1.J = g.J /\ g1.sz = g.sz /\
      (∀ b, (∀ n, g.Γ b ≠ .own (.slot E.d q) n) -> g1.Γ b = g.Γ b) /\ (∀ (r : APos) e' v', r ≠ .slot E.d q -> OwnAt g w r e' v' -> OwnAt g1 w r e' v') := by
  rcases ho with rfl | ⟨b, n, cap, cur, rfl, h2, h3, h4⟩
  . exact ⟨g, fun dd => ⟨Later.refl g w, rfl, fun _ _ h => h, fun _ _ _ _ => rfl, fun _ h => List.mem_cons_of_mem _ h, fun _ _ _ _ _ h => h⟩, fun d => Tr.refl d g w, fun _ h => h, .inl rfl, rfl, rfl, fun _ _ => rfl, fun _ _ _ _ h => h⟩
  . have hst : Later g w (g.at_ b (.own p' (n * g.sz e))) w := ⟨rfl, fun x o v hs hc => ⟨by
      by_cases hx : x = b
      . subst hx
        unfold Stable at hs ⊢
        rw [h2] at hs
        rw [G.at_eq]; exact hs
      . exact (stable_at hx).2 hs, hc⟩, fun x o k1 k2 => ⟨by rw [G.at_ne _ _ _ (fun e0 => by subst e0; rw [h2] at k1; cases k1)]; exact k1, k2⟩⟩
    have hown : ∀ (r : APos) e' v', r ≠ .slot E.d q -> OwnAt g w r e' v' -> OwnAt (g.at_ b (.own p' (n * g.sz e))) w r e' v' := by
      intro r e' v' hne ho
      rcases ho with h0 | ⟨x, n', cap', cur', k1, k2, k3, k4⟩
      . exact .inl h0
      . have hx : x ≠ b := fun e0 => by subst e0; rw [h2] at k2; injection k2 with k2 _; exact hne k2.symm
        exact .inr ⟨x, n', cap', cur', k1, by rw [G.at_ne _ _ _ hx]; exact k2, k3, k4⟩
    have hkeep : ∀ dd : List Pos, Keeps E g w dd E (g.at_ b (.own p' (n * g.sz e))) w (.slot q :: dd) := fun dd =>
      ⟨hst, rfl, fun _ _ h => h, fun _ _ _ _ => rfl, fun _ h => List.mem_cons_of_mem _ h, fun p e' v' hp hn ho => hown _ _ _ (fun e0 => by
        cases p with
        | slot s =>
          simp only [absP, APos.slot.injEq, true_and] at e0
          exact hn (by rw [e0]; simp)
        | cell k s i => simp [absP] at e0) ho⟩
    refine ⟨g.at_ b (.own p' (n * g.sz e)), hkeep, fun d => ⟨rfl, rfl, rfl, Nat.le_refl _, hst, fun x hx hi => ⟨G.at_ne _ _ _ (fun e0 => by subst e0; rw [h2] at hi; rcases hi with hi | ⟨_, hi⟩ <;> cases hi), rfl⟩, fun _ _ _ => rfl⟩, fun m hm k s bx hb => ?_,
      .inr ⟨b, n, cap, cur, rfl, G.at_eq _ _ _, h3, h4⟩, rfl, rfl, fun x hx => G.at_ne _ _ _ (fun e0 => by subst e0; exact hx _ h2), hown⟩
    have hr := hm k s bx hb
    obtain ⟨us, a1, a2, a3⟩ := hr.heap
    refine ⟨hr.le, ?_, us, a1, a2, fun i c hc => ⟨(a3 i c hc).1, (a3 i c hc).2.1, (a3 i c hc).2.2.1, ?_⟩⟩
    . show (g.at_ b _).Γ (g.J (E.d - k) s) = _
      rw [G.at_ne _ _ _ (fun e0 => by have := hr.perm; rw [e0, h2] at this; cases this)]; exact hr.perm
    . have h9 := (a3 i c hc).2.2.2
      have hf := (a3 i c hc).2.1
      have h10 := h9.keep (hkeep [])
      exact loadCell_clear hf h10 (by simp)
theorem keeps_dead (q : Pos) : Keeps E g w dead E g w (q :: dead) :=
  ⟨Later.refl g w, rfl, fun _ _ h => h, fun _ _ _ _ => rfl, fun _ h => List.mem_cons_of_mem _ h, fun _ _ _ _ _ h => h⟩
structure CellsOut (E : Env) (g : G) (w : World) (m : Mem) (dead : List Pos) (k s i : Nat) (us : List Value) (cs : List D) (dead' : List Pos) (g1 : G) : Prop where
  keeps : Keeps E g w dead E g1 w dead'
  soft : ∃ dd, (∀ p ∈ dd, ∃ q, p = .slot q) /\ Keeps E g w [] E g1 w dd
  tr : ∀ d, Tr d g w g1 w
  mem : MemRep E g1 w m
  J : g1.J = g.J
  sz : g1.sz = g.sz
  box : ∀ b d' s', g.Γ b = .box d' s' -> g1.Γ b = .box d' s'
  len : cs.length = us.length
  rep : ∀ (j : Nat) c, cs[j]? = some c -> c.one = true /\ c.flat = true /\ (c = .bld -> us.getD j undef = .pointer none) /\ RepD E g1 w [] (loadCell k s (i + j) c) (us.getD j undef)
theorem cellsK_sound {m : Mem} (k s : Nat) (hk : k <= E.d) : ∀ (ds : List D) (us : List Value) (i : Nat) (g : G) (dead : List Pos) (K : List D -> List Pos -> Option R) (r : R),
    us.length = ds.length -> (∀ (j : Nat) y, ds[j]? = some y -> RepD E g w dead y (us.getD j undef)) -> MemRep E g w m -> cellsK k ds dead K = some r ->
    ∃ cs dead' g1, K cs dead' = some r /\ CellsOut E g w m dead k s i us cs dead' g1
  | [], us, i, g, dead, K, r, hl, hr, hm, h => by
    refine ⟨[], dead, g, h, Keeps.refl _ _ _ _, ⟨[], by simp, Keeps.refl _ _ _ _⟩, fun d => Tr.refl _ _ _, hm, rfl, rfl, fun _ _ _ h => h, by simpa using hl.symm, fun j c hc => by simp at hc⟩
  | d :: ds, us, i, g, dead, K, r, hl, hr, hm, h => by
    cases us with
    | nil => simp at hl
    | cons u us =>
    have hd : RepD E g w dead d u := by simpa using hr 0 d (by simp)
    unfold cellsK at h
    rcases cond_some h with ⟨hone, h⟩ | ⟨_, h⟩
    case inr => cases h
    -- what remains after the first cell
    have rest : ∀ (c : D) (dead1 : List Pos) (g1 : G), Keeps E g w dead E g1 w dead1 -> (∃ dd, (∀ p ∈ dd, ∃ q, p = .slot q) /\ Keeps E g w [] E g1 w dd) -> (∀ d, Tr d g w g1 w) -> MemRep E g1 w m -> g1.J = g.J -> g1.sz = g.sz ->
        (∀ b d' s', g.Γ b = .box d' s' -> g1.Γ b = .box d' s') -> c.one = true -> c.flat = true -> (c = .bld -> u = .pointer none) -> RepD E g1 w [] (loadCell k s i c) u ->
        cellsK k ds dead1 (fun cs dead' => K (c :: cs) dead') = some r -> ∃ cs dead' g1, K cs dead' = some r /\ CellsOut E g w m dead k s i (u :: us) cs dead' g1 := by
      intro c dead1 g1 hk1 ⟨dd, hdd, hks⟩ ht1 hm1 hJ1 hz1 hb1 h1 h2 h3 h4 h5
      obtain ⟨cs, dead', g2, h6, ho⟩ := cellsK_sound k s hk ds us (i + 1) g1 dead1 _ r (by simpa using hl) (fun j y hy => by
        have := hr (j + 1) y (by simpa using hy)
        exact (by simpa using this : RepD E g w dead y (us.getD j undef)).keep hk1) hm1 h5
      obtain ⟨dd2, hdd2, hks2⟩ := ho.soft
      refine ⟨c :: cs, dead', g2, h6, hk1.trans ho.keeps, ?_, fun d => (ht1 d).trans (ho.tr d), ho.mem, ho.J.trans hJ1, ho.sz.trans hz1, fun b d' s' hb => ho.box b d' s' (hb1 b d' s' hb), by simp [ho.len], fun j c' hc => ?_⟩
      . refine ⟨dd ++ dd2, fun p hp => ?_, ?_⟩
        . rcases List.mem_append.1 hp with hp | hp
          . exact hdd p hp
          . exact hdd2 p hp
        . refine ⟨hks.later.trans ho.keeps.later, rfl, fun _ _ h => h, fun a b c d => by rw [ho.J, hJ1], fun _ h => by simp at h, fun p e v hp hn ho1 => ?_⟩
          have hn1 : p ∉ dd := fun hh => hn (List.mem_append.2 (.inl hh))
          have hn2 : p ∉ dd2 := fun hh => hn (List.mem_append.2 (.inr hh))
          exact hks2.own p e v hp hn2 (hks.own p e v hp hn1 ho1)
      . rcases j with _ | j
        . simp at hc; subst hc
          refine ⟨h1, h2, by simpa using h3, ?_⟩
          have := h4.keep hks2
          exact loadCell_clear h2 (by simpa using this) (fun hh => by obtain ⟨q, hq⟩ := hdd2 _ hh; cases hq)
        . obtain ⟨a1, a2, a3, a4⟩ := ho.rep j c' (by simpa using hc)
          refine ⟨a1, a2, by simpa using a3, ?_⟩
          have : i + 1 + j = i + (j + 1) := by omega
          rw [this] at a4
          simpa using a4
    have plainRest : ∀ (c : D) (dead1 : List Pos), Keeps E g w dead E g w dead1 -> c.one = true -> c.flat = true -> (c = .bld -> u = .pointer none) -> RepD E g w [] (loadCell k s i c) u ->
        cellsK k ds dead1 (fun cs dead' => K (c :: cs) dead') = some r -> ∃ cs dead' g1, K cs dead' = some r /\ CellsOut E g w m dead k s i (u :: us) cs dead' g1 := fun c dead1 h0 h1 h2 h3 h4 h5 =>
      rest c dead1 g h0 ⟨[], by simp, Keeps.refl _ _ _ _⟩ (fun d => Tr.refl _ _ _) hm rfl rfl (fun _ _ _ h => h) h1 h2 h3 h4 h5
    cases d with
    | v x a =>
      simp only [forceA_eq] at h
      have hx1 : ∀ a' : Att, (D.v x a').one = true := fun a' => hone
      cases hd with
      | v x a v hv ha =>
        cases a with
        | no => exact plainRest (.v x .no) _ (Keeps.refl _ _ _ _) (hx1 _) rfl (fun h => by cases h) (.v _ _ _ hv trivial) h
        | nil e => exact plainRest (.v x (.own (.slot 0) e)) _ (Keeps.refl _ _ _ _) (hx1 _) rfl (fun h => by cases h) (.v _ _ _ hv (.inr ⟨hk, .inl ha⟩)) h
        | own p e =>
          cases p with
          | cell k' s' i' => exact plainRest (.v x .no) _ (Keeps.refl _ _ _ _) (hx1 _) rfl (fun h => by cases h) (.v _ _ _ hv trivial) h
          | slot q =>
            simp only [cellA, cellDead] at h
            cases hp : hasP (.slot q) dead with
            | true =>
              rw [hp] at h
              exact plainRest (.v x .no) _ (keeps_dead _) (hx1 _) rfl (fun h => by cases h) (.v _ _ _ hv trivial) h
            | false =>
              rw [hp] at h
              have hq : Pos.slot q ∉ dead := fun hh => by rw [(hasP_iff _ _).2 hh] at hp; cases hp
              rcases ha with ha | ⟨_, ha⟩
              . exact absurd ha hq
              . obtain ⟨g1, k1, k2, k3, k4, k5, k6, k7, k8⟩ := relabel (p' := .cell (E.d - k) s i) ha
                refine rest (.v x (.own (.slot 0) e)) _ g1 (k1 dead) ⟨[.slot q], by simp, k1 []⟩ k2 (k3 m hm) k5 k6 (fun b d' s' hb => ?_) (hx1 _) rfl (fun h => by cases h) (.v _ _ _ (hv.later (k1 []).later) (.inr ⟨hk, k4⟩)) h
                rw [k7 b (fun n hn => by rw [hb] at hn; cases hn)]; exact hb
    | bld =>
      simp only [D.low, forceD_eq] at h
      cases hd
      exact plainRest .bld _ (Keeps.refl _ _ _ _) rfl rfl (fun _ => rfl) (.any _) h
    | any => simp [D.one] at hone
    | agg ds' => simp [D.one] at hone
    | tup ds' => simp [D.one] at hone
    | ptr k' s' o =>
      simp only at h
      split at h
      . rename_i d' hd'
        simp only [forceD_eq] at h
        obtain ⟨b1, b2, b3⟩ := low_rep hd hd'
        have hne : ∃ a b c, d' = .ptr a b c := by
          simp only [D.low, Bool.cond_eq_ite] at hd'
          split at hd'
          . injection hd' with hd'; exact ⟨_, _, _, hd'.symm⟩
          . cases hd'
        obtain ⟨a, b, c, rfl⟩ := hne
        exact plainRest (.ptr a b c) _ (Keeps.refl _ _ _ _) (b3 rfl) (flat_of_noOwn b2) (fun h => by cases h) b1 h
      . cases h
    | nilp =>
      simp only [D.low, forceD_eq] at h
      exact plainRest .nilp _ (Keeps.refl _ _ _ _) rfl rfl (fun h => by cases h) (low_rep (k := k) hd rfl).1 h
    | nilF =>
      simp only [D.low, forceD_eq] at h
      exact plainRest .nilF _ (Keeps.refl _ _ _ _) rfl rfl (fun h => by cases h) (low_rep (k := k) hd rfl).1 h
    | eptr cs o =>
      simp only [D.low, forceD_eq] at h
      exact plainRest (.eptr cs o) _ (Keeps.refl _ _ _ _) rfl rfl (fun h => by cases h) (low_rep (k := k) hd rfl).1 h
    | clos f caps =>
      simp only at h
      split at h
      . rename_i d' hd'
        simp only [forceD_eq] at h
        obtain ⟨b1, b2, b3⟩ := low_rep hd hd'
        have hne : ∃ a b, d' = .clos a b := by
          simp only [D.low, Option.map_eq_some_iff] at hd'
          obtain ⟨z, _, hz⟩ := hd'
          exact ⟨_, _, hz.symm⟩
        obtain ⟨a, b, rfl⟩ := hne
        exact plainRest (.clos a b) _ (Keeps.refl _ _ _ _) rfl (flat_of_noOwn b2) (fun h => by cases h) b1 h
      . cases h
end
end Go.Proofs.Ytilfphdeacogmaa.En

/- The engine, part n: new variables, stores. -/
namespace Go.Proofs.Ytilfphdeacogmaa.En
open Go
set_option linter.unusedVariables false
section
variable {R : Type} {P : Program} {T : TypeId -> Option Ty} {E : Env} {g : G} {w w' : World} {dead : List Pos}
theorem Here.keeps_dom {m : Mem} (hh : Here T E g w m) {k s : Nat} (h : E.dom k s) : ∃ b, m.box? k s = some b := by rw [hh.dom] at h; exact h
theorem newBox_sound {fr : Fr} {out : Mem} (hh : Here T E g w (fr :: out)) (s : Nat) (hs : frGet s fr = none) (t : TypeId) (us : Array Value) {cs : List D} {dead' : List Pos} {g1 : G}
    (ho : CellsOut E g w (fr :: out) dead 0 s 0 us.toList cs dead' g1) :
    ∃ g' E', Keeps E g w dead E' g' (w.alloc (.cells us t)) dead' /\ Here T E' g' (w.alloc (.cells us t)) (Mem.setBox (fr :: out) 0 s ⟨t, cs⟩) /\
      RepD E' g' (w.alloc (.cells us t)) dead' (.ptr 0 s 0) (.pointer (some ⟨w.heap.size, 0, none⟩)) /\ Tr E.d g w g' (w.alloc (.cells us t)) /\ E'.d = E.d := by
  have hgr : Grows w (w.alloc (.cells us t)) := Grows.alloc w _
  have hnew : (w.alloc (.cells us t)).heap[w.heap.size]? = some (.cells us t (0, 0)) := heap_alloc_new w _
  -- the ghost behind it
  let g' : G := { Γ := fun x => if x = w.heap.size then .box E.d s else g1.Γ x, J := fun d s' => if d = E.d /\ s' = s then w.heap.size else g1.J d s', sz := g1.sz }
  let E' : Env := { d := E.d, dom := memDom (Mem.setBox (fr :: out) 0 s ⟨t, cs⟩) }
  have hΓne : ∀ x, x ≠ w.heap.size -> g'.Γ x = g1.Γ x := fun x hx => if_neg hx
  have hΓeq : g'.Γ w.heap.size = .box E.d s := if_pos rfl
  have hJeq : g'.J E.d s = w.heap.size := if_pos ⟨rfl, rfl⟩
  have hJne : ∀ d s', ¬ (d = E.d /\ s' = s) -> g'.J d s' = g1.J d s' := fun d s' h => if_neg h
  have hlat : Later g1 w g' (w.alloc (.cells us t)) := ⟨rfl, fun x o v h1 h2 => by
    have hx := cell_lt h2
    refine ⟨?_, by rw [cell_of_heap (hgr.old x hx)]; exact h2⟩
    unfold Stable at h1 ⊢
    rw [hΓne x (by omega)]; exact h1, fun x o h1 h2 => by
    have hx := heap_lt h2
    exact ⟨by rw [hΓne x (by omega)]; exact h1, by rw [hgr.old x hx]; exact h2⟩⟩
  have hown : ∀ (p : APos) e v, OwnAt g1 w p e v -> OwnAt g' (w.alloc (.cells us t)) p e v := by
    intro p e v h
    rcases h with h0 | ⟨x, n, cap, cur, h1, h2, h3, h4⟩
    . exact .inl h0
    . have hx := heap_lt h3
      exact .inr ⟨x, n, cap, cur, h1, by rw [hΓne x (by omega)]; exact h2, by rw [hgr.old x hx]; exact h3, h4⟩
  have hdom : ∀ k s', E.dom k s' -> ¬ (k = 0 /\ s' = s) := by
    rintro k s' hd ⟨rfl, rfl⟩
    obtain ⟨b, hb⟩ := hh.keeps_dom hd
    simp [Mem.box?, hs] at hb
  have hdom' : ∀ k s', E.dom k s' -> E'.dom k s' := by
    intro k s' hd
    obtain ⟨b, hb⟩ := hh.keeps_dom hd
    refine ⟨b, ?_⟩
    rw [box_set, if_neg (fun h => hdom k s' hd ⟨h.1, h.2.1⟩)]
    exact hb
  have hle : ∀ k s', E.dom k s' -> k <= E.d := by
    intro k s' hd
    obtain ⟨b, hb⟩ := hh.keeps_dom hd
    have := box_lt _ _ _ _ hb
    rw [hh.len] at this; omega
  have hk2 : ∀ dd, Keeps E g1 w dd E' g' (w.alloc (.cells us t)) dd := fun dd =>
    ⟨hlat, rfl, hdom', fun k s' hk hd => hJne _ _ (fun h => hdom k s' hd ⟨by omega, h.2⟩), fun _ h => h, fun p e v _ _ h => hown _ e v h⟩
  refine ⟨g', E', ho.keeps.trans (hk2 dead'), ?_, ?_, ?_, rfl⟩
  . refine ⟨?_, rfl, hh.sk.later (ho.keeps.trans (hk2 dead')).later, by rw [setBox_length]; exact hh.len⟩
    intro k s' b hb
    rw [box_set] at hb
    split at hb
    . rename_i hc
      obtain ⟨rfl, rfl, _⟩ := hc
      injection hb with hb; subst hb
      refine ⟨Nat.zero_le _, by show g'.Γ (g'.J (E.d - 0) s') = _; rw [Nat.sub_zero, hJeq, hΓeq], us, by show (w.alloc (.cells us t)).heap[g'.J (E.d - 0) s']? = _; rw [Nat.sub_zero, hJeq]; exact hnew, by simpa using ho.len.symm, fun i c hc => ?_⟩
      obtain ⟨a1, a2, a3, a4⟩ := ho.rep i c hc
      refine ⟨a1, a2, fun h => .inl (by have := a3 h; simpa using this), ?_⟩
      have := a4.keep (hk2 [])
      simpa using this
    . rename_i hc
      have hr := ho.mem k s' b hb
      obtain ⟨vs, b1, b2, b3⟩ := hr.heap
      have hx := heap_lt b1
      have hJ : g'.J (E.d - k) s' = g1.J (E.d - k) s' := by
        refine hJne _ _ (fun h => ?_)
        have h9 := hr.le
        have : k = 0 := by
          rcases Nat.eq_zero_or_pos k with h8 | h8
          . exact h8
          . have hl := box_lt _ _ _ _ hb
            rw [hh.len] at hl
            omega
        exact hc ⟨this, h.2, by simp⟩
      refine ⟨hr.le, ?_, vs, ?_, b2, fun i c hc' => ⟨(b3 i c hc').1, (b3 i c hc').2.1, ?_, (b3 i c hc').2.2.2.keep (hk2 [])⟩⟩
      . show g'.Γ (g'.J (E.d - k) s') = _
        rw [hJ, hΓne _ (by omega)]; exact hr.perm
      . show (w.alloc (.cells us t)).heap[g'.J (E.d - k) s']? = _
        rw [hJ, hgr.old _ hx]; exact b1
      . show c = .bld -> BldAt (g'.J (E.d - k) s') _
        rw [hJ]; exact (b3 i c hc').2.2.1
  . have := RepD.ptr (E := E') (g := g') (w := w.alloc (.cells us t)) (dead := dead') 0 s 0 (Nat.zero_le _) ⟨⟨t, cs⟩, by rw [box_set, if_pos ⟨rfl, rfl, by simp⟩]⟩
    rw [show g'.J (E'.d - 0) s = w.heap.size from by rw [Nat.sub_zero]; exact hJeq] at this
    exact this
  . refine (ho.tr E.d).trans ⟨rfl, rfl, rfl, hgr.size, hlat, fun x hx hi => ⟨hΓne x (by omega), hgr.old x hx⟩, fun d s' hd => hJne _ _ (fun h => by omega)⟩
theorem later_row {B : Nat} {cur : Array Value} {t : TypeId} {cs : Array Value} (hB : w.heap[B]? = some (.cells cur t (0, 0))) (p : Perm) (hni : g.Γ B ≠ .imm) (hst : ∀ o, Stable g B o -> Stable (g.at_ B p) B o /\ cs[o]? = cur[o]?) :
    Later g w (g.at_ B p) (w.setRow B cs) :=
  ⟨rfl, fun x o v h1 h2 => by
    by_cases hx : x = B
    . subst hx
      obtain ⟨a1, a2⟩ := hst o h1
      refine ⟨a1, ?_⟩
      rw [cell_of_row w x o _ _ _ hB] at h2
      rw [cell_of_row _ x o _ _ _ (setRow_heap w x _ cs _ _ hB), a2]
      exact h2
    . exact ⟨(stable_at hx).2 h1, by rw [cell_of_heap (setRow_other w B x cs hx)]; exact h2⟩, fun x o h1 h2 => by
    have hx : x ≠ B := fun e => by subst e; exact hni h1
    exact ⟨by rw [G.at_ne _ _ _ hx]; exact h1, by rw [setRow_other w B x cs hx]; exact h2⟩⟩
theorem setRow_size (w : World) (B : Nat) (cs : Array Value) : (w.setRow B cs).heap.size = w.heap.size := by simp [World.setRow]
theorem own_row {B : Nat} {cs : Array Value} (p : Perm) {q : APos} {e : TypeId} {v : Value} (hq : ∀ n, g.Γ B ≠ .own q n) (h : OwnAt g w q e v) : OwnAt (g.at_ B p) (w.setRow B cs) q e v := by
  rcases h with h0 | ⟨x, n, cap, cur, h1, h2, h3, h4⟩
  . exact .inl h0
  . have hx : x ≠ B := fun e0 => by subst e0; exact hq _ h2
    exact .inr ⟨x, n, cap, cur, h1, by rw [G.at_ne _ _ _ hx]; exact h2, by rw [setRow_other w B x cs hx]; exact h3, h4⟩
theorem at_self {B : Nat} {p : Perm} (h : g.Γ B = p) : g.at_ B p = g := by
  unfold G.at_
  congr 1
  funext x
  by_cases hx : x = B
  . subst hx; simp [h]
  . simp [hx]
theorem store_sound {m : Mem} (hh : Here T E g w m) {k s o : Nat} {b : Bx} (hb : m.box? k s = some b) (us : List Value) {cs : List D} {dead' : List Pos} {g1 : G}
    (ho : CellsOut E g w m dead k s o us cs dead' g1) (hfit : o + us.length <= b.cells.length) (h1 : ∀ u ∈ us, u.oneCell' = true) :
    ∃ w' g' E', (storeCells ⟨g.J (E.d - k) s, o, none⟩ us).run P w = .ok () w' /\ Keeps E g w dead E' g' w' dead' /\ Here T E' g' w' (m.setBox k s ⟨b.ty, setR b.cells o cs⟩) /\ Tr E.d g w g' w' /\ E'.d = E.d := by
  have hr := ho.mem k s b hb
  obtain ⟨vs, b1, b2, b3⟩ := hr.heap
  rw [ho.J] at b1 b3
  have hperm := hr.perm
  rw [ho.J] at hperm
  have hrun := run_storeCells_at (P := P) (g.J (E.d - k) s) o b.ty us 0 vs w b1 (by rw [b2]; exact hfit) h1
  simp only [Nat.add_zero] at hrun
  generalize hB : g.J (E.d - k) s = B at *
  generalize hcs : (vs.toList.take o ++ us ++ vs.toList.drop (o + us.length)).toArray = cs' at *
  have hlat : Later g1 w g1 (w.setRow B cs') := by
    have := later_row (g := g1) (cs := cs') b1 (.box (E.d - k) s) (fun e => by rw [hperm] at e; cases e) (fun o hs => by unfold Stable at hs; rw [hperm] at hs; exact hs.elim)
    rwa [at_self hperm] at this
  have hown : ∀ (p : APos) e v, OwnAt g1 w p e v -> OwnAt g1 (w.setRow B cs') p e v := fun p e v h => by
    have := own_row (cs := cs') (.box (E.d - k) s) (fun n hn => by rw [hperm] at hn; cases hn) h
    rwa [at_self hperm] at this
  let E' : Env := { d := E.d, dom := memDom (m.setBox k s ⟨b.ty, setR b.cells o cs⟩) }
  have hklt := box_lt _ _ _ _ hb
  have hdom' : ∀ k' s', E.dom k' s' -> E'.dom k' s' := by
    intro k' s' hd
    obtain ⟨b', hb'⟩ := hh.keeps_dom hd
    by_cases hc : k' = k /\ s' = s /\ k < m.length
    . exact ⟨_, by rw [box_set, if_pos hc]⟩
    . exact ⟨b', by rw [box_set, if_neg hc]; exact hb'⟩
  have hk2 : ∀ dd, Keeps E g1 w dd E' g1 (w.setRow B cs') dd := fun dd =>
    ⟨hlat, rfl, hdom', fun _ _ _ _ => rfl, fun _ h => h, fun p e v _ _ h => hown _ e v h⟩
  refine ⟨_, g1, E', hrun, ho.keeps.trans (hk2 dead'), ?_, ?_, rfl⟩
  . refine ⟨?_, rfl, hh.sk.later (ho.keeps.trans (hk2 dead')).later, by rw [setBox_length]; exact hh.len⟩
    intro k' s' b' hb'
    rw [box_set] at hb'
    split at hb'
    . rename_i hc
      obtain ⟨rfl, rfl, _⟩ := hc
      injection hb' with hb'; subst hb'
      refine ⟨hr.le, by show g1.Γ (g1.J (E.d - k') s') = _; rw [ho.J, hB]; exact hperm, cs', ?_, ?_, fun i c hc => ?_⟩
      . show (w.setRow B cs').heap[g1.J (E.d - k') s']? = _
        rw [ho.J, hB]; exact setRow_heap w B _ cs' _ _ b1
      . rw [setR_length, ← hcs, ← b2]
        simp only [List.size_toArray, List.length_append, List.length_take, List.length_drop, Array.length_toList]
        omega
      . have hcsl := ho.len
        rw [setR_get] at hc
        have hget : ∀ i, cs'.getD i undef = if o <= i /\ i < o + us.length then us.getD (i - o) undef else vs.getD i undef := by
          intro i
          rw [← hcs]
          simp only [Array.getD_eq_getD_getElem?, List.getElem?_toArray]
          have hvl : vs.toList.length = b.cells.length := by simpa using b2
          by_cases h : o <= i /\ i < o + us.length
          . rw [if_pos h, List.append_assoc, List.getElem?_append_right (by simp; omega), List.getElem?_append_left (by simp; omega)]
            have : i - (vs.toList.take o).length = i - o := by simp; omega
            rw [this, List.getD_eq_getElem?_getD]
          . rw [if_neg h]
            rcases Nat.lt_or_ge i o with h' | h'
            . rw [List.append_assoc, List.getElem?_append_left (by simp; omega), List.getElem?_take, if_pos h']; simp
            . rw [List.append_assoc, List.getElem?_append_right (by simp; omega), List.getElem?_append_right (by simp; omega), List.getElem?_drop]
              have : o + us.length + (i - (vs.toList.take o).length - us.length) = i := by simp; omega
              rw [this]; simp
        rw [hget]
        by_cases h : o <= i /\ i < o + cs.length /\ i < b.cells.length
        . rw [if_pos h] at hc
          rw [if_pos ⟨h.1, by omega⟩]
          obtain ⟨a1, a2, a3, a4⟩ := ho.rep _ c hc
          refine ⟨a1, a2, fun hh => .inl (a3 hh), ?_⟩
          have := a4.keep (hk2 [])
          rwa [show o + (i - o) = i by omega] at this
        . rw [if_neg h] at hc
          have hi := (List.getElem?_eq_some_iff.1 hc).1
          rw [if_neg (by omega)]
          obtain ⟨a1, a2, a3, a4⟩ := b3 i c hc
          refine ⟨a1, a2, ?_, a4.keep (hk2 [])⟩
          show c = .bld -> BldAt (g1.J (E.d - k') s') _
          rw [ho.J, hB]; exact a3
    . rename_i hc
      have hr' := ho.mem k' s' b' hb'
      obtain ⟨vs', c1, c2, c3⟩ := hr'.heap
      refine ⟨hr'.le, hr'.perm, vs', ?_, c2, fun i c hci => ⟨(c3 i c hci).1, (c3 i c hci).2.1, (c3 i c hci).2.2.1, (c3 i c hci).2.2.2.keep (hk2 [])⟩⟩
      show (w.setRow B cs').heap[g1.J (E.d - k') s']? = _
      have hne : g1.J (E.d - k') s' ≠ B := by
        intro e0
        have h7 := hr'.perm
        rw [e0, hperm] at h7
        injection h7 with h7 h8
        have := hr.le
        have := hr'.le
        exact hc ⟨by omega, h8.symm, hklt⟩
      rw [setRow_other w B _ cs' hne]; exact c1
  . refine (ho.tr E.d).trans ⟨rfl, rfl, rfl, by rw [setRow_size]; exact Nat.le_refl _, hlat, fun x hx hi => ⟨rfl, setRow_other w B x cs' (fun e0 => by subst e0; rw [hperm] at hi; rcases hi with hi | ⟨_, hi⟩ <;> cases hi)⟩, fun _ _ _ => rfl⟩
end
end Go.Proofs.Ytilfphdeacogmaa.En

/- The engine, part o: append, make, slices written out. -/
namespace Go.Proofs.Ytilfphdeacogmaa.En
open Go
set_option linter.unusedVariables false
section
variable {R : Type} {P : Program} {T : TypeId -> Option Ty} {E : Env} {g : G} {w w' : World} {dead : List Pos}
def RowAt (g : G) (w : World) (A : Option Addr) (N : Nat) (us : Nat -> Value) : Prop :=
  ∀ k, k < N -> ∃ b off, A = some ⟨b, off, none⟩ /\ Stable g b (off + k) /\ w.cell? ⟨b, off + k, none⟩ = some (us k)
structure RowOut (g : G) (w : World) (g' : G) (w' : World) (q : APos) (free : Bool) : Prop where
  os : w'.os = w.os
  tape : w'.tape = w.tape
  output : w'.output = w.output
  size : w.heap.size <= w'.heap.size
  later : Later g w g' w'
  hid : ∀ b, b < w.heap.size -> (∀ n, g.Γ b ≠ .own q n) -> g'.Γ b = g.Γ b /\ w'.heap[b]? = w.heap[b]?
  own : ∀ r e v, (r ≠ q ∨ free = true) -> OwnAt g w r e v -> OwnAt g' w' r e v
  J : g'.J = g.J
theorem RowOut.tr {q : APos} {free : Bool} {g' : G} (h : RowOut g w g' w' q free) (d : Nat) : Tr d g w g' w' :=
  ⟨h.os, h.tape, h.output, h.size, h.later, fun b hb hi => h.hid b hb (fun n hn => by rw [hn] at hi; rcases hi with hi | ⟨_, hi⟩ <;> cases hi), fun _ _ _ => by rw [h.J]⟩
theorem RowOut.keeps {q : APos} {free : Bool} {g' : G} (h : RowOut g w g' w' q free) {dead' : List Pos} (hd : ∀ p ∈ dead, p ∈ dead') (hq : ∀ p, okPos E.d p -> p ∉ dead' -> absP E.d p ≠ q ∨ free = true) : Keeps E g w dead E g' w' dead' :=
  ⟨h.later, rfl, fun _ _ h => h, fun _ _ _ _ => by rw [h.J], hd, fun p e v hp hn ho => h.own _ e v (hq p hp hn) ho⟩
theorem RowOut.of_grow (h : Grows w w') (p : Perm) (q : APos) : RowOut g w (g.at_ w.heap.size p) w' q true :=
  ⟨h.os, h.tape, h.output, h.size, later_grow h (Nat.le_refl _) p, fun b hb _ => ⟨G.at_ne _ _ _ (by omega), h.old b hb⟩, fun r e v _ ho => own_grow h (Nat.le_refl _) p ho, rfl⟩
theorem RowOut.mono {q : APos} {free : Bool} {g' : G} (h : RowOut g w g' w' q true) : RowOut g w g' w' q free :=
  ⟨h.os, h.tape, h.output, h.size, h.later, h.hid, fun r e v _ ho => h.own r e v (.inr rfl) ho, h.J⟩
theorem RowOut.refl (g : G) (w : World) (q : APos) (free : Bool) : RowOut g w g w q free :=
  ⟨rfl, rfl, rfl, Nat.le_refl _, Later.refl _ _, fun _ _ _ => ⟨rfl, rfl⟩, fun _ _ _ _ h => h, rfl⟩
def news (M : Nat) (us : Nat -> Value) : List Value := (List.range M).map us
theorem news_get (M : Nat) (us : Nat -> Value) (j : Nat) (u : Value) (h : (news M us)[j]? = some u) : j < M /\ u = us j := by
  unfold news at h
  rw [List.getElem?_map, Option.map_eq_some_iff] at h
  obtain ⟨z, hz, rfl⟩ := h
  obtain ⟨h1, h2⟩ := List.getElem?_eq_some_iff.1 hz
  simp at h1 h2
  subst h2
  exact ⟨h1, rfl⟩
theorem news_at (M : Nat) (us : Nat -> Value) {j : Nat} (h : j < M) : (news M us)[j]? = some (us j) := by simp [news, h]
theorem news_length (M : Nat) (us : Nat -> Value) : (news M us).length = M := by simp [news]
theorem append_types (w : World) (t t2 ty e e2 : TypeId) (h1 : P.underlying t = some (.slice e)) (h2 : P.underlying t2 = some (.slice e2)) {i : TypeInfo} (hi : P.info? e = some i) (A : Option Addr) (n c : Nat) (b : Value) :
    (Builtin.append_ #[t, t2] ty #[.slice A n c, b]).run P w = (Builtin.append_ #[t, t] ty #[.slice A n c, b]).run P w := by
  simp [Builtin.append_, run_underlying h1, run_underlying h2, sizeOf, typeInfo, hi]
theorem append_core (t e : TypeId) (ty : TypeId) (i : TypeInfo) (z : Value) (ht : P.underlying t = some (.slice e)) (hi : P.info? e = some i) (hz : i.zero = some z) (hzs : z.cells.size = i.size) (hsz : 0 < i.size) (hg : g.sz e = i.size)
    (q dst : APos) (A : Option Addr) (n c : Nat) (us : Nat -> Value) (ho : OwnAt g w q e (.slice A n c)) (hr : RowAt g w A (n * i.size) us)
    (A' : Option Addr) (m c' : Nat) (us' : Nat -> Value) (hr' : RowAt g w A' (m * i.size) us') (h1 : ∀ k, k < m * i.size -> (us' k).oneCell' = true)
    (hb : (n + m) * i.bytes <= 140737488355328) (hb0 : 0 < i.bytes) :
    ∃ A2 c2 w' g', (Builtin.append_ #[t, t] ty #[.slice A n c, .slice A' m c']).run P w = .ok (.slice A2 (n + m) c2) w' /\ RowOut g w g' w' q (A.isNone) /\ OwnAt g' w' dst e (.slice A2 (n + m) c2) /\ n + m <= c2 /\ c2 <= maxLen /\
      RowAt g' w' A2 ((n + m) * i.size) (fun k => if k < n * i.size then us k else us' (k - n * i.size)) := by
  have hmax : n + m <= 140737488355328 := Nat.le_trans (Nat.le_mul_of_pos_right _ hb0) hb
  have hA' : 0 < m -> ∃ b off, A' = some ⟨b, off, none⟩ := fun hm => by
    obtain ⟨b, off, h, _⟩ := hr' 0 (Nat.mul_pos hm hsz)
    exact ⟨b, off, h⟩
  have hnew : ∀ b off, A' = some ⟨b, off, none⟩ -> ∀ j u, (news (m * i.size) us')[j]? = some u -> w.cell? ((⟨b, off, none⟩ : Addr).add j) = some u := by
    intro b off hA j u hj
    obtain ⟨h2, rfl⟩ := news_get _ _ _ _ hj
    obtain ⟨b2, off2, h3, _, h4⟩ := hr' j h2
    rw [hA] at h3
    injection h3 with h3; injection h3 with h3 h5; subst h3 h5
    simpa [Addr.add_mid] using h4
  have hone : ∀ u ∈ news (m * i.size) us', u.oneCell' = true := by
    intro u hu
    obtain ⟨j, hj⟩ := List.mem_iff_getElem?.1 hu
    obtain ⟨h2, rfl⟩ := news_get _ _ _ _ hj
    exact h1 j h2
  -- a new row
  have fresh : ∀ (row : Array Value) (cap : Nat) (free : Bool), n + m <= cap -> cap <= maxLen -> row.size = cap * i.size -> (∀ k, k < (n + m) * i.size -> row[k]? = some (if k < n * i.size then us k else us' (k - n * i.size))) ->
      RowOut g w (g.at_ w.heap.size (.own dst ((n + m) * i.size))) (w.drew.alloc (.cells row e)) q free /\ OwnAt (g.at_ w.heap.size (.own dst ((n + m) * i.size))) (w.drew.alloc (.cells row e)) dst e (.slice (some ⟨w.heap.size, 0, none⟩) (n + m) cap) /\
      RowAt (g.at_ w.heap.size (.own dst ((n + m) * i.size))) (w.drew.alloc (.cells row e)) (some ⟨w.heap.size, 0, none⟩) ((n + m) * i.size) (fun k => if k < n * i.size then us k else us' (k - n * i.size)) := by
    intro row cap free h2 h3 h4 h5
    have hh : (w.drew.alloc (.cells row e)).heap[w.heap.size]? = some (.cells row e (0, 0)) := heap_alloc_new w.drew _
    refine ⟨(RowOut.of_grow ((Grows.drew w).trans (Grows.alloc w.drew _)) _ q).mono, .inr ⟨w.heap.size, n + m, cap, row, rfl, ?_, hh, h2, h3, ?_⟩, fun k hk => ⟨w.heap.size, 0, rfl, ?_, ?_⟩⟩
    . rw [G.at_eq]; show _ = Perm.own dst ((n + m) * g.sz e); rw [hg]
    . show row.size = cap * g.sz e; rw [hg]; exact h4
    . unfold Stable; rw [G.at_eq]; simpa using hk
    . rw [cell_of_row _ _ _ _ _ _ hh]; simpa using h5 k hk
  rcases ho with h0 | ⟨b, n', cap, cur, h0, hΓ, hheap, hnc, hcm, hcs⟩
  . injection h0 with hA hn hc
    subst hA hn hc
    rcases Nat.eq_zero_or_pos m with hm | hm
    . subst hm
      refine ⟨none, 0, w, g, ?_, RowOut.refl _ _ _ _, .inl rfl, Nat.le_refl _, Nat.zero_le _, fun k hk => by simp at hk⟩
      cases A' <;> simp [Builtin.append_, run_underlying ht, sizeOf, typeInfo, hi, Builtin.lenOf, Builtin.firstCells, loadCells, loadCellsFrom]
    . obtain ⟨b, off, hA⟩ := hA' hm
      have hrun := run_append_nil (P := P) w t ty e i z ht hi hz ⟨b, off, none⟩ m c' (news (m * i.size) us') (news_length _ _) (hnew b off hA) hm (by omega) (by
        have : (0 + m) * i.bytes = m * i.bytes := by rw [Nat.zero_add]
        omega)
      obtain ⟨f1, f2, f3⟩ := fresh ((news (m * i.size) us').toArray ++ Builtin.zeroCells z.cells (grownCap w m 0 e - m)) (grownCap w m 0 e) true (by have := grownCap_ge w m 0 e; omega)
        (grownCap_le_maxLen w _ _ _ (by unfold maxLen; omega)) (by
          have := grownCap_ge w m 0 e
          rw [Array.size_append, size_zeroCells, hzs]
          simp only [List.size_toArray, news_length]
          rw [← Nat.add_mul]; congr 1; omega) (fun k hk => by
          have hk' : k < m * i.size := by simpa using hk
          rw [Array.getElem?_append_left (by simpa [news_length] using hk')]
          simp only [Nat.zero_mul, Nat.not_lt_zero, if_false, Nat.sub_zero]
          rw [List.getElem?_toArray, news_at _ _ hk'])
      refine ⟨some ⟨w.heap.size, 0, none⟩, grownCap w m 0 e, _, _, ?_, f1, f2, by have := grownCap_ge w m 0 e; omega, grownCap_le_maxLen w _ _ _ (by unfold maxLen; omega), f3⟩
      rw [hA, Nat.zero_add]; exact hrun
  . injection h0 with hA hn hc
    subst hA hn hc
    rw [hg] at hΓ hcs
    have hcell : ∀ k, k < n * i.size -> cur[k]? = some (us k) := fun k hk => by
      obtain ⟨b2, off2, h3, _, h4⟩ := hr k hk
      injection h3 with h3; injection h3 with h3 h5; subst h3 h5
      rw [cell_of_row w _ _ _ _ _ hheap] at h4
      simpa using h4
    -- the row itself, longer
    have same : ∀ (row : Array Value), row.size = cur.size -> n + m <= c -> (∀ k, k < (n + m) * i.size -> row[k]? = some (if k < n * i.size then us k else us' (k - n * i.size))) ->
        RowOut g w (g.at_ b (.own dst ((n + m) * i.size))) (w.setRow b row) q false /\ OwnAt (g.at_ b (.own dst ((n + m) * i.size))) (w.setRow b row) dst e (.slice (some ⟨b, 0, none⟩) (n + m) c) /\
        RowAt (g.at_ b (.own dst ((n + m) * i.size))) (w.setRow b row) (some ⟨b, 0, none⟩) ((n + m) * i.size) (fun k => if k < n * i.size then us k else us' (k - n * i.size)) := by
      intro row h2 hroom h5
      have hh := setRow_heap w b cur row e (0, 0) hheap
      refine ⟨⟨rfl, rfl, rfl, by rw [setRow_size]; exact Nat.le_refl _, later_row hheap _ (fun e => by rw [hΓ] at e; cases e) fun o hs => ?_, fun x hx hn => ?_, fun r e' v hq ho => ?_, rfl⟩, .inr ⟨b, n + m, c, row, rfl, ?_, hh, hroom, hcm, ?_⟩, fun k hk => ⟨b, 0, rfl, ?_, ?_⟩⟩
      . unfold Stable at hs ⊢
        rw [hΓ] at hs
        simp only at hs
        rw [G.at_eq]
        have hle : n * i.size <= (n + m) * i.size := Nat.mul_le_mul_right _ (by omega)
        refine ⟨by show o < (n + m) * i.size; omega, ?_⟩
        rw [h5 o (by omega), if_pos hs, hcell o hs]
      . have hxb : x ≠ b := fun e0 => by subst e0; exact hn _ hΓ
        exact ⟨G.at_ne _ _ _ hxb, setRow_other w b x row hxb⟩
      . rcases hq with hq | hq
        . exact own_row _ (fun n' hn' => by rw [hΓ] at hn'; injection hn' with hn' _; exact hq hn'.symm) ho
        . cases hq
      . rw [G.at_eq]; show _ = Perm.own dst ((n + m) * g.sz e); rw [hg]
      . show row.size = c * g.sz e; rw [hg, h2]; exact hcs
      . unfold Stable; rw [G.at_eq]; simpa using hk
      . rw [cell_of_row _ _ _ _ _ _ hh]; simpa using h5 k hk
    rcases Nat.lt_or_ge c (n + m) with hgrow | hroom
    . have hm : 0 < m := by omega
      obtain ⟨b', off', hA⟩ := hA' hm
      have hrun := run_append_grow (P := P) w t ty e i z ht hi hz ⟨b, 0, none⟩ n c (news (n * i.size) us) (news_length _ _) (fun j u hj => by
        obtain ⟨h2, rfl⟩ := news_get _ _ _ _ hj
        rw [Addr.add_mid, cell_of_row w _ _ _ _ _ hheap]
        simpa using hcell j h2) ⟨b', off', none⟩ m c' (news (m * i.size) us') (news_length _ _) (hnew b' off' hA) hgrow (by omega) (growslice_fits hgrow hb)
      obtain ⟨f1, f2, f3⟩ := fresh ((news (n * i.size) us).toArray ++ (news (m * i.size) us').toArray ++ Builtin.zeroCells z.cells (grownCap w (n + m) c e - (n + m))) (grownCap w (n + m) c e) false (grownCap_ge w (n + m) c e)
        (grownCap_le_maxLen w _ _ _ (by unfold maxLen; omega)) (by
          have := grownCap_ge w (n + m) c e
          rw [Array.size_append, Array.size_append, size_zeroCells, hzs]
          simp only [List.size_toArray, news_length]
          rw [← Nat.add_mul, ← Nat.add_mul]; congr 1; omega) (fun k hk => by
          rw [Nat.add_mul] at hk
          rw [Array.getElem?_append_left (by simpa [news_length] using hk)]
          by_cases hlt : k < n * i.size
          . rw [Array.getElem?_append_left (by simpa [news_length] using hlt), List.getElem?_toArray, news_at _ _ hlt, if_pos hlt]
          . rw [Array.getElem?_append_right (by simp [news_length]; omega), List.getElem?_toArray, if_neg hlt]
            simp only [List.size_toArray, news_length]
            exact news_at _ _ (by omega))
      refine ⟨some ⟨w.heap.size, 0, none⟩, grownCap w (n + m) c e, _, _, ?_, f1, f2, grownCap_ge w (n + m) c e, grownCap_le_maxLen w _ _ _ (by unfold maxLen; omega), f3⟩
      rw [hA]; exact hrun
    . have hfit : n * i.size + (news (m * i.size) us').length <= cur.size := by rw [news_length, hcs, ← Nat.add_mul]; exact Nat.mul_le_mul_right _ hroom
      cases A' with
      | none =>
        have hm : m = 0 := by
          rcases Nat.eq_zero_or_pos m with h | h
          . exact h
          . obtain ⟨_, _, h⟩ := hA' h; cases h
        subst hm
        obtain ⟨f1, f2, f3⟩ := same cur rfl hroom (fun k hk => by
          have hk : k < n * i.size := by simpa using hk
          rw [if_pos hk]; exact hcell k hk)
        rw [setRow_self w b cur e (0, 0) hheap] at f1 f2 f3
        exact ⟨some ⟨b, 0, none⟩, c, w, _, by simp [Builtin.append_, run_underlying ht, sizeOf, typeInfo, hi, Builtin.lenOf, Builtin.firstCells, hnc, storeCells], f1, f2, by omega, hcm, f3⟩
      | some a' =>
        have hrun : ∀ (a : Addr), (∀ j u, (news (m * i.size) us')[j]? = some u -> w.cell? (a.add j) = some u) -> _ := fun a ha => run_append_room (P := P) w t ty e i ht hi b n c cur hheap a m c' (news (m * i.size) us') (news_length _ _) ha hone hroom hfit
        have ha : ∀ j u, (news (m * i.size) us')[j]? = some u -> w.cell? (a'.add j) = some u := by
          intro j u hj
          obtain ⟨h2, rfl⟩ := news_get _ _ _ _ hj
          obtain ⟨b2, off2, h3, _, h4⟩ := hr' j h2
          injection h3 with h3; subst h3
          simpa [Addr.add_mid] using h4
        obtain ⟨f1, f2, f3⟩ := same (cur.toList.take (n * i.size) ++ news (m * i.size) us' ++ cur.toList.drop (n * i.size + (news (m * i.size) us').length)).toArray (by
          simp only [List.size_toArray, List.length_append, List.length_take, List.length_drop, Array.length_toList]
          omega) hroom (fun k hk => by
          rw [Nat.add_mul] at hk
          rw [news_length] at hfit
          have hl : (cur.toList.take (n * i.size)).length = n * i.size := by simp; omega
          simp only [List.getElem?_toArray]
          by_cases hlt : k < n * i.size
          . rw [List.append_assoc, List.getElem?_append_left (by omega), if_pos hlt, List.getElem?_take, if_pos hlt]
            simpa using hcell k hlt
          . rw [List.append_assoc, List.getElem?_append_right (by omega), List.getElem?_append_left (by rw [news_length]; omega), if_neg hlt, hl]
            exact news_at _ _ (by omega))
        exact ⟨some ⟨b, 0, none⟩, c, _, _, hrun a' ha, f1, f2, hroom, hcm, f3⟩
theorem append_core_str (t t2 e : TypeId) (ty : TypeId) (i : TypeInfo) (z : Value) (ht : P.underlying t = some (.slice e)) (hu : P.underlying t2 = some .string) (hi : P.info? e = some i) (hz : i.zero = some z) (hzs : z.cells.size = i.size) (hs1 : i.size = 1) (hg : g.sz e = i.size)
    (q dst : APos) (A : Option Addr) (n c : Nat) (us : Nat -> Value) (ho : OwnAt g w q e (.slice A n c)) (hr : RowAt g w A (n * i.size) us)
    (m : Nat) (us' : Nat -> Value) (str : List UInt8) (hm' : str.length = m) (hstr : Lib.strCells ⟨str.toArray⟩ = news (m * i.size) us') (h1 : ∀ k, k < m * i.size -> (us' k).oneCell' = true)
    (hb : (n + m) * i.bytes <= 140737488355328) (hb0 : 0 < i.bytes) :
    ∃ A2 c2 w' g', (Builtin.append_ #[t, t2] ty #[.slice A n c, .string ⟨str.toArray⟩]).run P w = .ok (.slice A2 (n + m) c2) w' /\ RowOut g w g' w' q (A.isNone) /\ OwnAt g' w' dst e (.slice A2 (n + m) c2) /\ n + m <= c2 /\ c2 <= maxLen /\
      RowAt g' w' A2 ((n + m) * i.size) (fun k => if k < n * i.size then us k else us' (k - n * i.size)) := by
  have hmax : n + m <= 140737488355328 := Nat.le_trans (Nat.le_mul_of_pos_right _ hb0) hb
  have hsz : 0 < i.size := by omega
  have hss : (⟨str.toArray⟩ : ByteArray).size = m := by rw [← hm']; simp [ByteArray.size]
  have hone : ∀ u ∈ news (m * i.size) us', u.oneCell' = true := by
    intro u hu
    obtain ⟨j, hj⟩ := List.mem_iff_getElem?.1 hu
    obtain ⟨h2, rfl⟩ := news_get _ _ _ _ hj
    exact h1 j h2
  -- a new row
  have fresh : ∀ (row : Array Value) (cap : Nat) (free : Bool), n + m <= cap -> cap <= maxLen -> row.size = cap * i.size -> (∀ k, k < (n + m) * i.size -> row[k]? = some (if k < n * i.size then us k else us' (k - n * i.size))) ->
      RowOut g w (g.at_ w.heap.size (.own dst ((n + m) * i.size))) (w.drew.alloc (.cells row e)) q free /\ OwnAt (g.at_ w.heap.size (.own dst ((n + m) * i.size))) (w.drew.alloc (.cells row e)) dst e (.slice (some ⟨w.heap.size, 0, none⟩) (n + m) cap) /\
      RowAt (g.at_ w.heap.size (.own dst ((n + m) * i.size))) (w.drew.alloc (.cells row e)) (some ⟨w.heap.size, 0, none⟩) ((n + m) * i.size) (fun k => if k < n * i.size then us k else us' (k - n * i.size)) := by
    intro row cap free h2 h3 h4 h5
    have hh : (w.drew.alloc (.cells row e)).heap[w.heap.size]? = some (.cells row e (0, 0)) := heap_alloc_new w.drew _
    refine ⟨(RowOut.of_grow ((Grows.drew w).trans (Grows.alloc w.drew _)) _ q).mono, .inr ⟨w.heap.size, n + m, cap, row, rfl, ?_, hh, h2, h3, ?_⟩, fun k hk => ⟨w.heap.size, 0, rfl, ?_, ?_⟩⟩
    . rw [G.at_eq]; show _ = Perm.own dst ((n + m) * g.sz e); rw [hg]
    . show row.size = cap * g.sz e; rw [hg]; exact h4
    . unfold Stable; rw [G.at_eq]; simpa using hk
    . rw [cell_of_row _ _ _ _ _ _ hh]; simpa using h5 k hk
  rcases ho with h0 | ⟨b, n', cap, cur, h0, hΓ, hheap, hnc, hcm, hcs⟩
  . injection h0 with hA hn hc
    subst hA hn hc
    rcases Nat.eq_zero_or_pos m with hm | hm
    . subst hm
      refine ⟨none, 0, w, g, ?_, RowOut.refl _ _ _ _, .inl rfl, Nat.le_refl _, Nat.zero_le _, fun k hk => by simp at hk⟩
      have hl0 : str = [] := List.length_eq_zero_iff.1 hm'
      subst hl0
      have hf := Lib.run_firstCells_string (P := P) w i.size ⟨(#[] : Array UInt8)⟩
      have hz0 : (⟨(#[] : Array UInt8)⟩ : ByteArray).size = 0 := rfl
      rw [hz0] at hf
      simp [Builtin.append_, run_underlying ht, run_underlying hu, sizeOf, typeInfo, hi, Builtin.lenOf, hz0, hf]
    . have hrun := run_append_nil_string (P := P) w t t2 ty e i z ht hu hi hz ⟨str.toArray⟩ (by omega) (by omega) (by
        have : (0 + m) * i.bytes = m * i.bytes := by rw [Nat.zero_add]
        rw [hss]; omega)
      have e1 : ((⟨str.toArray⟩ : ByteArray).data.map fun b => Value.int .u8 b.toNat) = (news (m * i.size) us').toArray := by
        rw [← hstr]
        apply Array.ext'
        simp [Lib.strCells]
      rw [e1, hss] at hrun
      obtain ⟨f1, f2, f3⟩ := fresh ((news (m * i.size) us').toArray ++ Builtin.zeroCells z.cells (grownCap w m 0 e - m)) (grownCap w m 0 e) true (by have := grownCap_ge w m 0 e; omega)
        (grownCap_le_maxLen w _ _ _ (by unfold maxLen; omega)) (by
          have := grownCap_ge w m 0 e
          rw [Array.size_append, size_zeroCells, hzs]
          simp only [List.size_toArray, news_length]
          rw [← Nat.add_mul]; congr 1; omega) (fun k hk => by
          have hk' : k < m * i.size := by simpa using hk
          rw [Array.getElem?_append_left (by simpa [news_length] using hk')]
          simp only [Nat.zero_mul, Nat.not_lt_zero, if_false, Nat.sub_zero]
          rw [List.getElem?_toArray, news_at _ _ hk'])
      refine ⟨some ⟨w.heap.size, 0, none⟩, grownCap w m 0 e, _, _, ?_, f1, f2, by have := grownCap_ge w m 0 e; omega, grownCap_le_maxLen w _ _ _ (by unfold maxLen; omega), f3⟩
      rw [Nat.zero_add]; exact hrun
  . injection h0 with hA hn hc
    subst hA hn hc
    rw [hg] at hΓ hcs
    have hcell : ∀ k, k < n * i.size -> cur[k]? = some (us k) := fun k hk => by
      obtain ⟨b2, off2, h3, _, h4⟩ := hr k hk
      injection h3 with h3; injection h3 with h3 h5; subst h3 h5
      rw [cell_of_row w _ _ _ _ _ hheap] at h4
      simpa using h4
    -- the row itself, longer
    have same : ∀ (row : Array Value), row.size = cur.size -> n + m <= c -> (∀ k, k < (n + m) * i.size -> row[k]? = some (if k < n * i.size then us k else us' (k - n * i.size))) ->
        RowOut g w (g.at_ b (.own dst ((n + m) * i.size))) (w.setRow b row) q false /\ OwnAt (g.at_ b (.own dst ((n + m) * i.size))) (w.setRow b row) dst e (.slice (some ⟨b, 0, none⟩) (n + m) c) /\
        RowAt (g.at_ b (.own dst ((n + m) * i.size))) (w.setRow b row) (some ⟨b, 0, none⟩) ((n + m) * i.size) (fun k => if k < n * i.size then us k else us' (k - n * i.size)) := by
      intro row h2 hroom h5
      have hh := setRow_heap w b cur row e (0, 0) hheap
      refine ⟨⟨rfl, rfl, rfl, by rw [setRow_size]; exact Nat.le_refl _, later_row hheap _ (fun e => by rw [hΓ] at e; cases e) fun o hs => ?_, fun x hx hn => ?_, fun r e' v hq ho => ?_, rfl⟩, .inr ⟨b, n + m, c, row, rfl, ?_, hh, hroom, hcm, ?_⟩, fun k hk => ⟨b, 0, rfl, ?_, ?_⟩⟩
      . unfold Stable at hs ⊢
        rw [hΓ] at hs
        simp only at hs
        rw [G.at_eq]
        have hle : n * i.size <= (n + m) * i.size := Nat.mul_le_mul_right _ (by omega)
        refine ⟨by show o < (n + m) * i.size; omega, ?_⟩
        rw [h5 o (by omega), if_pos hs, hcell o hs]
      . have hxb : x ≠ b := fun e0 => by subst e0; exact hn _ hΓ
        exact ⟨G.at_ne _ _ _ hxb, setRow_other w b x row hxb⟩
      . rcases hq with hq | hq
        . exact own_row _ (fun n' hn' => by rw [hΓ] at hn'; injection hn' with hn' _; exact hq hn'.symm) ho
        . cases hq
      . rw [G.at_eq]; show _ = Perm.own dst ((n + m) * g.sz e); rw [hg]
      . show row.size = c * g.sz e; rw [hg, h2]; exact hcs
      . unfold Stable; rw [G.at_eq]; simpa using hk
      . rw [cell_of_row _ _ _ _ _ _ hh]; simpa using h5 k hk
    rcases Nat.lt_or_ge c (n + m) with hgrow | hroom
    . have hm : 0 < m := by omega
      have hrun := Lib.run_append_grow_string (P := P) w t t2 ty e i z ht hu hi hz ⟨b, 0, none⟩ n c (news (n * i.size) us) (news_length _ _) (fun j u hj => by
        obtain ⟨h2, rfl⟩ := news_get _ _ _ _ hj
        rw [Addr.add_mid, cell_of_row w _ _ _ _ _ hheap]
        simpa using hcell j h2) ⟨str.toArray⟩ (by rw [hss]; exact hgrow) (by rw [hss]; omega) (by rw [hss]; exact growslice_fits hgrow hb)
      rw [hss, hstr] at hrun
      obtain ⟨f1, f2, f3⟩ := fresh ((news (n * i.size) us).toArray ++ (news (m * i.size) us').toArray ++ Builtin.zeroCells z.cells (grownCap w (n + m) c e - (n + m))) (grownCap w (n + m) c e) false (grownCap_ge w (n + m) c e)
        (grownCap_le_maxLen w _ _ _ (by unfold maxLen; omega)) (by
          have := grownCap_ge w (n + m) c e
          rw [Array.size_append, Array.size_append, size_zeroCells, hzs]
          simp only [List.size_toArray, news_length]
          rw [← Nat.add_mul, ← Nat.add_mul]; congr 1; omega) (fun k hk => by
          rw [Nat.add_mul] at hk
          rw [Array.getElem?_append_left (by simpa [news_length] using hk)]
          by_cases hlt : k < n * i.size
          . rw [Array.getElem?_append_left (by simpa [news_length] using hlt), List.getElem?_toArray, news_at _ _ hlt, if_pos hlt]
          . rw [Array.getElem?_append_right (by simp [news_length]; omega), List.getElem?_toArray, if_neg hlt]
            simp only [List.size_toArray, news_length]
            exact news_at _ _ (by omega))
      refine ⟨some ⟨w.heap.size, 0, none⟩, grownCap w (n + m) c e, _, _, ?_, f1, f2, grownCap_ge w (n + m) c e, grownCap_le_maxLen w _ _ _ (by unfold maxLen; omega), f3⟩
      exact hrun
    . have hfit : n * i.size + (news (m * i.size) us').length <= cur.size := by rw [news_length, hcs, ← Nat.add_mul]; exact Nat.mul_le_mul_right _ hroom
      have hrun := Lib.run_append_room_string (P := P) w t t2 ty e i ht hu hi hs1 b n c cur hheap ⟨str.toArray⟩ (by rw [hss]; exact hroom) (by rw [hss]; rw [news_length, hs1] at hfit; omega)
      rw [hss, hstr] at hrun
      obtain ⟨f1, f2, f3⟩ := same (cur.toList.take (n * i.size) ++ news (m * i.size) us' ++ cur.toList.drop (n * i.size + (news (m * i.size) us').length)).toArray (by
          simp only [List.size_toArray, List.length_append, List.length_take, List.length_drop, Array.length_toList]
          omega) hroom (fun k hk => by
          rw [Nat.add_mul] at hk
          rw [news_length] at hfit
          have hl : (cur.toList.take (n * i.size)).length = n * i.size := by simp; omega
          simp only [List.getElem?_toArray]
          by_cases hlt : k < n * i.size
          . rw [List.append_assoc, List.getElem?_append_left (by omega), if_pos hlt, List.getElem?_take, if_pos hlt]
            simpa using hcell k hlt
          . rw [List.append_assoc, List.getElem?_append_right (by omega), List.getElem?_append_left (by rw [news_length]; omega), if_neg hlt, hl]
            exact news_at _ _ (by omega))
      have el : (news (m * i.size) us').length = m := by rw [news_length, hs1, Nat.mul_one]
      have en : n * i.size = n := by rw [hs1, Nat.mul_one]
      refine ⟨some ⟨b, 0, none⟩, c, _, _, ?_, f1, f2, hroom, hcm, f3⟩
      rw [el, en]; exact hrun
end
end Go.Proofs.Ytilfphdeacogmaa.En

/- The engine, part p: append, make and slices written out, as the data have it. -/
namespace Go.Proofs.Ytilfphdeacogmaa.En
open Go
set_option linter.unusedVariables false
section
variable {R : Type} {P : Program} {T : TypeId -> Option Ty} {E : Env} {g : G} {w w' : World} {dead : List Pos}
theorem TyOK.zero_size {t : TypeId} {ty : Ty} (hok : TyOK P t ty) : ty.zero.cells.size = ty.size := by
  have := (zero_rep (E := ⟨0, fun _ _ => False⟩) (g := ⟨fun _ => .imm, fun _ _ => 0, fun _ => 0⟩) (w := default) (dead := []) hok).1
  rw [this]; simp [Ty.zeroDs, Ty.size]
theorem boxes_row {q : APos} {free : Bool} {g' : G} (ho : RowOut g w g' w' q free) (hq : ∀ d s, q ≠ .cell d s 0 ∨ True) {E' : Env} (hE : E'.d = E.d) (hdom : ∀ k s, E.dom k s -> E'.dom k s) {k s : Nat} {b : Bx} (hr : BoxRep E g w k s b)
    {dd : List Pos} (hk : Keeps E g w [] E' g' w' dd) (b' : Bx) (hty : b'.ty = b.ty) (hlen : b'.cells.length = b.cells.length)
    (hc : ∀ (i : Nat) c', b'.cells[i]? = some c' -> (∃ c, b.cells[i]? = some c /\ c' = c /\ .cell k s i ∉ dd) ∨ (∃ x a, b.cells[i]? = some (.v x a) /\ c' = .v x .no)) : BoxRep E' g' w' k s b' := by
  obtain ⟨us, h1, h2, h3⟩ := hr.heap
  have hx := heap_lt h1
  obtain ⟨e1, e2⟩ := ho.hid _ hx (fun n hn => by rw [hr.perm] at hn; cases hn)
  refine ⟨by rw [hE]; exact hr.le, ?_, us, ?_, by rw [hlen]; exact h2, fun i c' hc' => ?_⟩
  . rw [hE, ho.J, e1]; exact hr.perm
  . rw [hE, ho.J, hty, e2]; exact h1
  . rcases hc i c' hc' with ⟨c, b1, rfl, b2⟩ | ⟨x, a, b1, rfl⟩
    . obtain ⟨a1, a2, a3, a4⟩ := h3 i c' b1
      refine ⟨a1, a2, by rw [hE, ho.J]; exact a3, ?_⟩
      exact loadCell_clear a2 (a4.keep hk) b2
    . obtain ⟨a1, a2, a3, a4⟩ := h3 i _ b1
      refine ⟨a1, rfl, fun h => (by cases h), ?_⟩
      have hv : RepV g w x (us.getD i undef) := by
        cases a with
        | own p e => cases a4 with | v x a v h ha => exact h
        | no => cases a4 with | v x a v h ha => exact h
        | nil e => cases a4 with | v x a v h ha => exact h
      exact .v _ _ _ (hv.later ho.later) trivial
theorem useUpK_sound {a : Att} {e : TypeId} {m : Mem} {K : Mem -> List Pos -> Option R} {r : R} {A : Option Addr} {n c : Nat} (hh : Here T E g w m) (ha : AttOK E g w dead a (.slice A n c)) (h : useUpK a e m dead K = some r) (dst : Nat) :
    ∃ q m' dead', K m' dead' = some r /\ OwnAt g w q e (.slice A n c) /\ ∀ g' w', RowOut g w g' w' q A.isNone -> ∃ E', E'.d = E.d /\ Keeps E g w dead E' g' w' dead' /\ Here T E' g' w' m' := by
  -- where memory stays as it is
  have stay : ∀ (q : APos) (dead' dd : List Pos), (∀ p ∈ dead, p ∈ dead') -> (∀ g' w', RowOut g w g' w' q A.isNone -> (∀ p, okPos E.d p -> p ∉ dead' -> absP E.d p ≠ q ∨ A.isNone = true) /\ (∀ p, okPos E.d p -> p ∉ dd -> absP E.d p ≠ q ∨ A.isNone = true)) -> (∀ k s i, Pos.cell k s i ∉ dd) ->
      ∀ g' w', RowOut g w g' w' q A.isNone -> ∃ E', E'.d = E.d /\ Keeps E g w dead E' g' w' dead' /\ Here T E' g' w' m := by
    intro q dead' dd h1 h2 h3 g' w' ho
    obtain ⟨h4, h5⟩ := h2 g' w' ho
    refine ⟨E, rfl, ho.keeps h1 h4, fun k s b hb => ?_, hh.dom, hh.sk.later ho.later, hh.len⟩
    exact boxes_row ho (fun _ _ => .inr trivial) rfl (fun _ _ h => h) (hh.mem k s b hb) (ho.keeps (dead := []) (dead' := dd) (by simp) h5) b rfl rfl (fun i c' hc => .inl ⟨c', hc, rfl, h3 k s i⟩)
  unfold useUpK at h
  cases a with
  | no => cases h
  | nil e' =>
    rcases cond_some h with ⟨he, h⟩ | ⟨_, h⟩
    . have hv : (Value.slice A n c) = .slice none 0 0 := ha
      injection hv with hA hn hc
      subst hA hn hc
      refine ⟨.slot E.d dst, m, dead, h, .inl rfl, stay _ dead [] (fun _ h => h) (fun _ _ _ => ⟨fun _ _ _ => .inr rfl, fun _ _ _ => .inr rfl⟩) (by simp)⟩
    . cases h
  | own p e' =>
    rcases cond_some h with ⟨he, hk⟩ | ⟨_, hk⟩
    case inr => cases hk
    clear h
    simp only [Bool.and_eq_true, Bool.not_eq_true'] at he
    obtain ⟨he, hp⟩ := he
    obtain rfl := Nat.eq_of_beq_eq_true he
    have hpd : p ∉ dead := fun hh => by rw [(hasP_iff _ _).2 hh] at hp; cases hp
    rcases ha with ha | ⟨hok, ha⟩
    . exact absurd ha hpd
    have habs : ∀ p', okPos E.d p' -> p' ≠ p -> absP E.d p' ≠ absP E.d p := by
      intro p' h1 h2 h3
      refine h2 ?_
      cases p' <;> cases p <;> simp only [absP, APos.slot.injEq, APos.cell.injEq, reduceCtorEq, true_and] at h3 ⊢
      . rw [h3]
      . obtain ⟨h3, h4, h5⟩ := h3
        simp only [okPos] at h1 hok
        subst h4 h5
        congr 1; omega
    cases p with
    | slot s0 =>
      refine ⟨absP E.d (.slot s0), m, .slot s0 :: dead, hk, ha, stay _ _ [.slot s0] (fun _ h => List.mem_cons_of_mem _ h) (fun _ _ _ => ⟨fun p' h1 h2 => .inl (habs p' h1 (fun e0 => h2 (by rw [e0]; simp))), fun p' h1 h2 => .inl (habs p' h1 (fun e0 => h2 (by rw [e0]; simp)))⟩) (by simp)⟩
    | cell k s i =>
      simp only at hk
      split at hk
      . rename_i b hb
        split at hk
        . rename_i x _ _ hc
          simp only [setK_eq, memPutK_eq] at hk
          refine ⟨absP E.d (.cell k s i), _, _, hk, ha, fun g' w' ho => ?_⟩
          have hkp : ∀ (dd : List Pos) (E' : Env), E'.d = E.d -> (∀ k s, E.dom k s -> E'.dom k s) -> Keeps E g w dd E' g' w' (.cell k s i :: dd) := fun dd E' hE hdom =>
            ⟨ho.later, hE, hdom, fun _ _ _ _ => by rw [ho.J], fun _ h => List.mem_cons_of_mem _ h, fun p' e v hp hn ho' => ho.own _ e v (.inl (habs p' hp (fun e0 => hn (by rw [e0]; simp)))) ho'⟩
          have hdom : ∀ k' s', E.dom k' s' -> memDom (m.setBox k s ⟨b.ty, b.cells.set i (.v x .no)⟩) k' s' := by
            intro k' s' hd
            obtain ⟨b', hb'⟩ := hh.keeps_dom hd
            unfold memDom
            rw [box_set]
            split
            . exact ⟨_, rfl⟩
            . exact ⟨b', hb'⟩
          let E2 : Env := ⟨E.d, memDom (m.setBox k s ⟨b.ty, b.cells.set i (.v x .no)⟩)⟩
          refine ⟨E2, rfl, hkp dead E2 rfl hdom, fun k' s' b' hb' => ?_, rfl, hh.sk.later ho.later, by rw [setBox_length]; exact hh.len⟩
          rw [box_set] at hb'
          split at hb'
          . rename_i hcd
            obtain ⟨rfl, rfl, _⟩ := hcd
            injection hb' with hb'; subst hb'
            refine boxes_row (E := E) (E' := E2) ho (fun _ _ => .inr trivial) rfl hdom (hh.mem _ _ _ hb) (hkp [] E2 rfl hdom) _ rfl (by simp) (fun j c' hj => ?_)
            rw [List.getElem?_set] at hj
            split at hj
            . rename_i hij
              subst hij
              split at hj
              . injection hj with hj; subst hj
                exact .inr ⟨x, _, hc, rfl⟩
              . cases hj
            . rename_i hij
              exact .inl ⟨c', hj, rfl, by simp; exact fun h => hij h.symm⟩
          . rename_i hcd
            refine boxes_row (E := E) (E' := E2) ho (fun _ _ => .inr trivial) rfl hdom (hh.mem _ _ _ hb') (hkp [] E2 rfl hdom) _ rfl rfl (fun j c' hj => .inl ⟨c', hj, rfl, ?_⟩)
            simp only [List.mem_singleton, Pos.cell.injEq]
            rintro ⟨rfl, rfl, _⟩
            exact hcd ⟨rfl, rfl, box_lt _ _ _ _ hb⟩
        . cases hk
      . cases hk
theorem flat_len {xs : List V} {sz : Nat} (hs : ∀ x ∈ xs, x.cells.length = sz) : (xs.flatMap V.cells).length = xs.length * sz := by
  induction xs with
  | nil => simp
  | cons x xs ih =>
    rw [List.flatMap_cons, List.length_append, hs x (by simp), ih (fun y hy => hs y (by simp [hy])), List.length_cons, Nat.add_mul]; omega
theorem flat_one {xs : List V} {n : Nat} (hs : ∀ x ∈ xs, okEl n x = true) {k : Nat} {y : V} (h : (xs.flatMap V.cells)[k]? = some y) : y.one = true := by
  obtain ⟨x, hx, hy⟩ := List.mem_flatMap.1 (List.mem_of_getElem? h)
  exact (okEl_spec (hs x hx)).2 y hy
set_option maxHeartbeats 1000000 in
theorem appendK_sound (hT : TypesOK P T) {m : Mem} (hh : Here T E g w m) (dst : Nat) (t t2 ty : TypeId) (s x : D) (vs vx : Value) (hs : RepD E g w dead s vs) (hx : RepD E g w dead x vx) {K : D -> Mem -> List Pos -> Option R} {r : R}
    (h : appendK T dst t t2 s x m dead K = some r) :
    ∃ v w' g' E' d m' dead', (Builtin.append_ #[t, t2] ty #[vs, vx]).run P w = .ok v w' /\ E'.d = E.d /\ Keeps E g w dead E' g' w' dead' /\ Here T E' g' w' m' /\ RepD E' g' w' dead' d v /\ Tr E.d g w g' w' /\ K d m' dead' = some r := by
  unfold appendK at h
  split at h
  case h_2 => cases h
  rename_i tyS tyX htS htX
  have hokS := hT _ _ htS
  have hdX := (hT _ _ htX).desc
  split at h
  case h_2 => cases h
  rename_i e hdesc
  split at h
  case h_2 => cases h
  rename_i te hte
  have hok := hT _ _ hte
  obtain ⟨i, hi, hz, hsi, hby⟩ := hok.info
  have hzs := hok.zero_size
  have hdS := hokS.desc
  rw [hdesc] at hdS
  have hge : g.sz e = i.size := by rw [hh.sz, hsi]; simp [sizes, hte]
  split at h
  . cases h
  rename_i hnz
  simp only [Bool.or_eq_false_iff] at hnz
  have hs0 : 0 < i.size := by
    rw [hsi]
    rcases Nat.eq_zero_or_pos te.size with h0 | h0
    . rw [h0] at hnz; simp at hnz
    . exact h0
  have hb0 : 0 < i.bytes := by
    rw [hby]
    rcases Nat.eq_zero_or_pos te.nbytes with h0 | h0
    . rw [h0] at hnz; simp at hnz
    . exact h0
  split at h
  . rename_i xs a ys a'
    split at h
    case h_2 => cases h
    rename_i e2 hdesc2
    rw [hdesc2] at hdX
    rcases cond_some h with ⟨hc, h⟩ | ⟨_, h⟩
    case inr => cases h
    simp only [Bool.and_eq_true] at hc
    obtain ⟨hc1, hc2⟩ := hc
    have hsz1 : i.size = 1 := by rw [hsi]; exact Nat.eq_of_beq_eq_true hc2
    obtain ⟨hrs, has, A, n, c, rfl, hn, hnc, hcm⟩ := hs.bytes_inv
    obtain ⟨hrx, _, A', mm, c', rfl, hm, hmc, hcm'⟩ := hx.bytes_inv
    obtain ⟨q, m', dead', hk, ho, hout⟩ := useUpK_sound hh has h dst
    obtain ⟨hb, hk⟩ := check_some hk
    simp only [decide_eq_true_eq] at hb
    rw [hn, hm] at hb
    have hrow1 : RowAt g w A (n * i.size) (fun k => .int .u8 ((xs.getD k 0).toNat : Int)) := by
      intro k hk
      rw [hsz1, Nat.mul_one] at hk
      cases hrs with
      | bytes _ _ _ _ _ _ _ hxx =>
        obtain ⟨b, off, h1, h2, h3⟩ := hxx k _ (List.getElem?_eq_getElem (by omega))
        exact ⟨b, off, h1, h2, by rw [h3]; simp [List.getD_eq_getElem?_getD, (by omega : k < xs.length)]⟩
    have hrow2 : RowAt g w A' (mm * i.size) (fun k => .int .u8 ((ys.getD k 0).toNat : Int)) := by
      intro k hk
      rw [hsz1, Nat.mul_one] at hk
      cases hrx with
      | bytes _ _ _ _ _ _ _ hxx =>
        obtain ⟨b, off, h1, h2, h3⟩ := hxx k _ (List.getElem?_eq_getElem (by omega))
        exact ⟨b, off, h1, h2, by rw [h3]; simp [List.getD_eq_getElem?_getD, (by omega : k < ys.length)]⟩
    obtain ⟨A2, c2, w', g', hrun, hro, hown, hc2l, hc2m, hrow⟩ := append_core (P := P) t e ty i te.zero hdS hi hz (by rw [hzs, hsi]) hs0 hge q (.slot E.d dst) A n c _ ho hrow1 A' mm c' _ hrow2 (fun _ _ => rfl) (by rw [hby]; exact hb) hb0
    obtain ⟨E', hE, hkeep, hhere⟩ := hout g' w' hro
    refine ⟨_, w', g', E', _, m', dead', (append_types w t t2 ty e e2 hdS hdX hi A n c _).trans hrun, hE, hkeep, hhere, .v _ _ _ (.bytes _ A2 _ c2 (by simp; omega) hc2l hc2m fun k z hk => ?_) ?_, hro.tr _, hk⟩
    . have hlt : k < (n + mm) * i.size := by
        rw [hsz1, Nat.mul_one]
        have := (List.getElem?_eq_some_iff.1 hk).1
        simp at this; omega
      obtain ⟨b, off, h1, h2, h3⟩ := hrow k hlt
      refine ⟨b, off, h1, h2, ?_⟩
      rw [h3]
      simp only [hsz1, Nat.mul_one]
      congr 1
      by_cases hlt2 : k < n
      . rw [if_pos hlt2]
        rw [List.getElem?_append_left (by omega)] at hk
        simp [List.getD_eq_getElem?_getD, hk]
      . rw [if_neg hlt2]
        rw [List.getElem?_append_right (by omega), hn] at hk
        simp [List.getD_eq_getElem?_getD, hk]
    . exact .inr ⟨trivial, by rw [hE]; exact hown⟩
  . rename_i e1 xs a e1' ys a'
    split at h
    case h_2 => cases h
    rename_i e2 hdesc2
    rw [hdesc2] at hdX
    rcases cond_some h with ⟨hc, hkk⟩ | ⟨_, hkk⟩
    case inr => cases hkk
    clear h
    simp only [Bool.and_eq_true] at hc
    obtain ⟨hc1, hc2, hc3⟩ := hc
    obtain rfl := Nat.eq_of_beq_eq_true hc2
    obtain rfl := Nat.eq_of_beq_eq_true hc3
    obtain ⟨hrs, has, A, n, c, rfl, hn, hnc, hcm⟩ := hs.sl_inv
    obtain ⟨hrx, _, A', mm, c', rfl, hm, hmc, hcm'⟩ := hx.sl_inv
    obtain ⟨q, m', dead', hk, ho, hout⟩ := useUpK_sound hh has hkk dst
    obtain ⟨hb, hk⟩ := check_some hk
    simp only [decide_eq_true_eq] at hb
    rw [hn, hm] at hb
    cases hrs with
    | sl _ _ _ _ _ us hn1 _ _ hs1 hx1 hr1 =>
    cases hrx with
    | sl _ _ _ _ _ us2 hn2 _ _ hs2 hx2 hr2 =>
    rw [hge] at hs1 hs2
    have l1 := flat_len (fun x hx => (okEl_spec (hs1 x hx)).1)
    have l2 := flat_len (fun x hx => (okEl_spec (hs2 x hx)).1)
    have hrow1 : RowAt g w A (n * i.size) us := fun k hk => hx1 k _ (List.getElem?_eq_getElem (by rw [l1]; rw [hn]; exact hk))
    have hrow2 : RowAt g w A' (mm * i.size) us2 := fun k hk => hx2 k _ (List.getElem?_eq_getElem (by rw [l2]; rw [hm]; exact hk))
    obtain ⟨A2, c2, w', g', hrun, hro, hown, hc2l, hc2m, hrow⟩ := append_core (P := P) t e1' ty i te.zero hdS hi hz (by rw [hzs, hsi]) hs0 hge q (.slot E.d dst) A n c _ ho hrow1 A' mm c' _ hrow2 (fun k hk => by
      have := List.getElem?_eq_getElem (l := ys.flatMap V.cells) (i := k) (by rw [l2, hm]; exact hk)
      exact (hr2 k _ this).one (flat_one hs2 this)) (by rw [hby]; exact hb) hb0
    obtain ⟨E', hE, hkeep, hhere⟩ := hout g' w' hro
    refine ⟨_, w', g', E', _, m', dead', (append_types w t t2 ty e1' e2 hdS hdX hi A n c _).trans hrun, hE, hkeep, hhere, .v _ _ _ (.sl e1' _ A2 _ c2 (fun k => if k < n * i.size then us k else us2 (k - n * i.size)) (by simp; omega) hc2l hc2m (fun x hx => ?_) (fun k z hk => ?_) (fun k z hk => ?_)) ?_, hro.tr _, hk⟩
    . rw [hro.later.sz, hge]
      rcases List.mem_append.1 hx with hx | hx
      . exact hs1 x hx
      . exact hs2 x hx
    . have hlt := (List.getElem?_eq_some_iff.1 hk).1
      rw [List.flatMap_append, List.length_append, l1, l2, hn, hm, ← Nat.add_mul] at hlt
      exact hrow k hlt
    . rw [List.flatMap_append] at hk
      by_cases hlt : k < n * i.size
      . rw [List.getElem?_append_left (by rw [l1, hn]; exact hlt)] at hk
        simp only [hlt, if_true]
        exact (hr1 k z hk).later hro.later
      . rw [List.getElem?_append_right (by rw [l1, hn]; omega), l1, hn] at hk
        simp only [hlt, if_false]
        exact (hr2 _ z hk).later hro.later
    . exact .inr ⟨trivial, by rw [hE]; exact hown⟩
  . rename_i xs a ys a'
    split at h
    case h_2 => cases h
    rename_i hdesc2
    rw [hdesc2] at hdX
    rcases cond_some h with ⟨hc2, h⟩ | ⟨_, h⟩
    case inr => cases h
    have hsz1 : i.size = 1 := by rw [hsi]; exact Nat.eq_of_beq_eq_true hc2
    obtain ⟨hrs, has, A, n, c, rfl, hn, hnc, hcm⟩ := hs.bytes_inv
    obtain ⟨rfl, h63⟩ := hx.str_inv
    obtain ⟨q, m', dead', hk, ho, hout⟩ := useUpK_sound hh has h dst
    obtain ⟨hb, hk⟩ := check_some hk
    simp only [decide_eq_true_eq] at hb
    rw [hn] at hb
    have hrow1 : RowAt g w A (n * i.size) (fun k => .int .u8 ((xs.getD k 0).toNat : Int)) := by
      intro k hk
      rw [hsz1, Nat.mul_one] at hk
      cases hrs with
      | bytes _ _ _ _ _ _ _ hxx =>
        obtain ⟨b, off, h1, h2, h3⟩ := hxx k _ (List.getElem?_eq_getElem (by omega))
        exact ⟨b, off, h1, h2, by rw [h3]; simp [List.getD_eq_getElem?_getD, (by omega : k < xs.length)]⟩
    have hstr : Lib.strCells ⟨ys.toArray⟩ = news (ys.length * i.size) (fun k => .int .u8 ((ys.getD k 0).toNat : Int)) := by
      rw [hsz1, Nat.mul_one]
      apply List.ext_getElem?
      intro k
      by_cases hk : k < ys.length
      . rw [news_at _ _ hk]
        simp [Lib.strCells, List.getD_eq_getElem?_getD, hk]
      . rw [List.getElem?_eq_none (by simp [Lib.strCells]; omega), List.getElem?_eq_none (by rw [news_length]; omega)]
    obtain ⟨A2, c2, w', g', hrun, hro, hown, hc2l, hc2m, hrow⟩ := append_core_str (P := P) t t2 e ty i te.zero hdS hdX hi hz (by rw [hzs, hsi]) hsz1 hge q (.slot E.d dst) A n c _ ho hrow1 ys.length _ ys rfl hstr (fun _ _ => rfl) (by rw [hby]; exact hb) hb0
    obtain ⟨E', hE, hkeep, hhere⟩ := hout g' w' hro
    refine ⟨_, w', g', E', _, m', dead', hrun, hE, hkeep, hhere, .v _ _ _ (.bytes _ A2 _ c2 (by simp; omega) hc2l hc2m fun k z hk => ?_) ?_, hro.tr _, hk⟩
    . have hlt : k < (n + ys.length) * i.size := by
        rw [hsz1, Nat.mul_one]
        have := (List.getElem?_eq_some_iff.1 hk).1
        simp at this; omega
      obtain ⟨b, off, h1, h2, h3⟩ := hrow k hlt
      refine ⟨b, off, h1, h2, ?_⟩
      rw [h3]
      simp only [hsz1, Nat.mul_one]
      congr 1
      by_cases hlt2 : k < n
      . rw [if_pos hlt2]
        rw [List.getElem?_append_left (by omega)] at hk
        simp [List.getD_eq_getElem?_getD, hk]
      . rw [if_neg hlt2]
        rw [List.getElem?_append_right (by omega), hn] at hk
        simp [List.getD_eq_getElem?_getD, hk]
    . exact .inr ⟨trivial, by rw [hE]; exact hown⟩
  . cases h
end
end Go.Proofs.Ytilfphdeacogmaa.En

/- The engine, part q: make, slices written out. -/
namespace Go.Proofs.Ytilfphdeacogmaa.En
open Go
set_option linter.unusedVariables false
section
variable {R : Type} {P : Program} {T : TypeId -> Option Ty} {E : Env} {g : G} {w w' : World} {dead : List Pos}
theorem toVs_get : ∀ (ds : List D) (xs : List V), toVs ds = some xs -> xs.length = ds.length /\ ∀ (k : Nat) y, xs[k]? = some y -> y.one = true /\ ∃ a, ds[k]? = some (.v y a)
  | [], xs, h => by simp only [toVs, Option.some.injEq] at h; subst h; exact ⟨rfl, fun k y h => by simp at h⟩
  | d :: ds, xs, h => by
    cases d with
    | v x a =>
      have hx : ∀ xs, (toVs ds).map (x :: ·) = some xs -> x.one = true -> xs.length = (D.v x a :: ds).length /\ ∀ (k : Nat) y, xs[k]? = some y -> y.one = true /\ ∃ a', (D.v x a :: ds)[k]? = some (.v y a') := by
        intro xs h h1
        rw [Option.map_eq_some_iff] at h
        obtain ⟨r, hr, rfl⟩ := h
        obtain ⟨h2, h3⟩ := toVs_get ds r hr
        refine ⟨by simp [h2], fun k y hk => ?_⟩
        rcases k with _ | k
        . simp at hk; subst hk; exact ⟨h1, a, by simp⟩
        . obtain ⟨h4, a', h5⟩ := h3 k y (by simpa using hk); exact ⟨h4, a', by simpa using h5⟩
      cases x <;> simp only [toVs] at h <;> first
        | exact hx xs h rfl
        | cases h
    | _ => simp only [toVs, reduceCtorEq] at h
theorem chunk_get (row : Bool) (size : Nat) (hsz : row = false -> size = 1) : ∀ (n : Nat) (cs : List D) (xs : List V), cs.length = n * size -> chunk row size cs n = some xs ->
    xs.length = n /\ (∀ x ∈ xs, okEl size x = true) /\ ∀ (k : Nat) y, (xs.flatMap V.cells)[k]? = some y -> ∃ a, cs[k]? = some (.v y a)
  | 0, cs, xs, hl, h => by simp only [chunk, Option.some.injEq] at h; subst h; exact ⟨rfl, fun x h => by simp at h, fun k y h => by simp at h⟩
  | n + 1, cs, xs, hl, h => by
    unfold chunk at h
    split at h
    case h_2 => cases h
    rename_i d hd
    split at h
    case h_2 => cases h
    rename_i x hx
    split at h
    case h_2 => cases h
    rename_i r hr
    injection h with h; subst h
    rw [Nat.add_mul, Nat.one_mul] at hl
    obtain ⟨h1, h2, h3⟩ := chunk_get row size hsz n (cs.drop size) r (by simp; omega) hr
    -- the first value
    have hfirst : x.cells.length = size /\ (∀ y ∈ x.cells, y.one = true) /\ ∀ (k : Nat) y, x.cells[k]? = some y -> ∃ a, cs[k]? = some (.v y a) := by
      unfold ofCells at hd
      split at hd
      . injection hd with hd; subst hd
        simp only [toV, Option.map_eq_some_iff] at hx
        obtain ⟨ys, hys, rfl⟩ := hx
        obtain ⟨h4, h5⟩ := toVs_get _ _ hys
        refine ⟨by show ys.length = _; rw [h4]; simp; omega, fun y hy => ?_, fun k y hk => ?_⟩
        . obtain ⟨k, hk⟩ := List.mem_iff_getElem?.1 hy; exact (h5 k y hk).1
        . obtain ⟨_, a, h6⟩ := h5 k y hk
          rw [List.getElem?_take] at h6
          split at h6
          . exact ⟨a, h6⟩
          . cases h6
      . have hs1 := hsz rfl
        split at hd
        . rename_i d' hd'
          rcases cond_some hd with ⟨hone, hd⟩ | ⟨_, hd⟩
          case inr => cases hd
          injection hd with hd; subst hd
          have hc0 : cs[0]? = some d' := by
            have h9 : (cs.take size)[0]? = some d' := by rw [hd']; rfl
            rw [List.getElem?_take] at h9
            split at h9
            . exact h9
            . cases h9
          cases d' with
          | v z a =>
            have hz : z.one = true /\ x = z := by
              cases z <;> simp only [toV, Option.some.injEq, reduceCtorEq] at hx <;> first | exact ⟨rfl, hx.symm⟩
            obtain ⟨hz1, rfl⟩ := hz
            have hcells : x.cells = [x] := by cases x <;> first | rfl | cases hz1
            refine ⟨by rw [hcells]; exact hs1.symm, fun y hy => by rw [hcells] at hy; simp at hy; subst hy; exact hz1, fun k y hk => ?_⟩
            rw [hcells] at hk
            have : k = 0 := by have := (List.getElem?_eq_some_iff.1 hk).1; simp at this; omega
            subst this
            simp at hk; subst hk
            exact ⟨a, hc0⟩
          | agg ds =>
            simp [D.one] at hone
          | _ => simp [toV] at hx
        . cases hd
    obtain ⟨e1, e2, e3⟩ := hfirst
    refine ⟨by simp [h1], fun y hy => ?_, fun k y hk => ?_⟩
    . rcases List.mem_cons.1 hy with rfl | hy
      . simp only [okEl, Bool.and_eq_true, beq_iff_eq, List.all_eq_true]; exact ⟨e1, e2⟩
      . exact h2 y hy
    . rw [List.flatMap_cons] at hk
      by_cases hlt : k < size
      . rw [List.getElem?_append_left (by omega)] at hk
        exact e3 k y hk
      . rw [List.getElem?_append_right (by omega), e1] at hk
        obtain ⟨a, h6⟩ := h3 _ y hk
        rw [List.getElem?_drop, show size + (k - size) = k by omega] at h6
        exact ⟨a, h6⟩
theorem repV_of {y : V} {a : Att} {v : Value} (h : RepD E g w dead (.v y a) v) : RepV g w y v := by cases h with | v x a v h ha => exact h
theorem reps_get {α : Type} (xs : List α) : ∀ (n k : Nat), (reps xs n)[k]? = if k < n * xs.length then xs[k % xs.length]? else none
  | 0, k => by simp [reps]
  | n + 1, k => by
    rw [reps]
    by_cases h : k < xs.length
    . rw [List.getElem?_append_left h, if_pos (by rw [Nat.add_mul]; omega), Nat.mod_eq_of_lt h]
    . rw [List.getElem?_append_right (by omega), reps_get xs n]
      rw [Nat.add_mul, Nat.one_mul]
      have hm : (k - xs.length) % xs.length = k % xs.length := (Nat.mod_eq_sub_mod (by omega)).symm
      rw [hm]
      by_cases h2 : k - xs.length < n * xs.length
      . rw [if_pos h2, if_pos (by omega)]
      . rw [if_neg h2, if_neg (by omega)]
theorem reps_length {α : Type} (xs : List α) : ∀ n, (reps xs n).length = n * xs.length
  | 0 => by simp [reps]
  | n + 1 => by rw [reps, List.length_append, reps_length xs n, Nat.add_mul]; omega
theorem made_get (z : Array Value) (n k : Nat) (h : k < n) (hz : 0 < z.size) : (madeCells z n).getD k undef = z.getD (k % z.size) undef := by
  have hm := Nat.mod_lt k hz
  simp [madeCells, Array.getD_eq_getD_getElem?, h, hm]
theorem made_rep {e : TypeId} {te : Ty} (hok : TyOK P e te) (hs : 0 < te.size) (n : Nat) : RepL E g w dead (reps te.zeroDs n) (madeCells te.zero.cells (n * te.size)) := by
  obtain ⟨h1, h2⟩ := zero_rep (E := E) (g := g) (w := w) (dead := dead) hok
  have hl : te.zeroDs.length = te.size := by simp [Ty.zeroDs, Ty.size]
  refine ⟨by rw [reps_length, size_madeCells, hl], fun k y hk => ?_⟩
  rw [reps_get, hl] at hk
  split at hk
  . rename_i hlt
    rw [made_get _ _ _ hlt (by rw [h1, hl]; exact hs), h1, hl]
    exact h2 _ y hk
  . cases hk
theorem unU8s_get : ∀ (cs : List D) (l : List UInt8), unU8s cs = some l -> l.length = cs.length /\ ∀ (k : Nat) x, l[k]? = some x -> ∃ n a, cs[k]? = some (.v (.int .u8 n) a) /\ x = UInt8.ofNat n.toNat
  | [], l, h => by simp only [unU8s, Option.some.injEq] at h; subst h; exact ⟨rfl, fun k x h => by simp at h⟩
  | d :: cs, l, h => by
    unfold unU8s at h
    split at h
    . cases ‹_ = ([] : List D)›
    . rename_i n a r heq
      injection heq with e1 e2; subst e1 e2
      split at h
      . rename_i l' hl'
        injection h with h; subst h
        obtain ⟨h1, h2⟩ := unU8s_get cs l' hl'
        refine ⟨by simp [h1], fun k x hk => ?_⟩
        rcases k with _ | k
        . simp at hk; subst hk; exact ⟨n, a, by simp, rfl⟩
        . obtain ⟨n', a', h3, h4⟩ := h2 k x (by simpa using hk); exact ⟨n', a', by simpa using h3, h4⟩
      . cases h
    . cases h
theorem u8_back {n : Int} (h : IntKind.u8.min <= n /\ n <= IntKind.u8.max) : ((UInt8.ofNat n.toNat).toNat : Int) = n := by
  have e1 : IntKind.min .u8 = 0 := by decide
  have e2 : IntKind.max .u8 = 255 := by decide
  rw [e1, e2] at h
  simp [UInt8.toNat_ofNat']
  omega
theorem newRow_rep {m : Mem} (hh : Here T E g w m) (dst : Nat) (t e : TypeId) {te : Ty} (hte : T e = some te) (len cap : Nat) (row : Array Value) (hrow : row.size = cap * te.size) (hlc : len <= cap) (hcm : cap <= maxLen) (cs : List D) (hcs : cs.length = len * te.size)
    (hrep : ∀ (k : Nat) y, cs[k]? = some y -> RepD E g w dead y (row.getD k undef)) :
    (∀ l : List UInt8, te.size = 1 -> unU8s cs = some l -> RepD E (g.at_ w.heap.size (.own (.slot E.d dst) (len * te.size))) (w.alloc (.cells row e)) dead (.v (.bytes l) (.own (.slot dst) e)) (.slice (some ⟨w.heap.size, 0, none⟩) len cap)) /\
    (∀ l : List V, l.length = len -> (∀ x ∈ l, okEl te.size x = true) -> (∀ (k : Nat) y, (l.flatMap V.cells)[k]? = some y -> ∃ a, cs[k]? = some (.v y a)) -> RepD E (g.at_ w.heap.size (.own (.slot E.d dst) (len * te.size))) (w.alloc (.cells row e)) dead (.v (.sl e l) (.own (.slot dst) e)) (.slice (some ⟨w.heap.size, 0, none⟩) len cap)) := by
  have hge : g.sz e = te.size := by rw [hh.sz]; simp [sizes, hte]
  have hnew : (w.alloc (.cells row e)).heap[w.heap.size]? = some (.cells row e (0, 0)) := heap_alloc_new w _
  have hown : AttOK E (g.at_ w.heap.size (.own (.slot E.d dst) (len * te.size))) (w.alloc (.cells row e)) dead (.own (.slot dst) e) (.slice (some ⟨w.heap.size, 0, none⟩) len cap) :=
    .inr ⟨trivial, .inr ⟨w.heap.size, len, cap, row, rfl, by rw [G.at_eq]; show _ = Perm.own (.slot E.d dst) (len * g.sz e); rw [hge], hnew, hlc, hcm, by show row.size = cap * g.sz e; rw [hge]; exact hrow⟩⟩
  have hle : len * te.size <= cap * te.size := Nat.mul_le_mul_right _ hlc
  have hcell : ∀ k, k < len * te.size -> Stable (g.at_ w.heap.size (.own (.slot E.d dst) (len * te.size))) w.heap.size (0 + k) /\ (w.alloc (.cells row e)).cell? ⟨w.heap.size, 0 + k, none⟩ = some (row.getD k undef) := fun k hk => by
    refine ⟨by unfold Stable; rw [G.at_eq]; simpa using hk, ?_⟩
    rw [cell_of_row _ _ _ _ _ _ hnew]
    simp [Array.getD_eq_getD_getElem?, (by omega : k < row.size)]
  have hk := keeps_grow (E := E) (g := g) (dead := dead) (Grows.alloc w (.cells row e)) (Nat.le_refl _) (.own (.slot E.d dst) (len * te.size))
  refine ⟨fun l h1 h2 => ?_, fun l h1 h2 h3 => ?_⟩
  . obtain ⟨h4, h5⟩ := unU8s_get cs l h2
    refine .v _ _ _ (.bytes l _ _ _ (by rw [h4, hcs, h1, Nat.mul_one]) hlc hcm fun k x hkx => ?_) hown
    obtain ⟨n, a, h6, rfl⟩ := h5 k x hkx
    have hlt := (List.getElem?_eq_some_iff.1 h6).1
    obtain ⟨b1, b2⟩ := hcell k (by omega)
    refine ⟨w.heap.size, 0, rfl, b1, ?_⟩
    rw [b2]
    obtain ⟨h8, h9⟩ := (hrep k _ h6).int_inv
    rw [h8, u8_back h9]
  . refine .v _ _ _ (.sl e l _ _ _ (fun k => row.getD k undef) h1 hlc hcm (fun x hx => by show okEl (g.sz e) x = true; rw [hge]; exact h2 x hx) (fun k y hky => ?_) (fun k y hky => ?_)) hown
    . have hlt := (List.getElem?_eq_some_iff.1 hky).1
      rw [flat_len (fun x hx => (okEl_spec (h2 x hx)).1), h1] at hlt
      obtain ⟨b1, b2⟩ := hcell k hlt
      exact ⟨w.heap.size, 0, rfl, b1, b2⟩
    . obtain ⟨a, h6⟩ := h3 k y hky
      exact (repV_of (hrep k _ h6)).later hk.later
theorem makeSliceK_sound (hT : TypesOK P T) {m : Mem} (hh : Here T E g w m) (dst : Nat) (t : TypeId) (len cap : D) (vl vc : Value) (hl : RepD E g w dead len vl) (hc : RepD E g w dead cap vc) {K : D -> Option R} {r : R} (h : makeSliceK T dst t len cap K = some r) :
    ∃ v w' p d, (Instr.makeSlice t vl vc).run P w = .ok v w' /\ Grows w w' /\ RepD E (g.at_ w.heap.size p) w' dead d v /\ K d = some r := by
  unfold makeSliceK at h
  split at h
  case h_2 => cases h
  rename_i ty kl l al kc c ac hty
  have hokS := hT _ _ hty
  split at h
  case h_2 => cases h
  rename_i e hdesc
  have hdS := hokS.desc
  rw [hdesc] at hdS
  split at h
  case h_2 => cases h
  rename_i te hte
  have hok := hT _ _ hte
  obtain ⟨i, hi, hz, hsi, hby⟩ := hok.info
  rcases cond_some h with ⟨_, h⟩ | ⟨hnz, h⟩
  . cases h
  simp only [Bool.or_eq_false_iff] at hnz
  have hs0 : 0 < te.size := by
    rcases Nat.eq_zero_or_pos te.size with h0 | h0
    . rw [h0] at hnz; simp at hnz
    . exact h0
  have hb0 : 0 < te.nbytes := by
    rcases Nat.eq_zero_or_pos te.nbytes with h0 | h0
    . rw [h0] at hnz; simp at hnz
    . exact h0
  obtain ⟨hb, h⟩ := check_some h
  simp only [Bool.and_eq_true, decide_eq_true_eq] at hb
  obtain ⟨b1, b2, b3⟩ := hb
  obtain ⟨rfl, _⟩ := hl.int_inv
  obtain ⟨rfl, _⟩ := hc.int_inv
  have b4 : c <= 140737488355328 := by
    have hm : c * 1 <= c * te.nbytes := Int.mul_le_mul_of_nonneg_left (by omega) (by omega)
    omega
  have hrun := run_make (P := P) w t e i te.zero hdS hi hz kl kc l c b1 b2 (by rw [hby, Int.mul_comm]; omega) (by omega)
  rw [hsi] at hrun
  have hmr := made_rep (E := E) (g := g) (w := w) (dead := dead) hok hs0 l.toNat
  have hmrc : ∀ (k : Nat) y, (reps te.zeroDs l.toNat)[k]? = some y -> RepD E g w dead y ((madeCells te.zero.cells (c.toNat * te.size)).getD k undef) := fun k y hk => by
    have hlt := (List.getElem?_eq_some_iff.1 hk).1
    rw [reps_length] at hlt
    have hl' : te.zeroDs.length = te.size := by simp [Ty.zeroDs, Ty.size]
    rw [hl'] at hlt
    have hle : l.toNat * te.size <= c.toNat * te.size := Nat.mul_le_mul_right _ (by omega)
    have := hmr.2 k y hk
    have hzsz : 0 < te.zero.cells.size := by rw [hok.zero_size]; exact hs0
    rw [made_get _ _ _ hlt hzsz] at this
    rw [made_get _ _ _ (by omega) hzsz]
    exact this
  have hlr : (reps te.zeroDs l.toNat).length = l.toNat * te.size := by rw [reps_length]; simp [Ty.zeroDs, Ty.size]
  obtain ⟨f1, f2⟩ := newRow_rep (dead := dead) hh dst t e hte l.toNat c.toNat (madeCells te.zero.cells (c.toNat * te.size)) (size_madeCells _ _) (by omega) (by unfold maxLen; omega) (reps te.zeroDs l.toNat) hlr hmrc
  split at h
  . rename_i e' hcks
    split at h
    . rename_i hte8
      have hsz1 : te.size = 1 := by simp [Ty.size, hte8]
      refine ⟨_, _, _, _, hrun, Grows.alloc w _, f1 (List.replicate l.toNat 0) hsz1 ?_, h⟩
      have hz8 : te.zeroDs = [.v (.int .u8 0) .no] := by simp [Ty.zeroDs, hte8, zeroD]
      rw [hz8]
      have : ∀ n, unU8s (reps [.v (.int .u8 0) .no] n) = some (List.replicate n 0) := by
        intro n
        induction n with
        | zero => rfl
        | succ n ih =>
          show unU8s (.v (.int .u8 0) .no :: reps [.v (.int .u8 0) .no] n) = _
          simp only [unU8s, ih, List.replicate_succ]
          rfl
      exact this _
    . cases h
  . rename_i e' hcks
    split at h
    . rename_i z hz1
      refine ⟨_, _, _, _, hrun, Grows.alloc w _, f2 (List.replicate l.toNat z) (by simp) ?_ ?_, h⟩
      . intro x hx
        have := List.eq_of_mem_replicate hx
        subst this
        obtain ⟨_, h2, _⟩ := chunk_get te.row te.size hok.one 1 te.zeroDs [x] (by simp [Ty.zeroDs, Ty.size]) hz1
        exact h2 x (by simp)
      . intro k y hk
        obtain ⟨_, h2, h3⟩ := chunk_get te.row te.size hok.one 1 te.zeroDs [z] (by simp [Ty.zeroDs, Ty.size]) hz1
        have hzl := (okEl_spec (h2 z (by simp))).1
        have hfl : ∀ n, (List.replicate n z).flatMap V.cells = reps z.cells n := by
          intro n
          induction n with
          | zero => rfl
          | succ n ih => rw [List.replicate_succ, List.flatMap_cons, ih]; rfl
        rw [hfl, reps_get, hzl] at hk
        split at hk
        . rename_i hlt
          obtain ⟨a, h4⟩ := h3 (k % te.size) y (by simpa using hk)
          refine ⟨a, ?_⟩
          have hl' : te.zeroDs.length = te.size := by simp [Ty.zeroDs, Ty.size]
          rw [reps_get, hl', if_pos hlt]; exact h4
        . cases hk
    . cases h
  . cases h
theorem buildSliceK_sound (hT : TypesOK P T) {m : Mem} (hh : Here T E g w m) (dst : Nat) (t : TypeId) (len : Nat) (parts : List (Nat × D)) (vparts : Array (Nat × Value)) (hp : RepP E g w dead parts vparts.toList) {K : D -> Option R} {r : R}
    (h : buildSliceK T dst t len parts K = some r) :
    ∃ v w' p d, (Instr.buildSlice t len vparts).run P w = .ok v w' /\ Grows w w' /\ RepD E (g.at_ w.heap.size p) w' dead d v /\ K d = some r := by
  unfold buildSliceK at h
  split at h
  case h_2 => cases h
  rename_i ty hty
  have hokS := hT _ _ hty
  split at h
  case h_2 => cases h
  rename_i e hdesc
  have hdS := hokS.desc
  rw [hdesc] at hdS
  split at h
  case h_2 => cases h
  rename_i te hte
  have hok := hT _ _ hte
  obtain ⟨i, hi, hz, hsi, hby⟩ := hok.info
  rcases cond_some h with ⟨_, h⟩ | ⟨hnz, h⟩
  . cases h
  simp only [Bool.or_eq_false_iff, Bool.not_eq_false'] at hnz
  have hs0 : 0 < te.size := by
    rcases Nat.eq_zero_or_pos te.size with h0 | h0
    . rw [h0] at hnz; simp at hnz
    . exact h0
  have hlen := Nat.le_of_ble_eq_true hnz.2
  have hl1 : len <= len * te.size := Nat.le_mul_of_pos_right _ hs0
  split at h
  case h_2 => cases h
  rename_i cs hcs
  have hpp := RepP.map_ (f := D.bare) (fun h => h.bare_) hp
  have hmr := made_rep (E := E) (g := g) (w := w) (dead := dead) hok hs0 len
  obtain ⟨us, h1, h2⟩ := fillD_sound _ _ _ _ _ cs hpp hmr hcs
  -- what the model does
  have hcsl : cs.length = len * te.size := by
    have := h2.1
    have hfs : ∀ (ps : List (Nat × D)) (ds ds' : List D), fillD (fun i => some (i * te.size, te.size)) ds ps = some ds' -> ds'.length = ds.length := by
      intro ps
      induction ps with
      | nil => intro ds ds' h; simp only [fillD, Option.some.injEq] at h; subst h; rfl
      | cons p ps ih =>
        intro ds ds' h
        obtain ⟨i, d⟩ := p
        simp only [fillD] at h
        rcases cond_some h with ⟨_, h⟩ | ⟨_, h⟩
        . rw [ih _ _ h, setR_length]
        . cases h
    rw [hfs _ _ _ hcs, reps_length]; simp [Ty.zeroDs, Ty.size]
  have hrun : (Instr.buildSlice t len vparts).run P w = .ok (.slice (some ⟨w.heap.size, 0, none⟩) len len) (w.alloc (.cells us e)) := by
    rcases Nat.eq_zero_or_pos len with h0 | h0
    . subst h0
      have hv : vparts = #[] := by
        have hp0 : vparts.toList = [] := by
          cases hvl : vparts.toList with
          | nil => rfl
          | cons q qs =>
            exfalso
            rw [hvl] at h1
            obtain ⟨j, v⟩ := q
            simp only [Instr.fill] at h1
            split at h1
            . cases h1
            . rename_i hn
              simp only [size_madeCells, Nat.zero_mul] at hn
              have : v.cells.size = te.size := by
                by_cases hc : v.cells.size = te.size
                . exact hc
                . exact absurd (by simp [hc]) hn
              exact hn (by simp [this]; omega)
        exact Array.toList_eq_nil_iff.1 hp0
      subst hv
      have hus : us = #[] := by
        simp only [Instr.fill, Option.some.injEq] at h1
        rw [← h1]
        apply Array.eq_empty_of_size_eq_zero
        rw [size_madeCells]; simp
      subst hus
      have h00 : ∀ f : Nat -> Value, (Array.range 0).map f = #[] := fun f => by apply Array.eq_empty_of_size_eq_zero; simp
      simp [Instr.buildSlice, run_underlying hdS, sizeOf, typeInfo, hi, newRow, Instr.fill]
      rw [h00]
    . refine run_buildSlice (P := P) w t e len vparts us i te.zero hdS hi hz (by rw [hsi]; omega) (by rw [hsi]; have := Nat.mul_pos h0 hs0; omega) ?_
      rw [hsi]
      exact h1
  obtain ⟨f1, f2⟩ := newRow_rep (dead := dead) hh dst t e hte len len us (by rw [h2.1, hcsl]) (Nat.le_refl _) (by unfold maxLen; omega) cs hcsl h2.2
  split at h
  . split at h
    . rename_i l hl
      rcases cond_some h with ⟨hsz1, h⟩ | ⟨_, h⟩
      . exact ⟨_, _, _, _, hrun, Grows.alloc w _, f1 l (Nat.eq_of_beq_eq_true hsz1) hl, h⟩
      . cases h
    . cases h
  . split at h
    . rename_i l hl
      obtain ⟨g1, g2, g3⟩ := chunk_get te.row te.size hok.one len cs l hcsl hl
      exact ⟨_, _, _, _, hrun, Grows.alloc w _, f2 l g1 g2 g3, h⟩
    . cases h
  . cases h
end
end Go.Proofs.Ytilfphdeacogmaa.En

/- The engine, part r: what comes behind an operation may be looked at apart. -/
namespace Go.Proofs.Ytilfphdeacogmaa.En
open Go
set_option linter.unusedVariables false
section
variable {R : Type} {T : TypeId -> Option Ty}
theorem br_b {α : Type} (c : Bool) (X : Option α) (K : α -> Option R) : (br c X none).bind K = br c (X.bind K) none := by cases c <;> rfl
theorem check_b {α : Type} (c : Bool) (X : Option α) (K : α -> Option R) : (check c X).bind K = check c (X.bind K) := br_b c X K
theorem cond_b {α : Type} (c : Bool) (X Y : Option α) (K : α -> Option R) : (cond c X Y).bind K = cond c (X.bind K) (Y.bind K) := by cases c <;> rfl
theorem intK_b (op : BinOp) (k : IntKind) (a b : Int) (K : D -> Option R) : (intK op k a b some).bind K = intK op k a b K := by
  cases op <;> simp only [intK, check_b, Option.bind_some]
theorem strK_b (op : BinOp) (a b : List UInt8) (K : D -> Option R) : (strK op a b some).bind K = strK op a b K := by
  cases op <;> simp only [strK, check_b, Option.bind_some] <;> rfl
theorem binK_b (op : BinOp) (xt : TypeId) (yc : Bool) (x y : D) (K : D -> Option R) : (binK T op xt yc x y some).bind K = binK T op xt yc x y K := by
  unfold binK
  split
  . split
    . exact intK_b _ _ _ _ _
    . exact intK_b _ _ _ _ _
    . split
      . exact intK_b _ _ _ _ _
      . rfl
  . exact strK_b _ _ _ _
  . split
    . split <;> rfl
    . rfl
  . split
    . unfold eqAggK
      split
      . rw [cond_b]; congr 1; split <;> rfl
      . rfl
    . unfold eqAggK
      split
      . rw [cond_b]; congr 1; split <;> rfl
      . rfl
    . rfl
  . split
    . split
      . split <;> rfl
      . rfl
    . rfl
theorem unK_b (op : UnOp) (x : D) (K : D -> Option R) : (unK op x some).bind K = unK op x K := by
  unfold unK
  split <;> rfl
theorem convK_b (src dst : TypeId) (x : D) (K : D -> Option R) : (convK T src dst x some).bind K = convK T src dst x K := by
  unfold convK
  split
  . split
    . rfl
    . split
      . split
        . rw [check_b]; rfl
        . rfl
      . rfl
    . split
      . split
        . rw [check_b]; rfl
        . rfl
      . rfl
    . rfl
    . rfl
  . rfl
theorem boundK_b {α : Type} (x : Option D) (d hi : Nat) (F : Nat -> Option α) (K : α -> Option R) : (boundK x d hi F).bind K = boundK x d hi fun n => (F n).bind K := by
  unfold boundK
  split
  . rfl
  . rw [check_b]
  . rfl
theorem cutK_b {α β : Type} (xs : List α) (lo hi : Option D) (F : List α -> Option β) (K : β -> Option R) : (cutK xs lo hi F).bind K = cutK xs lo hi fun l => (F l).bind K := by
  unfold cutK
  split <;> simp only [boundK_b]
theorem sliceK_b (t : TypeId) (x : D) (lo hi mx : Option D) (K : D -> Option R) : (sliceK T t x lo hi mx some).bind K = sliceK T t x lo hi mx K := by
  unfold sliceK
  split
  . rfl
  . split
    . split
      . split
        . rw [cond_b, cutK_b]; rfl
        . rfl
      . split
        . rw [cond_b, cutK_b]; rfl
        . rfl
      . rw [cutK_b]; rfl
      . rfl
    . rfl
theorem lenK_b (t : TypeId) (x : D) (K : D -> Option R) : (lenK T t x some).bind K = lenK T t x K := by
  unfold lenK
  split
  . split
    . rfl
    . rfl
    . rfl
    . rw [check_b]; rfl
    . rfl
  . rfl
theorem inK_b {α : Type} (i : Int) (n : Nat) (F : Nat -> Option α) (K : α -> Option R) : (inK i n F).bind K = inK i n fun j => (F j).bind K := by
  unfold inK; rw [check_b]
theorem at_b {α β : Type} (xs : List α) (i : Nat) (F : α -> Option β) (K : β -> Option R) : (at? xs i F).bind K = at? xs i fun x => (F x).bind K := by
  unfold at?; split <;> rfl
theorem pick_b {α : Type} (i : Int) (F : Nat -> Option α) (K : α -> Option R) : ∀ (n j : Nat), (pickFrom i j n F).bind K = pickFrom i j n fun j => (F j).bind K
  | 0, j => rfl
  | n + 1, j => by
    simp only [pickFrom]
    rw [← pick_b i F K n (j + 1)]
    cases decide (i = (j : Int)) <;> rfl
theorem fitC_b {α : Type} (ck : CK) (x : V) (F : V -> Option α) (K : α -> Option R) : (fitC ck x F).bind K = fitC ck x fun y => (F y).bind K := by
  cases ck <;> cases x <;> simp only [fitC, V.unInt, V.unBool, V.unStr, V.unBytes, V.unSl, V.unI, Option.bind_none] <;> first
    | rfl
    | (split <;> rfl)
    | (rw [cond_b]; rfl)
theorem fitCs_b {α : Type} : ∀ (cks : List CK) (xs : List V) (F : List V -> Option α) (K : α -> Option R), (fitCs cks xs F).bind K = fitCs cks xs fun y => (F y).bind K
  | [], xs, F, K => by cases xs <;> rfl
  | ck :: cks, xs, F, K => by
    cases xs with
    | nil => rfl
    | cons x r =>
      simp only [fitCs, unCons]
      rw [fitC_b]
      congr 1
      funext y
      exact fitCs_b cks r _ K
theorem fit_b {α : Type} (ty : Ty) (x : V) (F : List V -> Option α) (K : α -> Option R) : (fit ty x F).bind K = fit ty x fun y => (F y).bind K := by
  unfold fit
  split
  . cases x <;> simp only [V.unAgg, Option.bind_none]
    exact fitCs_b _ _ _ _
  . exact fitC_b _ _ _ _
theorem indexAddrK_b (t : TypeId) (x i : D) (K : D -> Option R) : (indexAddrK T t x i some).bind K = indexAddrK T t x i K := by
  unfold indexAddrK
  split
  . split
    . split
      . rw [cond_b, inK_b]; simp only [at_b]; rfl
      . rfl
    . split
      . rw [cond_b, inK_b]; simp only [at_b, fit_b]; rfl
      . rfl
    . split
      . rw [pick_b]; rfl
      . rfl
    . split
      . rw [pick_b]; rfl
      . rfl
    . rfl
  . rfl
theorem indexK_b (t : TypeId) (x i : D) (K : D -> Option R) : (indexK T t x i some).bind K = indexK T t x i K := by
  unfold indexK
  simp only [forceD_eq]
  split
  . split
    . rw [inK_b]; simp only [at_b]; rfl
    . split
      . rw [pick_b]
        congr 1
        funext j
        split <;> rfl
      . rfl
    . rfl
  . rfl
theorem fieldK_b (t : TypeId) (x : D) (f : Nat) (K : D -> Option R) : (fieldK T t x f some).bind K = fieldK T t x f K := by
  unfold fieldK
  simp only [forceD_eq]
  split
  . split
    . split
      . split
        . split <;> rfl
        . rfl
      . rfl
    . rfl
  . rfl
theorem fieldAddrK_b (t : TypeId) (x : D) (f : Nat) (K : D -> Option R) : (fieldAddrK T t x f some).bind K = fieldAddrK T t x f K := by
  unfold fieldAddrK
  split
  . split
    . split
      . split
        . rw [cond_b]
          congr 1
          split <;> rfl
        . rfl
      . rfl
    . rfl
  . rfl
theorem loadK_b (t : TypeId) (a : D) (m : Mem) (K : D -> Option R) : (loadK T t a m some).bind K = loadK T t a m K := by
  unfold loadK
  simp only [forceD_eq]
  split
  . split
    . split
      . split
        . rw [cond_b]; rfl
        . rw [cond_b]
          congr 1
          split <;> rfl
      . rfl
    . split
      . rw [cond_b]; rfl
      . rw [cond_b]
        congr 1
        split <;> rfl
    . rfl
  . rfl
theorem buildK_b (t : TypeId) (ps : List (Nat × D)) (K : D -> Option R) : (buildK T t ps some).bind K = buildK T t ps K := by
  unfold buildK
  simp only [forceD_eq]
  split
  . split
    . split
      . split <;> rfl
      . rfl
    . split
      . split <;> rfl
      . rfl
    . rfl
  . rfl
theorem minmaxK_b (mx : Bool) (args : List D) (K : D -> Option R) : (minmaxK mx args some).bind K = minmaxK mx args K := by
  unfold minmaxK
  split
  . split <;> rfl
  . rfl
theorem bind_some {α : Type} {X : Option α} {K : α -> Option R} {r : R} (h : X.bind K = some r) : ∃ d, X = some d /\ K d = some r := by
  cases X with
  | none => cases h
  | some d => exact ⟨d, rfl, h⟩
end
end Go.Proofs.Ytilfphdeacogmaa.En

/- The engine, part s: every operation but a call of a function. -/
namespace Go.Proofs.Ytilfphdeacogmaa.En
open Go
set_option linter.unusedVariables false
section
variable {R : Type} {P : Program} {T : TypeId -> Option Ty} {E : Env} {g : G} {w w' : World} {dead : List Pos}
def RepS (E : Env) (g : G) (w : World) (dead : List Pos) (slots : List D) (a : Act) : Prop := ∀ (s : Nat) x, slots[s]? = some x -> RepD E g w dead x (a.tmps.getD s undef)
theorem RepS.ev {slots : List D} {a : Act} (hs : RepS E g w dead slots a) (h : TypeId) (z : Operand) : RepD E g w dead (evalD T slots h z) (a.eval z) := evalD_rep hs h z
theorem partsK_sound {h0 : TypeId} {slots : List D} {a : Act} (hs : RepS E g w dead slots a) : ∀ (ps : List (Nat × Operand)) (K : List (Nat × D) -> Option R) (r : R), partsK h0 T slots ps K = some r ->
    ∃ ds, RepP E g w dead ds (ps.map fun p => (p.1, a.eval p.2)) /\ K ds = some r
  | [], K, r, h => ⟨[], trivial, h⟩
  | (i, x) :: ps, K, r, h => by
    unfold partsK at h
    rw [evK_eq] at h
    obtain ⟨ds, h1, h2⟩ := partsK_sound hs ps _ r h
    exact ⟨(i, evalD T slots h0 x) :: ds, ⟨rfl, hs.ev h0 x, h1⟩, h2⟩
theorem evO_sound {slots : List D} {a : Act} (hs : RepS E g w dead slots a) (x : Option Operand) (K : Option D -> Option R) (r : R) (h : evO T slots x K = some r) : ∃ d, RepO E g w dead d (x.map a.eval) /\ K d = some r := by
  unfold evO at h
  split at h
  . exact ⟨none, trivial, h⟩
  . rename_i x
    rw [evK_eq] at h
    exact ⟨some (evalD T slots 0 x), hs.ev 0 x, h⟩
theorem capsK_sound {slots : List D} {a : Act} (hs : RepS E g w dead slots a) : ∀ (xs : List Operand) (K : List D -> Option R) (r : R), capsK T slots xs K = some r ->
    ∃ ds, ds.length = xs.length /\ (∀ (k : Nat) y, ds[k]? = some y -> RepD E g w dead y ((xs.map a.eval).getD k undef)) /\ K ds = some r
  | [], K, r, h => ⟨[], rfl, fun k y h => by simp at h, h⟩
  | x :: xs, K, r, h => by
    unfold capsK at h
    simp only [evK_eq, forceD_eq] at h
    obtain ⟨ds, h1, h2, h3⟩ := capsK_sound hs xs _ r h
    refine ⟨(evalD T slots 0 x).plain :: ds, by simp [h1], fun k y hk => ?_, h3⟩
    rcases k with _ | k
    . simp at hk; subst hk; simpa using (hs.ev 0 x).plain_
    . simpa using h2 k y (by simpa using hk)
theorem toV_rep {d : D} {v : Value} (h : RepD E g w dead d v) {x : V} (hx : toV d = some x) : RepV g w x v := by
  cases d with
  | v y a =>
    have : y = x := by cases y <;> simp only [toV, Option.some.injEq, reduceCtorEq] at hx <;> exact hx
    subst this
    exact repV_of h
  | agg ds =>
    simp only [toV, Option.map_eq_some_iff] at hx
    obtain ⟨ys, hys, rfl⟩ := hx
    obtain ⟨h1, h2⟩ := toVs_get _ _ hys
    cases h with
    | agg ds us hn hr =>
      refine .agg _ us (by rw [h1]; exact hn) fun k y hk => ?_
      obtain ⟨_, a, h3⟩ := h2 k y hk
      exact repV_of (hr k _ h3)
  | _ => simp [toV] at hx
theorem Res.value {m : Mem} {o : Oper} {a : Act} (hh : Here T E g w m) {d : D} {v : Value} (hr : (execOp a.eval o).run P w = .ok (.value v) w) (hx : RepD E g w dead d v) : Res P T E g w m dead o a d m dead := Res.pure hh hr hx
theorem opK_sound (hT : TypesOK P T) {m : Mem} (hh : Here T E g w m) {slots : List D} {a : Act} (hs : RepS E g w dead slots a) (o : Oper) {K : D -> Mem -> List Pos -> Option R} {r : R}
    (h : opK T (o.dst.getD 0) o.type slots o.op m dead K = some r) : ∃ d m' dead', Res P T E g w m dead o a d m' dead' /\ K d m' dead' = some r := by
  generalize hop : o.op = op at h
  cases op <;> simp only [opK, evK_eq, reduceCtorEq] at h
  case move x => exact ⟨_, _, _, .pure hh (by simp [execOp, hop]) (hs.ev _ _), h⟩
  case assign x => exact ⟨_, _, _, .pure hh (by simp [execOp, hop]) (hs.ev _ _), h⟩
  case pick c x y =>
    have hc := hs.ev (T := T) 0 c
    generalize hd : evalD T slots 0 c = dc at h hc
    cases dc <;> simp only [reduceCtorEq] at h
    rename_i x0 a0
    cases x0 <;> simp only [V.unBool, reduceCtorEq] at h
    rename_i t
    have hb := hc.bool_inv
    cases t
    . exact ⟨_, _, _, .pure hh (by simp [execOp, hop, hb, asBool]) (hs.ev _ _), h⟩
    . exact ⟨_, _, _, .pure hh (by simp [execOp, hop, hb, asBool]) (hs.ev _ _), h⟩
  case alloc t =>
    split at h
    case h_2 => cases h
    rename_i ty hty
    have hok := hT _ _ hty
    obtain ⟨i, hi, hz, hsi, hby⟩ := hok.info
    unfold newBoxK at h
    split at h
    case h_2 => cases h
    rename_i fr out
    split at h
    case h_2 => cases h
    rename_i hfr
    have hzr := zero_rep (E := E) (g := g) (w := w) (dead := dead) hok
    obtain ⟨cs, dead', g1, h1, ho⟩ := cellsK_sound (E := E) 0 (o.dst.getD 0) (Nat.zero_le _) ty.zeroDs ty.zero.cells.toList 0 g dead _ r (by rw [Array.length_toList]; exact hzr.1) (fun j y hj => by simpa using hzr.2 j y hj) hh.mem h
    rw [memPutK_eq] at h1
    obtain ⟨g', E', k1, k2, k3, k4, k5⟩ := newBox_sound hh (o.dst.getD 0) hfr t ty.zero.cells ho
    exact ⟨_, _, _, ⟨_, _, g', E', .inl (by simp [execOp, hop, Instr.alloc, zeroValue, typeInfo, hi, hz, newVar, newRow]), k1, k2, k3, k4⟩, h1⟩
  case box t x =>
    split at h
    case h_2 => cases h
    rename_i ty hty
    unfold newBoxK at h
    split at h
    case h_2 => cases h
    rename_i fr out
    split at h
    case h_2 => cases h
    rename_i hfr
    have hx := hs.ev (T := T) t x
    -- every cell is one cell
    have hone : ∀ (ds : List D) (k : Nat) (dead : List Pos) (K : List D -> List Pos -> Option R) (r : R), cellsK k ds dead K = some r -> ds.all D.one = true := by
      intro ds
      induction ds with
      | nil => intro _ _ _ _ _; rfl
      | cons d ds ih =>
        intro k dead K r h
        unfold cellsK at h
        rcases cond_some h with ⟨h1, h⟩ | ⟨_, h⟩
        . have hrest : ds.all D.one = true := by
            split at h
            . simp only [forceA_eq] at h; exact ih _ _ _ _ h
            . split at h
              . simp only [forceD_eq] at h; exact ih _ _ _ _ h
              . cases h
          rw [List.all_cons, h1, hrest]; rfl
        . cases h
    have hcr := cells_rep hx (hone _ _ _ _ _ h)
    obtain ⟨cs, dead', g1, h1, ho⟩ := cellsK_sound (E := E) 0 (o.dst.getD 0) (Nat.zero_le _) _ (a.eval x).cells.toList 0 g dead _ r (by rw [Array.length_toList]; exact hcr.1) (fun j y hj => by simpa using hcr.2 j y hj) hh.mem h
    rw [memPutK_eq] at h1
    obtain ⟨g', E', k1, k2, k3, k4, k5⟩ := newBox_sound hh (o.dst.getD 0) hfr t (a.eval x).cells ho
    exact ⟨_, _, _, ⟨_, _, g', E', .inl (by simp [execOp, hop, Instr.box, newVar, newRow]), k1, k2, k3, k4⟩, h1⟩
  case build t parts =>
    obtain ⟨ds, h1, h2⟩ := partsK_sound hs _ _ _ h
    rw [← buildK_b] at h2
    obtain ⟨d, h3, h4⟩ := bind_some h2
    obtain ⟨v, h5, h6⟩ := buildK_sound (P := P) hT t ds (parts.map fun p => (p.1, a.eval p.2)) (by simpa using h1) d h3
    exact ⟨_, _, _, .pure hh (by simp [execOp, hop, h5]) h6, h4⟩
  case buildSlice t len parts =>
    obtain ⟨ds, h1, h2⟩ := partsK_sound hs _ _ _ h
    obtain ⟨v, w', p, d, h5, h6, h7, h8⟩ := buildSliceK_sound (P := P) hT hh (o.dst.getD 0) t len ds (parts.map fun p => (p.1, a.eval p.2)) (by simpa using h1) h2
    exact ⟨_, _, _, Res.grow hh h6 (Nat.le_refl _) p (by simp [execOp, hop, h5]) h7, h8⟩
  case load t x =>
    rw [← loadK_b] at h
    obtain ⟨d, h3, h4⟩ := bind_some h
    obtain ⟨v, h5, h6⟩ := loadK_sound (P := P) hT t _ _ (hs.ev 0 x) hh.mem d h3
    exact ⟨_, _, _, .pure hh (by simp [execOp, hop, h5]) h6, h4⟩
  case store t x y =>
    have hx := hs.ev (T := T) 0 x
    have hy := hs.ev (T := T) t y
    unfold storeK at h
    split at h
    case h_2 => cases h
    rename_i ty hty
    have hok := hT _ _ hty
    obtain ⟨i, hi, hz, hsi, hby⟩ := hok.info
    split at h
    case h_2 => cases h
    rename_i k s off heq
    rw [heq] at hx
    split at h
    case h_2 => cases h
    rename_i b hb
    rcases cond_some h with ⟨hc, h⟩ | ⟨_, h⟩
    case inr => cases h
    simp only [Bool.and_eq_true] at hc
    have hc1 := Nat.eq_of_beq_eq_true hc.1
    have hc2 := Nat.le_of_ble_eq_true hc.2
    have hone : ∀ (ds : List D) (k : Nat) (dead : List Pos) (K : List D -> List Pos -> Option R) (r : R), cellsK k ds dead K = some r -> ds.all D.one = true := by
      intro ds
      induction ds with
      | nil => intro _ _ _ _ _; rfl
      | cons d ds ih =>
        intro k dead K r h
        unfold cellsK at h
        rcases cond_some h with ⟨h1, h⟩ | ⟨_, h⟩
        . have hrest : ds.all D.one = true := by
            split at h
            . simp only [forceA_eq] at h; exact ih _ _ _ _ h
            . split at h
              . simp only [forceD_eq] at h; exact ih _ _ _ _ h
              . cases h
          rw [List.all_cons, h1, hrest]; rfl
        . cases h
    have hall := hone _ _ _ _ _ h
    have hcr := cells_rep hy hall
    generalize hev : a.eval x = vx at hx
    cases hx with
    | ptr k s off g1 g2 =>
      obtain ⟨cs, dead', g1', h1, ho⟩ := cellsK_sound (E := E) k s g1 _ (a.eval y).cells.toList off g dead _ r (by rw [Array.length_toList]; exact hcr.1) (fun j z hj => by simpa using hcr.2 j z hj) hh.mem h
      simp only [setRK_eq, memPutK_eq] at h1
      have hul : (a.eval y).cells.toList.length = ty.size := by rw [Array.length_toList, hcr.1, hc1]
      obtain ⟨w', g', E', k0, k1, k2, k3, k4⟩ := store_sound (P := P) hh hb (a.eval y).cells.toList ho (by rw [hul]; exact hc2) (fun u hu => by
        obtain ⟨j, hj⟩ := List.mem_iff_getElem?.1 hu
        have hjl := (List.getElem?_eq_some_iff.1 hj).1
        rw [Array.length_toList, hcr.1] at hjl
        have hd := List.getElem?_eq_getElem hjl
        have h9 := hcr.2 j _ hd
        have : (a.eval y).cells.getD j undef = u := by
          rw [Array.getD_eq_getD_getElem?, ← Array.getElem?_toList, hj]; rfl
        rw [this] at h9
        exact h9.one_ (List.all_eq_true.1 hall _ (List.mem_of_getElem? hd)))
      refine ⟨.any, _, _, ⟨undef, w', g', E', .inr ⟨?_, rfl⟩, k1, k2, .any _, k3⟩, h1⟩
      simp only [execOp, hop, Instr.storeAt, Sem.run_bind, hev, Instr.sureAddr, Sem.run_pure, Result.andThen_ok, storeVar, hok.size (w := w)]
      rw [if_neg (by rw [← hc1, ← hcr.1]; simp)]
      simp [k0]
  case nilCheck x =>
    have hx := hs.ev (T := T) o.type x
    generalize hd : evalD T slots o.type x = dx at h hx
    cases dx <;> simp only [reduceCtorEq] at h
    all_goals
      refine ⟨_, _, _, .pure hh (v := a.eval x) ?_ hx, h⟩
      generalize hv : a.eval x = v at hx
      cases hx
      simp [execOp, hop, hv]
  case binOp op xt x y yt =>
    rw [← binK_b] at h
    obtain ⟨d, h3, h4⟩ := bind_some h
    obtain ⟨v, h5, h6⟩ := binK_sound (P := P) hT op xt x y _ _ _ _ (hs.ev xt x) (hs.ev yt y) d h3
    exact ⟨_, _, _, .pure hh (by simp only [execOp, hop]; rw [Sem.run_bind, h5]; rfl) h6, h4⟩
  case unOp op xt x =>
    rw [← unK_b] at h
    obtain ⟨d, h3, h4⟩ := bind_some h
    obtain ⟨v, h5, h6⟩ := unK_sound (P := P) op xt _ _ (hs.ev xt x) d h3
    exact ⟨_, _, _, .pure hh (by simp [execOp, hop, h5]) h6, h4⟩
  case convert src t x =>
    rw [← convK_b] at h
    obtain ⟨d, h3, h4⟩ := bind_some h
    obtain ⟨v, w', h5, h6, h7⟩ := convK_sound (P := P) hT src t _ _ (hs.ev src x) d h3
    exact ⟨_, _, _, Res.grow hh h6 (Nat.le_refl _) _ (by simp [execOp, hop, h5]) h7, h4⟩
  case makeInterface t x =>
    have hx := hs.ev (T := T) t x
    split at h
    case h_2 => cases h
    rename_i ty y hty hy
    have hv := toV_rep hx hy
    have hd := (hT _ _ hty).desc
    split at h
    . cases h
    . rename_i hni
      refine ⟨_, _, _, .pure hh (v := .iface t (a.eval x)) ?_ (.v (.iface t y) .no _ (.iface t y _ hv) trivial), h⟩
      simp only [execOp, hop, Instr.makeInterface, Sem.run_bind, run_underlying hd, Result.andThen_ok]
      cases hdd : ty.desc <;> simp_all
  case makeFunc fn first caps =>
    cases fn <;> simp only [reduceCtorEq] at h
    rename_i f
    split at h
    case h_2 => cases h
    rename_i hf
    have hf' : first = #[] := Array.toList_eq_nil_iff.1 hf
    subst hf'
    obtain ⟨ds, h1, h2, h3⟩ := capsK_sound hs _ _ _ h
    exact ⟨_, _, _, .pure hh (v := .func (.func f) #[] (caps.map a.eval)) (by simp [execOp, hop, Instr.makeFunc]) (.clos f ds _ (by simpa using h1.symm) fun k y hk => by simpa using h2 k y hk), h3⟩
  case makeSlice t l c =>
    obtain ⟨v, w', p, d, h5, h6, h7, h8⟩ := makeSliceK_sound (P := P) hT hh (o.dst.getD 0) t _ _ _ _ (hs.ev 0 l) (hs.ev 0 c) h
    exact ⟨_, _, _, Res.grow hh h6 (Nat.le_refl _) p (by simp [execOp, hop, h5]) h7, h8⟩
  case slice t x lo hi mx =>
    obtain ⟨dlo, h1, h⟩ := evO_sound hs lo _ _ h
    obtain ⟨dhi, h2, h⟩ := evO_sound hs hi _ _ h
    obtain ⟨dmx, h3, h⟩ := evO_sound hs mx _ _ h
    rw [← sliceK_b] at h
    obtain ⟨d, h4, h5⟩ := bind_some h
    obtain ⟨v, h6, h7⟩ := sliceK_sound (P := P) hh.sz hT t _ _ _ _ _ _ _ _ (hs.ev t x) h1 h2 h3 d h4
    exact ⟨_, _, _, .pure hh (by simp [execOp, hop, h6]) h7, h5⟩
  case fieldAddr t x f =>
    rw [← fieldAddrK_b] at h
    obtain ⟨d, h3, h4⟩ := bind_some h
    obtain ⟨v, h5, h6⟩ := fieldAddrK_sound (P := P) hT t _ f _ (hs.ev 0 x) d h3
    exact ⟨_, _, _, .pure hh (by simp [execOp, hop, h5]) h6, h4⟩
  case field t x f =>
    rw [← fieldK_b] at h
    obtain ⟨d, h3, h4⟩ := bind_some h
    obtain ⟨v, h5, h6⟩ := fieldK_sound (P := P) hT t _ f _ (hs.ev t x) d h3
    exact ⟨_, _, _, .pure hh (by simp [execOp, hop, h5]) h6, h4⟩
  case indexAddr t x i =>
    rw [← indexAddrK_b] at h
    obtain ⟨d, h3, h4⟩ := bind_some h
    obtain ⟨v, h5, h6⟩ := indexAddrK_sound (P := P) hh.sz hT t _ _ _ _ (hs.ev t x) (hs.ev 0 i) d h3
    exact ⟨_, _, _, .pure hh (by simp [execOp, hop, h5]) h6, h4⟩
  case index t x i =>
    rw [← indexK_b] at h
    obtain ⟨d, h3, h4⟩ := bind_some h
    obtain ⟨v, h5, h6⟩ := indexK_sound (P := P) hT t _ _ _ _ (hs.ev t x) (hs.ev 0 i) d h3
    exact ⟨_, _, _, .pure hh (by simp [execOp, hop, h5]) h6, h4⟩
  case extract x i =>
    have hx := hs.ev (T := T) 0 x
    generalize hd : evalD T slots 0 x = dx at h hx
    cases dx <;> simp only [reduceCtorEq] at h
    rename_i ds
    split at h
    case h_2 => cases h
    rename_i d hdi
    rw [forceD_eq] at h
    generalize hv : a.eval x = v at hx
    cases hx with
    | tup ds us hn hr =>
      have hi := (List.getElem?_eq_some_iff.1 hdi).1
      refine ⟨_, _, _, .pure hh (v := us.getD i undef) ?_ (hr i d hdi).plain_, h⟩
      have hu : us[i]? = some (us.getD i undef) := by simp [Array.getD_eq_getD_getElem?, (by omega : i < us.size)]
      simp only [execOp, hop, hv, Instr.extract, Sem.run_bind, hu]
      rfl
  case call c =>
    obtain ⟨callee, args, ats⟩ := c
    obtain ⟨args⟩ := args
    obtain ⟨ats⟩ := ats
    simp only at h
    split at h
    . rename_i x t
      rw [← lenK_b] at h
      obtain ⟨d, h3, h4⟩ := bind_some h
      obtain ⟨v, h5, h6⟩ := lenK_sound (P := P) hT t o.type _ _ (hs.ev t x) d h3
      exact ⟨_, _, _, .pure hh (by simp [execOp, hop, resolve, invoke, builtin, h5]) h6, h4⟩
    . rename_i s x t t2
      obtain ⟨v, w', g', E', d, m', dead', h5, h6, h7, h8, h9, h10, h11⟩ := appendK_sound (P := P) hT hh (o.dst.getD 0) t t2 o.type _ _ _ _ (hs.ev t s) (hs.ev t2 x) h
      exact ⟨_, _, _, ⟨v, w', g', E', .inl (by simp [execOp, hop, resolve, invoke, builtin, h5]), h7, h8, h9, h10⟩, h11⟩
    . rename_i x y t u
      rw [← minmaxK_b] at h
      obtain ⟨d, h3, h4⟩ := bind_some h
      have hx := hs.ev (T := T) t x
      have hy := hs.ev (T := T) u y
      unfold minmaxK at h3
      split at h3
      case h_2 => cases h3
      rename_i k n a1 k' n' a2 heq
      injection heq with e1 heq
      injection heq with e2 _
      rw [e1] at hx
      rw [e2] at hy
      split at h3
      case isFalse => cases h3
      rename_i hk
      subst hk
      injection h3 with h3; subst h3
      obtain ⟨hx1, hx2⟩ := hx.int_inv
      obtain ⟨hy1, hy2⟩ := hy.int_inv
      refine ⟨_, _, _, .pure hh (v := .int k (max n n')) ?_ (RepD.int_ (by show k.min <= max n n' /\ max n n' <= k.max; omega)), h4⟩
      simp [execOp, hop, resolve, invoke, builtin, hx1, hy1, run_max_int2]
      split <;> omega
    . rename_i x y t u
      rw [← minmaxK_b] at h
      obtain ⟨d, h3, h4⟩ := bind_some h
      have hx := hs.ev (T := T) t x
      have hy := hs.ev (T := T) u y
      unfold minmaxK at h3
      split at h3
      case h_2 => cases h3
      rename_i k n a1 k' n' a2 heq
      injection heq with e1 heq
      injection heq with e2 _
      rw [e1] at hx
      rw [e2] at hy
      split at h3
      case isFalse => cases h3
      rename_i hk
      subst hk
      injection h3 with h3; subst h3
      obtain ⟨hx1, hx2⟩ := hx.int_inv
      obtain ⟨hy1, hy2⟩ := hy.int_inv
      refine ⟨_, _, _, .pure hh (v := .int k (min n n')) ?_ (RepD.int_ (by show k.min <= min n n' /\ min n n' <= k.max; omega)), h4⟩
      simp [execOp, hop, resolve, invoke, builtin, hx1, hy1, run_min_int2]
      split <;> omega
    . cases h
end
end Go.Proofs.Ytilfphdeacogmaa.En

/- The engine, part t: what an operation reads and writes; operations that may change places. No world in sight. -/
namespace Go.Proofs.Ytilfphdeacogmaa.En
open Go
set_option linter.unusedVariables false
section
variable {R : Type} {T : TypeId -> Option Ty}
theorem putK_eq (slots : List D) (dst : Option Nat) (d : D) (K : List D -> Option R) : putK slots dst d K = K (match dst with | some s => slots.set s (slotD s d) | none => slots) := by
  unfold putK
  cases dst with
  | none => rfl
  | some s => cases d <;> simp only [forceA_eq, setK_eq, slotD]
def put (slots : List D) (dst : Option Nat) (d : D) : List D := match dst with | some s => slots.set s (slotD s d) | none => slots
theorem putK_put (slots : List D) (dst : Option Nat) (d : D) (K : List D -> Option R) : putK slots dst d K = K (put slots dst d) := putK_eq slots dst d K
def Free (x : Nat) (z : Operand) : Prop := z ≠ .tmp x
theorem evalD_set (slots : List D) (x : Nat) (v : D) (h : TypeId) (z : Operand) (hz : Free x z) : evalD T (slots.set x v) h z = evalD T slots h z := by
  cases z with
  | tmp t =>
    have : x ≠ t := fun e => hz (by rw [e])
    simp [evalD, List.getD_eq_getElem?_getD, List.getElem?_set_ne this]
  | _ => rfl
theorem partsK_set {h0 : TypeId} (slots : List D) (x : Nat) (v : D) : ∀ (ps : List (Nat × Operand)) (K : List (Nat × D) -> Option R), (∀ p ∈ ps, Free x p.2) -> partsK h0 T (slots.set x v) ps K = partsK h0 T slots ps K
  | [], K, _ => rfl
  | (i, z) :: ps, K, h => by
    simp only [partsK, evK_eq]
    rw [evalD_set slots x v h0 z (h (i, z) (by simp)), partsK_set slots x v ps _ (fun p hp => h p (by simp [hp]))]
theorem evO_set (slots : List D) (x : Nat) (v : D) (z : Option Operand) (K : Option D -> Option R) (h : ∀ y, z = some y -> Free x y) : evO T (slots.set x v) z K = evO T slots z K := by
  cases z with
  | none => rfl
  | some z => simp only [evO, evK_eq]; rw [evalD_set slots x v 0 z (h z rfl)]
theorem capsK_set (slots : List D) (x : Nat) (v : D) : ∀ (zs : List Operand) (K : List D -> Option R), (∀ z ∈ zs, Free x z) -> capsK T (slots.set x v) zs K = capsK T slots zs K
  | [], K, _ => rfl
  | z :: zs, K, h => by
    simp only [capsK, evK_eq, forceD_eq]
    rw [evalD_set slots x v 0 z (h z (by simp)), capsK_set slots x v zs _ (fun p hp => h p (by simp [hp]))]
theorem argsK_set (slots : List D) (x : Nat) (v : D) : ∀ (zs : List Operand) (ts : List TypeId) (K : List D -> Option R), (∀ z ∈ zs, Free x z) -> argsK T (slots.set x v) ts zs K = argsK T slots ts zs K
  | [], ts, K, _ => by cases ts <;> rfl
  | z :: zs, [], K, h => by
    simp only [argsK, evK_eq, forceD_eq]
    rw [evalD_set slots x v 0 z (h z (by simp)), argsK_set slots x v zs [] _ (fun p hp => h p (by simp [hp]))]
  | z :: zs, t :: ts, K, h => by
    simp only [argsK, evK_eq, forceD_eq]
    rw [evalD_set slots x v t z (h z (by simp)), argsK_set slots x v zs ts _ (fun p hp => h p (by simp [hp]))]
theorem opK_set (dst : Nat) (oty : TypeId) (slots : List D) (x : Nat) (v : D) (op : Op) (m : Mem) (dead : List Pos) (K : D -> Mem -> List Pos -> Option R) (h : ∀ z ∈ op.operands.toList, Free x z) :
    opK T dst oty (slots.set x v) op m dead K = opK T dst oty slots op m dead K := by
  cases op <;> simp only [opK, evK_eq]
  case pick c a b =>
    rw [evalD_set _ _ _ _ _ (h c (by simp [Op.operands])), evalD_set _ _ _ _ _ (h a (by simp [Op.operands])), evalD_set _ _ _ _ _ (h b (by simp [Op.operands]))]
  case build t ps => exact partsK_set _ _ _ _ _ (fun p hp => h p.2 (by simp [Op.operands]; exact ⟨p.1, by simpa using hp⟩))
  case buildSlice t l ps => exact partsK_set _ _ _ _ _ (fun p hp => h p.2 (by simp [Op.operands]; exact ⟨p.1, by simpa using hp⟩))
  case makeFunc fn first caps =>
    cases fn <;> simp only
    split
    . exact capsK_set _ _ _ _ _ (fun z hz => h z (by simp [Op.operands]; exact .inr (by simpa using hz)))
    . rfl
  case slice t y lo hi mx =>
    rw [evalD_set _ _ _ _ _ (h y (by simp [Op.operands])), evO_set _ _ _ _ _ (fun z hz => h z (by simp [Op.operands, hz]))]
    congr 1
    funext d1
    rw [evO_set _ _ _ _ _ (fun z hz => h z (by simp [Op.operands, hz]))]
    congr 1
    funext d2
    rw [evO_set _ _ _ _ _ (fun z hz => h z (by simp [Op.operands, hz]))]
  case call c =>
    obtain ⟨cal, ⟨args⟩, ⟨ats⟩⟩ := c
    simp only
    split
    . rw [evalD_set _ _ _ _ _ (h _ (by simp [Op.operands, Call.operands]))]
    . rw [evalD_set _ _ _ _ _ (h _ (by simp [Op.operands, Call.operands])), evalD_set _ _ _ _ _ (h _ (by simp [Op.operands, Call.operands]))]
    . rw [evalD_set _ _ _ _ _ (h _ (by simp [Op.operands, Call.operands])), evalD_set _ _ _ _ _ (h _ (by simp [Op.operands, Call.operands]))]
    . rw [evalD_set _ _ _ _ _ (h _ (by simp [Op.operands, Call.operands])), evalD_set _ _ _ _ _ (h _ (by simp [Op.operands, Call.operands]))]
    . rfl
  all_goals
    repeat rw [evalD_set _ _ _ _ _ (h _ (by simp [Op.operands]))]
theorem runK_set (cx : Cx) (o : Oper) (slots : List D) (x : Nat) (v : D) (m : Mem) (dead : List Pos) (K : Bool -> D -> Mem -> List Pos -> Option R) (h : ∀ z ∈ o.op.operands.toList, Free x z) :
    runK cx o (slots.set x v) m dead K = runK cx o slots m dead K := by
  unfold runK
  cases hop : o.op <;> simp only
  case call c =>
    rw [hop] at h
    obtain ⟨cal, ⟨args⟩, ⟨ats⟩⟩ := c
    cases cal with
    | builtin b => simp only; exact opK_set _ _ _ _ _ _ _ _ _ h
    | value f =>
      simp only [evK_eq]
      rw [evalD_set _ _ _ _ _ (h f (by simp [Op.operands, Call.operands]))]
      split
      . exact argsK_set _ _ _ _ _ _ (fun z hz => h z (by simp [Op.operands, Call.operands, hz]))
      . rfl
    | invoke f nm =>
      simp only [evK_eq]
      rw [evalD_set _ _ _ _ _ (h f (by simp [Op.operands, Call.operands]))]
      split
      . split
        . split
          . exact argsK_set _ _ _ _ _ _ (fun z hz => h z (by simp [Op.operands, Call.operands, hz]))
          . rfl
        . rfl
      . rfl
  all_goals exact opK_set _ _ _ _ _ _ _ _ _ (by rw [hop] at h; exact h)
theorem partsK_b {h0 : TypeId} {α : Type} (slots : List D) : ∀ (ps : List (Nat × Operand)) (F : List (Nat × D) -> Option α) (K : α -> Option R), (partsK h0 T slots ps F).bind K = partsK h0 T slots ps fun l => (F l).bind K
  | [], _, _ => rfl
  | (i, x) :: ps, F, K => by simp only [partsK, evK_eq]; exact partsK_b slots ps _ K
theorem evO_b {α : Type} (slots : List D) (z : Option Operand) (F : Option D -> Option α) (K : α -> Option R) : (evO T slots z F).bind K = evO T slots z fun l => (F l).bind K := by
  cases z <;> simp only [evO, evK_eq]
theorem capsK_b {α : Type} (slots : List D) : ∀ (ps : List Operand) (F : List D -> Option α) (K : α -> Option R), (capsK T slots ps F).bind K = capsK T slots ps fun l => (F l).bind K
  | [], _, _ => rfl
  | x :: ps, F, K => by simp only [capsK, evK_eq, forceD_eq]; exact capsK_b slots ps _ K
theorem argsK_b {α : Type} (slots : List D) : ∀ (zs : List Operand) (ts : List TypeId) (F : List D -> Option α) (K : α -> Option R), (argsK T slots ts zs F).bind K = argsK T slots ts zs fun l => (F l).bind K
  | [], ts, _, _ => by cases ts <;> rfl
  | x :: ps, [], F, K => by simp only [argsK, evK_eq, forceD_eq]; exact argsK_b slots ps [] _ K
  | x :: ps, t :: ts, F, K => by simp only [argsK, evK_eq, forceD_eq]; exact argsK_b slots ps ts _ K
theorem buildSliceK_b (dst : Nat) (t : TypeId) (len : Nat) (ps : List (Nat × D)) (K : D -> Option R) : (buildSliceK T dst t len ps some).bind K = buildSliceK T dst t len ps K := by
  unfold buildSliceK
  split
  . split
    . split
      . rw [cond_b]
        congr 1
        split
        . split
          . split
            . rw [cond_b]; rfl
            . rfl
          . split <;> rfl
          . rfl
        . rfl
      . rfl
    . rfl
  . rfl
theorem makeSliceK_b (dst : Nat) (t : TypeId) (l c : D) (K : D -> Option R) : (makeSliceK T dst t l c some).bind K = makeSliceK T dst t l c K := by
  unfold makeSliceK
  split
  . split
    . split
      . rw [cond_b, check_b]
        congr 2
        split
        . split <;> rfl
        . split <;> rfl
        . rfl
      . rfl
    . rfl
  . rfl
def isVal (cx : Cx) (op : Op) : Bool := match clsOf cx op with | .n => true | .r => true | .s => true | _ => false
def isN (cx : Cx) (op : Op) : Bool := match clsOf cx op with | .n => true | _ => false
end
section
variable {R : Type} {T : TypeId -> Option Ty}
structure PureB (cx : Cx) : Prop where
  p : ∀ (R : Type) (g : FuncId) (ds : List D) (K : List D -> Option R), cx.pureK g ds K = (cx.pureK g ds some).bind K
  s : ∀ (R : Type) (g : FuncId) (ds : List D) (m : Mem) (K : List D -> Option R), cx.stillK g ds m K = (cx.stillK g ds m some).bind K
def valO (T : TypeId -> Option Ty) (dst : Nat) (oty : TypeId) (slots : List D) (op : Op) (m : Mem) : Option D := opK T dst oty slots op m [] fun d _ _ => some d
theorem opK_val (cx : Cx) (dst : Nat) (oty : TypeId) (slots : List D) (op : Op) (hv : isVal cx op = true) (m : Mem) (dead : List Pos) (K : D -> Mem -> List Pos -> Option R) :
    opK T dst oty slots op m dead K = (valO T dst oty slots op m).bind fun d => K d m dead := by
  unfold valO
  cases op <;> simp only [isVal, clsOf, reduceCtorEq, Bool.false_eq_true] at hv <;> simp only [opK, evK_eq, Option.bind_some, Option.bind_none]
  case pick c a b =>
    split
    . rename_i x0 a0 heq
      cases x0 <;> simp only [V.unBool, Option.bind_none]
      rename_i t
      cases t <;> rfl
    . rfl
  case build t ps =>
    rw [partsK_b]
    congr 1
    funext l
    rw [← buildK_b t l fun d => K d m dead]
  case buildSlice t l ps =>
    rw [partsK_b]
    congr 1
    funext l
    rw [← buildSliceK_b _ t _ l fun d => K d m dead]
  case load t a => rw [← loadK_b t _ m fun d => K d m dead]
  case nilCheck x => split <;> rfl
  case binOp => rw [← binK_b _ _ _ _ _ fun d => K d m dead]
  case unOp => rw [← unK_b _ _ fun d => K d m dead]
  case convert => rw [← convK_b _ _ _ fun d => K d m dead]
  case makeInterface t x =>
    split
    . split <;> rfl
    . rfl
  case makeFunc fn first caps =>
    cases fn <;> simp only [Option.bind_none]
    split
    . rw [capsK_b]; rfl
    . rfl
  case makeSlice => rw [← makeSliceK_b _ _ _ _ fun d => K d m dead]
  case slice t x lo hi mx =>
    rw [evO_b]; congr 1; funext a
    rw [evO_b]; congr 1; funext b
    rw [evO_b]; congr 1; funext c
    rw [← sliceK_b _ _ _ _ _ fun d => K d m dead]
  case fieldAddr => rw [← fieldAddrK_b _ _ _ fun d => K d m dead]
  case field => rw [← fieldK_b _ _ _ fun d => K d m dead]
  case indexAddr => rw [← indexAddrK_b _ _ _ fun d => K d m dead]
  case index => rw [← indexK_b _ _ _ fun d => K d m dead]
  case extract x i =>
    split
    . split
      . simp only [forceD_eq]; rfl
      . rfl
    . rfl
  case call c =>
    obtain ⟨cal, ⟨args⟩, ⟨ats⟩⟩ := c
    simp only
    split
    . rw [← lenK_b _ _ fun d => K d m dead]
    . simp at hv
    . rw [← minmaxK_b _ _ fun d => K d m dead]
    . rw [← minmaxK_b _ _ fun d => K d m dead]
    . rfl
theorem valO_mem (cx : Cx) (dst : Nat) (oty : TypeId) (slots : List D) (op : Op) (hv : isN cx op = true) (m m' : Mem) : valO T dst oty slots op m = valO T dst oty slots op m' := by
  unfold valO
  cases op <;> simp only [isN, clsOf, reduceCtorEq, Bool.false_eq_true] at hv <;> simp only [opK]
  case makeFunc fn first caps => cases fn <;> rfl
  case call c =>
    obtain ⟨cal, ⟨args⟩, ⟨ats⟩⟩ := c
    simp only
    split
    . rfl
    . simp at hv
    . rfl
    . rfl
    . rfl
def valR (cx : Cx) (o : Oper) (slots : List D) (m : Mem) : Option D := runK cx o slots m [] fun _ d _ _ => some d
theorem runK_val (cx : Cx) (hB : PureB cx) (o : Oper) (slots : List D) (hv : isVal cx o.op = true) (m : Mem) (dead : List Pos) (K : Bool -> D -> Mem -> List Pos -> Option R) :
    runK cx o slots m dead K = (valR cx o slots m).bind fun d => K false d m dead := by
  unfold valR runK
  cases hop : o.op <;> simp only
  case call c =>
    rw [hop] at hv
    obtain ⟨cal, ⟨args⟩, ⟨ats⟩⟩ := c
    cases cal with
    | builtin b =>
      simp only
      rw [opK_val cx _ _ _ _ hv m dead (K false)]
      rfl
    | value f =>
      cases f <;> simp only [isVal, clsOf, reduceCtorEq, Bool.false_eq_true] at hv
      rename_i f
      simp only [evK]
      rw [argsK_b]
      congr 1
      funext xs
      simp only [forceL_eq, callK]
      cases hp : cx.isPure f with
      | true =>
        simp only
        rw [hB.p _ f _ fun rs => K false (resD rs) m dead, hB.p _ f _ fun rs => some (resD rs)]
        cases cx.pureK f (xs ++ List.map argD []) some <;> rfl
      | false =>
        rw [hp] at hv
        cases hs : cx.isStill f with
        | true =>
          simp only [cond_true]
          rw [hB.s _ f _ m fun rs => K false (resD rs) m dead, hB.s _ f _ m fun rs => some (resD rs)]
          cases cx.stillK f (xs ++ List.map argD []) m some <;> rfl
        | false => rw [hs] at hv; simp at hv
    | invoke f nm => simp [isVal, clsOf] at hv
  all_goals
    rw [hop] at hv
    rw [opK_val cx _ _ _ _ hv m dead (K false)]
    rfl
theorem valR_set (cx : Cx) (o : Oper) (slots : List D) (x : Nat) (v : D) (m : Mem) (h : ∀ z ∈ o.op.operands.toList, Free x z) : valR cx o (slots.set x v) m = valR cx o slots m :=
  runK_set cx o slots x v m [] _ h
theorem valR_mem (cx : Cx) (o : Oper) (slots : List D) (hv : isN cx o.op = true) (m m' : Mem) : valR cx o slots m = valR cx o slots m' := by
  unfold valR runK
  cases hop : o.op <;> simp only
  case call c =>
    rw [hop] at hv
    obtain ⟨cal, ⟨args⟩, ⟨ats⟩⟩ := c
    cases cal with
    | builtin b => exact valO_mem cx _ _ _ _ hv m m'
    | value f =>
      cases f <;> simp only [isN, clsOf, reduceCtorEq, Bool.false_eq_true] at hv
      rename_i f
      simp only [evK]
      congr 1
      funext xs
      simp only [forceL_eq, callK]
      cases hp : cx.isPure f with
      | true => rfl
      | false => rw [hp] at hv; cases hs : cx.isStill f <;> rw [hs] at hv <;> simp at hv
    | invoke f nm => simp [isN, clsOf] at hv
  all_goals
    rw [hop] at hv
    exact valO_mem cx _ _ _ _ hv m m'
def wants (ops : Array Oper) (o : Oper) (slots : List D) : Option Bool :=
  match o.guard with
  | none => some true
  | some (j, want) => (match dstOf ops j with | some s => (match slots.getD s .any with | .v (.bool b) _ => some (b == want) | .tup _ => some false | _ => none) | none => none)
theorem getD_set_self {slots : List D} {s : Nat} {d : D} (h : slots.getD s .any = d) (hd : d ≠ .any) : slots.set s d = slots := by
  apply List.ext_getElem?
  intro k
  rw [List.getElem?_set]
  split
  . rename_i e
    subst e
    rw [List.getD_eq_getElem?_getD] at h
    cases hk : slots[s]? with
    | none => rw [hk] at h; exact absurd h.symm hd
    | some x =>
      rw [hk] at h
      simp at h
      subst h
      have := (List.getElem?_eq_some_iff.1 hk).1
      simp [this]
  . rfl
def actK (cx : Cx) (b : Bool) (o : Oper) (st : St) (K : St -> Option R) : Option R := match b with | true => takeK cx o st K | false => skipK o st K
theorem stepK_eq (cx : Cx) (ops : Array Oper) (o : Oper) (st : St) (K : St -> Option R) :
    stepK cx ops o st K = match wants ops o st.slots with | some b => actK cx b o st K | none => none := by
  unfold stepK wants
  obtain ⟨slots, mem, dead⟩ := st
  cases hg : o.guard with
  | none => rfl
  | some p =>
    obtain ⟨j, want⟩ := p
    simp only
    cases hd : dstOf ops j with
    | none => rfl
    | some s =>
      simp only [getK_eq, setK_eq]
      generalize hx : slots.getD s .any = dx
      cases dx with
      | v x a =>
        cases x with
        | bool b =>
          simp only [V.unBool]
          have hself : slots.set s (.v (.bool b) a) = slots := getD_set_self hx (by simp)
          cases b <;> cases want <;> simp only [br, cond_true, cond_false, hself] <;> rfl
        | _ => rfl
      | _ => rfl
end
end Go.Proofs.Ytilfphdeacogmaa.En

/- The engine, part u: operations of a region may change places where nothing binds them. No world in sight. -/
namespace Go.Proofs.Ytilfphdeacogmaa.En
open Go
set_option linter.unusedVariables false
section
variable {R : Type} {cx : Cx} {ops : Array Oper}
def notC (cx : Cx) (op : Op) : Bool := match clsOf cx op with | .c => false | _ => true
theorem notC_of_val {op : Op} (h : isVal cx op = true) : notC cx op = true := by
  unfold isVal at h; unfold notC; cases hc : clsOf cx op <;> simp [hc] at h ⊢
theorem runK_flag (o : Oper) (hc : notC cx o.op = true) (slots : List D) (m : Mem) (dead : List Pos) (K : Bool -> D -> Mem -> List Pos -> Option R) :
    runK cx o slots m dead K = runK cx o slots m dead fun _ => K false := by
  unfold runK
  cases hop : o.op <;> simp only
  case call c =>
    rw [hop] at hc
    obtain ⟨cal, ⟨args⟩, ⟨ats⟩⟩ := c
    cases cal with
    | builtin b => rfl
    | value f =>
      cases f <;> simp only [notC, clsOf, Bool.false_eq_true] at hc
      rename_i f
      cases hp : cx.isPure f with
      | true => simp only [evK, callK, hp]
      | false =>
        rw [hp] at hc
        cases hs : cx.isStill f with
        | true => simp only [evK, callK, hp, hs, cond_true]
        | false => rw [hs] at hc; simp at hc
    | invoke f nm => simp [notC, clsOf] at hc
theorem wants_set {slots : List D} {x : Nat} {v : D} {o : Oper} (h : ∀ j w s, o.guard = some (j, w) -> dstOf ops j = some s -> s ≠ x) : wants ops o (slots.set x v) = wants ops o slots := by
  unfold wants
  cases hg : o.guard with
  | none => rfl
  | some p =>
    obtain ⟨j, w⟩ := p
    simp only
    cases hd : dstOf ops j with
    | none => rfl
    | some s =>
      have := h j w s hg hd
      simp only [List.getD_eq_getElem?_getD, List.getElem?_set_ne (Ne.symm this)]
structure Away (ops : Array Oper) (x : Nat) (o : Oper) : Prop where
  reads : ∀ z ∈ o.op.operands.toList, Free x z
  guard : ∀ j w s, o.guard = some (j, w) -> dstOf ops j = some s -> s ≠ x
  dst : o.dst ≠ some x
theorem put_set (slots : List D) (dst : Option Nat) (d : D) (x : Nat) (v : D) (h : dst ≠ some x) : put (slots.set x v) dst d = (put slots dst d).set x v := by
  cases dst with
  | none => rfl
  | some s =>
    simp only [put]
    exact List.set_comm _ _ (fun e => h (by rw [e]))
theorem takeK_eq (o : Oper) (hc : notC cx o.op = true) (slots : List D) (m : Mem) (dead : List Pos) (K : St -> Option R) :
    takeK cx o ⟨slots, m, dead⟩ K = runK cx o slots m dead fun _ d m' dead' => K ⟨put slots o.dst d, m', dead'⟩ := by
  simp only [takeK]
  rw [runK_flag o hc]
  simp only [cond_false, putK_put]
theorem skipK_eq (o : Oper) (slots : List D) (m : Mem) (dead : List Pos) (K : St -> Option R) : skipK o ⟨slots, m, dead⟩ K = K ⟨put slots o.dst (.tup []), m, dead⟩ := by
  simp only [skipK, putK_put]
theorem step_set {x : Nat} {o : Oper} (ha : Away ops x o) (hc : notC cx o.op = true) (slots : List D) (v : D) (m : Mem) (dead : List Pos) (K : St -> Option R) :
    stepK cx ops o ⟨slots.set x v, m, dead⟩ K = stepK cx ops o ⟨slots, m, dead⟩ fun s => K ⟨s.slots.set x v, s.mem, s.dead⟩ := by
  rw [stepK_eq, stepK_eq, wants_set ha.guard]
  cases wants ops o slots with
  | none => rfl
  | some b =>
    cases b
    . simp only [actK, skipK_eq, put_set _ _ _ _ _ ha.dst]
    . simp only [actK, takeK_eq o hc, runK_set cx o slots x v m dead _ ha.reads, put_set _ _ _ _ _ ha.dst]
theorem step_congr {o : Oper} (hc : notC cx o.op = true) (slots : List D) (m : Mem) (dead : List Pos) {K K' : St -> Option R} (h : ∀ d m' dd, K ⟨put slots o.dst d, m', dd⟩ = K' ⟨put slots o.dst d, m', dd⟩) :
    stepK cx ops o ⟨slots, m, dead⟩ K = stepK cx ops o ⟨slots, m, dead⟩ K' := by
  rw [stepK_eq, stepK_eq]
  cases wants ops o slots with
  | none => rfl
  | some b =>
    cases b
    . simp only [actK, skipK_eq, h]
    . simp only [actK, takeK_eq o hc, h]
def valS (cx : Cx) (ops : Array Oper) (o : Oper) (slots : List D) (m : Mem) : Option D :=
  match wants ops o slots with
  | none => none
  | some true => valR cx o slots m
  | some false => some (.tup [])
theorem step_val (hB : PureB cx) {o : Oper} (hv : isVal cx o.op = true) (slots : List D) (m : Mem) (dead : List Pos) (K : St -> Option R) :
    stepK cx ops o ⟨slots, m, dead⟩ K = (valS cx ops o slots m).bind fun d => K ⟨put slots o.dst d, m, dead⟩ := by
  rw [stepK_eq]
  unfold valS
  cases wants ops o slots with
  | none => rfl
  | some b =>
    cases b
    . simp only [actK, skipK_eq]; rfl
    . simp only [actK, takeK_eq o (notC_of_val hv)]
      rw [runK_val cx hB o slots hv]
theorem valS_set {x : Nat} {o : Oper} (ha : Away ops x o) (slots : List D) (v : D) (m : Mem) : valS cx ops o (slots.set x v) m = valS cx ops o slots m := by
  unfold valS
  rw [wants_set ha.guard, valR_set cx o slots x v m ha.reads]
theorem valS_mem {o : Oper} (hv : isN cx o.op = true) (slots : List D) (m m' : Mem) : valS cx ops o slots m = valS cx ops o slots m' := by
  unfold valS
  rw [valR_mem cx o slots hv m m']
theorem isVal_of_N {op : Op} (h : isN cx op = true) : isVal cx op = true := by
  unfold isN at h; unfold isVal; cases hc : clsOf cx op <;> simp [hc] at h ⊢
theorem put_away {o i : Oper} (ha : ∀ x, o.dst = some x -> Away ops x i) (slots : List D) (d : D) (m : Mem) : valS cx ops i (put slots o.dst d) m = valS cx ops i slots m := by
  cases h : o.dst with
  | none => rfl
  | some x => exact valS_set (ha x h) slots _ m
theorem step_put {o i : Oper} (ha : ∀ x, o.dst = some x -> Away ops x i) (hc : notC cx i.op = true) (slots : List D) (d : D) (m : Mem) (dead : List Pos) (K : St -> Option R) :
    stepK cx ops i ⟨put slots o.dst d, m, dead⟩ K = stepK cx ops i ⟨slots, m, dead⟩ fun s => K ⟨put s.slots o.dst d, s.mem, s.dead⟩ := by
  cases h : o.dst with
  | none => rfl
  | some x => exact step_set (ha x h) hc slots _ m dead K
theorem swap_val (hB : PureB cx) {x i : Oper} (hx : isVal cx x.op = true) (hi : notC cx i.op = true) (hxi : ∀ s, x.dst = some s -> Away ops s i) (hix : ∀ s, i.dst = some s -> Away ops s x)
    (hn : isN cx x.op = true ∨ isVal cx i.op = true) (slots : List D) (m : Mem) (dead : List Pos) (K : St -> Option R) :
    stepK cx ops x ⟨slots, m, dead⟩ (fun s => stepK cx ops i s K) = stepK cx ops i ⟨slots, m, dead⟩ (fun s => stepK cx ops x s K) ∨ stepK cx ops x ⟨slots, m, dead⟩ (fun s => stepK cx ops i s K) = none := by
  rw [step_val hB hx]
  cases hd : valS cx ops x slots m with
  | none => exact .inr rfl
  | some d =>
    refine .inl ?_
    simp only [Option.bind_some]
    rw [step_put hxi hi]
    rcases hn with hn | hn
    . refine step_congr hi _ _ _ fun e m' dd => ?_
      rw [step_val hB hx, put_away hix, valS_mem hn slots m' m, hd]
      rfl
    . rw [step_val hB hn, step_val hB hn]
      cases valS cx ops i slots m with
      | none => rfl
      | some e =>
        simp only [Option.bind_some]
        rw [step_val hB hx, put_away hix, hd]
        rfl
theorem swap_val' (hB : PureB cx) {x i : Oper} (hx : notC cx x.op = true) (hi : isVal cx i.op = true) (hxi : ∀ s, x.dst = some s -> Away ops s i) (hix : ∀ s, i.dst = some s -> Away ops s x)
    (hn : isN cx i.op = true ∨ isVal cx x.op = true) (slots : List D) (m : Mem) (dead : List Pos) (K : St -> Option R) {e : D} (he : valS cx ops i slots m = some e) :
    stepK cx ops x ⟨slots, m, dead⟩ (fun s => stepK cx ops i s K) = stepK cx ops i ⟨slots, m, dead⟩ (fun s => stepK cx ops x s K) := by
  rw [step_val hB hi, he]
  simp only [Option.bind_some]
  rw [step_put hix hx]
  rcases hn with hn | hn
  . refine step_congr hx _ _ _ fun d m' dd => ?_
    rw [step_val hB hi, put_away hxi, valS_mem hn slots m' m, he]
    rfl
  . rw [step_val hB hn, step_val hB hn]
    cases valS cx ops x slots m with
    | none => rfl
    | some d =>
      simp only [Option.bind_some]
      rw [step_val hB hi, put_away hxi, he]
      rfl
theorem cellsK_out {R : Type} (k : Nat) : ∀ (ds : List D) (dead : List Pos) (K : List D -> List Pos -> Option R) (r : R), cellsK k ds dead K = some r -> ∃ cs dd, K cs dd = some r
  | [], dead, K, r, h => ⟨_, _, h⟩
  | d :: ds, dead, K, r, h => by
    unfold cellsK at h
    rcases cond_some h with ⟨_, h⟩ | ⟨_, h⟩
    . split at h
      . simp only [forceA_eq] at h; obtain ⟨_, _, h⟩ := cellsK_out k ds _ _ r h; exact ⟨_, _, h⟩
      . split at h
        . simp only [forceD_eq] at h; obtain ⟨_, _, h⟩ := cellsK_out k ds _ _ r h; exact ⟨_, _, h⟩
        . cases h
    . cases h
end
end Go.Proofs.Ytilfphdeacogmaa.En

/- The engine, part v: contracts of functions; one operation, calls among them. -/
namespace Go.Proofs.Ytilfphdeacogmaa.En
open Go
set_option linter.unusedVariables false
section
variable {R : Type} {cx : Cx} {ops : Array Oper}
theorem cellsK_b {α : Type} (k : Nat) : ∀ (ds : List D) (dead : List Pos) (F : List D -> List Pos -> Option α) (K : α -> Option R), (cellsK k ds dead F).bind K = cellsK k ds dead fun a b => (F a b).bind K
  | [], _, _, _ => rfl
  | d :: ds, dead, F, K => by
    unfold cellsK
    rw [cond_b]
    congr 1
    split
    . simp only [forceA_eq]; exact cellsK_b k ds _ _ K
    . split
      . simp only [forceD_eq]; exact cellsK_b k ds _ _ K
      . rfl
theorem newBoxK_b {α : Type} (s : Nat) (t : TypeId) (ds : List D) (m : Mem) (dead : List Pos) (F : Mem -> List Pos -> Option α) (K : α -> Option R) : (newBoxK s t ds m dead F).bind K = newBoxK s t ds m dead fun a b => (F a b).bind K := by
  unfold newBoxK
  split
  . split
    . rw [cellsK_b]; simp only [memPutK_eq]
    . rfl
  . rfl
theorem useUpK_b {α : Type} (a : Att) (e : TypeId) (m : Mem) (dead : List Pos) (F : Mem -> List Pos -> Option α) (K : α -> Option R) : (useUpK a e m dead F).bind K = useUpK a e m dead fun a b => (F a b).bind K := by
  unfold useUpK
  split
  . rw [cond_b]; rfl
  . rw [cond_b]
    congr 1
    split
    . rfl
    . split
      . split
        . simp only [setK_eq, memPutK_eq]
        . rfl
      . rfl
  . rfl
theorem opK_b (cx : Cx) {T : TypeId -> Option Ty} (dst : Nat) (oty : TypeId) (slots : List D) (op : Op) (m : Mem) (dead : List Pos) (K : D -> Mem -> List Pos -> Option R) :
    (opK T dst oty slots op m dead fun d m dd => some (d, m, dd)).bind (fun p => K p.1 p.2.1 p.2.2) = opK T dst oty slots op m dead K := by
  cases hv : isVal cx op with
  | true =>
    rw [opK_val cx dst oty slots op hv m dead K, opK_val cx dst oty slots op hv m dead fun d m dd => some (d, m, dd)]
    cases valO T dst oty slots op m <;> rfl
  | false =>
    cases op <;> simp only [opK, evK_eq, Option.bind_none]
    case alloc t =>
      split
      . rw [newBoxK_b]; rfl
      . rfl
    case box t x =>
      split
      . rw [newBoxK_b]; rfl
      . rfl
    case store t x y =>
      unfold storeK
      split
      . split
        . split
          . rw [cond_b, cellsK_b]
            simp only [setRK_eq, memPutK_eq]
            rfl
          . rfl
        . rfl
      . rfl
    case call c =>
      obtain ⟨cal, ⟨args⟩, ⟨ats⟩⟩ := c
      simp only
      split
      . simp [isVal, clsOf] at hv
      . unfold appendK
        split
        . split
          . split
            . split
              . rfl
              . split
                . split
                  . rw [cond_b, useUpK_b]; simp only [check_b]; rfl
                  . rfl
                . split
                  . rw [cond_b, useUpK_b]; simp only [check_b]; rfl
                  . rfl
                . split
                  . rw [cond_b, useUpK_b]; simp only [check_b]; rfl
                  . rfl
                . rfl
            . rfl
          . rfl
        . rfl
      . simp [isVal, clsOf] at hv
      . simp [isVal, clsOf] at hv
      . rfl
    all_goals simp [isVal, clsOf] at hv
theorem runK_fun (hB : PureB cx) {o : Oper} (hc : notC cx o.op = true) {slots : List D} {m : Mem} {dead : List Pos} {K : Bool -> D -> Mem -> List Pos -> Option R} {r : R} (h : runK cx o slots m dead K = some r) :
    ∃ d m' dd, K false d m' dd = some r /\ ∀ (R' : Type) (K' : Bool -> D -> Mem -> List Pos -> Option R'), runK cx o slots m dead K' = K' false d m' dd := by
  cases hv : isVal cx o.op with
  | true =>
    rw [runK_val cx hB o slots hv] at h
    obtain ⟨d, h1, h⟩ := bind_some h
    refine ⟨d, m, dead, h, fun R' K' => ?_⟩
    rw [runK_val cx hB o slots hv, h1]; rfl
  | false =>
    have key : ∀ (op : Op), o.op = op -> (∀ c, op = .call c -> ∃ b, c.callee = .builtin b) -> ∃ d m' dd, K false d m' dd = some r /\ ∀ (R' : Type) (K' : Bool -> D -> Mem -> List Pos -> Option R'), runK cx o slots m dead K' = K' false d m' dd := by
      intro op hop hcal
      have hrun : ∀ (R' : Type) (K' : Bool -> D -> Mem -> List Pos -> Option R'), runK cx o slots m dead K' = opK cx.T (o.dst.getD 0) o.type slots op m dead (K' false) := by
        intro R' K'
        unfold runK
        rw [hop]
        cases op <;> simp only
        rename_i c
        obtain ⟨b, hb⟩ := hcal c rfl
        rw [hb]
      rw [hrun, ← opK_b cx] at h
      obtain ⟨p, h1, h2⟩ := bind_some h
      refine ⟨p.1, p.2.1, p.2.2, h2, fun R' K' => ?_⟩
      rw [hrun, ← opK_b cx, h1]; rfl
    refine key o.op rfl fun c hcc => ?_
    rw [hcc] at hc hv
    obtain ⟨cal, args, ats⟩ := c
    cases cal with
    | builtin b => exact ⟨b, rfl⟩
    | value f =>
      exfalso
      cases f <;> simp only [notC, clsOf, Bool.false_eq_true] at hc
      rename_i f
      cases hp : cx.isPure f with
      | true => simp [isVal, clsOf, hp] at hv
      | false =>
        rw [hp] at hc
        cases hs : cx.isStill f with
        | true => simp [isVal, clsOf, hp, hs] at hv
        | false => rw [hs] at hc; simp at hc
    | invoke f nm => simp [notC, clsOf] at hc
theorem step_fun (hB : PureB cx) {o : Oper} (hc : notC cx o.op = true) {slots : List D} {m : Mem} {dead : List Pos} {K : St -> Option R} {r : R} (h : stepK cx ops o ⟨slots, m, dead⟩ K = some r) :
    ∃ d m' dd, K ⟨put slots o.dst d, m', dd⟩ = some r /\ ∀ (R' : Type) (K' : St -> Option R'), stepK cx ops o ⟨slots, m, dead⟩ K' = K' ⟨put slots o.dst d, m', dd⟩ := by
  rw [stepK_eq] at h
  cases hw : wants ops o slots with
  | none => rw [hw] at h; cases h
  | some b =>
    rw [hw] at h
    cases b
    . simp only [actK, skipK_eq] at h
      exact ⟨_, _, _, h, fun R' K' => by rw [stepK_eq, hw]; simp only [actK, skipK_eq]⟩
    . simp only [actK, takeK_eq o hc] at h
      obtain ⟨d, m', dd, h1, h2⟩ := runK_fun hB hc h
      exact ⟨d, m', dd, h1, fun R' K' => by rw [stepK_eq, hw]; simp only [actK, takeK_eq o hc]; exact h2 R' _⟩
end
section
variable {P : Program} {T : TypeId -> Option Ty} {E : Env} {g : G} {w w' : World} {dead : List Pos}
def RepDs (E : Env) (g : G) (w : World) (dead : List Pos) (ds : List D) (us : List Value) : Prop := us.length = ds.length /\ ∀ (k : Nat) y, ds[k]? = some y -> RepD E g w dead y (us.getD k undef)
def retV (us : List Value) : Value := match us with | [u] => u | us => .tuple us.toArray
theorem resD_rep {rs : List D} {us : List Value} (h : RepDs E g w dead rs us) : RepD E g w dead (resD rs) (retV us) := by
  obtain ⟨hl, hr⟩ := h
  match rs, us, hl with
  | [], [], _ => exact .tup [] _ rfl fun k y h => by simp at h
  | [d], [u], _ => exact hr 0 d rfl
  | d :: d' :: rs, u :: u' :: us, hl =>
    refine .tup _ _ (by simpa using hl) fun k y hk => ?_
    simpa using hr k y hk
def Goes (P : Program) (f : FuncId) : Prop := ∀ (args : Array Value) (w : World), (callFunc f args).run P w = .ok (.enter f args) w
def Perm.still : Perm -> Bool
  | .imm => true
  | .low _ => true
  | _ => false
structure PureTr (g : G) (w : World) (g' : G) (w' : World) : Prop where
  grows : Grows w w'
  old : ∀ b, b < w.heap.size -> g'.Γ b = g.Γ b
  new : ∀ b, w.heap.size <= b -> (g'.Γ b).still = true
  J : g'.J = g.J
  sz : g'.sz = g.sz
def PureRet (P : Program) (T : TypeId -> Option Ty) (f : FuncId) (ds rs : List D) : Prop :=
  ∀ (E : Env) (g : G) (w : World) (us : List Value), SzOK T g w -> RepDs E g w [] ds us ->
    Calls P f us.toArray w fun e w' => ∃ us' g', e = .returned (retV us') /\ (∀ E' : Env, RepDs E' g' w' [] rs us') /\ PureTr g w g' w'
def KeepsS (E : Env) (g : G) (w : World) (E' : Env) (g' : G) (w' : World) : Prop :=
  Later g w g' w' /\ E'.d = E.d /\ (∀ k s, E.dom k s -> E'.dom k s) /\ (∀ k s, k <= E.d -> E.dom k s -> g'.J (E.d - k) s = g.J (E.d - k) s) /\ (∀ s e v, OwnAt g w (.slot E.d s) e v -> OwnAt g' w' (.slot E.d s) e v)
def inner (E : Env) (m : Mem) : Env := { d := E.d + 1, dom := memDom ([] :: m) }
def MemRet (P : Program) (T : TypeId -> Option Ty) (f : FuncId) (dst : Nat) (ds : List D) (m : Mem) (rs : List D) (m' : Mem) : Prop :=
  ∀ (E : Env) (g : G) (w : World) (us : List Value), Here T E g w m -> RepDs (inner E m) g w [] ds us ->
    Calls P f us.toArray w fun e w' => ∃ us' g' E', e = .returned (retV us') /\ KeepsS E g w E' g' w' /\ Here T E' g' w' m' /\ RepDs E' g' w' [] rs us' /\ Tr E.d g w g' w'
def MethOK (P : Program) (t : TypeId) (name : String) (f : FuncId) : Prop := ∀ (v : Value) (w : World), (method (P.types.size + Made.depth) t v name).run P w = .ok (f, v) w
def StillRet (P : Program) (T : TypeId -> Option Ty) (f : FuncId) (ds : List D) (m : Mem) (rs : List D) : Prop :=
  ∀ (E : Env) (g : G) (w : World) (us : List Value), Here T E g w m -> RepDs (inner E m) g w [] ds us -> Calls P f us.toArray w fun e w' => ∃ us' g', e = .returned (retV us') /\ (∀ E' : Env, RepDs E' g' w' [] rs us') /\ PureTr g w g' w'
structure CxOK (P : Program) (cx : Cx) : Prop where
  T : TypesOK P cx.T
  pure : ∀ (R : Type) (g : FuncId) (ds : List D) (K : List D -> Option R) (r : R), cx.isPure g = true -> cx.pureK g ds K = some r -> ∃ rs, K rs = some r /\ Goes P g /\ PureRet P cx.T g ds rs
  mem : ∀ (R : Type) (g : FuncId) (dst : Nat) (ds : List D) (m : Mem) (K : List D -> Mem -> Option R) (r : R), cx.isPure g = false -> cx.isStill g = false -> cx.memK g dst ds m K = some r -> ∃ rs m', K rs m' = some r /\ Goes P g /\ MemRet P cx.T g dst ds m rs m'
  still : ∀ (R : Type) (g : FuncId) (ds : List D) (m : Mem) (K : List D -> Option R) (r : R), cx.isStill g = true -> cx.stillK g ds m K = some r -> ∃ rs, K rs = some r /\ Goes P g /\ StillRet P cx.T g ds m rs
  B : PureB cx
  meth : ∀ t name f, cx.meth t name = some f -> MethOK P t name f
theorem PureTr.later {g' : G} (h : PureTr g w g' w') : Later g w g' w' :=
  ⟨h.sz, fun b o v h1 h2 => by
    have hx := cell_lt h2
    refine ⟨?_, by rw [cell_of_heap (h.grows.old b hx)]; exact h2⟩
    unfold Stable at h1 ⊢
    rw [h.old b hx]; exact h1, fun b x h1 h2 => by
    have hx := heap_lt h2
    exact ⟨by rw [h.old b hx]; exact h1, by rw [h.grows.old b hx]; exact h2⟩⟩
theorem PureTr.own {g' : G} (h : PureTr g w g' w') {q : APos} {e : TypeId} {v : Value} (ho : OwnAt g w q e v) : OwnAt g' w' q e v := by
  rcases ho with h0 | ⟨x, n, cap, cur, h1, h2, h3, h4⟩
  . exact .inl h0
  . have hx := heap_lt h3
    refine .inr ⟨x, n, cap, cur, h1, by rw [h.old x hx, h.sz]; exact h2, by rw [h.grows.old x hx]; exact h3, ?_⟩
    rw [h.sz]; exact h4
theorem PureTr.keeps {g' : G} (h : PureTr g w g' w') : Keeps E g w dead E g' w' dead :=
  ⟨h.later, rfl, fun _ _ h => h, fun _ _ _ _ => by rw [h.J], fun _ h => h, fun _ _ _ _ _ ho => h.own ho⟩
theorem PureTr.here {g' : G} (h : PureTr g w g' w') {m : Mem} (hh : Here T E g w m) : Here T E g' w' m := by
  refine ⟨fun k s b hb => ?_, hh.dom, hh.sk.later h.later, hh.len⟩
  have hr := hh.mem k s b hb
  obtain ⟨us, h1, h2, h3⟩ := hr.heap
  have hx := heap_lt h1
  refine ⟨hr.le, by rw [h.J, h.old _ hx]; exact hr.perm, us, by rw [h.J, h.grows.old _ hx]; exact h1, h2, fun i c hc => ?_⟩
  obtain ⟨a1, a2, a3, a4⟩ := h3 i c hc
  exact ⟨a1, a2, by rw [h.J]; exact a3, a4.keep h.keeps⟩
theorem PureTr.tr {g' : G} (h : PureTr g w g' w') (d : Nat) : Tr d g w g' w' :=
  ⟨h.grows.os, h.grows.tape, h.grows.output, h.grows.size, h.later, fun b hb _ => ⟨h.old b hb, h.grows.old b hb⟩, fun _ _ _ => by rw [h.J]⟩
theorem shifts_get (k : Nat) : ∀ (ds : List D) (i : Nat) y, (D.shifts k ds)[i]? = some y -> ∃ z, ds[i]? = some z /\ y = z.shift k
  | [], i, y, h => by simp [D.shifts] at h
  | d :: ds, 0, y, h => by simp [D.shifts] at h; exact ⟨d, by simp, h.symm⟩
  | d :: ds, i + 1, y, h => by
    simp [D.shifts] at h; obtain ⟨z, a, b⟩ := shifts_get k ds i y h; exact ⟨z, by simpa using a, b⟩
theorem shifts_length (k : Nat) : ∀ ds : List D, (D.shifts k ds).length = ds.length
  | [] => rfl
  | d :: ds => by simp [D.shifts, shifts_length k ds]
theorem inner_rep {m : Mem} {x : D} {v : Value} (h : RepD E g w dead x v) (hd : E.dom = memDom m) : RepD (inner E m) g w [] (argD x) v := by
  unfold argD
  induction h with
  | v x a v h ha => exact .v _ _ _ h trivial
  | ptr k s o h1 h2 =>
    have := RepD.ptr (E := inner E m) (g := g) (w := w) (dead := []) (k + 1) s o (by show k + 1 <= E.d + 1; omega) (by
      rw [hd] at h2
      obtain ⟨b, hb⟩ := h2
      exact ⟨b, hb⟩)
    have e : (inner E m).d - (k + 1) = E.d - k := by show E.d + 1 - (k + 1) = _; omega
    rw [e] at this
    exact this
  | nilp => exact .nilp
  | eptr cs o b off us h hr => exact .eptr cs o b off us h hr
  | clos f caps us hn hr ih =>
    refine .clos f _ us (by rw [shifts_length, bares_length]; exact hn) fun k y hy => ?_
    obtain ⟨z, hz, rfl⟩ := shifts_get _ _ k y hy
    obtain ⟨z', hz', rfl⟩ := bares_get _ k z hz
    exact ih k z' hz'
  | nilF => exact .nilF
  | bld => exact .bld
  | agg ds us hn hr ih =>
    refine .agg _ us (by rw [shifts_length, bares_length]; exact hn) fun k y hy => ?_
    obtain ⟨z, hz, rfl⟩ := shifts_get _ _ k y hy
    obtain ⟨z', hz', rfl⟩ := bares_get _ k z hz
    exact ih k z' hz'
  | tup ds us hn hr ih =>
    refine .tup _ us (by rw [shifts_length, bares_length]; exact hn) fun k y hy => ?_
    obtain ⟨z, hz, rfl⟩ := shifts_get _ _ k y hy
    obtain ⟨z', hz', rfl⟩ := bares_get _ k z hz
    exact ih k z' hz'
  | any v => exact .any v
theorem argsK_sound {R : Type} {m : Mem} {slots : List D} {a : Act} (hd : E.dom = memDom m) (hs : RepS E g w dead slots a) : ∀ (zs : List Operand) (ts : List TypeId) (K : List D -> Option R) (r : R), argsK T slots ts zs K = some r ->
    ∃ ds, RepDs (inner E m) g w [] ds (zs.map a.eval) /\ K ds = some r
  | [], ts, K, r, h => ⟨[], ⟨rfl, fun k y h => by simp at h⟩, by cases ts <;> exact h⟩
  | z :: zs, [], K, r, h => by
    simp only [argsK, evK_eq, forceD_eq] at h
    obtain ⟨ds, ⟨h1, h2⟩, h3⟩ := argsK_sound hd hs zs [] _ r h
    refine ⟨argD (evalD T slots 0 z) :: ds, ⟨by simp [h1], fun k y hk => ?_⟩, h3⟩
    rcases k with _ | k
    . simp at hk; subst hk; simpa using inner_rep (hs.ev 0 z) hd
    . simpa using h2 k y (by simpa using hk)
  | z :: zs, t :: ts, K, r, h => by
    simp only [argsK, evK_eq, forceD_eq] at h
    obtain ⟨ds, ⟨h1, h2⟩, h3⟩ := argsK_sound hd hs zs ts _ r h
    refine ⟨argD (evalD T slots t z) :: ds, ⟨by simp [h1], fun k y hk => ?_⟩, h3⟩
    rcases k with _ | k
    . simp at hk; subst hk; simpa using inner_rep (hs.ev t z) hd
    . simpa using h2 k y (by simpa using hk)
theorem RepDs.append {ds ds' : List D} {us us' : List Value} (h : RepDs E g w dead ds us) (h' : RepDs E g w dead ds' us') : RepDs E g w dead (ds ++ ds') (us ++ us') := by
  refine ⟨by simp [h.1, h'.1], fun k y hk => ?_⟩
  rcases Nat.lt_or_ge k ds.length with hl | hl
  . rw [List.getElem?_append_left hl] at hk
    have := h.2 k y hk
    rw [List.getD_eq_getElem?_getD, List.getElem?_append_left (by rw [h.1]; exact hl), ← List.getD_eq_getElem?_getD]
    exact this
  . rw [List.getElem?_append_right hl] at hk
    have := h'.2 _ y hk
    rw [List.getD_eq_getElem?_getD, List.getElem?_append_right (by rw [h.1]; exact hl), h.1, ← List.getD_eq_getElem?_getD]
    exact this
structure Sim (T : TypeId -> Option Ty) (E : Env) (g : G) (w : World) (st : St) (a : Act) : Prop where
  here : Here T E g w st.mem
  slots : RepS E g w st.dead st.slots a
  size : a.tmps.size = st.slots.length
  defers : a.defers = []
theorem RepS.put_ {slots : List D} {a : Act} (hs : RepS E g w dead slots a) (hsz : a.tmps.size = slots.length) (dst : Option Nat) {d : D} {v : Value} (hd : RepD E g w dead d v) : RepS E g w dead (put slots dst d) (a.put dst v) := by
  cases dst with
  | none => exact hs
  | some s =>
    intro k x hk
    simp only [put, Act.put] at hk ⊢
    rw [List.getElem?_set] at hk
    split at hk
    . rename_i e
      subst e
      split at hk
      . rename_i hlt
        injection hk with hk; subst hk
        have : (a.tmps.setIfInBounds s v).getD s undef = v := by simp [Array.getD_eq_getD_getElem?, (by omega : s < a.tmps.size)]
        rw [this]
        cases d with
        | v x at_ =>
          cases at_ with
          | nil e =>
            cases hd with | v x a v h ha => exact .v _ _ _ h (.inr ⟨trivial, .inl ha⟩)
          | no => exact hd
          | own p e => exact hd
        | _ => exact hd
      . cases hk
    . rename_i e
      have := hs k x hk
      have e2 : (a.tmps.setIfInBounds s v).getD k undef = a.tmps.getD k undef := by
        simp only [Array.getD_eq_getD_getElem?]
        rw [Array.getElem?_setIfInBounds_ne e]
      rw [e2]; exact this
theorem put_length (slots : List D) (dst : Option Nat) (d : D) : (put slots dst d).length = slots.length := by cases dst <;> simp [put]
theorem actput_size (a : Act) (dst : Option Nat) (v : Value) : (a.put dst v).tmps.size = a.tmps.size := by cases dst <;> simp [Act.put]
theorem actput_defers (a : Act) (dst : Option Nat) (v : Value) : (a.put dst v).defers = a.defers := by cases dst <;> rfl
def StepOut (P : Program) (T : TypeId -> Option Ty) (E : Env) (g : G) (w : World) (a : Act) (o : Oper) (st' : St) : Prop :=
  ∀ (Ok : Value -> World -> Prop), (∀ v w' g' E', Sim T E' g' w' st' (a.put o.dst v) -> E'.d = E.d -> Tr E.d g w g' w' -> Ok v w') ->
    (∃ v w', Ok v w') /\ ∀ (next : Act -> World -> Prop) (Q : Exit -> Act -> World -> Prop), (∀ v w', Ok v w' -> next (a.put o.dst v) w') -> o.wp P a w next Q
theorem stepOut_of_res {m' : Mem} {dead' : List Pos} {slots : List D} {m : Mem} {a : Act} {o : Oper} {d : D} (hs : Sim T E g w ⟨slots, m, dead⟩ a) (h : Res P T E g w m dead o a d m' dead') : StepOut P T E g w a o ⟨put slots o.dst d, m', dead'⟩ := by
  intro Ok hOk
  obtain ⟨v, w', g', E', h1, h2, h3, h4, h5⟩ := h
  have hok := hOk v w' g' E' ⟨h3, RepS.put_ (fun s x hx => (hs.slots s x hx).keep h2) hs.size o.dst h4, by rw [actput_size, hs.size, put_length], by rw [actput_defers]; exact hs.defers⟩ h2.d h5
  exact ⟨⟨v, w', hok⟩, fun next Q hn => wp_of_runs h1 (hn v w' hok)⟩
theorem exec_call {o : Oper} {a : Act} {c : Call} (hop : o.op = .call c) {f : Operand} (hf : c.callee = .value f) {g0 : FuncId} {caps : Array Value} (hv : a.eval f = .func (.func g0) #[] caps) (hg : Goes P g0) :
    (execOp a.eval o).run P w = .ok (.enter g0 (c.args.map a.eval ++ caps)) w := by
  simp only [execOp, hop, resolve, hf, hv, Deferred.ofValue, Sem.run_bind, Sem.run_pure, Result.andThen_ok, invoke]
  have := hg (#[] ++ c.args.map a.eval ++ caps) w
  simpa using this
theorem exec_invoke {o : Oper} {a : Act} {c : Call} (hop : o.op = .call c) {f : Operand} {nm : String} (hf : c.callee = .invoke f nm) {t : TypeId} {u : Value} (hv : a.eval f = .iface t u) {g0 : FuncId} (hm : MethOK P t nm g0) (hg : Goes P g0) :
    (execOp a.eval o).run P w = .ok (.enter g0 (#[u] ++ c.args.map a.eval)) w := by
  have h1 := hm u w
  have h2 := hg (#[u] ++ c.args.map a.eval) w
  have hx : (#[a.eval f] ++ c.args.map a.eval).extract 1 (#[a.eval f] ++ c.args.map a.eval).size = c.args.map a.eval := by
    apply Array.ext'
    simp
    exact List.take_of_length_le (by simp)
  simp only [execOp, hop, resolve, hf, Sem.run_bind, Sem.run_pure, Result.andThen_ok, invoke]
  have h0 : (#[a.eval f] ++ c.args.map a.eval)[0]? = some (.iface t u) := by rw [Array.getElem?_append_left (by simp), hv]; rfl
  have hp : (program : Sem Program).run P w = .ok P w := rfl
  simp only [h0, hx, callMethod, Sem.run_bind, hp, Result.andThen_ok, h1, h2]
end
end Go.Proofs.Ytilfphdeacogmaa.En

/- The engine, part w: one operation is sound, whatever it is; regions in the order of the text. -/
namespace Go.Proofs.Ytilfphdeacogmaa.En
open Go
set_option linter.unusedVariables false
section
variable {R : Type} {P : Program} {T : TypeId -> Option Ty} {E : Env} {g : G} {w w' : World} {dead : List Pos}
def dropD (d : D) : D :=
  match d with
  | .v x a => (match a with
    | .own p e => (match p with | .slot g => .v x (.own (.slot g) e) | _ => .v x .no)
    | a => .v x a)
  | d => cond d.noOwn d .any
theorem dropK_eq : ∀ (slots : List D) (K : List D -> Option R), dropK slots K = K (slots.map dropD)
  | [], K => rfl
  | d :: r, K => by
    unfold dropK
    cases d with
    | v x a =>
      cases a with
      | own p e => cases p <;> simp only [dropK_eq r, dropD, List.map_cons]
      | no => simp only [dropK_eq r, dropD, List.map_cons]
      | nil e => simp only [dropK_eq r, dropD, List.map_cons]
    | _ => simp only [dropK_eq r, dropD, List.map_cons]; (first | rfl | (split <;> rfl) | (cases D.noOwn _ <;> rfl))
theorem noOwn_keep {E' : Env} {g' : G} (hk : KeepsS E g w E' g' w') {x : D} {v : Value} (h : RepD E g w dead x v) : x.noOwn = true -> RepD E' g' w' dead x v := by
  obtain ⟨hl, hd, hdom, hJ, _⟩ := hk
  induction h with
  | v x a v h ha =>
    intro hn
    cases a with
    | own p e => simp [D.noOwn] at hn
    | no => exact .v _ _ _ (h.later hl) trivial
    | nil e => exact .v _ _ _ (h.later hl) ha
  | ptr k s o h1 h2 =>
    intro _
    have := hJ k s h1 h2
    rw [← this, ← hd]
    exact .ptr k s o (by rw [hd]; exact h1) (hdom k s h2)
  | nilp => intro _; exact .nilp
  | eptr cs o b off us h hr => intro _; exact .eptr cs o b off us (fun k y hy => hl.st _ _ _ (h k y hy).1 (h k y hy).2) (fun k y hy => (hr k y hy).later hl)
  | clos f caps us hn' hr ih => intro hn; exact .clos f caps us hn' fun i y hy => ih i y hy (noOwns_get _ hn i y hy)
  | nilF => intro _; exact .nilF
  | bld => intro _; exact .bld
  | agg ds us hn' hr ih => intro hn; exact .agg ds us hn' fun i y hy => ih i y hy (noOwns_get _ hn i y hy)
  | tup ds us hn' hr ih => intro hn; exact .tup ds us hn' fun i y hy => ih i y hy (noOwns_get _ hn i y hy)
  | any v => intro _; exact .any v
theorem dropD_rep {E' : Env} {g' : G} (hk : KeepsS E g w E' g' w') {x : D} {v : Value} (h : RepD E g w dead x v) : RepD E' g' w' dead (dropD x) v := by
  cases x with
  | v y a =>
    cases a with
    | no => exact noOwn_keep hk h rfl
    | nil e => exact noOwn_keep hk h rfl
    | own p e =>
      cases h with
      | v y a v h ha =>
        cases p with
        | cell k s i => exact .v _ _ _ (h.later hk.1) trivial
        | slot s =>
          refine .v _ _ _ (h.later hk.1) ?_
          rcases ha with ha | ⟨_, ha⟩
          . exact .inl ha
          . refine .inr ⟨trivial, ?_⟩
            rw [hk.2.1]
            exact hk.2.2.2.2 s e v ha
  | _ =>
    simp only [dropD, Bool.cond_eq_ite]
    split
    . rename_i hn; exact noOwn_keep hk h hn
    . exact .any _
theorem enter_out {st' : St} {a : Act} {o : Oper} {f : FuncId} {args : Array Value} (hx : (execOp a.eval o).run P w = .ok (.enter f args) w) {post : Value -> World -> Prop}
    (hc : Calls P f args w fun e w' => ∃ v, e = .returned v /\ post v w')
    (hp : ∀ v w', post v w' -> ∃ g' E', Sim T E' g' w' st' (a.put o.dst v) /\ E'.d = E.d /\ Tr E.d g w g' w') : StepOut P T E g w a o st' := by
  intro Ok hOk
  refine ⟨?_, fun next Q hn => ?_⟩
  . obtain ⟨e, w', fr, ⟨v, _, hpv⟩, _⟩ := hc []
    obtain ⟨g', E', h1, h2, h3⟩ := hp v w' hpv
    exact ⟨v, w', hOk v w' g' E' h1 h2 h3⟩
  . unfold Oper.wp
    rw [hx]
    refine hc.mono fun e w' ⟨v, he, hpv⟩ => ?_
    subst he
    obtain ⟨g', E', h1, h2, h3⟩ := hp v w' hpv
    exact hn v w' (hOk v w' g' E' h1 h2 h3)
theorem call_sound {cx : Cx} (hcx : CxOK P cx) {slots : List D} {m : Mem} {a : Act} (hs : Sim cx.T E g w ⟨slots, m, dead⟩ a) {o : Oper} {f : FuncId} {ds : List D} {us : List Value}
    (hx : (execOp a.eval o).run P w = .ok (.enter f us.toArray) w ∨ Goes P f -> (execOp a.eval o).run P w = .ok (.enter f us.toArray) w) (hr : RepDs (inner E m) g w [] ds us) {K : St -> Option R} {r : R}
    (h : callK cx f (o.dst.getD 0) ds m dead (fun c d m' dead' => cond c (dropK slots fun slots => putK slots o.dst d fun slots => K ⟨slots, m', dead'⟩) (putK slots o.dst d fun slots => K ⟨slots, m', dead'⟩)) = some r) :
    ∃ st', K st' = some r /\ StepOut P cx.T E g w a o st' := by
  unfold callK at h
  cases hp : cx.isPure f with
  | true =>
    rw [hp] at h
    simp only [cond_false, putK_put] at h
    obtain ⟨rs, h1, hg, hret⟩ := hcx.pure _ f ds _ r hp h
    refine ⟨_, h1, enter_out (post := fun v w' => ∃ us' g', v = retV us' /\ (∀ E' : Env, RepDs E' g' w' [] rs us') /\ PureTr g w g' w') (hx (.inr hg)) ((hret (inner E m) g w us hs.here.sk hr).mono fun e w' ⟨us', g', he, h2, h3⟩ => ⟨_, he, us', g', rfl, h2, h3⟩) ?_⟩
    rintro v w' ⟨us', g', rfl, h2, h3⟩
    refine ⟨g', E, ⟨h3.here hs.here, RepS.put_ (fun s x hx => (hs.slots s x hx).keep h3.keeps) hs.size o.dst (resD_rep (h2 E)).weaken, by rw [actput_size, hs.size, put_length], by rw [actput_defers]; exact hs.defers⟩, rfl, h3.tr _⟩
  | false =>
    rw [hp] at h
    cases hq : cx.isStill f with
    | true =>
      rw [hq] at h
      simp only [cond_true, cond_false, putK_put] at h
      obtain ⟨rs, h1, hg, hret⟩ := hcx.still _ f ds m _ r hq h
      refine ⟨_, h1, enter_out (post := fun v w' => ∃ us' g', v = retV us' /\ (∀ E' : Env, RepDs E' g' w' [] rs us') /\ PureTr g w g' w') (hx (.inr hg)) ((hret E g w us hs.here hr).mono fun e w' ⟨us', g', he, h2, h3⟩ => ⟨_, he, us', g', rfl, h2, h3⟩) ?_⟩
      rintro v w' ⟨us', g', rfl, h2, h3⟩
      exact ⟨g', E, ⟨h3.here hs.here, RepS.put_ (fun s x hx => (hs.slots s x hx).keep h3.keeps) hs.size o.dst (resD_rep (h2 E)).weaken, by rw [actput_size, hs.size, put_length], by rw [actput_defers]; exact hs.defers⟩, rfl, h3.tr _⟩
    | false =>
    rw [hq] at h
    simp only [cond_true, cond_false, dropK_eq, putK_put] at h
    obtain ⟨rs, m', h1, hg, hret⟩ := hcx.mem _ f _ ds m _ r hp hq h
    refine ⟨_, h1, enter_out (post := fun v w' => ∃ us' g' E', v = retV us' /\ KeepsS E g w E' g' w' /\ Here cx.T E' g' w' m' /\ RepDs E' g' w' [] rs us' /\ Tr E.d g w g' w') (hx (.inr hg)) ((hret E g w us hs.here hr).mono fun e w' ⟨us', g', E', he, h2, h3, h4, h5⟩ => ⟨_, he, us', g', E', rfl, h2, h3, h4, h5⟩) ?_⟩
    rintro v w' ⟨us', g', E', rfl, h2, h3, h4, h5⟩
    refine ⟨g', E', ⟨h3, RepS.put_ (fun s x hx => ?_) (by rw [List.length_map]; exact hs.size) o.dst (resD_rep h4).weaken, by rw [actput_size, hs.size, put_length, List.length_map], by rw [actput_defers]; exact hs.defers⟩, h2.2.1, h5⟩
    rw [List.getElem?_map, Option.map_eq_some_iff] at hx
    obtain ⟨z, hz, rfl⟩ := hx
    exact dropD_rep h2 (hs.slots s z hz)
theorem take_sound {cx : Cx} (hcx : CxOK P cx) {slots : List D} {m : Mem} {a : Act} (hs : Sim cx.T E g w ⟨slots, m, dead⟩ a) {o : Oper} {K : St -> Option R} {r : R} (h : takeK cx o ⟨slots, m, dead⟩ K = some r) :
    ∃ st', K st' = some r /\ StepOut P cx.T E g w a o st' := by
  simp only [takeK] at h
  have plain : ∀ (op : Op), o.op = op -> opK cx.T (o.dst.getD 0) o.type slots op m dead (fun d m' dead' => putK slots o.dst d fun slots => K ⟨slots, m', dead'⟩) = some r -> ∃ st', K st' = some r /\ StepOut P cx.T E g w a o st' := by
    intro op hop h
    subst hop
    obtain ⟨d, m', dead', h1, h2⟩ := opK_sound hcx.T hs.here hs.slots o h
    rw [putK_put] at h2
    exact ⟨_, h2, stepOut_of_res hs h1⟩
  unfold runK at h
  cases hop : o.op <;> rw [hop] at h <;> simp only [cond_false] at h
  case call c =>
    cases hcal : c.callee with
    | builtin b => rw [hcal] at h; exact plain _ hop h
    | value f =>
      rw [hcal] at h
      simp only [evK_eq] at h
      have hf := hs.slots.ev (T := cx.T) 0 f
      generalize hd : evalD cx.T slots 0 f = df at h hf
      cases df <;> simp only [reduceCtorEq] at h
      rename_i g0 caps
      simp only [forceL_eq] at h
      obtain ⟨ds, h1, h2⟩ := argsK_sound hs.here.dom hs.slots _ _ _ _ h
      generalize hv : a.eval f = vf at hf
      cases hf with
      | clos _ _ us hn hr =>
        have hcaps : RepDs (inner E m) g w [] (caps.map argD) us.toList := by
          refine ⟨by simpa using hn, fun k y hk => ?_⟩
          rw [List.getElem?_map, Option.map_eq_some_iff] at hk
          obtain ⟨z, hz, rfl⟩ := hk
          have := inner_rep (hr k z hz) hs.here.dom
          simpa using this
        refine call_sound hcx hs (us := c.args.toList.map a.eval ++ us.toList) (fun hg => ?_) (h1.append hcaps) h2
        rcases hg with hg | hg
        . exact hg
        . rw [exec_call hop hcal hv hg]
          congr 2
          simp
    | invoke f nm =>
      rw [hcal] at h
      simp only [evK_eq] at h
      have hf := hs.slots.ev (T := cx.T) 0 f
      generalize hd : evalD cx.T slots 0 f = df at h hf
      cases df <;> simp only [reduceCtorEq] at h
      rename_i x at_
      cases x <;> simp only [reduceCtorEq] at h
      rename_i t y
      split at h
      case h_2 => cases h
      rename_i g0 hm
      obtain ⟨ds, h1, h2⟩ := argsK_sound hs.here.dom hs.slots _ _ _ _ h
      generalize hv : a.eval f = vf at hf
      cases hf with
      | v _ _ _ hvv _ =>
      cases hvv with
      | iface t y u hu =>
        have hrec : RepDs (inner E m) g w [] [recvD y] [u] := by
          refine ⟨rfl, fun k z hk => ?_⟩
          have : k = 0 := by have := (List.getElem?_eq_some_iff.1 hk).1; simp at this; omega
          subst this
          simp at hk; subst hk
          unfold recvD
          split
          . rename_i cs
            cases hu with
            | agg cs us hn hr =>
              refine .agg _ us (by simpa using hn) fun k z hk => ?_
              rw [List.getElem?_map, Option.map_eq_some_iff] at hk
              obtain ⟨z', hz', rfl⟩ := hk
              exact .v _ _ _ (hr k z' hz') trivial
          . exact .v _ _ _ hu trivial
        refine call_sound hcx hs (ds := recvD y :: ds) (us := u :: c.args.toList.map a.eval) (fun hg => ?_) (hrec.append h1) h2
        rcases hg with hg | hg
        . exact hg
        . rw [exec_invoke hop hcal hv (hcx.meth _ _ _ hm) hg]
          congr 2
          simp
  all_goals exact plain _ hop h
theorem step_sound {cx : Cx} (hcx : CxOK P cx) {ops : Array Oper} {slots : List D} {m : Mem} {a : Act} (hs : Sim cx.T E g w ⟨slots, m, dead⟩ a) {o : Oper} {K : St -> Option R} {r : R} (h : stepK cx ops o ⟨slots, m, dead⟩ K = some r) :
    (Region.wanted o (yielded ops a.tmps) = true /\ ∃ st', K st' = some r /\ StepOut P cx.T E g w a o st') ∨
    (Region.wanted o (yielded ops a.tmps) = false /\ ∃ st', K st' = some r /\ Sim cx.T E g w st' (a.put o.dst undef)) := by
  rw [stepK_eq] at h
  have hw : ∀ b, wants ops o slots = some b -> Region.wanted o (yielded ops a.tmps) = b := by
    intro b hb
    unfold wants at hb
    unfold Region.wanted
    cases hg : o.guard with
    | none => rw [hg] at hb; simpa using hb
    | some p =>
      obtain ⟨j, want⟩ := p
      rw [hg] at hb
      simp only at hb ⊢
      cases hd : dstOf ops j with
      | none => rw [hd] at hb; cases hb
      | some s =>
        rw [hd] at hb
        simp only at hb
        split at hb
        . rename_i b' a' hsl
          injection hb with hb; subst hb
          have hx : slots[s]? = some (.v (.bool b') a') := by
            rw [List.getD_eq_getElem?_getD] at hsl
            cases hq : slots[s]? with
            | none => rw [hq] at hsl; cases hsl
            | some z => rw [hq] at hsl; simp at hsl; rw [hsl]
          have hv := (hs.slots s _ hx).bool_inv
          have hlt : s < a.tmps.size := by have := (List.getElem?_eq_some_iff.1 hx).1; have := hs.size; simp only at this; omega
          have hd' : (ops[j]?).bind (·.dst) = some s := by
            unfold dstOf at hd
            cases ho : ops[j]? with
            | none => rw [ho] at hd; cases hd
            | some oo => rw [ho] at hd; simpa using hd
          have hy : yielded ops a.tmps j = some b' := by
            unfold yielded
            rw [hd']
            have : a.tmps[s]? = some (.bool b') := by
              rw [Array.getD_eq_getD_getElem?, Array.getElem?_eq_getElem hlt] at hv
              rw [Array.getElem?_eq_getElem hlt]
              simpa using hv
            simp [this]
          rw [hy]
          cases b' <;> cases want <;> rfl
        . rename_i ds' hsl
          injection hb with hb; subst hb
          have hx : slots[s]? = some (.tup ds') := by
            rw [List.getD_eq_getElem?_getD] at hsl
            cases hq : slots[s]? with
            | none => rw [hq] at hsl; cases hsl
            | some z => rw [hq] at hsl; simp at hsl; rw [hsl]
          have hv := hs.slots s _ hx
          have hlt : s < a.tmps.size := by have := (List.getElem?_eq_some_iff.1 hx).1; have := hs.size; simp only at this; omega
          have hd' : (ops[j]?).bind (·.dst) = some s := by
            unfold dstOf at hd
            cases ho : ops[j]? with
            | none => rw [ho] at hd; cases hd
            | some oo => rw [ho] at hd; simpa using hd
          have hy : yielded ops a.tmps j = none := by
            unfold yielded
            rw [hd']
            rw [Array.getD_eq_getD_getElem?, Array.getElem?_eq_getElem hlt] at hv
            rw [Option.getD_some] at hv
            generalize hq : a.tmps[s] = q at hv
            have h3 : a.tmps[s]? = some q := by rw [Array.getElem?_eq_getElem hlt, hq]
            cases hv
            simp [h3]
          rw [hy]
          cases want <;> rfl
        . cases hb
  cases hwv : wants ops o slots with
  | none => rw [hwv] at h; cases h
  | some b =>
    rw [hwv] at h
    cases b with
    | true => exact .inl ⟨hw _ hwv, take_sound hcx hs h⟩
    | false =>
      simp only [actK, skipK_eq] at h
      exact .inr ⟨hw _ hwv, _, h, ⟨hs.here, RepS.put_ hs.slots hs.size o.dst (.tup [] #[] rfl fun k y h => by simp at h), by rw [actput_size, hs.size, put_length], by rw [actput_defers]; exact hs.defers⟩⟩
end
end Go.Proofs.Ytilfphdeacogmaa.En

/- The engine, part x: owners known by their slots; what a loop's head keeps. -/
namespace Go.Proofs.Ytilfphdeacogmaa.En
open Go
set_option linter.unusedVariables false
section
variable {R : Type} {P : Program} {T : TypeId -> Option Ty} {E E' : Env} {g g' : G} {w w' : World} {dead : List Pos}
def G.ren (g : G) (d : Nat) (ρ : Nat -> Option Nat) : G :=
  { g with Γ := fun b => match g.Γ b with
    | .own (.slot d' s) n => if d' = d then (match ρ s with | some s' => .own (.slot d s') n | none => .low n) else .own (.slot d' s) n
    | p => p }
theorem ren_stable (g : G) (d : Nat) (ρ : Nat -> Option Nat) (b o : Nat) : Stable (g.ren d ρ) b o ↔ Stable g b o := by
  unfold Stable G.ren
  simp only
  cases h : g.Γ b with
  | own p n =>
    cases p with
    | slot d' s =>
      simp only
      by_cases hd : d' = d
      . rw [if_pos hd]; cases ρ s <;> exact Iff.rfl
      . rw [if_neg hd]
    | cell d' s i => exact Iff.rfl
  | _ => exact Iff.rfl
theorem ren_later (g : G) (d : Nat) (ρ : Nat -> Option Nat) (w : World) : Later g w (g.ren d ρ) w := ⟨rfl, fun b o v h1 h2 => ⟨(ren_stable g d ρ b o).2 h1, h2⟩, fun b x h1 h2 => ⟨by simp only [G.ren, h1], h2⟩⟩
theorem ren_tr (g : G) (d : Nat) (ρ : Nat -> Option Nat) (w : World) (d' : Nat) : Tr d' g w (g.ren d ρ) w :=
  ⟨rfl, rfl, rfl, Nat.le_refl _, ren_later g d ρ w, fun b _ hi => ⟨by unfold G.ren; simp only; rcases hi with hi | ⟨n, hi⟩ <;> rw [hi], rfl⟩, fun _ _ _ => rfl⟩
theorem ren_slot {d : Nat} {ρ : Nat -> Option Nat} {q s : Nat} {e : TypeId} {v : Value} (h : OwnAt g w (.slot d q) e v) (hρ : ρ q = some s) : OwnAt (g.ren d ρ) w (.slot d s) e v := by
  rcases h with h0 | ⟨b, n, cap, cur, h1, h2, h3, h4⟩
  . exact .inl h0
  . refine .inr ⟨b, n, cap, cur, h1, ?_, h3, h4⟩
    unfold G.ren
    simp only [h2, if_pos, hρ]
theorem ren_cell {d : Nat} {ρ : Nat -> Option Nat} {d' s i : Nat} {e : TypeId} {v : Value} (h : OwnAt g w (.cell d' s i) e v) : OwnAt (g.ren d ρ) w (.cell d' s i) e v := by
  rcases h with h0 | ⟨b, n, cap, cur, h1, h2, h3, h4⟩
  . exact .inl h0
  . refine .inr ⟨b, n, cap, cur, h1, ?_, h3, h4⟩
    unfold G.ren
    simp only [h2]
theorem ren_box {d : Nat} {ρ : Nat -> Option Nat} {b d' s : Nat} (h : g.Γ b = .box d' s) : (g.ren d ρ).Γ b = .box d' s := by unfold G.ren; simp only [h]
theorem rep_move (ok : Nat -> Nat -> Bool) (hl : Later g w g' w') (hd : E'.d = E.d) (hdom : ∀ k s, E.dom k s -> ok k s = true -> E'.dom k s) (hJ : ∀ k s, k <= E.d -> E.dom k s -> ok k s = true -> g'.J (E.d - k) s = g.J (E.d - k) s)
    (okD : D -> Bool) (h1 : ∀ k s o, okD (.ptr k s o) = true -> ok k s = true) (h2 : ∀ f caps, okD (.clos f caps) = true -> ∀ (i : Nat) y, caps[i]? = some y -> okD y = true) (h3 : ∀ ds, okD (.agg ds) = true -> ∀ (i : Nat) y, ds[i]? = some y -> okD y = true) (h4 : ∀ ds, okD (.tup ds) = true -> ∀ (i : Nat) y, ds[i]? = some y -> okD y = true)
    {x : D} {v : Value} (h : RepD E g w dead x v) : x.noOwn = true -> okD x = true -> RepD E' g' w' [] x v := by
  induction h with
  | v x a v h ha =>
    intro hn _
    cases a with
    | own p e => simp [D.noOwn] at hn
    | no => exact .v _ _ _ (h.later hl) trivial
    | nil e => exact .v _ _ _ (h.later hl) ha
  | ptr k s o a1 a2 =>
    intro _ ho
    have ho := h1 _ _ _ ho
    have := hJ k s a1 a2 ho
    rw [← this, ← hd]
    exact .ptr k s o (by rw [hd]; exact a1) (hdom k s a2 ho)
  | nilp => intro _ _; exact .nilp
  | eptr cs o b off us h hr => intro _ _; exact .eptr cs o b off us (fun k y hy => hl.st _ _ _ (h k y hy).1 (h k y hy).2) (fun k y hy => (hr k y hy).later hl)
  | clos f caps us hn' hr ih => intro hn ho; exact .clos f caps us hn' fun i y hy => ih i y hy (noOwns_get _ hn i y hy) (h2 _ _ ho i y hy)
  | nilF => intro _ _; exact .nilF
  | bld => intro _ _; exact .bld
  | agg ds us hn' hr ih => intro hn ho; exact .agg ds us hn' fun i y hy => ih i y hy (noOwns_get _ hn i y hy) (h3 _ ho i y hy)
  | tup ds us hn' hr ih => intro hn ho; exact .tup ds us hn' fun i y hy => ih i y hy (noOwns_get _ hn i y hy) (h4 _ ho i y hy)
  | any v => intro _ _; exact .any v
theorem hangsL_get (ks : List Nat) (k : Nat) : ∀ (ds : List D), hangsL ks k ds = false -> ∀ (i : Nat) y, ds[i]? = some y -> y.hangs ks k = false
  | [], _, i, y, h => by simp at h
  | d :: ds, h, 0, y, hy => by simp only [hangsL, Bool.or_eq_false_iff] at h; simp at hy; subst hy; exact h.1
  | d :: ds, h, i + 1, y, hy => by simp only [hangsL, Bool.or_eq_false_iff] at h; exact hangsL_get ks k ds h.2 i y (by simpa using hy)
theorem cell_move {k s i : Nat} {c : D} {u : Value} (hf : c.flat = true) (h : RepD E g w dead (loadCell k s i c) u) (hdead : Pos.cell k s i ∉ dead) (ok : Nat -> Nat -> Bool) (hl : Later g w g' w') (hd : E'.d = E.d) (hdom : ∀ k s, E.dom k s -> ok k s = true -> E'.dom k s)
    (hJ : ∀ k s, k <= E.d -> E.dom k s -> ok k s = true -> g'.J (E.d - k) s = g.J (E.d - k) s) (hown : ∀ e v, OwnAt g w (.cell (E.d - k) s i) e v -> OwnAt g' w' (.cell (E.d - k) s i) e v)
    (okD : D -> Bool) (h1 : ∀ k s o, okD (.ptr k s o) = true -> ok k s = true) (h2 : ∀ f caps, okD (.clos f caps) = true -> ∀ (i : Nat) y, caps[i]? = some y -> okD y = true) (h3 : ∀ ds, okD (.agg ds) = true -> ∀ (i : Nat) y, ds[i]? = some y -> okD y = true) (h4 : ∀ ds, okD (.tup ds) = true -> ∀ (i : Nat) y, ds[i]? = some y -> okD y = true)
    (hok : okD (c.shift k) = true) (h0 : ∀ x a, okD (.v x a) = true) : RepD E' g' w' [] (loadCell k s i c) u := by
  have gen : ∀ {x : D}, RepD E g w dead x u -> x.noOwn = true -> okD x = true -> RepD E' g' w' [] x u := fun hx hn ho => rep_move ok hl hd hdom hJ okD h1 h2 h3 h4 hx hn ho
  cases c with
  | v x a =>
    cases a with
    | own p e =>
      cases h with
      | v x a v h ha =>
        refine .v _ _ _ (h.later hl) ?_
        rcases ha with ha | ⟨ha1, ha2⟩
        . exact absurd ha hdead
        . exact .inr ⟨by show k <= E'.d; rw [hd]; exact ha1, by show OwnAt g' w' (.cell (E'.d - k) s i) e u; rw [hd]; exact hown e u ha2⟩
    | no => exact gen h rfl (h0 _ _)
    | nil e => exact gen h rfl (h0 _ _)
  | bld => exact .any _
  | _ => exact gen h (noOwn_shift k _ hf) hok
theorem ren_mem {d : Nat} {ρ : Nat -> Option Nat} {m : Mem} (hm : MemRep E g w m) : MemRep E (g.ren d ρ) w m := by
  intro k s b hb
  have hr := hm k s b hb
  obtain ⟨us, h1, h2, h3⟩ := hr.heap
  refine ⟨hr.le, ren_box hr.perm, us, h1, h2, fun i c hc => ?_⟩
  obtain ⟨a1, a2, a3, a4⟩ := h3 i c hc
  exact ⟨a1, a2, a3, cell_move a2 a4 (by simp) (fun _ _ => true) (ren_later g d ρ w) rfl (fun _ _ h _ => h) (fun _ _ _ _ _ => rfl) (fun e v h => ren_cell h) (fun _ => true) (fun _ _ _ _ => rfl) (fun _ _ _ _ _ _ => rfl) (fun _ _ _ _ _ => rfl) (fun _ _ _ _ _ => rfl) rfl (fun _ _ => rfl)⟩
def handL (ok : D -> Bool) (dead : List Pos) : List Pos -> List (Nat × D) -> List D
  | _, [] => []
  | seen, (s, d) :: r =>
    match d with
    | .v x a => (match a with
      | .own p e => (match p with
        | .slot g => cond (hasP (.slot g) dead || hasP (.slot g) seen) (.v x .no :: handL ok dead seen r) (.v x (.own (.slot s) e) :: handL ok dead (.slot g :: seen) r)
        | _ => .v x .no :: handL ok dead seen r)
      | a => .v x a :: handL ok dead seen r)
    | d => cond (ok d) (d :: handL ok dead seen r) (.any :: handL ok dead seen r)
def rhoL (dead : List Pos) : List Pos -> List (Nat × D) -> Nat -> Option Nat
  | _, [], _ => none
  | seen, (s, d) :: r, q =>
    match d with
    | .v x a => (match a with
      | .own p e => (match p with
        | .slot g => cond (hasP (.slot g) dead || hasP (.slot g) seen) (rhoL dead seen r q) (if q = g then some s else rhoL dead (.slot g :: seen) r q)
        | _ => rhoL dead seen r q)
      | a => rhoL dead seen r q)
    | d => rhoL dead seen r q
def numbered : Nat -> List D -> List (Nat × D)
  | _, [] => []
  | s, d :: r => (s, d) :: numbered (s + 1) r
theorem canonK_eq (dead : List Pos) : ∀ (l : List D) (s : Nat) (seen : List Pos) (K : List D -> Option R), canonK dead s seen l K = K (handL D.noOwn dead seen (numbered s l))
  | [], s, seen, K => rfl
  | d :: r, s, seen, K => by
    unfold canonK numbered handL
    cases d with
    | v x a =>
      cases a with
      | own p e =>
        cases p with
        | slot q => simp only [canonK_eq dead r]; cases (hasP (.slot q) dead || hasP (.slot q) seen) <;> rfl
        | cell a b c => simp only [canonK_eq dead r]
      | no => simp only [canonK_eq dead r]
      | nil e => simp only [canonK_eq dead r]
    | _ => simp only [canonK_eq dead r]; (first | rfl | (cases D.noOwn _ <;> rfl))
def picks (slots : List D) (ks : List Nat) : List (Nat × D) := ks.map fun s => (s, slots.getD s .any)
theorem pickL_eq (all : List Nat) (slots : List D) (dead : List Pos) : ∀ (ks : List Nat) (seen : List Pos) (K : List D -> Option R), pickL all slots dead ks seen K = K (handL (fun d => d.noOwn && !d.hangs all 0) dead seen (picks slots ks))
  | [], seen, K => rfl
  | s :: r, seen, K => by
    unfold pickL picks
    rw [List.map_cons]
    unfold handL
    rw [getK_eq]
    generalize slots.getD s .any = d
    have ih := pickL_eq all slots dead r
    unfold picks at ih
    cases d with
    | v x a =>
      cases a with
      | own p e =>
        cases p with
        | slot q => simp only [ih]; cases (hasP (.slot q) dead || hasP (.slot q) seen) <;> rfl
        | cell a b c => simp only [ih]
      | no => simp only [ih]
      | nil e => simp only [ih]
    | _ => simp only [ih]; (first | rfl | (cases (D.noOwn _ && !D.hangs all 0 _) <;> rfl))
inductive Hand (ok : D -> Bool) (dead : List Pos) (ρ : Nat -> Option Nat) (s : Nat) : D -> D -> Prop
  | keep (x : V) (a : Att) (h : ∀ p e, a ≠ .own p e) : Hand ok dead ρ s (.v x a) (.v x a)
  | drop (x : V) (a : Att) : Hand ok dead ρ s (.v x a) (.v x .no)
  | own (x : V) (q : Nat) (e : TypeId) (h : Pos.slot q ∉ dead) (hρ : ρ q = some s) : Hand ok dead ρ s (.v x (.own (.slot q) e)) (.v x (.own (.slot s) e))
  | same (d : D) (h : ok d = true) : Hand ok dead ρ s d d
  | lost (d : D) : Hand ok dead ρ s d .any
theorem handL_hand (ok : D -> Bool) (dead : List Pos) : ∀ (l : List (Nat × D)) (seen : List Pos), (handL ok dead seen l).length = l.length /\
    ∀ (k : Nat) s d d', l[k]? = some (s, d) -> (handL ok dead seen l)[k]? = some d' -> Hand ok dead (fun q => if hasP (.slot q) seen then none else rhoL dead seen l q) s d d'
  | [], seen => ⟨rfl, fun k s d d' h => by simp at h⟩
  | (s0, d0) :: r, seen => by
    -- the rest, where no new name was seen
    have plain : ∀ (d1 : D), handL ok dead seen ((s0, d0) :: r) = d1 :: handL ok dead seen r -> (∀ q, rhoL dead seen ((s0, d0) :: r) q = rhoL dead seen r q) -> Hand ok dead (fun q => if hasP (.slot q) seen then none else rhoL dead seen ((s0, d0) :: r) q) s0 d0 d1 ->
        (handL ok dead seen ((s0, d0) :: r)).length = ((s0, d0) :: r).length /\ ∀ (k : Nat) s d d', ((s0, d0) :: r)[k]? = some (s, d) -> (handL ok dead seen ((s0, d0) :: r))[k]? = some d' -> Hand ok dead (fun q => if hasP (.slot q) seen then none else rhoL dead seen ((s0, d0) :: r) q) s d d' := by
      intro d1 h1 h2 h3
      obtain ⟨i1, i2⟩ := handL_hand ok dead r seen
      rw [h1]
      refine ⟨by simp [i1], fun k s d d' hk hk' => ?_⟩
      rcases k with _ | k
      . simp at hk hk'
        obtain ⟨rfl, rfl⟩ := hk
        subst hk'
        exact h3
      . have := i2 k s d d' (by simpa using hk) (by simpa using hk')
        have e : (fun q => if hasP (.slot q) seen then none else rhoL dead seen ((s0, d0) :: r) q) = fun q => if hasP (.slot q) seen then none else rhoL dead seen r q := by
          funext q; rw [h2]
        rw [e]; exact this
    cases d0 with
    | v x a =>
      cases a with
      | no => exact plain (.v x .no) rfl (fun _ => rfl) (.keep x .no (by simp))
      | nil e => exact plain (.v x (.nil e)) rfl (fun _ => rfl) (.keep x (.nil e) (by simp))
      | own p e =>
        cases p with
        | cell a b c => exact plain (.v x .no) rfl (fun _ => rfl) (.drop x _)
        | slot g =>
          cases hs : (hasP (.slot g) dead || hasP (.slot g) seen) with
          | true => exact plain (.v x .no) (by simp only [handL, hs, cond_true]) (fun q => by simp only [rhoL, hs, cond_true]) (.drop x _)
          | false =>
            have hs' := hs
            simp only [Bool.or_eq_false_iff] at hs'
            obtain ⟨i1, i2⟩ := handL_hand ok dead r (.slot g :: seen)
            have h1 : handL ok dead seen ((s0, .v x (.own (.slot g) e)) :: r) = .v x (.own (.slot s0) e) :: handL ok dead (.slot g :: seen) r := by simp only [handL, hs, cond_false]
            have h2 : ∀ q, rhoL dead seen ((s0, .v x (.own (.slot g) e)) :: r) q = if q = g then some s0 else rhoL dead (.slot g :: seen) r q := fun q => by simp only [rhoL, hs, cond_false]
            rw [h1]
            refine ⟨by simp [i1], fun k s d d' hk hk' => ?_⟩
            rcases k with _ | k
            . simp at hk hk'
              obtain ⟨rfl, rfl⟩ := hk
              subst hk'
              refine .own x g e (fun hh => by rw [(hasP_iff _ _).2 hh] at hs'; cases hs'.1) ?_
              simp [hs'.2, h2]
            . have := i2 k s d d' (by simpa using hk) (by simpa using hk')
              have hle : ∀ q s, (if hasP (.slot q) (.slot g :: seen) then none else rhoL dead (.slot g :: seen) r q) = some s -> (if hasP (.slot q) seen then none else rhoL dead seen ((s0, .v x (.own (.slot g) e)) :: r) q) = some s := by
                intro q s hq
                split at hq
                . cases hq
                . rename_i hn
                  have hn' : ¬ (Pos.slot q ∈ Pos.slot g :: seen) := fun hh => hn ((hasP_iff _ _).2 hh)
                  have hqg : q ≠ g := fun e0 => hn' (by rw [e0]; simp)
                  have hqs : ¬ hasP (.slot q) seen = true := fun hh => hn' (List.mem_cons_of_mem _ ((hasP_iff _ _).1 hh))
                  rw [if_neg hqs, h2, if_neg hqg]
                  exact hq
              cases this with
              | keep x a h => exact .keep x a h
              | drop x a => exact .drop x a
              | own x q e h hρ => exact .own x q e h (hle _ _ hρ)
              | same d h => exact .same d h
              | lost d => exact .lost d
    | _ =>
      refine (if hok : ok _ = true then plain _ (by simp only [handL, hok, cond_true]) (fun _ => rfl) (.same _ hok) else plain .any (by have hok' := Bool.eq_false_iff.2 hok; simp only [handL, hok', cond_false]) (fun _ => rfl) (.lost _))
theorem hand_rep {ok : D -> Bool} (hok : ∀ d, ok d = true -> d.noOwn = true) {ρ : Nat -> Option Nat} {s : Nat} {d d' : D} {v : Value} (hh : Hand ok dead ρ s d d') (h : RepD E g w dead d v) : RepD E (g.ren E.d ρ) w [] d' v := by
  have hl := ren_later g E.d ρ w
  cases hh with
  | keep x a hn =>
    cases h with
    | v x a v h ha =>
      cases a with
      | own p e => exact absurd rfl (hn p e)
      | no => exact .v _ _ _ (h.later hl) trivial
      | nil e => exact .v _ _ _ (h.later hl) ha
  | drop x a => exact .v _ _ _ ((repV_of h).later hl) trivial
  | own x q e hq hρ =>
    cases h with
    | v x a v h ha =>
      refine .v _ _ _ (h.later hl) ?_
      rcases ha with ha | ⟨_, ha⟩
      . exact absurd ha hq
      . exact .inr ⟨trivial, ren_slot ha hρ⟩
  | same d hn => exact rep_move (fun _ _ => true) hl rfl (fun _ _ h _ => h) (fun _ _ _ _ _ => rfl) (fun _ => true) (fun _ _ _ _ => rfl) (fun _ _ _ _ _ _ => rfl) (fun _ _ _ _ _ => rfl) (fun _ _ _ _ _ => rfl) h (hok d hn) rfl
  | lost d => exact .any _
theorem numbered_get : ∀ (l : List D) (s k : Nat), (numbered s l)[k]? = (l[k]?).map fun d => (s + k, d)
  | [], s, k => by simp [numbered]
  | d :: r, s, 0 => by simp [numbered]
  | d :: r, s, k + 1 => by
    simp only [numbered, List.getElem?_cons_succ]
    rw [numbered_get r (s + 1) k]
    congr 1
    funext d
    rw [show s + 1 + k = s + (k + 1) by omega]
theorem numbered_length : ∀ (l : List D) (s : Nat), (numbered s l).length = l.length
  | [], _ => rfl
  | d :: r, s => by simp [numbered, numbered_length r]
theorem canon_sound {st : St} {a : Act} (hs : Sim T E g w st a) {K : St -> Option R} {r : R} (h : canonSt st K = some r) : ∃ st' g', K st' = some r /\ Sim T E g' w st' a /\ Tr E.d g w g' w /\ st'.slots.length = st.slots.length := by
  obtain ⟨slots, mem, dead⟩ := st
  unfold canonSt at h
  cases dead with
  | nil => exact ⟨_, g, h, hs, Tr.refl _ _ _, rfl⟩
  | cons p q =>
    simp only [canonK_eq] at h
    obtain ⟨h1, h2⟩ := handL_hand D.noOwn (p :: q) (numbered 0 slots) []
    refine ⟨_, _, h, ⟨⟨ren_mem hs.here.mem, hs.here.dom, hs.here.sk.later (ren_later _ _ _ _), hs.here.len⟩, fun k x hk => ?_, by rw [hs.size, h1, numbered_length], hs.defers⟩, ren_tr g E.d (fun q' => if hasP (.slot q') [] then none else rhoL (p :: q) [] (numbered 0 slots) q') w E.d, by show (handL D.noOwn (p :: q) [] (numbered 0 slots)).length = _; rw [h1, numbered_length]⟩
    have hkl := (List.getElem?_eq_some_iff.1 hk).1
    simp only at hkl
    rw [h1, numbered_length] at hkl
    have hn : (numbered 0 slots)[k]? = some (k, slots[k]) := by rw [numbered_get, List.getElem?_eq_getElem hkl]; simp
    exact hand_rep (fun _ h => h) (h2 k k slots[k] x hn hk) (hs.slots k _ (List.getElem?_eq_getElem hkl))
def spreadL : Nat -> Nat -> List Nat -> List D -> List D
  | 0, _, _, _ => []
  | n + 1, s, k :: ks, d :: ds => cond (Nat.beq s k) (d :: spreadL n (s + 1) ks ds) (.any :: spreadL n (s + 1) (k :: ks) (d :: ds))
  | n + 1, s, ks, ds => .any :: spreadL n (s + 1) ks ds
theorem spreadK_eq : ∀ (n s : Nat) (ks : List Nat) (ds : List D) (K : List D -> Option R), spreadK n s ks ds K = K (spreadL n s ks ds)
  | 0, _, _, _, _ => rfl
  | n + 1, s, [], ds, K => by simp only [spreadK, spreadL, spreadK_eq n]
  | n + 1, s, k :: ks, [], K => by simp only [spreadK, spreadL, spreadK_eq n]
  | n + 1, s, k :: ks, d :: ds, K => by simp only [spreadK, spreadL, spreadK_eq n]; cases Nat.beq s k <;> rfl
theorem spreadL_length : ∀ (n s : Nat) (ks : List Nat) (ds : List D), (spreadL n s ks ds).length = n
  | 0, _, _, _ => rfl
  | n + 1, s, [], ds => by simp [spreadL, spreadL_length n]
  | n + 1, s, k :: ks, [] => by simp [spreadL, spreadL_length n]
  | n + 1, s, k :: ks, d :: ds => by
    unfold spreadL
    cases Nat.beq s k <;> simp [spreadL_length n]
theorem spreadL_get : ∀ (n s : Nat) (ks : List Nat) (ds : List D) (j : Nat) (x : D), (spreadL n s ks ds)[j]? = some x -> x = .any ∨ ∃ i : Nat, ks[i]? = some (s + j) /\ ds[i]? = some x
  | 0, s, ks, ds, j, x, h => by simp [spreadL] at h
  | n + 1, s, [], ds, j, x, h => by
    rcases j with _ | j
    . simp [spreadL] at h; exact .inl h.symm
    . have := spreadL_get n (s + 1) [] ds j x (by simpa [spreadL] using h)
      rcases this with h | ⟨i, h1, h2⟩
      . exact .inl h
      . simp at h1
  | n + 1, s, k :: ks, [], j, x, h => by
    rcases j with _ | j
    . simp [spreadL] at h; exact .inl h.symm
    . have := spreadL_get n (s + 1) (k :: ks) [] j x (by simpa [spreadL] using h)
      rcases this with h | ⟨i, h1, h2⟩
      . exact .inl h
      . simp at h2
  | n + 1, s, k :: ks, d :: ds, j, x, h => by
    unfold spreadL at h
    cases hb : Nat.beq s k with
    | true =>
      obtain rfl := Nat.eq_of_beq_eq_true hb
      rw [hb, cond_true] at h
      rcases j with _ | j
      . simp at h; exact .inr ⟨0, by simp, by simp [h]⟩
      . rcases spreadL_get n (s + 1) ks ds j x (by simpa using h) with h | ⟨i, h1, h2⟩
        . exact .inl h
        . exact .inr ⟨i + 1, by rw [List.getElem?_cons_succ, h1]; congr 1; omega, by simpa using h2⟩
    | false =>
      rw [hb, cond_false] at h
      rcases j with _ | j
      . simp at h; exact .inl h.symm
      . rcases spreadL_get n (s + 1) (k :: ks) (d :: ds) j x (by simpa using h) with h | ⟨i, h1, h2⟩
        . exact .inl h
        . exact .inr ⟨i, by rw [h1]; congr 1; omega, h2⟩
theorem keepB_out (ks : List Nat) : ∀ (fr : Fr) (K : Fr -> Option R) (r : R), keepB ks fr K = some r -> ∃ fr', K fr' = some r /\ ∀ s, frGet s fr' = (if hasN s ks = true then frGet s fr else none) /\ ∀ b, frGet s fr' = some b -> hangsL ks 0 b.cells = false
  | [], K, r, h => ⟨[], h, fun s => ⟨by simp [frGet], fun b hb => by simp [frGet] at hb⟩⟩
  | (s, b) :: fr, K, r, h => by
    unfold keepB at h
    rcases cond_some h with ⟨hc, h⟩ | ⟨hc, h⟩
    . simp only [Bool.and_eq_true, Bool.not_eq_true'] at hc
      obtain ⟨fr', h1, h2⟩ := keepB_out ks fr _ r h
      refine ⟨(s, b) :: fr', h1, fun t => ?_⟩
      rw [frGet_cons, frGet_cons]
      by_cases ht : t = s
      . subst ht
        simp only [if_true, hc.1]
        exact ⟨trivial, fun b' hb' => by injection hb' with hb'; subst hb'; exact hc.2⟩
      . simp only [ht, if_false]
        exact h2 t
    . rcases cond_some h with ⟨hc2, h⟩ | ⟨hc2, h⟩
      . cases h
      . obtain ⟨fr', h1, h2⟩ := keepB_out ks fr _ r h
        refine ⟨fr', h1, fun t => ?_⟩
        rw [frGet_cons]
        by_cases ht : t = s
        . subst ht
          have := h2 t
          simp only [hc2, Bool.false_eq_true, if_false] at this ⊢
          exact this
        . simp only [ht, if_false]
          exact h2 t
mutual
theorem hangs_shift (ks : List Nat) (k : Nat) : ∀ d : D, d.hangs ks 0 = false -> (d.shift k).hangs ks 0 = false
  | .v _ _, _ => rfl
  | .ptr k' s o, h => by
    simp only [D.shift, D.hangs] at h ⊢
    rcases Nat.eq_zero_or_pos (k' + k) with h0 | h0
    . have : k' = 0 := by omega
      subst this
      rw [show 0 + k = 0 by omega]; exact h
    . rw [beq_ne (by omega)]; rfl
  | .nilp, _ => rfl
  | .eptr _ _, _ => rfl
  | .clos f caps, h => hangsL_shift ks k caps h
  | .nilF, _ => rfl
  | .bld, _ => rfl
  | .agg ds, h => hangsL_shift ks k ds h
  | .tup ds, h => hangsL_shift ks k ds h
  | .any, _ => rfl
theorem hangsL_shift (ks : List Nat) (k : Nat) : ∀ ds : List D, hangsL ks 0 ds = false -> hangsL ks 0 (D.shifts k ds) = false
  | [], _ => rfl
  | d :: ds, h => by
    simp only [hangsL, Bool.or_eq_false_iff] at h
    simp only [D.shifts, hangsL, Bool.or_eq_false_iff]
    exact ⟨hangs_shift ks k d h.1, hangsL_shift ks k ds h.2⟩
end
mutual
theorem hangs_out (ks : List Nat) (k : Nat) : ∀ d : D, (d.shift (k + 1)).hangs ks 0 = false
  | .v _ _ => rfl
  | .ptr k' s o => by simp only [D.shift, D.hangs]; rw [beq_ne (by omega)]; rfl
  | .nilp => rfl
  | .eptr _ _ => rfl
  | .clos f caps => hangsL_out ks k caps
  | .nilF => rfl
  | .bld => rfl
  | .agg ds => hangsL_out ks k ds
  | .tup ds => hangsL_out ks k ds
  | .any => rfl
theorem hangsL_out (ks : List Nat) (k : Nat) : ∀ ds : List D, hangsL ks 0 (D.shifts (k + 1) ds) = false
  | [] => rfl
  | d :: ds => by
    simp only [D.shifts, hangsL, Bool.or_eq_false_iff]
    exact ⟨hangs_out ks k d, hangsL_out ks k ds⟩
end
def weakFr (ks : List Nat) : Fr -> Fr
  | [] => []
  | (s, b) :: r => cond (hasN (s + 100000) ks) ((s, ⟨b.ty, b.cells.map weakD⟩) :: weakFr ks r) ((s, b) :: weakFr ks r)
theorem weakK_eq (ks : List Nat) : ∀ (fr : Fr) (K : Fr -> Option R), weakK ks fr K = K (weakFr ks fr)
  | [], K => rfl
  | (s, b) :: r, K => by
    unfold weakK weakFr
    simp only [forceL_eq, weakK_eq ks r]
    cases hasN (s + 100000) ks <;> rfl
theorem weakFr_get (ks : List Nat) (t : Nat) : ∀ (fr : Fr), (frGet t (weakFr ks fr) = none ↔ frGet t fr = none) /\ ∀ b', frGet t (weakFr ks fr) = some b' -> ∃ b, frGet t fr = some b /\ b'.ty = b.ty /\ (b'.cells = b.cells ∨ b'.cells = b.cells.map weakD)
  | [] => ⟨Iff.rfl, fun b' h => by cases h⟩
  | (s, b) :: r => by
    obtain ⟨i1, i2⟩ := weakFr_get ks t r
    unfold weakFr
    cases hasN (s + 100000) ks with
    | true =>
      simp only [cond_true, frGet_cons]
      by_cases h : t = s
      . simp only [h, if_true]
        exact ⟨by simp, fun b' hb => by injection hb with hb; subst hb; exact ⟨b, rfl, rfl, .inr rfl⟩⟩
      . simp only [h, if_false]; exact ⟨i1, i2⟩
    | false =>
      simp only [cond_false, frGet_cons]
      by_cases h : t = s
      . simp only [h, if_true]
        exact ⟨by simp, fun b' hb => by injection hb with hb; subst hb; exact ⟨b, rfl, rfl, .inl rfl⟩⟩
      . simp only [h, if_false]; exact ⟨i1, i2⟩
theorem Sim.weak {slots : List D} {fr : Fr} {out : Mem} {a : Act} (ks : List Nat) (hs : Sim T E g w ⟨slots, fr :: out, dead⟩ a) : Sim T E g w ⟨slots, weakFr ks fr :: out, dead⟩ a := by
  refine ⟨⟨fun k s b' hb => ?_, ?_, hs.here.sk, hs.here.len⟩, hs.slots, hs.size, hs.defers⟩
  . rcases k with _ | k
    . obtain ⟨b, h1, h2, h3⟩ := (weakFr_get ks s fr).2 b' hb
      have hr := hs.here.mem 0 s b h1
      rcases h3 with h3 | h3
      . have : b' = b := by cases b; cases b'; simp_all
        rw [this]; exact hr
      . obtain ⟨us, b1, b2, b3⟩ := hr.heap
        refine ⟨hr.le, hr.perm, us, by rw [h2]; exact b1, by rw [b2, h3]; simp, fun i c' hc => ?_⟩
        rw [h3, List.getElem?_map, Option.map_eq_some_iff] at hc
        obtain ⟨c, hc, rfl⟩ := hc
        obtain ⟨a1, a2, a3, a4⟩ := b3 i c hc
        cases c with
        | v x at_ =>
          cases at_ with
          | own p e =>
            refine ⟨a1, rfl, fun e => (by cases e), ?_⟩
            exact .v _ _ _ (repV_of a4) trivial
          | no => exact ⟨a1, a2, a3, a4⟩
          | nil e => exact ⟨a1, a2, a3, a4⟩
        | _ => exact ⟨a1, a2, a3, a4⟩
    . exact hs.here.mem (k + 1) s b' hb
  . rw [hs.here.dom]
    funext k s
    rcases k with _ | k
    . have h1 := (weakFr_get ks s fr).1
      have e1 : memDom (fr :: out) 0 s = ∃ b, frGet s fr = some b := rfl
      have e2 : memDom (weakFr ks fr :: out) 0 s = ∃ b, frGet s (weakFr ks fr) = some b := rfl
      rw [e1, e2]
      cases ha : frGet s fr with
      | none => rw [h1.2 ha]
      | some x =>
        cases hb : frGet s (weakFr ks fr) with
        | none => rw [h1.1 hb] at ha; cases ha
        | some y => simp
    . rfl
theorem wdeadK_eq (slots : List D) : ∀ (ks : List Nat) (dead : List Pos) (K : List Pos -> Option R), wdeadK slots ks dead K = K (wdead slots ks dead)
  | [], dead, K => rfl
  | k :: ks, dead, K => by
    unfold wdeadK wdead
    rw [getK_eq]
    cases Nat.ble 200000 k with
    | false => exact wdeadK_eq slots ks dead K
    | true =>
      simp only [cond_true]
      generalize slots.getD (k - 200000) .any = d
      cases d with
      | v x a => cases a <;> simp only [wdeadK_eq slots ks]
      | _ => exact wdeadK_eq slots ks dead K
theorem wdead_mem (slots : List D) {p : Pos} : ∀ (ks : List Nat) (dead : List Pos), p ∈ dead -> p ∈ wdead slots ks dead
  | [], dead, h => h
  | k :: ks, dead, h => by
    have ih := wdead_mem slots ks dead h
    unfold wdead
    cases Nat.ble 200000 k with
    | false => exact ih
    | true =>
      simp only [cond_true]
      split
      . exact List.mem_cons_of_mem _ ih
      . exact ih
theorem keep_sound {slots : List D} {m : Mem} {a : Act} (hs : Sim T E g w ⟨slots, m, dead⟩ a) {ks : List Nat} {K : List D -> Mem -> Option R} {r : R} (h : keepK ks ⟨slots, m, dead⟩ K = some r) :
    ∃ ds m' g' E', K ds m' = some r /\ Sim T E' g' w ⟨spreadL slots.length 0 ks ds, m', []⟩ a /\ E'.d = E.d /\ Tr E.d g w g' w := by
  unfold keepK at h
  cases m with
  | nil => cases h
  | cons fr out =>
    simp only [wdeadK_eq, pickL_eq] at h
    have hdd : ∀ p, p ∈ dead -> p ∈ wdead slots ks dead := fun p hp => wdead_mem slots ks dead hp
    generalize wdead slots ks dead = dead' at h hdd
    obtain ⟨fr', h1, h2⟩ := keepB_out ks fr _ r h
    obtain ⟨h3, h4⟩ := handL_hand (fun d => d.noOwn && !d.hangs ks 0) dead' (picks slots ks) []
    generalize hρ : (fun q => if hasP (.slot q) [] then none else rhoL dead' [] (picks slots ks) q) = ρ at h4
    generalize hds : handL (fun d => d.noOwn && !d.hangs ks 0) dead' [] (picks slots ks) = ds at h1 h3 h4
    let E' : Env := { d := E.d, dom := memDom (fr' :: out) }
    let okp : Nat -> Nat -> Bool := fun k s => !Nat.beq k 0 || hasN s ks
    let okD : D -> Bool := fun d => !d.hangs ks 0
    have hdom : ∀ k s, E.dom k s -> okp k s = true -> E'.dom k s := by
      intro k s hd ho
      obtain ⟨b, hb⟩ := hs.here.keeps_dom hd
      rcases k with _ | k
      . refine ⟨b, ?_⟩
        simp only [okp, Nat.beq_refl, Bool.not_true, Bool.false_or] at ho
        show frGet s fr' = some b
        rw [(h2 s).1, if_pos ho]; exact hb
      . exact ⟨b, hb⟩
    have o1 : ∀ k s o, okD (.ptr k s o) = true -> okp k s = true := by
      intro k s o ho
      simp only [okD, okp, D.hangs, Bool.not_eq_true', Bool.and_eq_false_iff, Bool.not_eq_false'] at ho ⊢
      rcases ho with ho | ho
      . rw [ho]; rfl
      . rw [ho]; simp
    have o2 : ∀ f caps, okD (.clos f caps) = true -> ∀ (i : Nat) y, caps[i]? = some y -> okD y = true := by
      intro f caps ho i y hy
      simp only [okD, Bool.not_eq_true'] at ho ⊢
      exact hangsL_get ks 0 caps ho i y hy
    have o3 : ∀ ds, okD (.agg ds) = true -> ∀ (i : Nat) y, ds[i]? = some y -> okD y = true := by
      intro ds ho i y hy
      simp only [okD, Bool.not_eq_true'] at ho ⊢
      exact hangsL_get ks 0 ds ho i y hy
    have o4 : ∀ ds, okD (.tup ds) = true -> ∀ (i : Nat) y, ds[i]? = some y -> okD y = true := by
      intro ds ho i y hy
      simp only [okD, Bool.not_eq_true'] at ho ⊢
      exact hangsL_get ks 0 ds ho i y hy
    have hlat := ren_later g E.d ρ w
    rw [weakK_eq] at h1
    refine ⟨ds, weakFr ks fr' :: out, g.ren E.d ρ, E', h1, Sim.weak ks ⟨⟨fun k s b hb => ?_, rfl, hs.here.sk.later hlat, hs.here.len⟩, fun j x hj => ?_, by rw [hs.size, spreadL_length], hs.defers⟩, rfl, ren_tr g E.d ρ w E.d⟩
    . -- the variables
      have hb0 : Mem.box? (fr :: out) k s = some b := by
        rcases k with _ | k
        . have := (h2 s).1
          have hb' : frGet s fr' = some b := hb
          rw [hb'] at this
          split at this
          . exact this.symm
          . cases this
        . exact hb
      have hr := hs.here.mem k s b hb0
      obtain ⟨us, b1, b2, b3⟩ := hr.heap
      refine ⟨hr.le, ren_box hr.perm, us, b1, b2, fun i c hc => ?_⟩
      obtain ⟨a1, a2, a3, a4⟩ := b3 i c hc
      refine ⟨a1, a2, a3, cell_move a2 a4 (by simp) okp hlat rfl hdom (fun _ _ _ _ _ => rfl) (fun e v h => ren_cell h) okD o1 o2 o3 o4 ?_ (fun _ _ => rfl)⟩
      rcases k with _ | k
      . have := hangsL_get ks 0 _ ((h2 s).2 b hb) i c hc
        simp only [okD, Bool.not_eq_true']
        exact hangs_shift ks 0 c this
      . simp only [okD, Bool.not_eq_true']
        exact hangs_out ks k c
    . -- the slots
      simp only at hj
      rcases spreadL_get _ _ _ _ j x hj with rfl | ⟨i, k1, k2⟩
      . exact .any _
      . rw [Nat.zero_add] at k1
        have hp : (picks slots ks)[i]? = some (j, slots.getD j .any) := by simp [picks, k1]
        have hh := h4 i j _ x hp k2
        have hd : RepD E g w dead (slots.getD j .any) (a.tmps.getD j undef) := by
          rw [List.getD_eq_getElem?_getD]
          cases hq : slots[j]? with
          | none => exact .any _
          | some z => exact hs.slots j z hq
        generalize slots.getD j .any = d0 at hh hd
        generalize a.tmps.getD j undef = v0 at hd
        cases hh with
        | keep x a hn =>
          cases hd with
          | v x a v h ha =>
            cases a with
            | own p e => exact absurd rfl (hn p e)
            | no => exact .v _ _ _ (h.later hlat) trivial
            | nil e => exact .v _ _ _ (h.later hlat) ha
        | drop x a => exact .v _ _ _ ((repV_of hd).later hlat) trivial
        | own x q e hq hρ =>
          cases hd with
          | v x a v h ha =>
            refine .v _ _ _ (h.later hlat) ?_
            rcases ha with ha | ⟨_, ha⟩
            . exact absurd (hdd _ ha) hq
            . exact .inr ⟨trivial, ren_slot ha hρ⟩
        | same d hn =>
          simp only [Bool.and_eq_true] at hn
          exact rep_move (E := E) (E' := E') okp hlat rfl hdom (fun _ _ _ _ _ => rfl) okD o1 o2 o3 o4 hd hn.1 hn.2
        | lost d => exact .any _
end
end Go.Proofs.Ytilfphdeacogmaa.En

/- The engine, part y: code. -/
namespace Go.Proofs.Ytilfphdeacogmaa.En
open Go
set_option linter.unusedVariables false
section
variable {R : Type} {P : Program} {T : TypeId -> Option Ty} {E : Env} {g : G} {w : World}
def exOf : Ex -> Exit
  | .normal => .normal
  | .exit id => .exit id
  | .goto l => .goto l
  | .ret => .ret
def Then (T : TypeId -> Option Ty) (E : Env) (g : G) (w : World) (n : Nat) (st' : St) (a' : Act) (w' : World) : Prop :=
  ∃ E' g', Sim T E' g' w' st' a' /\ E'.d = E.d /\ Tr E.d g w g' w' /\ a'.tmps.size = n
structure RootOK (cx : Cx) (ops : Array Oper) (op : Op) (slots : List D) : Prop where
  root : cx.dyn = true -> ∀ z, (∃ t, op = .load t z) ∨ (∃ t v, op = .store t z v) -> ∃ j, z = .tmp j /\ ∀ k q o, slots.getD j .any = .ptr k q o -> k = 0 /\ q = rootN ops 20 j
  app : cx.dyn = true -> isApp op = true -> ∃ j y, argsOf op = [.tmp j, y] /\ ∀ x k s i e, slots.getD j .any ≠ .v x (.own (.cell k s i) e)
theorem appZ_some {slots : List D} {args : List Operand} {K : Option R} {r : R} (h : appZ slots args K = some r) : (∃ j y, args = [.tmp j, y] /\ ∀ x k s i e, slots.getD j .any ≠ .v x (.own (.cell k s i) e)) /\ K = some r := by
  unfold appZ at h
  split at h
  . rename_i x y
    split at h
    . rename_i j
      rw [getK_eq] at h
      split at h
      . rename_i x a hd
        split at h
        . rename_i p e
          split at h
          . cases h
          . rename_i hp
            refine ⟨⟨j, y, rfl, fun x' k s i e' he => ?_⟩, h⟩
            rw [hd] at he
            injection he with _ he
            injection he with he _
            exact hp k s i he
        . rename_i ha
          refine ⟨⟨j, y, rfl, fun x' k s i e' he => ?_⟩, h⟩
          rw [hd] at he
          injection he with _ he
          exact ha _ _ he
      . rename_i hd
        exact ⟨⟨j, y, rfl, fun x' k s i e' he => hd _ _ he⟩, h⟩
    . cases h
  . cases h
theorem appZ_of {slots : List D} {args : List Operand} {K : Option R} (h : ∃ j y, args = [.tmp j, y] /\ ∀ x k s i e, slots.getD j .any ≠ .v x (.own (.cell k s i) e)) : appZ slots args K = K := by
  obtain ⟨j, y, rfl, h⟩ := h
  unfold appZ
  simp only [getK_eq]
  split
  . rename_i x a hd
    split
    . rename_i p e
      split
      . rename_i k s i
        exact absurd hd (h x k s i e)
      . rfl
    . rfl
  . rfl
theorem app_load {op : Op} {z : Operand} {t : TypeId} (h : op = .load t z) : isApp op = false := by subst h; rfl
theorem app_store {op : Op} {z v : Operand} {t : TypeId} (h : op = .store t z v) : isApp op = false := by subst h; rfl
theorem rootZ_some {ops : Array Oper} {slots : List D} {z : Operand} {K : Option R} {r : R} (h : rootZ ops slots z K = some r) : (∃ j, z = .tmp j /\ ∀ k q o, slots.getD j .any = .ptr k q o -> k = 0 /\ q = rootN ops 20 j) /\ K = some r := by
  unfold rootZ at h
  split at h
  . rename_i j
    rw [getK_eq] at h
    split at h
    . rename_i k q o hd
      cases hb : Nat.beq k 0 && Nat.beq q (rootN ops 20 j) with
      | false => rw [hb] at h; cases h
      | true =>
        rw [hb, cond_true] at h
        rw [Bool.and_eq_true] at hb
        refine ⟨⟨j, rfl, fun k' q' o' he => ?_⟩, h⟩
        rw [hd] at he
        injection he with e1 e2
        subst e1; subst e2
        exact ⟨Nat.eq_of_beq_eq_true hb.1, Nat.eq_of_beq_eq_true hb.2⟩
    . rename_i hd
      exact ⟨⟨j, rfl, fun k q o he => absurd he (hd k q o)⟩, h⟩
  . cases h
theorem rootK_some {cx : Cx} {ops : Array Oper} {op : Op} {slots : List D} {K : Option R} {r : R} (h : rootK cx ops op slots K = some r) : RootOK cx ops op slots /\ K = some r := by
  unfold rootK at h
  split at h
  . rename_i hd
    exact ⟨⟨fun e => (by rw [hd] at e; cases e), fun e => (by rw [hd] at e; cases e)⟩, h⟩
  . cases ha : isApp op with
    | true =>
      rw [ha, cond_true] at h
      obtain ⟨h1, h2⟩ := appZ_some h
      refine ⟨⟨fun _ z hz => ?_, fun _ _ => h1⟩, h2⟩
      rcases hz with ⟨t, e⟩ | ⟨t, v, e⟩
      . rw [app_load e] at ha; cases ha
      . rw [app_store e] at ha; cases ha
    | false =>
    rw [ha, cond_false] at h
    split at h
    . obtain ⟨h1, h2⟩ := rootZ_some h
      refine ⟨⟨fun _ z hz => ?_, fun _ e => (by cases e)⟩, h2⟩
      rcases hz with ⟨t, e⟩ | ⟨t, v, e⟩
      . injection e with _ e; subst e; exact h1
      . cases e
    . obtain ⟨h1, h2⟩ := rootZ_some h
      refine ⟨⟨fun _ z hz => ?_, fun _ e => (by cases e)⟩, h2⟩
      rcases hz with ⟨t, e⟩ | ⟨t, v, e⟩
      . cases e
      . injection e with _ e; subst e; exact h1
    . rename_i h1 h2
      refine ⟨⟨fun _ z hz => ?_, fun _ e => (by rw [ha] at e; cases e)⟩, h⟩
      rcases hz with ⟨t, e⟩ | ⟨t, v, e⟩
      . exact absurd e (h1 t z)
      . exact absurd e (h2 t z v)
theorem rootZ_of {ops : Array Oper} {slots : List D} {j : Nat} (h : ∀ k q o, slots.getD j .any = .ptr k q o -> k = 0 /\ q = rootN ops 20 j) (K : Option R) : rootZ ops slots (.tmp j) K = K := by
  unfold rootZ
  simp only [getK_eq]
  split
  . rename_i k q o hd
    obtain ⟨rfl, rfl⟩ := h k q o hd
    simp
  . rfl
theorem rootK_of {cx : Cx} {ops : Array Oper} {op : Op} {slots : List D} (h : RootOK cx ops op slots) (K : Option R) : rootK cx ops op slots K = K := by
  unfold rootK
  split
  . rfl
  . rename_i hd
    cases ha : isApp op with
    | true => rw [cond_true]; exact appZ_of (h.app hd ha)
    | false =>
    rw [cond_false]
    split
    . rename_i t z
      obtain ⟨j, rfl, hj⟩ := h.root hd z (.inl ⟨t, rfl⟩)
      exact rootZ_of hj K
    . rename_i t z v
      obtain ⟨j, rfl, hj⟩ := h.root hd z (.inr ⟨t, v, rfl⟩)
      exact rootZ_of hj K
    . rfl
theorem ops_sound {cx : Cx} (hcx : CxOK P cx) {ops : Array Oper} {Q : Exit -> Act -> World -> Prop} {n : Nat} : ∀ (l : List Oper) (st : St) (a : Act) (w : World) (E : Env) (g : G) (K : St -> Option R) (r : R), Sim cx.T E g w st a -> a.tmps.size = n -> opsK cx ops l st K = some r ->
    (∀ st' a' w', K st' = some r -> Then cx.T E g w n st' a' w' -> Q .normal a' w') -> wpList P ops Q l a w
  | [], st, a, w, E, g, K, r, hs, hn, h, hq => hq st a w h ⟨E, g, hs, rfl, Tr.refl _ _ _, hn⟩
  | o :: l, st, a, w, E, g, K, r, hs, hn, h, hq => by
    obtain ⟨slots, m, dead⟩ := st
    unfold wpList
    obtain ⟨_, h⟩ := rootK_some h
    rcases step_sound hcx hs h with ⟨hw, st', h1, h2⟩ | ⟨hw, st', h1, h2⟩
    . rw [if_pos hw]
      refine .inl ((h2 (fun v w' => ∃ E' g', Sim cx.T E' g' w' st' (a.put o.dst v) /\ E'.d = E.d /\ Tr E.d g w g' w') (fun v w' g' E' b1 b2 b3 => ⟨E', g', b1, b2, b3⟩)).2 _ Q ?_)
      rintro v w' ⟨E', g', b1, b2, b3⟩
      refine ops_sound hcx l st' _ w' E' g' K r b1 (by rw [actput_size]; exact hn) h1 fun st2 a2 w2 c1 ⟨E2, g2, c2, c3, c4, c5⟩ => hq st2 a2 w2 c1 ⟨E2, g2, c2, c3.trans b2, b3.trans (by rw [← b2]; exact c4), c5⟩
    . rw [hw]
      simp only [Bool.false_eq_true, if_false]
      exact ops_sound hcx l st' _ w E g K r h2 (by rw [actput_size]; exact hn) h1 hq
theorem label_none : ∀ (c : Code) (l : Nat), hasLabel l c = false -> findLabel c l = none
  | .seq a b, l, h => by
    simp only [hasLabel, Bool.or_eq_false_iff] at h
    unfold findLabel
    rw [label_none a l h.1]
    exact label_none b l h.2
  | .label l', l, h => by
    have hne : l' ≠ l := fun e => by subst e; simp [hasLabel] at h
    simp [findLabel, hne]
  | .skip, l, h => rfl
  | .region _ _ _, l, h => rfl
  | .cond _ _ _, l, h => rfl
  | .block _ _, l, h => rfl
  | .loop _, l, h => rfl
  | .rangeFunc _ _ _ _, l, h => rfl
  | .exit _, l, h => rfl
  | .scope _, l, h => rfl
  | .goto _, l, h => rfl
  | .ret, l, h => rfl
  | .refuse _, l, h => rfl
theorem wp_scope_all {c : Code} {Q : Exit -> Act -> World -> Prop} {a : Act} {w : World} (J : Nat -> Nat -> Act -> World -> Prop)
    (first : c.wp P (fun e a w => match e with | .goto l => (∃ n, J n l a w) ∨ (findLabel c l = none /\ Q (.goto l) a w) | e => Q e a w) a w)
    (pass : ∀ n l a w, J n l a w -> ∃ rest, findLabel c l = some rest /\ rest.wp P (fun e a w => match e with | .goto l => (∃ n', n' < n /\ J n' l a w) ∨ (findLabel c l = none /\ Q (.goto l) a w) | e => Q e a w) a w) : (Code.scope c).wp P Q a w := by
  intro b k cs
  have key : ∀ n l a w, J n l a w -> ∃ rest, findLabel c l = some rest /\ ∃ e a' w', Q e a' w' /\ Arrives P (lone (b.at a (.code rest :: .inScope c :: k)) cs w) b k cs e a' w' := by
    intro n
    induction n using Nat.strongRecOn with
    | _ n ih =>
      intro l a w hJ
      obtain ⟨rest, hf, hw⟩ := pass n l a w hJ
      refine ⟨rest, hf, ?_⟩
      obtain ⟨e, a₁, w₁, hq, harr⟩ := hw b (.inScope c :: k) cs
      cases e with
      | normal => exact ⟨.normal, a₁, w₁, hq, Steps.trans harr (.one step_inScope)⟩
      | exit id => exact ⟨.exit id, a₁, w₁, hq, fun k' hk => harr k' (by simp [exitTo, hk])⟩
      | goto l' =>
        rcases hq with ⟨n', hlt, hJ'⟩ | ⟨hn, hq⟩
        . obtain ⟨rest', hf', e₂, a₂, w₂, hq₂, harr₂⟩ := ih n' hlt l' a₁ w₁ hJ'
          exact ⟨e₂, a₂, w₂, hq₂, .of_steps (harr _ (by simp [gotoIn, hf'])) harr₂⟩
        . exact ⟨.goto l', a₁, w₁, hq, fun k' hk => harr k' (by simp [gotoIn, hn, hk])⟩
      | ret => exact ⟨_, a₁, w₁, hq, harr⟩
      | panic ch => exact ⟨_, a₁, w₁, hq, harr⟩
      | outgrown => exact ⟨_, a₁, w₁, hq, harr⟩
  obtain ⟨e, a₁, w₁, hq, harr⟩ := first b (.inScope c :: k) cs
  cases e with
  | normal => exact ⟨.normal, a₁, w₁, hq, .head step_scope (Steps.trans harr (.one step_inScope))⟩
  | exit id => exact ⟨.exit id, a₁, w₁, hq, fun k' hk => .head step_scope (harr k' (by simp [exitTo, hk]))⟩
  | goto l' =>
    rcases hq with ⟨n', hJ'⟩ | ⟨hn, hq⟩
    . obtain ⟨rest', hf', e₂, a₂, w₂, hq₂, harr₂⟩ := key n' l' a₁ w₁ hJ'
      exact ⟨e₂, a₂, w₂, hq₂, .of_steps (.head step_scope (harr _ (by simp [gotoIn, hf']))) harr₂⟩
    . exact ⟨.goto l', a₁, w₁, hq, fun k' hk => .head step_scope (harr k' (by simp [gotoIn, hn, hk]))⟩
  | ret => exact ⟨_, a₁, w₁, hq, .of_steps (.one step_scope) harr⟩
  | panic ch => exact ⟨_, a₁, w₁, hq, .of_steps (.one step_scope) harr⟩
  | outgrown => exact ⟨_, a₁, w₁, hq, .of_steps (b := b) (k := k) (cs := cs) (e := .outgrown) (.one step_scope) harr⟩
def LoopOK (cx : Cx) (n : Nat) (b : Code) : Prop :=
  ∀ (R : Type) (ds : List D) (m : Mem) (K : Ex -> List D -> Mem -> Option R) (r : R), cx.loopT (ridOf b) ds m K = some r -> ∃ t, loopK (fun st K => codeK cx b st K) n (cx.keep (ridOf b)) (cx.keepX (ridOf b)) t ds m K = some r
def LoopsOK (cx : Cx) (n : Nat) (c : Code) : Prop := ∀ b ∈ loopsOf c, LoopOK cx n b
def RegionOK (P : Program) (cx : Cx) (ops : Array Oper) : Prop :=
  ∀ (R : Type) (n id : Nat) (st : St) (a : Act) (w : World) (E : Env) (g : G) (K : St -> Option R) (r : R) (Q : Exit -> Act -> World -> Prop), Sim cx.T E g w st a -> a.tmps.size = n -> opsK cx ops ops.toList st K = some r ->
    (∀ st' a' w', K st' = some r -> Then cx.T E g w n st' a' w' -> Q .normal a' w') -> (Code.region id ops true).wp P Q a w
def RegionsOK (P : Program) (cx : Cx) (c : Code) : Prop := ∀ ops ∈ drawnOf c, RegionOK P cx ops
theorem least {p : Nat -> Prop} (h : ∃ n, p n) : ∃ n, p n /\ ∀ k, p k -> n <= k := by
  obtain ⟨n, hn⟩ := h
  induction n using Nat.strongRecOn with
  | _ n ih =>
    by_cases hx : ∃ k, k < n /\ p k
    . obtain ⟨k, hk, hp⟩ := hx; exact ih k hk hp
    . refine ⟨n, hn, fun k hk => ?_⟩
      rcases Nat.lt_or_ge k n with h | h
      . exact absurd ⟨k, h, hk⟩ hx
      . exact h
theorem wp_loop_n {c : Code} {Q : Exit -> Act -> World -> Prop} {a : Act} {w : World} (I : Nat -> Act -> World -> Prop) (h0 : ∃ n, I n a w)
    (round : ∀ n a w, I n a w -> c.wp P (Exit.then (fun a' w' => ∃ n', n' < n /\ I n' a' w') Q) a w) : (Code.loop c).wp P Q a w := by
  have hl : ∀ a w, ∃ m, (∃ n, I n a w) -> I m a w /\ ∀ k, I k a w -> m <= k := by
    intro a w
    by_cases h : ∃ n, I n a w
    . obtain ⟨m, h1, h2⟩ := least h
      exact ⟨m, fun _ => ⟨h1, h2⟩⟩
    . exact ⟨0, fun hh => absurd hh h⟩
  let μ : Act -> World -> Nat := fun a w => Classical.choose (hl a w)
  have hμ : ∀ a w, (∃ n, I n a w) -> I (μ a w) a w /\ ∀ k, I k a w -> μ a w <= k := fun a w => Classical.choose_spec (hl a w)
  refine wp_loop (fun a w => ∃ n, I n a w) μ h0 fun a w hI => ?_
  obtain ⟨h1, h2⟩ := hμ a w hI
  refine Code.wp_mono (fun e a' w' q => ?_) (round _ a w h1)
  cases e with
  | normal =>
    obtain ⟨n', hlt, hn'⟩ := q
    exact ⟨⟨n', hn'⟩, Nat.lt_of_le_of_lt ((hμ a' w' ⟨n', hn'⟩).2 n' hn') hlt⟩
  | exit id => exact q
  | goto l => exact q
  | ret => exact q
  | panic ch => exact q
  | outgrown => exact q
theorem Then.trans {E' : Env} {g' : G} {w' w'' : World} {n : Nat} {st : St} {a : Act} (h : Then T E' g' w' n st a w'') (hd : E'.d = E.d) (ht : Tr E.d g w g' w') : Then T E g w n st a w'' := by
  obtain ⟨E2, g2, a1, a2, a3, a4⟩ := h
  exact ⟨E2, g2, a1, a2.trans hd, ht.trans (by rw [← hd]; exact a3), a4⟩
def CodeOK (P : Program) (cx : Cx) (c : Code) : Prop :=
  ∀ (R : Type) (n : Nat) (st : St) (a : Act) (w : World) (E : Env) (g : G) (K : Ex -> St -> Option R) (r : R) (Q : Exit -> Act -> World -> Prop), LoopsOK cx n c -> Sim cx.T E g w st a -> a.tmps.size = n -> codeK cx c st K = some r ->
    (∀ e st' a' w', K e st' = some r -> Then cx.T E g w n st' a' w' -> Q (exOf e) a' w') -> c.wp P Q a w
def FromOK (P : Program) (cx : Cx) (c : Code) : Prop :=
  ∀ (R : Type) (n l : Nat) (st : St) (a : Act) (w : World) (E : Env) (g : G) (K : Ex -> St -> Option R) (r : R) (Q : Exit -> Act -> World -> Prop), LoopsOK cx n c -> hasLabel l c = true -> Sim cx.T E g w st a -> a.tmps.size = n -> fromK cx l c st K = some r ->
    (∀ e st' a' w', K e st' = some r -> Then cx.T E g w n st' a' w' -> Q (exOf e) a' w') -> ∃ rest, findLabel c l = some rest /\ rest.wp P Q a w
theorem seq_then {Q : Exit -> Act -> World -> Prop} {x : Code} {a : Act} {w : World} {next : Act -> World -> Prop} (h : x.wp P (fun e a w => match e with | .normal => next a w | e => Q e a w) a w) : x.wp P (Exit.then next Q) a w :=
  Code.wp_mono (fun e a w q => by cases e <;> exact q) h
theorem code_ok {cx : Cx} (hcx : CxOK P cx) : ∀ (c : Code), RegionsOK P cx c -> CodeOK P cx c /\ FromOK P cx c := by
  intro c
  induction c with
  | skip => exact fun _ => ⟨fun R n st a w E g K r Q hl hs hn h hq => wp_skip (hq _ st a w h ⟨E, g, hs, rfl, Tr.refl _ _ _, hn⟩), fun R n l st a w E g K r Q hl hh => by simp [hasLabel] at hh⟩
  | region id ops draw =>
    intro hro
    refine ⟨fun R n st a w E g K r Q hl hs hn h hq => ?_, fun R n l st a w E g K r Q hl hh => by simp [hasLabel] at hh⟩
    simp only [codeK] at h
    have hend : ∀ st' a' w', (canonSt st' fun st' => K .normal st') = some r -> Then cx.T E g w n st' a' w' -> Q .normal a' w' := by
      rintro st' a' w' hk ⟨E', g', b1, b2, b3, b4⟩
      obtain ⟨st2, g2, c1, c2, c3, _⟩ := canon_sound b1 hk
      exact hq .normal st2 a' w' c1 ⟨E', g2, c2, b2, b3.trans (by rw [← b2]; exact c3), b4⟩
    cases draw with
    | false => exact wp_region_list (ops_sound hcx ops.toList st a w E g _ r hs hn h hend)
    | true => exact hro ops (by simp [drawnOf]) R n id st a w E g _ r Q hs hn h hend
  | seq x y ihx ihy =>
    intro hro
    have hrx : RegionsOK P cx x := fun o ho => hro o (by simp [drawnOf, ho])
    have hry : RegionsOK P cx y := fun o ho => hro o (by simp [drawnOf, ho])
    refine ⟨fun R n st a w E g K r Q hl hs hn h hq => ?_, fun R n l st a w E g K r Q hl hh hs hn h hq => ?_⟩
    . have hlx : LoopsOK cx n x := fun b hb => hl b (by simp [loopsOf, hb])
      have hly : LoopsOK cx n y := fun b hb => hl b (by simp [loopsOf, hb])
      simp only [codeK] at h
      refine wp_seq (seq_then ((ihx hrx).1 R n st a w E g _ r _ hlx hs hn h fun e st' a' w' hk ht => ?_))
      cases e with
      | normal =>
        obtain ⟨E', g', b1, b2, b3, b4⟩ := ht
        exact (ihy hry).1 R n st' a' w' E' g' K r Q hly b1 b4 hk fun e st2 a2 w2 c1 c2 => hq e st2 a2 w2 c1 (c2.trans b2 b3)
      | exit i => exact hq _ st' a' w' hk ht
      | goto i => exact hq _ st' a' w' hk ht
      | ret => exact hq _ st' a' w' hk ht
    . have hlx : LoopsOK cx n x := fun b hb => hl b (by simp [loopsOf, hb])
      have hly : LoopsOK cx n y := fun b hb => hl b (by simp [loopsOf, hb])
      simp only [fromK] at h
      cases hlx' : hasLabel l x with
      | true =>
        rw [hlx', cond_true] at h
        obtain ⟨rest, h1, h2⟩ := (ihx hrx).2 R n l st a w E g _ r (fun e a w => match e with | .normal => y.wp P Q a w | e => Q e a w) hlx hlx' hs hn h fun e st' a' w' hk ht => by
          cases e with
          | normal =>
            obtain ⟨E', g', b1, b2, b3, b4⟩ := ht
            exact (ihy hry).1 R n st' a' w' E' g' K r Q hly b1 b4 hk fun e st2 a2 w2 c1 c2 => hq e st2 a2 w2 c1 (c2.trans b2 b3)
          | exit i => exact hq _ st' a' w' hk ht
          | goto i => exact hq _ st' a' w' hk ht
          | ret => exact hq _ st' a' w' hk ht
        exact ⟨.seq rest y, by simp [findLabel, h1], wp_seq (seq_then h2)⟩
      | false =>
        rw [hlx', cond_false] at h
        have hly' : hasLabel l y = true := by simpa [hasLabel, hlx'] using hh
        obtain ⟨rest, h1, h2⟩ := (ihy hry).2 R n l st a w E g K r Q hly hly' hs hn h hq
        exact ⟨rest, by simp [findLabel, label_none x l hlx', h1], h2⟩
  | cond c x y ihx ihy =>
    intro hro
    have hrx : RegionsOK P cx x := fun o ho => hro o (by simp [drawnOf, ho])
    have hry : RegionsOK P cx y := fun o ho => hro o (by simp [drawnOf, ho])
    refine ⟨fun R n st a w E g K r Q hl hs hn h hq => ?_, fun R n l st a w E g K r Q hl hh => by simp [hasLabel] at hh⟩
    have hlx : LoopsOK cx n x := fun b hb => hl b (by simp [loopsOf, hb])
    have hly : LoopsOK cx n y := fun b hb => hl b (by simp [loopsOf, hb])
    obtain ⟨slots, mem, dead⟩ := st
    simp only [codeK] at h
    split at h
    . rename_i heq
      cases heq
      rename_i t
      simp only [getK_eq, setK_eq] at h
      generalize hx : slots.getD t .any = dx at h
      cases dx <;> simp only [reduceCtorEq] at h
      rename_i v0 at_
      cases v0 <;> simp only [V.unBool, reduceCtorEq] at h
      rename_i b
      have hself : slots.set t (.v (.bool b) at_) = slots := getD_set_self hx (by simp)
      have hev : a.eval (.tmp t) = .bool b := by
        have := hs.slots.ev (T := cx.T) 0 (.tmp t)
        simp only [evalD, hx] at this
        exact this.bool_inv
      cases b
      . simp only [br, cond_false, hself] at h
        exact wp_cond_false hev ((ihy hry).1 R n _ a w E g K r Q hly hs hn h hq)
      . simp only [br, cond_true, hself] at h
        exact wp_cond_true hev ((ihx hrx).1 R n _ a w E g K r Q hlx hs hn h hq)
    . rename_i heq
      cases heq
      rename_i v
      cases v
      . exact wp_cond_false rfl ((ihy hry).1 R n _ a w E g K r Q hly hs hn h hq)
      . exact wp_cond_true rfl ((ihx hrx).1 R n _ a w E g K r Q hlx hs hn h hq)
    . cases h
  | block id x ih =>
    intro hro
    have hrx : RegionsOK P cx x := fun o ho => hro o (by simpa [drawnOf] using ho)
    refine ⟨fun R n st a w E g K r Q hl hs hn h hq => ?_, fun R n l st a w E g K r Q hl hh => by simp [hasLabel] at hh⟩
    simp only [codeK] at h
    refine wp_block ((ih hrx).1 R n st a w E g _ r _ (fun b hb => hl b (by simpa [loopsOf] using hb)) hs hn h fun e st' a' w' hk ht => ?_)
    cases e with
    | normal => exact hq .normal st' a' w' hk ht
    | exit i =>
      simp only [exOf, Exit.inBlock]
      simp only at hk
      by_cases hi : i = id
      . subst hi
        simp only [Nat.beq_refl, cond_true] at hk
        rw [if_pos rfl]; exact hq .normal st' a' w' hk ht
      . rw [beq_ne hi] at hk
        rw [if_neg hi]; exact hq (.exit i) st' a' w' hk ht
    | goto i => exact hq (.goto i) st' a' w' hk ht
    | ret => exact hq .ret st' a' w' hk ht
  | loop x ih =>
    intro hro
    have hrx : RegionsOK P cx x := fun o ho => hro o (by simpa [drawnOf] using ho)
    refine ⟨fun R n st a w E g K r Q hl hs hn h hq => ?_, fun R n l st a w E g K r Q hl hh => by simp [hasLabel] at hh⟩
    obtain ⟨slots, mem, dead⟩ := st
    simp only [codeK] at h
    have hsn : slots.length = n := by rw [← hn]; exact hs.size.symm
    rw [hsn] at h
    obtain ⟨ds, m', g', E', h1, h2, h3, h4⟩ := keep_sound hs h
    rw [hsn] at h2
    obtain ⟨t, h5⟩ := hl x (by simp [loopsOf]) R ds m' _ r h1
    refine wp_loop_n (fun t a w' => ∃ ds m E' g', loopK (fun st K => codeK cx x st K) n (cx.keep (ridOf x)) (cx.keepX (ridOf x)) t ds m (fun e ds m => spreadK n 0 (cx.keepX (ridOf x)) ds fun slots => K e ⟨slots, m, []⟩) = some r /\ Sim cx.T E' g' w' ⟨spreadL n 0 (cx.keep (ridOf x)) ds, m, []⟩ a /\ E'.d = E.d /\ Tr E.d g w g' w' /\ a.tmps.size = n) ⟨t, ds, m', E', g', h5, h2, h3, h4, hn⟩ ?_
    rintro t a1 w1 ⟨ds1, m1, E1, g1, k1, k2, k3, k4, k5⟩
    cases t with
    | zero => cases k1
    | succ t =>
      simp only [loopK, roundK, spreadK_eq] at k1
      refine seq_then ((ih hrx).1 R n _ a1 w1 E1 g1 _ r _ (fun b hb => hl b (by simp [loopsOf, hb])) k2 k5 k1 fun e st' a' w' hk ht => ?_)
      obtain ⟨E2, g2, b1, b2, b3, b4⟩ := ht
      obtain ⟨slots', mem', dead'⟩ := st'
      have hsn' : slots'.length = n := by rw [← b4]; exact b1.size.symm
      have htr : Tr E.d g w g2 w' := k4.trans (by rw [← k3]; exact b3)
      -- an end of the loop
      have out : ∀ e', (keepK (cx.keepX (ridOf x)) ⟨slots', mem', dead'⟩ fun ds m => K e' ⟨spreadL n 0 (cx.keepX (ridOf x)) ds, m, []⟩) = some r -> Q (exOf e') a' w' := by
        intro e' hk
        obtain ⟨ds3, m3, g3, E3, c1, c2, c3, c4⟩ := keep_sound b1 hk
        rw [hsn'] at c2
        exact hq e' _ a' w' c1 ⟨E3, g3, c2, by rw [c3, b2, k3], htr.trans (by rw [← k3, ← b2]; exact c4), b4⟩
      cases e with
      | normal =>
        obtain ⟨ds3, m3, g3, E3, c1, c2, c3, c4⟩ := keep_sound b1 hk
        rw [hsn'] at c2
        exact ⟨t, Nat.lt_succ_self t, ds3, m3, E3, g3, by simp only [spreadK_eq]; exact c1, c2, by rw [c3, b2, k3], htr.trans (by rw [← k3, ← b2]; exact c4), b4⟩
      | exit i => exact out _ hk
      | goto i => exact out _ hk
      | ret => exact out _ hk
  | rangeFunc f ps qs b _ _ => exact fun _ => ⟨fun R n st a w E g K r Q hl hs hn h hq => by simp [codeK] at h, fun R n l st a w E g K r Q hl hh => by simp [hasLabel] at hh⟩
  | exit id => exact fun _ => ⟨fun R n st a w E g K r Q hl hs hn h hq => wp_exit (hq (.exit id) st a w h ⟨E, g, hs, rfl, Tr.refl _ _ _, hn⟩), fun R n l st a w E g K r Q hl hh => by simp [hasLabel] at hh⟩
  | scope x ih =>
    intro hro
    have hrx : RegionsOK P cx x := fun o ho => hro o (by simpa [drawnOf] using ho)
    refine ⟨fun R n st a w E g K r Q hl hs hn h hq => ?_, fun R n l st a w E g K r Q hl hh => by simp [hasLabel] at hh⟩
    have hlx : LoopsOK cx n x := fun b hb => hl b (by simpa [loopsOf] using hb)
    simp only [codeK] at h
    refine wp_scope_all (fun t l a' w' => ∃ st' E' g', jumpK (fun l st K => fromK cx l x st K) (fun l => hasLabel l x) t l st' K = some r /\ hasLabel l x = true /\ Sim cx.T E' g' w' st' a' /\ E'.d = E.d /\ Tr E.d g w g' w' /\ a'.tmps.size = n) ?_ ?_
    . refine (ih hrx).1 R n st a w E g _ r _ hlx hs hn h fun e st' a' w' hk ht => ?_
      cases e with
      | normal => exact hq _ st' a' w' hk ht
      | exit i => exact hq _ st' a' w' hk ht
      | ret => exact hq _ st' a' w' hk ht
      | goto l =>
        simp only at hk
        obtain ⟨E2, g2, b1, b2, b3, b4⟩ := ht
        cases hh : hasLabel l x with
        | true => rw [hh] at hk; exact .inl ⟨_, st', E2, g2, hk, hh, b1, b2, b3, b4⟩
        | false => rw [hh] at hk; exact .inr ⟨label_none x l hh, hq (.goto l) st' a' w' hk ⟨E2, g2, b1, b2, b3, b4⟩⟩
    . rintro t l a1 w1 ⟨st1, E1, g1, k1, k2, k3, k4, k5, k6⟩
      cases t with
      | zero => cases k1
      | succ t =>
        simp only [jumpK] at k1
        refine (ih hrx).2 R n l st1 a1 w1 E1 g1 _ r _ hlx k2 k3 k6 k1 fun e st' a' w' hk ht => ?_
        have ht' := ht.trans k4 k5
        cases e with
        | normal => exact hq _ st' a' w' hk ht'
        | exit i => exact hq _ st' a' w' hk ht'
        | ret => exact hq _ st' a' w' hk ht'
        | goto l' =>
          simp only at hk
          obtain ⟨E2, g2, b1, b2, b3, b4⟩ := ht'
          cases hh : hasLabel l' x with
          | true => rw [hh] at hk; exact .inl ⟨t, Nat.lt_succ_self t, st', E2, g2, hk, hh, b1, b2, b3, b4⟩
          | false => rw [hh] at hk; exact .inr ⟨label_none x l' hh, hq (.goto l') st' a' w' hk ⟨E2, g2, b1, b2, b3, b4⟩⟩
  | label l0 =>
    exact fun _ => ⟨fun R n st a w E g K r Q hl hs hn h hq => wp_label (hq .normal st a w h ⟨E, g, hs, rfl, Tr.refl _ _ _, hn⟩), fun R n l st a w E g K r Q hl hh hs hn h hq => ⟨.skip, by
      have := Nat.eq_of_beq_eq_true hh
      subst this
      simp [findLabel], wp_skip (hq .normal st a w h ⟨E, g, hs, rfl, Tr.refl _ _ _, hn⟩)⟩⟩
  | goto l => exact fun _ => ⟨fun R n st a w E g K r Q hl hs hn h hq => wp_goto (hq (.goto l) st a w h ⟨E, g, hs, rfl, Tr.refl _ _ _, hn⟩), fun R n l st a w E g K r Q hl hh => by simp [hasLabel] at hh⟩
  | ret => exact fun _ => ⟨fun R n st a w E g K r Q hl hs hn h hq => wp_ret (hq .ret st a w h ⟨E, g, hs, rfl, Tr.refl _ _ _, hn⟩), fun R n l st a w E g K r Q hl hh => by simp [hasLabel] at hh⟩
  | refuse why => exact fun _ => ⟨fun R n st a w E g K r Q hl hs hn h hq => by simp [codeK] at h, fun R n l st a w E g K r Q hl hh => by simp [hasLabel] at hh⟩
end
end Go.Proofs.Ytilfphdeacogmaa.En
