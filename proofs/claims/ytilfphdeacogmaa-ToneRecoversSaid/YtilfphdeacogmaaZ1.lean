/- Several texts in one. -/
import Derived.WalkKit
import Derived.WalkSpells
import Derived.WalkLawsBesides
import Derived.Lib.Hide
import Derived.Deep.Draws
import Derived.Deep.AppendLies
import Derived.Maps.AppendAt
import Derived.Deep.MidRow
import Derived.Test.YtilfphdeacogmaaRows
import Derived.Deep.LoopGhost
import Derived.Deep.DeepMust
import Derived.Laws.BitsAllLaws
import Derived.Deep.QuietTactic
import Derived.BigQuiet
import Derived.Orders
import Derived.Deep.RegionHeld3

set_option linter.unusedSimpArgs false
set_option linter.unusedVariables false
set_option linter.unusedSectionVars false
/- Words for memory that the walks of this seat share: slices of bytes, slices of slices, appending to a row of the call's own. No program in sight. -/
namespace Go.Proofs.Ytilfphdeacogmaa
open Go.RowKit
theorem ret_i64 {a b : Int} (h : a = b) : Ending.returned (.int .i64 a) = Ending.returned (.int .i64 b) := by rw [h]
theorem ret_bool {a b : Bool} (h : a = b) : Ending.returned (.bool a) = Ending.returned (.bool b) := by rw [h]
theorem bcell {w w1 : World} (hb : Below w.heap.size w w1) : (∀ b o, b < w.heap.size -> w1.cell? ⟨b, o, none⟩ = w.cell? ⟨b, o, none⟩) /\ (∀ b o, b < w.heap.size -> w1.frozen? ⟨b, o, none⟩ = w.frozen? ⟨b, o, none⟩) :=
  ⟨fun b o h => hb.cell (p := ⟨b, o, none⟩) h, fun b o h => hb.frozen (p := ⟨b, o, none⟩) h⟩
theorem Below.drewN' {B : Nat} {a w : World} (h : Below B a w) (n : Nat) : Below B a (w.drewN n) := ⟨h.os, h.tape, h.output, h.size, h.block⟩
def u8 (b : UInt8) : Value := .int .u8 (b.toNat : Int)
def At (w : World) (A : Option Addr) (k : Nat) (v : Value) : Prop := ∃ b off, A = some ⟨b, off, none⟩ /\ w.cell? ⟨b, off + k, none⟩ = some v
theorem At.keep {w w' : World} {A : Option Addr} {k : Nat} {v : Value} (h : At w A k v) (hk : ∀ p : Addr, p.block < w.heap.size -> w'.cell? p = w.cell? p) : At w' A k v := by
  obtain ⟨b, off, rfl, hc⟩ := h
  exact ⟨b, off, rfl, (hk _ (World.block_lt_of_cell? w _ hc)).trans hc⟩
theorem At.below {w w' : World} {A : Option Addr} {k : Nat} {v : Value} (h : At w A k v) (hb : Below w.heap.size w w') : At w' A k v := h.keep fun _ hp => hb.cell hp
structure Rd (w : World) (A : Option Addr) (n c : Nat) (vs : List Value) : Prop where
  len : vs.length = n
  cap : n <= c
  max : c <= maxLen
  at_ : ∀ k v, vs[k]? = some v -> At w A k v
abbrev IsB (w : World) (A : Option Addr) (n c : Nat) (xs : List UInt8) : Prop := Rd w A n c (xs.map u8)
section
variable {w w' : World} {A : Option Addr} {n c : Nat} {vs : List Value} {xs : List UInt8}
theorem Rd.nil : Rd w none 0 0 [] := ⟨rfl, Nat.le_refl _, Nat.zero_le _, fun k v h => by simp at h⟩
theorem Rd.empty (A : Option Addr) (hc : c <= maxLen) : Rd w A 0 c [] := ⟨rfl, Nat.zero_le _, hc, fun k v h => by simp at h⟩
theorem Rd.keep (h : Rd w A n c vs) (hk : ∀ p : Addr, p.block < w.heap.size -> w'.cell? p = w.cell? p) : Rd w' A n c vs :=
  ⟨h.len, h.cap, h.max, fun k v hv => (h.at_ k v hv).keep hk⟩
theorem Rd.below (h : Rd w A n c vs) (hb : Below w.heap.size w w') : Rd w' A n c vs := h.keep fun _ hp => hb.cell hp
theorem Rd.drew (h : Rd w A n c vs) : Rd w.drew A n c vs := ⟨h.len, h.cap, h.max, h.at_⟩
theorem Rd.drewN (h : Rd w A n c vs) (k : Nat) : Rd (w.drewN k) A n c vs := ⟨h.len, h.cap, h.max, h.at_⟩
theorem Rd.alloc (h : Rd w A n c vs) (o : Obj) : Rd (w.alloc o) A n c vs := h.keep fun p hp => World.cell?_alloc_lt w o p hp
theorem Rd.len63 (h : Rd w A n c vs) : n <= 9223372036854775807 /\ c <= 9223372036854775807 := by
  have h1 := h.cap; have h2 := h.max; unfold maxLen at h2; omega
theorem IsB.len (h : IsB w A n c xs) : xs.length = n := by simpa using Rd.len h
theorem IsB.at_ (h : IsB w A n c xs) {k : Nat} (hk : k < n) : ∃ x b off, Hid (xs[k]? = some x) /\ A = some ⟨b, off, none⟩ /\ w.cell? ⟨b, off + k, none⟩ = some (.int .u8 (x.toNat : Int)) /\ (x.toNat : Int) < 256 := by
  have hl : k < xs.length := by have := IsB.len h; omega
  obtain ⟨b, off, hA, hc⟩ := Rd.at_ h k (u8 xs[k]) (by simp [hl])
  exact ⟨xs[k], b, off, List.getElem?_eq_getElem hl, hA, hc, by have := UInt8.toNat_lt xs[k]; omega⟩
theorem IsB.cells (h : IsB w A n c xs) (hn : 0 < n) : ∃ b off, A = some ⟨b, off, none⟩ /\ ∀ k x, xs[k]? = some x -> w.cell? ⟨b, off + k, none⟩ = some (.int .u8 (x.toNat : Int)) := by
  obtain ⟨x, b, off, _, rfl, _⟩ := IsB.at_ h hn
  refine ⟨b, off, rfl, fun k y hk => ?_⟩
  obtain ⟨b', off', hA, hc⟩ := Rd.at_ h k (u8 y) (by simp [hk])
  injection hA with hA
  injection hA with e1 e2
  subst e1 e2
  exact hc
theorem Rd.cut (h : Rd w A n c vs) {k : Nat} (hk : k <= n) : Rd w (if c = k then A else A.map (·.add k)) (n - k) (c - k) (vs.drop k) := by
  refine ⟨by rw [List.length_drop, h.len], by have := h.cap; omega, by have := h.max; omega, fun j v hv => ?_⟩
  rw [List.getElem?_drop] at hv
  obtain ⟨b, off, rfl, hc⟩ := h.at_ _ v hv
  have hkj : k + j < n := by have := (List.getElem?_eq_some_iff.1 hv).1; rw [h.len] at this; exact this
  have hcap := h.cap
  rw [if_neg (by omega)]
  by_cases h0 : k = 0
  . subst h0; exact ⟨b, off, by simp [Addr.add], by simpa using hc⟩
  . exact ⟨b, off + k, by simp [Addr.add, h0], by rw [Nat.add_assoc]; exact hc⟩
theorem Rd.take (h : Rd w A n c vs) {k : Nat} (hk : k <= n) : Rd w A k c (vs.take k) := by
  refine ⟨by rw [List.length_take, h.len]; omega, by have := h.cap; omega, h.max, fun j v hv => ?_⟩
  by_cases hj : j < k
  . rw [List.getElem?_take_of_lt hj] at hv
    exact h.at_ j v hv
  . rw [List.getElem?_eq_none (by rw [List.length_take]; omega)] at hv; cases hv
theorem IsB.cut (h : IsB w A n c xs) {k : Nat} (hk : k <= n) : IsB w (if c = k then A else A.map (·.add k)) (n - k) (c - k) (xs.drop k) := by
  have := Rd.cut h hk
  rwa [← List.map_drop] at this
theorem IsB.take (h : IsB w A n c xs) {k : Nat} (hk : k <= n) : IsB w A k c (xs.take k) := by
  have := Rd.take h hk
  rwa [← List.map_take] at this
end
structure IsBB (w : World) (A : Option Addr) (n c : Nat) (ls : List (List UInt8)) : Prop where
  len : ls.length = n
  cap : n <= c
  max : c <= maxLen
  at_ : ∀ k l, ls[k]? = some l -> ∃ A' n' c', At w A k (.slice A' n' c') /\ IsB w A' n' c' l
theorem IsBB.keep {w w' : World} {A : Option Addr} {n c : Nat} {ls : List (List UInt8)} (h : IsBB w A n c ls) (hk : ∀ p : Addr, p.block < w.heap.size -> w'.cell? p = w.cell? p) : IsBB w' A n c ls :=
  ⟨h.len, h.cap, h.max, fun k l hl => let ⟨A', n', c', h1, h2⟩ := h.at_ k l hl; ⟨A', n', c', h1.keep hk, Rd.keep h2 hk⟩⟩
theorem IsBB.below {w w' : World} {A : Option Addr} {n c : Nat} {ls : List (List UInt8)} (h : IsBB w A n c ls) (hb : Below w.heap.size w w') : IsBB w' A n c ls := h.keep fun _ hp => hb.cell hp
theorem cell_new (w : World) (vs : List Value) (e : TypeId) (k : Nat) : (w.alloc (.cells vs.toArray e)).cell? ⟨w.heap.size, k, none⟩ = vs[k]? := by
  rw [cell_of_row _ _ k vs.toArray e (0, 0) (heap_alloc_new w _)]; simp
theorem IsBB.lit1 {w : World} {e : TypeId} {A : Option Addr} {n c : Nat} {xs : List UInt8} (h : IsB w A n c xs) :
    IsBB (w.alloc (.cells #[.slice A n c] e)) (some ⟨w.heap.size, 0, none⟩) 1 1 [xs] := by
  refine ⟨rfl, Nat.le_refl _, by unfold maxLen; omega, fun k l hl => ?_⟩
  obtain ⟨hk, rfl⟩ := List.getElem?_eq_some_iff.1 hl
  simp at hk
  subst hk
  exact ⟨A, n, c, ⟨w.heap.size, 0, rfl, by simp⟩, h.alloc _⟩
theorem IsBB.lit2 {w : World} {e : TypeId} {A A' : Option Addr} {n c n' c' : Nat} {xs ys : List UInt8} (h : IsB w A n c xs) (h' : IsB w A' n' c' ys) :
    IsBB (w.alloc (.cells #[.slice A n c, .slice A' n' c'] e)) (some ⟨w.heap.size, 0, none⟩) 2 2 [xs, ys] := by
  refine ⟨rfl, Nat.le_refl _, by unfold maxLen; omega, fun k l hl => ?_⟩
  have hk : k = 0 ∨ k = 1 := by have := (List.getElem?_eq_some_iff.1 hl).1; simp at this; omega
  rcases hk with rfl | rfl
  . simp at hl; subst hl
    exact ⟨A, n, c, ⟨w.heap.size, 0, rfl, by simp⟩, h.alloc _⟩
  . simp at hl; subst hl
    exact ⟨A', n', c', ⟨w.heap.size, 0, rfl, by simp⟩, h'.alloc _⟩
abbrev Own (w : World) (B : Nat) (e : TypeId) (A : Option Addr) (n c : Nat) (vs : List Value) : Prop := w.ownsRow B e 1 (.slice A n c) n vs
section
variable {w w' : World} {B n c : Nat} {e : TypeId} {A : Option Addr} {vs : List Value}
theorem Own.rd (h : Own w B e A n c vs) : Rd w A n c vs := by
  have hl := h.1
  rcases h.2 with ⟨hv, hn⟩ | ⟨g, cap, cur, hv, hb, hg, hnc, hcm, hcs, htk⟩
  . injection hv with h1 h2 h3
    subst h1 h2 h3
    have : vs = [] := List.eq_nil_of_length_eq_zero (by simpa using hl)
    subst this
    exact Rd.nil
  . injection hv with h1 h2 h3
    subst h1 h3
    refine ⟨by simpa using hl, hnc, hcm, fun k v hk => ⟨g, 0, rfl, ?_⟩⟩
    have hlt : k < n * 1 := by have := (List.getElem?_eq_some_iff.1 hk).1; rw [hl] at this; exact this
    rw [Nat.zero_add, World.ownsRow.cellAt h k hlt]
    exact hk
theorem Own.nil (B : Nat) (e : TypeId) : Own w B e none 0 0 [] := World.ownsRow_nil w B e 1
theorem Own.form {v : Value} (h : w.ownsRow B e 1 v n vs) : ∃ A c, v = .slice A n c /\ Own w B e A n c vs /\ (∀ k, v.ownBlock = some k -> B <= k /\ k < w.heap.size) := by
  have hlt := h.lt
  rcases h.2 with ⟨hv, hn⟩ | ⟨g, cap, cur, hv, _⟩
  . subst hv hn; exact ⟨none, 0, rfl, h, hlt⟩
  . subst hv; exact ⟨_, _, rfl, h, hlt⟩
theorem Own.block (h : Own w B e A n c vs) : ∀ k, (Value.slice A n c).ownBlock = some k -> B <= k := fun k hk => (h.lt k hk).1
theorem Own.below (h : Own w B e A n c vs) (hb : Below w.heap.size w w') : Own w' B e A n c vs := by
  refine ⟨h.1, ?_⟩
  rcases h.2 with h2 | ⟨g, cap, cur, hv, hg, hh, r⟩
  . exact .inl h2
  . refine .inr ⟨g, cap, cur, hv, hg, ?_, r⟩
    rw [hb.block g (Array.getElem?_eq_some_iff.1 hh).1]; exact hh
theorem Own.base (h : Own w B e A n c vs) {B' : Nat} (hB : B' <= B) : Own w B' e A n c vs := by
  refine ⟨h.1, ?_⟩
  rcases h.2 with h2 | ⟨g, cap, cur, hv, hg, hh, r⟩
  . exact .inl h2
  . exact .inr ⟨g, cap, cur, hv, by omega, hh, r⟩
end
theorem run_append_rd {P : Program} (w : World) (B : Nat) (t ty e : TypeId) (i : TypeInfo) (z : Value) (bytes : Nat) (ht : P.underlying t = some (.slice e)) (hi : P.info? e = some i) (hz : i.zero = some z)
    (hsize : i.size = 1) (hby : i.bytes = bytes) (hzs : z.cells.size = 1)
    (A : Option Addr) (n c : Nat) (xs : List Value) (hown : Own w B e A n c xs)
    (A' : Option Addr) (m c' : Nat) (news : List Value) (hr : Rd w A' m c' news) (h1 : ∀ u ∈ news, u.oneCell' = true)
    (hbytes : (n + m) * bytes <= 140737488355328) (hb0 : 0 < bytes) (hbase : B <= w.heap.size) :
    ∃ A2 c2 w', (Builtin.append_ #[t, t] ty #[.slice A n c, .slice A' m c']).run P w = .ok (.slice A2 (n + m) c2) w' /\ Own w' B e A2 (n + m) c2 (xs ++ news) /\ w.grownBy w' (Value.slice A n c).ownBlock /\
      ((Value.slice A2 (n + m) c2).ownBlock = (Value.slice A n c).ownBlock ∨ (Value.slice A2 (n + m) c2).ownBlock = some w.heap.size) := by
  have h63 : n + m <= maxLen := by
    have h2 : (n + m) * 1 <= (n + m) * bytes := Nat.mul_le_mul_left _ hb0
    unfold maxLen; omega
  by_cases hm : m = 0
  . subst hm
    have hn : news = [] := List.eq_nil_of_length_eq_zero hr.len
    subst hn
    refine ⟨A, c, w, ?_, by simpa using hown, World.grownBy.refl w _, .inl rfl⟩
    rcases hown.2 with ⟨hv, hn0⟩ | ⟨g, cap, cur, hv, _, _, hnc, _⟩
    . injection hv with a1 a2 a3
      subst a1 a2 a3
      cases A' <;> simp [Builtin.append_, run_underlying ht, sizeOf, typeInfo, hi, Builtin.lenOf, Builtin.firstCells, loadCells, loadCellsFrom]
    . injection hv with a1 a2 a3
      subst a1 a3
      cases A' <;> simp [Builtin.append_, run_underlying ht, sizeOf, typeInfo, hi, Builtin.lenOf, Builtin.firstCells, hnc, storeCells, loadCells, loadCellsFrom]
  . have hpos : 0 < news.length := by rw [hr.len]; omega
    obtain ⟨b, off, rfl, _⟩ := hr.at_ 0 _ (List.getElem?_eq_getElem hpos)
    have hnews : ∀ j u, news[j]? = some u -> w.cell? ((⟨b, off, none⟩ : Addr).add j) = some u := by
      intro j u hu
      obtain ⟨b', off', he, hc⟩ := hr.at_ j u hu
      injection he with he
      injection he with e1 e2
      subst e1 e2
      by_cases hj : j = 0
      . subst hj; simpa [Addr.add] using hc
      . simpa [Addr.add, hj] using hc
    obtain ⟨v', w', hrun, h2, h3, _, h5⟩ := run_append_own_at (P := P) w B t ty e i z 1 bytes ht hi hz hsize hby hzs (by omega) (.slice A n c) n xs hown ⟨b, off, none⟩ m c' news (by rw [hr.len]; omega) hnews h1 h63 hbytes hbase
    obtain ⟨A2, c2, rfl, h6, _⟩ := Own.form h2
    exact ⟨A2, c2, w', hrun, h6, h3, h5⟩
theorem wp_append_rd {P : Program} (w : World) {o : Oper} {a : Act} {K : Act -> World -> Prop} {Q : Exit -> Act -> World -> Prop} (s x : Operand) (t : TypeId)
    (ho : o.op = .call { callee := .builtin .append, args := #[s, x], argTypes := #[t, t] })
    (B : Nat) (e : TypeId) (i : TypeInfo) (z : Value) (bytes : Nat) (ht : P.underlying t = some (.slice e)) (hi : P.info? e = some i) (hz : i.zero = some z)
    (hsize : i.size = 1) (hby : i.bytes = bytes) (hzs : z.cells.size = 1)
    (A : Option Addr) (n c : Nat) (xs : List Value) (hs : a.eval s = .slice A n c) (hown : Own w B e A n c xs)
    (A' : Option Addr) (m c' : Nat) (news : List Value) (hx : a.eval x = .slice A' m c') (hr : Rd w A' m c' news) (h1 : ∀ u ∈ news, u.oneCell' = true)
    (hbytes : (n + m) * bytes <= 140737488355328) (hb0 : 0 < bytes) (hbase : B <= w.heap.size)
    (h : ∀ A2 c2 w', Own w' B e A2 (n + m) c2 (xs ++ news) -> w.grownBy w' (Value.slice A n c).ownBlock -> ((Value.slice A2 (n + m) c2).ownBlock = (Value.slice A n c).ownBlock ∨ (Value.slice A2 (n + m) c2).ownBlock = some w.heap.size) -> K (a.put o.dst (.slice A2 (n + m) c2)) w') : o.wp P a w K Q := by
  obtain ⟨A2, c2, w', hrun, h2, h3, h4⟩ := run_append_rd (P := P) w B t o.type e i z bytes ht hi hz hsize hby hzs A n c xs hown A' m c' news hr h1 hbytes hb0 hbase
  unfold Oper.wp execOp
  simp only [ho, resolve, invoke, builtin, Sem.run_bind, Sem.run_pure, Result.andThen_ok, List.map_toArray, List.map_cons, List.map_nil, hs, hx, hrun]
  exact h A2 c2 w' h2 h3 h4
theorem wpList_append_rd {P : Program} (w : World) {ops : Array Oper} {rest : List Oper} {o : Oper} {a : Act} {Q : Exit -> Act -> World -> Prop} (hgd : o.guard = none) (s x : Operand) (t : TypeId)
    (ho : o.op = .call { callee := .builtin .append, args := #[s, x], argTypes := #[t, t] })
    (B : Nat) (e : TypeId) (i : TypeInfo) (z : Value) (bytes : Nat) (ht : P.underlying t = some (.slice e)) (hi : P.info? e = some i) (hz : i.zero = some z)
    (hsize : i.size = 1) (hby : i.bytes = bytes) (hzs : z.cells.size = 1)
    (A : Option Addr) (n c : Nat) (xs : List Value) (hs : a.eval s = .slice A n c) (hown : Own w B e A n c xs)
    (A' : Option Addr) (m c' : Nat) (news : List Value) (hx : a.eval x = .slice A' m c') (hr : Rd w A' m c' news) (h1 : ∀ u ∈ news, u.oneCell' = true)
    (hbytes : (n + m) * bytes <= 140737488355328) (hb0 : 0 < bytes) (hbase : B <= w.heap.size)
    (h : ∀ A2 c2 w', Own w' B e A2 (n + m) c2 (xs ++ news) -> w.grownBy w' (Value.slice A n c).ownBlock -> ((Value.slice A2 (n + m) c2).ownBlock = (Value.slice A n c).ownBlock ∨ (Value.slice A2 (n + m) c2).ownBlock = some w.heap.size) -> wpList P ops Q rest (a.put o.dst (.slice A2 (n + m) c2)) w') : wpList P ops Q (o :: rest) a w :=
  wpList_plain hgd fun _ hK => wp_append_rd w s x t ho B e i z bytes ht hi hz hsize hby hzs A n c xs hs hown A' m c' news hx hr h1 hbytes hb0 hbase fun A2 c2 w' h2 h3 h4 => hK _ _ (h A2 c2 w' h2 h3 h4)
theorem u8_one (xs : List UInt8) : ∀ u ∈ xs.map u8, u.oneCell' = true := by
  intro u hu
  obtain ⟨b, _, rfl⟩ := List.mem_map.1 hu
  rfl
theorem below_setCells {B : Nat} {a : World} {b : Nat} (hB : B <= b) : ∀ (vs : List Value) (o : Nat) (w : World), Below B a w -> Below B a (w.setCells b o vs)
  | [], _, _, h => h
  | v :: vs, o, _, h => below_setCells hB vs (o + 1) _ (h.setCell hB v)
theorem there_of_block {w : World} {b : Nat} {cs : Array Value} {t : TypeId} (h : w.heap[b]? = some (.cells cs t (0, 0))) : w.there b 0 cs.size := fun j hj => by
  rw [Nat.zero_add]
  exact ⟨by rw [cell_of_row w b j cs t _ h]; simp [hj], frozen_of_row w b j cs t h⟩
theorem results_cell_mid {P : Program} {fn : Func} {p : Tmp} {ty : TypeId} (h : fn.results = #[.cell p ty]) (tmps : Array Value) (w : World) (b o : Nat) (cs : List Value) (d : TypeDesc)
    (hp : tmps.getD p undef = .pointer (some ⟨b, o, none⟩)) (hc : w.rangeAt b o cs)
    (hu : P.underlying ty = some d) (hd : d.isRow = true) (hi : (P.info? ty).map (·.size) = some cs.length) :
    (results fn tmps).run P w = .ok (.agg cs.toArray) w := by
  have hp' : tmps[p]?.getD undef = .pointer (some ⟨b, o, none⟩) := by simpa using hp
  simp [results, h, hp', asAddr, run_loadVar_mid w b o ty cs d hc hu hd hi]
theorem results_cell_tmp {P : Program} {fn : Func} {p q : Tmp} {ty : TypeId} (h : fn.results = #[.cell p ty, .tmp q]) (tmps : Array Value) (w : World) (b o : Nat) (cs : List Value) (d : TypeDesc)
    (hp : tmps.getD p undef = .pointer (some ⟨b, o, none⟩)) (hc : w.rangeAt b o cs)
    (hu : P.underlying ty = some d) (hd : d.isRow = true) (hi : (P.info? ty).map (·.size) = some cs.length) :
    (results fn tmps).run P w = .ok (.tuple #[.agg cs.toArray, tmps.getD q undef]) w := by
  have hp' : tmps[p]?.getD undef = .pointer (some ⟨b, o, none⟩) := by simpa using hp
  simp [results, h, hp', asAddr, run_loadVar_mid w b o ty cs d hc hu hd hi]
theorem there_of_cells {w : World} {b n : Nat} {cs : Array Value} {t : TypeId} (h : w.heap[b]? = some (.cells cs t (0, 0))) (hn : cs.size = n) : w.there b 0 n := by
  subst hn; exact there_of_block h
theorem run_convert_rd {P : Program} {w : World} {A : Option Addr} {n c : Nat} {xs : List UInt8} (h : IsB w A n c xs) (src e dst : TypeId) (hs : P.underlying src = some (.slice e)) (he : P.underlying e = some (.int .u8)) (hd : P.underlying dst = some .string) :
    (convert src dst (.slice A n c)).run P w = .ok (.string ⟨xs.toArray⟩) w := by
  rw [run_convert_bytes_string w src dst e _ n c hs he hd]
  have hl := IsB.len h
  by_cases h0 : n = 0
  . subst h0
    have : xs = [] := List.eq_nil_of_length_eq_zero hl
    subst this
    cases A <;> simp [Conv.bytesToString, loadCells, loadCellsFrom] <;> rfl
  . have hpos : 0 < (xs.map u8).length := by rw [List.length_map]; omega
    obtain ⟨b, off, rfl, _⟩ := Rd.at_ h 0 _ (List.getElem?_eq_getElem hpos)
    have hm : xs.map u8 = (xs.map fun b => (b.toNat : Int)).map (Value.int .u8) := by rw [List.map_map]; rfl
    have hload : (loadCells ⟨b, off, none⟩ n).run P w = .ok ((xs.map fun b => (b.toNat : Int)).map (Value.int .u8)).toArray w := by
      have := run_loadCells_list (P := P) w ⟨b, off, none⟩ (xs.map u8) (fun j v hj => by
        obtain ⟨b', off', hA, hc⟩ := Rd.at_ h j v hj
        injection hA with hA
        injection hA with e1 e2
        subst e1 e2
        rw [Addr.add_mid]; exact hc)
      rw [List.length_map, hl, hm] at this
      exact this
    rw [run_bytesToString w _ n c _ hload, foldl_push_bytes]
    simp [ByteArray.empty, ByteArray.emptyWithCapacity, Function.comp_def]
    rfl
theorem take_snoc {α : Type} {l : List α} {k : Nat} {x : α} (h : Hid (l[k]? = some x)) : l.take (k + 1) = l.take k ++ [x] := by
  obtain ⟨hk, rfl⟩ := List.getElem?_eq_some_iff.1 h.out
  exact List.take_succ_eq_append_getElem hk
end Go.Proofs.Ytilfphdeacogmaa

/- octets.Join: the walk. -/
namespace Go.Proofs.Ytilfphdeacogmaa
open Go.RowKit
theorem info8 : (Try.prog.info? 5).map (fun i => (i.zero, i.size, i.bytes)) = some (some (.int .u8 0), 1, 1) := by kernel_rfl
theorem flatten_take_le (ls : List (List UInt8)) (k : Nat) : (ls.take k).flatten.length <= ls.flatten.length := by
  conv => rhs; rw [← List.take_append_drop k ls]
  rw [List.flatten_append, List.length_append]
  omega
theorem flatten_take_succ (ls : List (List UInt8)) (k : Nat) (h : k < ls.length) : (ls.take (k + 1)).flatten = (ls.take k).flatten ++ ls[k] := by
  rw [List.take_succ_eq_append_getElem h, List.flatten_append]; simp
set_option maxHeartbeats 400000 in
theorem join_any (A : Option Addr) (n c : Nat) (ls : List (List UInt8)) (w : World) (h : IsBB w A n c ls) (hn : ls.flatten.length <= 1000000) :
    Calls Try.prog 99 #[.slice A n c] w fun e w' => ∃ A' n' c', e = .returned (.slice A' n' c') /\ Own w' w.heap.size 5 A' n' c' (ls.flatten.map u8) /\ Below w.heap.size w w' := by
  obtain ⟨i0, hi0, hz0, hz1, hz2⟩ := info_parts info8
  have hcap : n <= 9223372036854775807 := by have h1 := h.cap; have h2 := h.max; unfold maxLen at h2; omega
  have H := Lib.hid h
  have HI := Lib.hid (And.intro hi0 (And.intro hz0 (And.intro hz1 hz2)))
  clear h hi0 hz0 hz1 hz2
  go_enter Try.func99, Try.ntmps99
  go_wp2
  go_loopg [3, 8] n (fun g v i wr => ∃ k A' n' c', k <= n /\ g = n - k /\ i = .int .i64 (k : Int) /\ v = .slice A' n' c' /\ Own wr w.heap.size 5 A' n' c' ((ls.take k).flatten.map u8) /\ Below w.heap.size w wr)
  case atStart => exact ⟨0, none, 0, 0, by omega, rfl, rfl, rfl, Own.nil _ _, Below.refl _ _⟩
  case round =>
    obtain ⟨k, A', n', c', hk, hg, rfl, rfl, hown, hb⟩ := hrel
    by_cases hlt : k < n
    . have hl : k < ls.length := by have := H.out.len; omega
      obtain ⟨A2, n2, c2, ⟨b, off, rfl, hc⟩, hr⟩ := H.out.at_ k _ (List.getElem?_eq_getElem hl)
      have hc2 : wr.cell? ⟨b, off + k, none⟩ = some (.slice A2 n2 c2) := by
        rw [hb.cell (p := ⟨b, off + k, none⟩) (World.block_lt_of_cell? w _ hc)]; exact hc
      have hr2 : Rd wr A2 n2 c2 (ls[k].map u8) := hr.below hb
      have hle := flatten_take_le ls (k + 1)
      have hsucc := flatten_take_succ ls k hl
      have hn' : n' = (ls.take k).flatten.length := by have := hown.1; rw [List.length_map] at this; omega
      have hn2 : n2 = ls[k].length := by have := hr2.len; rw [List.length_map] at this; omega
      have hsum : n' + n2 <= 1000000 := by rw [hsucc, List.length_append] at hle; omega
      have Hs := Lib.hid hsucc
      have Hn := Lib.hid (And.intro hn' hn2)
      clear hsucc hle hn' hn2
      go_wp2_with (at_builtin; refine wpList_append_rd _ rfl (.tmp 12) (.tmp 13) 27 rfl w.heap.size 5 i0 _ 1 Try.underlying27 HI.out.1 HI.out.2.1 HI.out.2.2.1 HI.out.2.2.2 rfl A' n' c' _ rfl hown A2 n2 c2 _ rfl hr2 (u8_one _) ?_ (by omega) hb.size ?_)
      case _ => omega
      intro A3 c3 w3 hown3 hg3 _
      have hb3 := hb.grown hg3 hb.size (hown.block)
      go_wp2
      go_roundg (n - (k + 1))
      case measure => omega
      case rel =>
        refine ⟨k + 1, A3, n' + n2, c3, by omega, rfl, by go_num, rfl, ?_, hb3⟩
        rw [Hs.out]; simpa using hown3
    . go_wp2
      go_ret
      refine ⟨A', n', c', rfl, ?_, hb⟩
      have : k = ls.length := by have := H.out.len; omega
      rw [this, List.take_length] at hown
      exact hown
end Go.Proofs.Ytilfphdeacogmaa

/- Check values in plain Lean: the exclusive or of bytes, and the CRC. No program in sight. -/
namespace Go.Proofs.Ytilfphdeacogmaa
def lrcB (xs : List UInt8) : UInt8 := xs.foldl (· ^^^ ·) 0
theorem lrcB_snoc (xs : List UInt8) (b : UInt8) : lrcB (xs ++ [b]) = lrcB xs ^^^ b := by simp [lrcB]
theorem u8_xor_byte (a b : UInt8) : bits .xor .u8 (a.toNat : Int) (b.toNat : Int) = ((a ^^^ b).toNat : Int) := by
  rw [u8_xor_nat _ _ (UInt8.toNat_lt a) (UInt8.toNat_lt b)]; simp
def crcStep (r : Nat) : Nat := if r % 2 = 1 then (r / 2) ^^^ 33800 else r / 2
def crcSteps : Nat -> Nat -> Nat
  | 0, r => r
  | k + 1, r => crcStep (crcSteps k r)
def crc8 (r : Nat) : Nat := crcSteps 8 r
def crcN (xs : List UInt8) : Nat := xs.foldl (fun r b => crc8 (r ^^^ b.toNat)) 65535
theorem crcN_snoc (xs : List UInt8) (b : UInt8) : crcN (xs ++ [b]) = crc8 (crcN xs ^^^ b.toNat) := by simp [crcN]
theorem crcStep_lt (r : Nat) (h : r < 65536) : crcStep r < 65536 := by
  unfold crcStep
  split
  . exact Nat.xor_lt_two_pow (n := 16) (by omega) (by omega)
  . omega
theorem crcSteps_lt (k r : Nat) (h : r < 65536) : crcSteps k r < 65536 := by
  induction k with
  | zero => exact h
  | succ k ih => exact crcStep_lt _ ih
theorem crc8_lt (r : Nat) (h : r < 65536) : crc8 r < 65536 := crcSteps_lt 8 r h
theorem xor_byte_lt (r : Nat) (b : UInt8) (h : r < 65536) : r ^^^ b.toNat < 65536 :=
  Nat.xor_lt_two_pow (n := 16) (by omega) (by have := UInt8.toNat_lt b; omega)
theorem crcN_lt (xs : List UInt8) : crcN xs < 65536 := by
  unfold crcN
  have : ∀ (xs : List UInt8) r, r < 65536 -> xs.foldl (fun r b => crc8 (r ^^^ b.toNat)) r < 65536 := by
    intro xs
    induction xs with
    | nil => intro r h; exact h
    | cons b xs ih => intro r h; exact ih _ (crc8_lt _ (xor_byte_lt r b h))
  exact this xs _ (by omega)
theorem crcStep_xor (a b : Nat) : crcStep (a ^^^ b) = crcStep a ^^^ crcStep b := by
  have hm : (a ^^^ b) % 2 = (a % 2 + b % 2) % 2 := by
    have := Nat.xor_mod_two_pow (a := a) (b := b) (n := 1)
    simp only [Nat.pow_one] at this
    rw [this]
    rcases Nat.mod_two_eq_zero_or_one a with h | h <;> rcases Nat.mod_two_eq_zero_or_one b with g | g <;> rw [h, g] <;> decide
  have hd : (a ^^^ b) / 2 = a / 2 ^^^ b / 2 := by
    have := Nat.shiftRight_xor_distrib (a := a) (b := b) (i := 1)
    simpa [Nat.shiftRight_eq_div_pow] using this
  unfold crcStep
  rw [hm, hd]
  rcases Nat.mod_two_eq_zero_or_one a with h | h <;> rcases Nat.mod_two_eq_zero_or_one b with g | g <;> rw [h, g] <;> simp
  . rw [Nat.xor_assoc]
  . rw [Nat.xor_assoc, Nat.xor_comm (b / 2), Nat.xor_assoc]
  . rw [Nat.xor_assoc, Nat.xor_comm (b / 2), ← Nat.xor_assoc 33800 33800, Nat.xor_self, Nat.zero_xor]
theorem crcSteps_xor (k a b : Nat) : crcSteps k (a ^^^ b) = crcSteps k a ^^^ crcSteps k b := by
  induction k with
  | zero => rfl
  | succ k ih => simp only [crcSteps]; rw [ih, crcStep_xor]
theorem crcSteps_pow (k y j : Nat) (h : k <= j) : crcSteps k (y * 2 ^ j) = y * 2 ^ (j - k) := by
  induction k with
  | zero => rfl
  | succ k ih =>
    simp only [crcSteps]
    rw [ih (by omega)]
    have : y * 2 ^ (j - k) = 2 * (y * 2 ^ (j - (k + 1))) := by
      rw [show j - k = (j - (k + 1)) + 1 by omega, Nat.pow_succ]; rw [← Nat.mul_assoc, Nat.mul_comm]
    rw [this]
    unfold crcStep
    rw [if_neg (by omega)]
    omega
theorem crc8_table (r : Nat) : crc8 r = r / 256 ^^^ crc8 (r % 256) := by
  have h : r = (r / 256) * 2 ^ 8 ^^^ r % 256 := by
    have h1 := Nat.div_add_mod r 256
    have h2 : (r / 256) * 2 ^ 8 ^^^ r % 256 = (r / 256) * 2 ^ 8 + r % 256 := by
      have hlt : r % 256 < 2 ^ 8 := by omega
      rw [Nat.mul_comm, Nat.two_pow_add_eq_or_of_lt hlt]
      apply Nat.eq_of_testBit_eq
      intro i
      simp only [Nat.testBit_xor, Nat.testBit_or, Nat.testBit_two_pow_mul]
      by_cases hi : 8 <= i
      . have : (r % 256).testBit i = false := Nat.testBit_lt_two_pow (Nat.lt_of_lt_of_le hlt (Nat.pow_le_pow_right (by omega) hi))
        simp [this]
      . simp [hi]
    omega
  conv => lhs; rw [h]
  rw [crc8, crcSteps_xor, crcSteps_pow 8 _ 8 (by omega)]
  simp [crc8]
theorem crc8_byte (r : Nat) (b : UInt8) : crc8 (r ^^^ b.toNat) = r / 256 ^^^ crc8 (r % 256 ^^^ b.toNat) := by
  have hb := UInt8.toNat_lt b
  rw [crc8_table]
  have h1 : (r ^^^ b.toNat) / 256 = r / 256 := by
    have := Nat.shiftRight_xor_distrib (a := r) (b := b.toNat) (i := 8)
    simp only [Nat.shiftRight_eq_div_pow] at this
    rw [show (256 : Nat) = 2 ^ 8 by decide, this, Nat.div_eq_of_lt (by omega : b.toNat < 2 ^ 8)]; simp
  have h2 : (r ^^^ b.toNat) % 256 = r % 256 ^^^ b.toNat := by
    have := Nat.xor_mod_two_pow (a := r) (b := b.toNat) (n := 8)
    rw [show (256 : Nat) = 2 ^ 8 by decide, this, Nat.mod_eq_of_lt (by omega : b.toNat < 2 ^ 8)]
  rw [h1, h2]
theorem xor_full (n x : Nat) (h : x < 2 ^ n) : (2 ^ n - 1) ^^^ x = 2 ^ n - 1 - x := by
  apply Nat.eq_of_testBit_eq
  intro i
  rw [show 2 ^ n - 1 - x = 2 ^ n - (x + 1) by omega, Nat.testBit_two_pow_sub_succ h, Nat.testBit_xor, Nat.testBit_two_pow_sub_one]
  by_cases hi : i < n
  . simp [hi]
  . have : x.testBit i = false := Nat.testBit_lt_two_pow (Nat.lt_of_lt_of_le h (Nat.pow_le_pow_right (by omega) (by omega)))
    simp [hi, this]
theorem u16_not (x : Nat) (h : x < 65536) : bits .xor .u16 IntKind.u16.max (x : Int) = ((65535 - x : Nat) : Int) := by
  have hm : IntKind.u16.max = ((65535 : Nat) : Int) := rfl
  rw [hm, u16_xor_nat _ _ (by omega) h, xor_full 16 x h]
def crcInv (xs : List UInt8) : Nat := 65535 - crcN xs
theorem crcInv_lt (xs : List UInt8) : crcInv xs < 65536 := by unfold crcInv; omega
theorem u16_crcInv (xs : List UInt8) : bits .xor .u16 IntKind.u16.max (crcN xs : Int) = (crcInv xs : Int) := u16_not _ (crcN_lt xs)
def crcLo (xs : List UInt8) : UInt8 := UInt8.ofNat (crcInv xs % 256)
def crcHi (xs : List UInt8) : UInt8 := UInt8.ofNat (crcInv xs / 256)
theorem crcLo_toNat (xs : List UInt8) : (crcLo xs).toNat = crcInv xs % 256 := by simp [crcLo]
theorem crcHi_toNat (xs : List UInt8) : (crcHi xs).toNat = crcInv xs / 256 := by have := crcInv_lt xs; simp [crcHi]; omega
def sumB (k : Int) (xs : List UInt8) : List UInt8 := if k = 0 then [lrcB xs] else if k = 1 then [crcLo xs, crcHi xs] else []
def sumE (k : Int) : Int := if k = 0 ∨ k = 1 then 0 else 1
def sizeN (k : Int) : Nat := if k = 0 then 1 else if k = 1 then 2 else 0
theorem sumB_length (k : Int) (xs : List UInt8) : (sumB k xs).length = sizeN k := by
  unfold sumB sizeN
  split
  . rfl
  . split <;> rfl
end Go.Proofs.Ytilfphdeacogmaa

/- smartcard/check: the walks. -/
namespace Go.Proofs.Ytilfphdeacogmaa
open Go.RowKit
def sizeI (k : Int) : Int := if k = 0 then 1 else if k = 1 then 2 else 0
theorem size_any (k : Int) (w : World) :
    Calls Try.prog 78 #[.int .i64 k] w fun e w' => e = .returned (.int .i64 (sizeI k)) /\ w = w' := by
  by_cases h0 : k = 0
  . subst h0
    go_enter Try.func78, Try.ntmps78
    go_wp2
    go_ret
    exact ⟨rfl, rfl⟩
  by_cases h1 : k = 1
  . subst h1
    go_enter Try.func78, Try.ntmps78
    go_wp2
    go_ret
    exact ⟨rfl, rfl⟩
  have hs : sizeI k = 0 := by simp [sizeI, h0, h1]
  rw [hs]
  clear hs
  go_enter Try.func78, Try.ntmps78
  go_wp2
  go_ret
  exact ⟨rfl, rfl⟩
set_option maxHeartbeats 400000 in
theorem lrc_any (A : Option Addr) (n c : Nat) (xs : List UInt8) (w : World) (h : IsB w A n c xs) :
    Calls Try.prog 104 #[.slice A n c] w fun e w' => e = .returned (.int .u8 ((lrcB xs).toNat : Int)) /\ w = w' := by
  have hn := h.len63
  have hlen := IsB.len h
  have H := Lib.hid h
  have HL := Lib.hid hlen
  clear h hlen
  go_enter Try.func104, Try.ntmps104
  go_wp2
  go_loopg [3, 8] n (fun g x i wr => ∃ k, k <= n /\ g = n - k /\ i = .int .i64 (k : Int) /\ x = .int .u8 ((lrcB (xs.take k)).toNat : Int) /\ wr = w)
  case atStart => exact ⟨0, by omega, rfl, rfl, rfl, rfl⟩
  case round =>
    obtain ⟨k, hk, hg, rfl, rfl, rfl⟩ := hrel
    by_cases hlt : k < n
    . obtain ⟨x, b, off, hx, rfl, hc, hx8⟩ := IsB.at_ H.out hlt
      have hl8 := UInt8.toNat_lt (lrcB (xs.take k))
      have HX := Lib.hid (u8_xor_byte (lrcB (xs.take k)) x)
      go_wp2
      go_roundg (n - (k + 1))
      case measure => omega
      case rel => exact ⟨k + 1, by omega, rfl, by go_num, by rw [HX.out, take_snoc hx, lrcB_snoc], rfl⟩
    . go_wp2
      go_ret
      have : k = xs.length := by rw [HL.out]; omega
      subst this
      exact ⟨by simp, rfl⟩
end Go.Proofs.Ytilfphdeacogmaa


namespace Go.Proofs.Ytilfphdeacogmaa
open Go.RowKit
theorem u16_low (r : Nat) (h : r < 65536) : bits .and .u16 (r : Int) 1 = ((r % 2 : Nat) : Int) := by
  have := u16_and_nat r 1 h (by omega)
  rw [nat_mask1] at this
  exact this
theorem u16_poly (r : Nat) (h : r < 65536) : bits .xor .u16 (r : Int) 33800 = ((r ^^^ 33800 : Nat) : Int) := u16_xor_nat r 33800 h (by omega)
structure TabRel (w : World) (k : Nat) (wr : World) : Prop where
  le : k <= 256
  out : wr.heap[w.heap.size]? = some (.cells Try.zeroCells138 138 (0, 0))
  tab : ∃ cs : Array Value, wr.heap[w.heap.size + 1]? = some (.cells cs 138 (0, 0)) /\ cs.size = 256 /\ ∀ j, j < k -> cs[j]? = some (.int .u16 (crc8 j : Int))
  size : w.heap.size + 2 <= wr.heap.size
  below : Below w.heap.size w wr
set_option maxHeartbeats 1000000 in
theorem table_any (w : World) :
    Calls Try.prog 106 #[] w fun e w' => ∃ cs : Array Value, e = .returned (.agg cs) /\ cs.size = 256 /\ (∀ j, j < 256 -> cs[j]? = some (.int .u16 (crc8 j : Int))) /\ Below w.heap.size w w' := by
  go_enter Try.func106, Try.ntmps106
  go_wp2_with fail
  go_loopg [5] 256 (fun g i wr => ∃ k, g = 256 - k /\ i = .int .i64 (k : Int) /\ TabRel w k wr)
  case atStart =>
    refine ⟨0, rfl, rfl, ⟨by omega, heap_alloc2_old w _ _, ⟨Try.zeroCells138, heap_alloc2_new w _ _, Try.zeroCells138_size, fun j h => absurd h (by omega)⟩, by simp, ?_⟩⟩
    exact ((Below.refl _ _).alloc (Nat.le_refl _) _).alloc (by simp) _
  case round =>
    obtain ⟨k, hg, rfl, hrel⟩ := hrel
    by_cases hlt : k < 256
    . have hki : (k : Int) < 256 := by omega
      have HLT := Lib.hid hlt
      clear hlt
      have hwr : IntKind.u16.wrap (k : Int) = k := by rw [IntKind.wrap_u16]; omega
      go_wp2
      obtain ⟨wo, rfl⟩ : ∃ wo : World, wo = wr := ⟨_, rfl⟩
      go_loopg [3, 10] 8 (fun g r i wr => ∃ m, m <= 8 /\ g = 8 - m /\ i = .int .i64 (m : Int) /\ r = .int .u16 (crcSteps m k : Int) /\ wr = wo)
      case atStart => exact ⟨0, by omega, rfl, rfl, rfl, rfl⟩
      case round =>
        obtain ⟨m, hm, hg, rfl, rfl, rfl⟩ := hrel
        have HM := Lib.hid (And.intro hm hg)
        by_cases hlm : m < 8
        . have hr := crcSteps_lt m k (by have := HLT.out; omega)
          have hmi : (m : Int) < 8 := by omega
          have HS : Hid (crcSteps (m + 1) k = crcStep (crcSteps m k)) := rfl
          have HLM := Lib.hid hlm
          clear hm hg hlm
          generalize crcSteps m k = r at *
          have ha := u16_low r hr
          have HX := Lib.hid (u16_poly (r / 2) (by omega))
          rcases Nat.mod_two_eq_zero_or_one r with h2 | h2
          . rw [h2] at ha
            have H2 := Lib.hid h2
            clear hr h2
            go_wp2
            go_roundg (8 - (m + 1))
            case measure => have := HM.out; have := HLM.out; omega
            case rel =>
              refine ⟨m + 1, HLM.out, rfl, by go_num, ?_, rfl⟩
              rw [HS.out, crcStep, if_neg (by rw [H2.out]; decide)]; go_num
          . rw [h2] at ha
            have H2 := Lib.hid h2
            clear hr h2
            go_wp2
            go_roundg (8 - (m + 1))
            case measure => have := HM.out; have := HLM.out; omega
            case rel =>
              refine ⟨m + 1, HLM.out, rfl, by go_num, ?_, rfl⟩
              have hx := HX.out
              rw [HS.out, crcStep, if_pos H2.out, ← hx]; rfl
        . have hmi : ¬ (m : Int) < 8 := by omega
          obtain rfl : m = 8 := by omega
          clear hm hg hlm hmi HM
          obtain ⟨cs, hcs, hsz, hj⟩ := hrel.tab
          have hlt := HLT.out
          have hc0 : wr.cell? ⟨w.heap.size + 1, k, none⟩ = some (cs[k]'(by omega)) := by
            rw [cell_of_row wr _ k cs _ _ hcs]; exact Array.getElem?_eq_getElem (by omega)
          have hf0 := frozen_of_row wr _ k cs _ hcs
          have HR := Lib.hid (And.intro hrel (And.intro hcs (And.intro hsz hj)))
          obtain ⟨r8, h8⟩ : ∃ r, r = crcSteps 8 k := ⟨_, rfl⟩
          rw [← h8]
          have H8 := Lib.hid h8
          clear hrel hcs hj hlt h8
          go_wp2
          go_roundg (256 - (k + 1))
          case measure => have := HLT.out; omega
          case rel =>
            refine ⟨k + 1, rfl, by go_num, ?_⟩
            obtain ⟨hrel, hcs, hsz, hj⟩ := HR.out
            have hlt := HLT.out
            refine ⟨by omega, ?_, ⟨cs.setIfInBounds k (.int .u16 r8), heap_setCell_same wr _ _ cs _ _ hcs, by simp [hsz], ?_⟩, by simpa [World.setCell] using hrel.size, hrel.below.setCell (by simp) _⟩
            . rw [heap_setCell_other _ _ _ _ (by simp)]; exact hrel.out
            . intro j hjk
              by_cases hjk' : j = k
              . subst hjk'
                rw [Array.getElem?_setIfInBounds_self_of_lt (by omega), H8.out]; rfl
              . rw [Array.getElem?_setIfInBounds_ne (by omega)]
                exact hj j (by omega)
    . have hki : ¬ (k : Int) < 256 := by omega
      have hle := hrel.le
      obtain rfl : k = 256 := by omega
      obtain ⟨cs, hcs, hsz, hj⟩ := hrel.tab
      have HR := Lib.hid (And.intro hrel (And.intro hcs (And.intro hsz hj)))
      clear hlt hle hj hrel
      have hth : wr.there w.heap.size 0 cs.size := by
        have := there_of_block HR.out.1.out
        rw [Try.zeroCells138_size] at this
        rw [hsz]; exact this
      have hone : cs.all (·.oneCell') = true := by
        rw [Array.all_eq_true]
        intro i hi
        have := HR.out.2.2.2 i (by omega)
        rw [Array.getElem?_eq_getElem hi] at this
        injection this with this
        rw [this]; rfl
      have HT := Lib.hid (And.intro hth hone)
      clear hth hone
      go_wp2_with (first | (refine wpList_load_row rfl 138 _ rfl (w.heap.size + 1) rfl _ cs _ _ hcs Try.underlying138 rfl (by rw [hsz]; kernel_rfl) ?_) | (refine wpList_store_mid rfl 138 _ _ rfl w.heap.size 0 cs rfl rfl HT.out.1 (by rw [hsz]; kernel_rfl) HT.out.2 ?_))
      refine bodyPost_ret (results_cell_mid rfl _ _ w.heap.size 0 cs.toList _ rfl (World.rangeAt_setCells_same _ _ _ _ (by simpa using HT.out.1)) Try.underlying138 rfl (by rw [Array.length_toList, hsz]; kernel_rfl)) rfl ?_
      exact ⟨cs, rfl, hsz, HR.out.2.2.2, below_setCells (Nat.le_refl _) _ _ _ HR.out.1.below⟩
set_option maxHeartbeats 1000000 in
theorem crc_any (A : Option Addr) (n c : Nat) (xs : List UInt8) (w : World) (h : IsB w A n c xs) :
    Calls Try.prog 105 #[.slice A n c] w fun e w' => e = .returned (.int .u16 (crcInv xs : Int)) /\ Below w.heap.size w w' := by
  have hn := h.len63
  have HL := Lib.hid (IsB.len h)
  have H := Lib.hid h
  clear h
  go_enter Try.func105, Try.ntmps105
  go_wp2_with fail
  refine (table_any _).mono ?_
  rintro e w1 ⟨cs, rfl, hsz, hj, hb⟩
  have HJ := Lib.hid (And.intro hsz hj)
  have hth : (w1.alloc (.cells Try.zeroCells138 138)).there w1.heap.size 0 cs.size := by
    have := there_of_block (heap_alloc_new w1 (.cells Try.zeroCells138 138))
    rw [Try.zeroCells138_size] at this
    rw [hsz]; exact this
  have hone : cs.all (·.oneCell') = true := by
    rw [Array.all_eq_true]
    intro i hi
    have := hj i (by omega)
    rw [Array.getElem?_eq_getElem hi] at this
    injection this with this
    rw [this]; rfl
  have HT := Lib.hid (And.intro hth (And.intro hone hsz))
  clear hj hth hone hsz
  go_wp2_with (refine wpList_store_mid rfl 138 _ _ rfl w1.heap.size 0 cs rfl rfl HT.out.1 (by rw [HT.out.2.2]; kernel_rfl) HT.out.2.1 ?_)
  obtain ⟨W, hW⟩ : ∃ W, W = (w1.alloc (.cells Try.zeroCells138 138)).setCells w1.heap.size 0 cs.toList := ⟨_, rfl⟩
  have hbW : Below w.heap.size w W := by rw [hW]; exact below_setCells hb.size _ _ _ (hb.alloc hb.size _)
  have hcell : ∀ j : Nat, j < 256 -> W.cell? ⟨w1.heap.size, j, none⟩ = some (.int .u16 (crc8 j : Int)) := fun j hj => by
    have := World.rangeAt_setCells_same (w1.alloc (.cells Try.zeroCells138 138)) w1.heap.size 0 cs.toList (by simpa using HT.out.1) j _ (by rw [Array.getElem?_toList]; exact HJ.out.2 j hj)
    rw [hW]; simpa using this
  rw [← hW]
  have HW := Lib.hid (And.intro hbW hcell)
  clear hW hbW hcell hb
  go_loopg [4, 10] n (fun g r i wr => ∃ k, k <= n /\ g = n - k /\ i = .int .i64 (k : Int) /\ r = .int .u16 (crcN (xs.take k) : Int) /\ wr = W)
  case atStart => exact ⟨0, by omega, rfl, rfl, rfl, rfl⟩
  case round =>
    obtain ⟨k, hk, hg, rfl, rfl, rfl⟩ := hrel
    by_cases hlt : k < n
    . obtain ⟨x, b, off, hx, rfl, hc, hx8⟩ := IsB.at_ (Rd.below H.out HW.out.1) hlt
      have hr := crcN_lt (xs.take k)
      have hstep := crc8_byte (crcN (xs.take k)) x
      generalize hcr : crcN (xs.take k) = r at *
      have hd : r % 256 ^^^ x.toNat < 256 := Nat.xor_lt_two_pow (n := 8) (by omega) (by omega)
      have hx1 : bits .xor .u8 ((r : Int) % 256) (x.toNat : Int) = ((r % 256 ^^^ x.toNat : Nat) : Int) := u8_xor_nat (r % 256) x.toNat (by omega) (by omega)
      have hcd := HW.out.2 _ hd
      have ht := crc8_lt (r % 256 ^^^ x.toNat) (by omega)
      generalize r % 256 ^^^ x.toNat = d at *
      generalize crc8 d = t at *
      have hx2 : bits .xor .u16 ((r : Int) / 256) (t : Int) = ((r / 256 ^^^ t : Nat) : Int) := u16_xor_nat (r / 256) t (by omega) ht
      have hdi : (d : Int) < 256 := by omega
      have HR := Lib.hid (And.intro hr (And.intro hcr hstep))
      clear hr hcr hstep ht hd
      go_wp2
      go_roundg (n - (k + 1))
      case measure => omega
      case rel =>
        refine ⟨k + 1, by omega, rfl, by go_num, ?_, rfl⟩
        rw [take_snoc hx, crcN_snoc, HR.out.2.1, HR.out.2.2]
    . have hk' : k = xs.length := by have := HL.out; omega
      have hx := u16_crcInv (xs.take k)
      have HK := Lib.hid hk'
      clear hk'
      go_wp2
      go_ret
      exact ⟨by rw [HK.out, List.take_length]; rfl, HW.out.1⟩
end Go.Proofs.Ytilfphdeacogmaa

/- check.Sum: the walk. -/
namespace Go.Proofs.Ytilfphdeacogmaa
open Go.RowKit
theorem own_lit {w : World} {B : Nat} {e : TypeId} (vs : List Value) (hB : B <= w.heap.size) (hm : vs.length <= 1000) : Own (w.alloc (.cells vs.toArray e)) B e (some ⟨w.heap.size, 0, none⟩) vs.length vs.length vs := by
  have h := World.ownsRow_lit (base := B) (e := e) (size := 1) w vs.toArray vs.length hB (by unfold maxLen; omega) (by simp)
  simpa using h
set_option maxHeartbeats 400000 in
theorem sum_any (k : Int) (A : Option Addr) (n c : Nat) (xs : List UInt8) (w : World) (h : IsB w A n c xs) :
    Calls Try.prog 98 #[.int .i64 k, .slice A n c] w fun e w' => ∃ A' n' c', e = .returned (.tuple #[.slice A' n' c', .int .i64 (sumE k)]) /\ Own w' w.heap.size 5 A' n' c' ((sumB k xs).map u8) /\ Below w.heap.size w w' := by
  by_cases h0 : k = 0
  . subst h0
    go_enter Try.func98, Try.ntmps98
    go_wp2_with fail
    refine (lrc_any A n c xs _ h).mono ?_
    rintro e w1 ⟨rfl, rfl⟩
    go_wp2_with fail
    go_ret2
    exact ⟨_, _, _, rfl, own_lit [u8 (lrcB xs)] (Nat.le_refl _) (by simp), (Below.refl _ _).alloc (Nat.le_refl _) _⟩
  by_cases h1 : k = 1
  . subst h1
    go_enter Try.func98, Try.ntmps98
    go_wp2_with fail
    refine (crc_any A n c xs _ h).mono ?_
    rintro e w1 ⟨rfl, hb⟩
    have hlt := crcInv_lt xs
    have hr : (crcInv xs : Int) < 65536 := by omega
    have HC := Lib.hid (And.intro (crcLo_toNat xs) (And.intro (crcHi_toNat xs) hlt))
    clear hlt
    go_wp2_with fail
    go_ret2
    refine ⟨_, _, _, rfl, ?_, hb.alloc hb.size _⟩
    have e1 : u8 (crcLo xs) = .int .u8 ((crcInv xs : Int) % 256) := by rw [u8, HC.out.1]; rfl
    have e2 : u8 (crcHi xs) = .int .u8 ((crcInv xs : Int) / 256) := by rw [u8, HC.out.2.1]; rfl
    have h := own_lit (w := w1) (B := w.heap.size) (e := 5) [u8 (crcLo xs), u8 (crcHi xs)] hb.size (by simp)
    show Own _ _ _ _ 2 2 [u8 (crcLo xs), u8 (crcHi xs)]
    rw [e1, e2]
    rw [e1, e2] at h
    exact h
  have h0' : (k == 0) = false := by simp [h0]
  have h1' : (k == 1) = false := by simp [h1]
  have hs : sumB k xs = [] := by simp [sumB, h0, h1]
  have he : sumE k = 1 := by simp [sumE, h0, h1]
  rw [hs, he]
  clear hs he h0 h1
  go_enter Try.func98, Try.ntmps98
  go_wp2_with fail
  go_ret2
  exact ⟨none, 0, 0, rfl, Own.nil _ _, Below.refl _ _⟩
end Go.Proofs.Ytilfphdeacogmaa

/- bytes.Equal, slices.Clone of bytes: the walks. -/
namespace Go.Proofs.Ytilfphdeacogmaa
open Go.RowKit
set_option maxHeartbeats 400000 in
theorem equal_any (A : Option Addr) (n c : Nat) (xs : List UInt8) (A' : Option Addr) (n' c' : Nat) (ys : List UInt8) (w : World) (h : IsB w A n c xs) (h' : IsB w A' n' c' ys) :
    Calls Try.prog 80 #[.slice A n c, .slice A' n' c'] w fun e w' => e = .returned (.bool (decide (xs = ys))) /\ w = w' := by
  have k1 := run_convert_rd (P := Try.prog) h 27 5 9 Try.underlying27 Try.underlying5 Try.underlying9
  have k2 := run_convert_rd (P := Try.prog) h' 27 5 9 Try.underlying27 Try.underlying5 Try.underlying9
  clear h h'
  go_enter Try.func80, Try.ntmps80
  go_wp2_with fail
  go_ret
  exact ⟨ret_bool (by rw [Bool.eq_iff_iff]; simp), rfl⟩
set_option maxHeartbeats 400000 in
theorem clone_any (A : Option Addr) (n c : Nat) (xs : List UInt8) (w : World) (h : IsB w A n c xs) (hn : xs.length <= 1000000) :
    Calls Try.prog 60 #[.slice A n c] w fun e w' => ∃ A' n' c', e = .returned (.slice A' n' c') /\ Own w' w.heap.size 5 A' n' c' (xs.map u8) /\ Below w.heap.size w w' := by
  obtain ⟨i0, hi0, hz0, hz1, hz2⟩ := info_parts info8
  have hl := IsB.len h
  have H := Lib.hid h
  have HI := Lib.hid (And.intro hi0 (And.intro hz0 (And.intro hz1 hz2)))
  have HL := Lib.hid hl
  clear h hi0 hz0 hz1 hz2 hl
  have qT : ∀ (w : World) (a : Option Addr) (n c n' c' : Nat), (binOp .eql 27 (.slice a n c) (.slice none n' c')).run Try.prog w = .ok (.bool a.isNone) w := fun w a n c n' c' => Lib.run_eql_slice_nil w _ _ a n c n' c' Try.underlying27
  cases A with
  | none =>
    have h0 : xs = [] := by
      have hr := H.out
      rcases xs with _ | ⟨x, xs⟩
      . rfl
      . obtain ⟨b, off, hA, _⟩ := Rd.at_ hr 0 (u8 x) rfl
        cases hA
    subst h0
    go_enter Try.func60, Try.ntmps60
    go_wp2_with fail
    go_ret
    exact ⟨none, 0, 0, rfl, Own.nil _ _, Below.refl _ _⟩
  | some a =>
    go_enter Try.func60, Try.ntmps60
    have hown := own_lit (w := w) (B := w.heap.size) (e := 5) [] (Nat.le_refl _) (by simp)
    have HO := Lib.hid hown
    clear hown
    have hn' : n <= 1000000 := by have := HL.out; omega
    go_wp2_with (at_builtin; refine wpList_append_rd _ rfl (.tmp 5) (.tmp 6) 27 rfl w.heap.size 5 i0 _ 1 Try.underlying27 HI.out.1 HI.out.2.1 HI.out.2.2.1 HI.out.2.2.2 rfl (some ⟨w.heap.size, 0, none⟩) 0 0 [] rfl HO.out (some a) n c _ rfl (H.out.alloc _) (u8_one _) ?_ (by omega) (by simp) ?_)
    case _ => omega
    intro A3 c3 w3 hown3 hg3 _
    have hb3 : Below w.heap.size w w3 := ((Below.refl _ _).alloc (Nat.le_refl _) _).grown hg3 (by simp) (by simp [Value.ownBlock])
    go_wp2
    go_ret
    exact ⟨A3, 0 + n, c3, by simp, by simpa using hown3, hb3⟩
end Go.Proofs.Ytilfphdeacogmaa

/- check.Append, check.Remove: the walks. -/
namespace Go.Proofs.Ytilfphdeacogmaa
open Go.RowKit
set_option maxHeartbeats 400000 in
theorem append_ok (k : Int) (hk : k = 0 ∨ k = 1) (A : Option Addr) (n c : Nat) (xs : List UInt8) (w : World) (h : IsB w A n c xs) (hx : xs.length <= 900000) :
    Calls Try.prog 103 #[.int .i64 k, .slice A n c] w fun e w' => ∃ A' n' c', e = .returned (.tuple #[.slice A' n' c', .int .i64 0]) /\ Own w' w.heap.size 5 A' n' c' ((xs ++ sumB k xs).map u8) /\ Below w.heap.size w w' := by
  have he : sumE k = 0 := by unfold sumE; rw [if_pos hk]
  have hlen : (xs ++ sumB k xs).length <= 1000000 := by
    rw [List.length_append, sumB_length]; unfold sizeN; (split <;> (try split) <;> omega)
  go_enter Try.func103, Try.ntmps103
  go_wp2_with fail
  refine (sum_any k A n c xs _ h).mono ?_
  rintro e w1 ⟨A1, n1, c1, rfl, ho, hb⟩
  rw [he]
  have HB := Lib.hid hb
  have H1 := Lib.hid (IsBB.lit2 (e := 27) (h.below hb) ho.rd)
  clear hb ho he
  have HX := Lib.hid hlen
  clear hlen
  go_wp2_with fail
  refine (join_any _ _ _ [xs, sumB k xs] _ H1.out (by simpa using HX.out)).mono ?_
  rintro e w2 ⟨A2, n2, c2, rfl, ho2, hb2⟩
  go_wp2_with fail
  go_ret2
  refine ⟨A2, n2, c2, rfl, ?_, (HB.out.alloc HB.out.size _).trans (hb2.mono (by have := HB.out.size; simp; omega))⟩
  have := ho2.base (B' := w.heap.size) (by have := HB.out.size; simp; omega)
  simpa using this
theorem sizeI_eq (k : Int) : sizeI k = (sizeN k : Int) := by unfold sizeI sizeN; split <;> (try split) <;> rfl
theorem sizeN_pos (k : Int) (h : k = 0 ∨ k = 1) : 0 < sizeN k /\ sizeN k <= 2 := by rcases h with rfl | rfl <;> decide
set_option maxHeartbeats 400000 in
theorem remove_ok (k : Int) (hk : k = 0 ∨ k = 1) (A : Option Addr) (m s c : Nat) (hs : sizeN k = s) (xs : List UInt8) (w : World) (h : IsB w A (m + s) c xs) (hx : xs.length <= 900000) (heq : sumB k (xs.take m) = xs.drop m) :
    Calls Try.prog 92 #[.int .i64 k, .slice A (m + s) c] w fun e w' => ∃ A' n' c', e = .returned (.tuple #[.slice A' n' c', .int .i64 0]) /\ Own w' w.heap.size 5 A' n' c' ((xs.take m).map u8) /\ Below w.heap.size w w' := by
  have hd : decide (sumB k (xs.take m) = xs.drop m) = true := decide_eq_true heq
  clear heq
  have hp := sizeN_pos k hk
  have he : sumE k = 0 := by unfold sumE; rw [if_pos hk]
  have hcap := h.cap
  have h63 := h.len63
  have h1 : IsB w A m c (xs.take m) := IsB.take h (by omega)
  have h2 : IsB w (A.map (·.add m)) s (c - m) (xs.drop m) := by
    have := IsB.cut h (k := m) (by omega)
    rwa [if_neg (by omega), Nat.add_sub_cancel_left] at this
  go_enter Try.func92, Try.ntmps92
  go_wp2_with fail
  refine (size_any k _).mono ?_
  rintro e w1 ⟨rfl, rfl⟩
  rw [sizeI_eq, hs]
  rw [hs] at hp
  have h0 : ((s : Int) == 0) = false := by simp; omega
  have H := Lib.hid (And.intro hs (And.intro h1 (And.intro h2 he)))
  clear hs h1 h2 he
  go_wp2_with fail
  refine (sum_any k A m c _ _ H.out.2.1).mono ?_
  rintro e w1 ⟨A1, n1, c1, rfl, ho, hb⟩
  rw [H.out.2.2.2]
  have HB := Lib.hid (And.intro ho hb)
  clear ho hb
  go_wp2_with fail
  refine (equal_any _ _ _ _ _ _ _ _ _ HB.out.1.rd (Rd.below H.out.2.2.1 HB.out.2)).mono ?_
  rintro e w2 ⟨rfl, rfl⟩
  rw [hd]
  clear hd
  have HJ := Lib.hid (IsBB.lit1 (e := 27) (Rd.below H.out.2.1 HB.out.2))
  have HL : Hid (([xs.take m] : List (List UInt8)).flatten.length <= 1000000) := by
    show _ <= _
    simp; omega
  go_wp2_with fail
  refine (join_any _ _ _ [xs.take m] _ HJ.out HL.out).mono ?_
  rintro e w2 ⟨A2, n2, c2, rfl, ho2, hb2⟩
  have HO := Lib.hid (And.intro ho2 hb2)
  clear ho2 hb2
  go_wp2_with fail
  go_ret2
  obtain ⟨ho2, hb2⟩ := HO.out
  have hb := HB.out.2
  refine ⟨A2, n2, c2, rfl, ?_, (hb.alloc hb.size _).trans (hb2.mono (by have := hb.size; simp; omega))⟩
  have := ho2.base (B' := w.heap.size) (by have := hb.size; simp; omega)
  simpa using this
set_option maxHeartbeats 400000 in
theorem remove_sum (k : Int) (hk : k = 0 ∨ k = 1) (A : Option Addr) (m s c : Nat) (hs : sizeN k = s) (xs : List UInt8) (w : World) (h : IsB w A (m + s) c xs) (heq : ¬ sumB k (xs.take m) = xs.drop m) :
    Calls Try.prog 92 #[.int .i64 k, .slice A (m + s) c] w fun e w' => e = .returned (.tuple #[.slice none 0 0, .int .i64 6]) /\ Below w.heap.size w w' := by
  have hd : decide (sumB k (xs.take m) = xs.drop m) = false := decide_eq_false heq
  clear heq
  have hp := sizeN_pos k hk
  have he : sumE k = 0 := by unfold sumE; rw [if_pos hk]
  have hcap := h.cap
  have h63 := h.len63
  have h1 : IsB w A m c (xs.take m) := IsB.take h (by omega)
  have h2 : IsB w (A.map (·.add m)) s (c - m) (xs.drop m) := by
    have := IsB.cut h (k := m) (by omega)
    rwa [if_neg (by omega), Nat.add_sub_cancel_left] at this
  go_enter Try.func92, Try.ntmps92
  go_wp2_with fail
  refine (size_any k _).mono ?_
  rintro e w1 ⟨rfl, rfl⟩
  rw [sizeI_eq, hs]
  rw [hs] at hp
  have h0 : ((s : Int) == 0) = false := by simp; omega
  have H := Lib.hid (And.intro hs (And.intro h1 (And.intro h2 he)))
  clear hs h1 h2 he
  go_wp2_with fail
  refine (sum_any k A m c _ _ H.out.2.1).mono ?_
  rintro e w1 ⟨A1, n1, c1, rfl, ho, hb⟩
  rw [H.out.2.2.2]
  have HB := Lib.hid (And.intro ho hb)
  clear ho hb
  go_wp2_with fail
  refine (equal_any _ _ _ _ _ _ _ _ _ HB.out.1.rd (Rd.below H.out.2.2.1 HB.out.2)).mono ?_
  rintro e w2 ⟨rfl, rfl⟩
  rw [hd]
  clear hd
  go_wp2_with fail
  go_ret2
  exact ⟨rfl, HB.out.2⟩
end Go.Proofs.Ytilfphdeacogmaa

/- The reference's check values (smartcardref03): the walks. -/
namespace Go.Proofs.Ytilfphdeacogmaa
open Go.RowKit
end Go.Proofs.Ytilfphdeacogmaa

/- smartcard/block: kindOf, codes, flag, infField, Check: the walks. -/
namespace Go.Proofs.Ytilfphdeacogmaa
open Go.RowKit
def infE (kind code : Int) (inf : List UInt8) : Int :=
  if kind = 0 then (if 254 < inf.length then 3 else 0)
  else if kind = 1 ∨ code = 0 ∨ code = 2 then (if inf.length = 0 then 0 else 4)
  else if inf.length = 1 /\ 1 <= (inf.getD 0 0).toNat /\ (code = 1 -> (inf.getD 0 0).toNat <= 254) then 0 else 4
def checkE (nad kind seq : Int) (more : Bool) (code : Int) (answer : Bool) (inf : List UInt8) : Int :=
  if kind < 0 ∨ 2 < kind then 1
  else if nad < 0 ∨ 254 < nad then 2
  else if kind ≠ 2 /\ (seq < 0 ∨ 1 < seq) then 2
  else if kind ≠ 0 /\ (code < 0 ∨ (if kind = 1 then 3 else 4) <= code) then 2
  else if (kind = 2 /\ seq ≠ 0) ∨ (kind = 0 /\ code ≠ 0) ∨ (kind ≠ 0 /\ more = true) ∨ (kind ≠ 2 /\ answer = true) then 4
  else infE kind code inf
theorem ta_II (w : World) : (Instr.typeAssert (.iface 129 (.agg #[])) 125 129 true).run Try.prog w = .ok (.tuple #[.agg #[], .bool true]) w := by kernel_rfl
theorem ta_IR (w : World) : (Instr.typeAssert (.iface 129 (.agg #[])) 125 128 true).run Try.prog w = .ok (.tuple #[.agg #[], .bool false]) w := by kernel_rfl
theorem ta_IS (w : World) : (Instr.typeAssert (.iface 129 (.agg #[])) 125 127 true).run Try.prog w = .ok (.tuple #[.agg #[], .bool false]) w := by kernel_rfl
theorem ta_RI (w : World) : (Instr.typeAssert (.iface 128 (.agg #[])) 125 129 true).run Try.prog w = .ok (.tuple #[.agg #[], .bool false]) w := by kernel_rfl
theorem ta_RR (w : World) : (Instr.typeAssert (.iface 128 (.agg #[])) 125 128 true).run Try.prog w = .ok (.tuple #[.agg #[], .bool true]) w := by kernel_rfl
theorem ta_RS (w : World) : (Instr.typeAssert (.iface 128 (.agg #[])) 125 127 true).run Try.prog w = .ok (.tuple #[.agg #[], .bool false]) w := by kernel_rfl
theorem ta_SI (w : World) : (Instr.typeAssert (.iface 127 (.agg #[])) 125 129 true).run Try.prog w = .ok (.tuple #[.agg #[], .bool false]) w := by kernel_rfl
theorem ta_SR (w : World) : (Instr.typeAssert (.iface 127 (.agg #[])) 125 128 true).run Try.prog w = .ok (.tuple #[.agg #[], .bool false]) w := by kernel_rfl
theorem ta_SS (w : World) : (Instr.typeAssert (.iface 127 (.agg #[])) 125 127 true).run Try.prog w = .ok (.tuple #[.agg #[], .bool true]) w := by kernel_rfl
theorem ta_NI (w : World) : (Instr.typeAssert (.nilIface) 125 129 true).run Try.prog w = .ok (.tuple #[.agg #[], .bool false]) w := by kernel_rfl
theorem ta_NR (w : World) : (Instr.typeAssert (.nilIface) 125 128 true).run Try.prog w = .ok (.tuple #[.agg #[], .bool false]) w := by kernel_rfl
theorem ta_NS (w : World) : (Instr.typeAssert (.nilIface) 125 127 true).run Try.prog w = .ok (.tuple #[.agg #[], .bool false]) w := by kernel_rfl
attribute [local go_sem] ta_II ta_IR ta_IS ta_RI ta_RR ta_RS ta_SI ta_SR ta_SS ta_NI ta_NR ta_NS
theorem codes_R (w : World) : Calls Try.prog 100 #[.iface 128 (.agg #[])] w fun e w' => e = .returned (.int .i64 3) /\ w' = w := by
  go_enter Try.func100, Try.ntmps100
  go_wp2
  go_ret
  exact ⟨rfl, rfl⟩
theorem codes_S (w : World) : Calls Try.prog 100 #[.iface 127 (.agg #[])] w fun e w' => e = .returned (.int .i64 4) /\ w' = w := by
  go_enter Try.func100, Try.ntmps100
  go_wp2
  go_ret
  exact ⟨rfl, rfl⟩
theorem codes_I (w : World) : Calls Try.prog 100 #[.iface 129 (.agg #[])] w fun e w' => e = .returned (.int .i64 0) /\ w' = w := by
  go_enter Try.func100, Try.ntmps100
  go_wp2
  go_ret
  exact ⟨rfl, rfl⟩
set_option maxHeartbeats 400000 in
theorem inf_I (nad kind seq : Int) (more : Bool) (code : Int) (answer : Bool) (A : Option Addr) (n c : Nat) (inf : List UInt8) (w : World) (h : IsB w A n c inf) :
    Calls Try.prog 102 #[.iface 129 (.agg #[]), .agg #[.int .i64 nad, .int .i64 kind, .int .i64 seq, .bool more, .int .i64 code, .bool answer, .slice A n c]] w
      fun e w' => e = .returned (.int .i64 (infE 0 code inf)) /\ Below w.heap.size w w' := by
  have hl := IsB.len h
  by_cases h1 : 254 < n
  . have HV : Hid (infE 0 code inf = 3) := by show _ = _; unfold infE; rw [if_pos rfl, if_pos (by omega)]
    clear hl
    go_enter Try.func102, Try.ntmps102
    go_wp2
    go_ret
    exact ⟨ret_i64 HV.out.symm, (Below.refl _ _).alloc (Nat.le_refl _) _⟩
  . have HV : Hid (infE 0 code inf = 0) := by show _ = _; unfold infE; rw [if_pos rfl, if_neg (by omega)]
    clear hl
    go_enter Try.func102, Try.ntmps102
    go_wp2
    go_ret
    exact ⟨ret_i64 HV.out.symm, (Below.refl _ _).alloc (Nat.le_refl _) _⟩
set_option maxHeartbeats 400000 in
theorem inf_R (nad kind seq : Int) (more : Bool) (code : Int) (answer : Bool) (A : Option Addr) (n c : Nat) (inf : List UInt8) (w : World) (h : IsB w A n c inf) :
    Calls Try.prog 102 #[.iface 128 (.agg #[]), .agg #[.int .i64 nad, .int .i64 kind, .int .i64 seq, .bool more, .int .i64 code, .bool answer, .slice A n c]] w
      fun e w' => e = .returned (.int .i64 (infE 1 code inf)) /\ Below w.heap.size w w' := by
  have hl := IsB.len h
  by_cases h1 : n = 0
  . subst h1
    have HV : Hid (infE 1 code inf = 0) := by show _ = _; unfold infE; rw [if_neg (by omega), if_pos (by omega), if_pos (by omega)]
    clear hl
    go_enter Try.func102, Try.ntmps102
    go_wp2
    go_ret
    exact ⟨ret_i64 HV.out.symm, (Below.refl _ _).alloc (Nat.le_refl _) _⟩
  . have HV : Hid (infE 1 code inf = 4) := by show _ = _; unfold infE; rw [if_neg (by omega), if_pos (by omega), if_neg (by omega)]
    have h1' : ((n : Int) == 0) = false := by simp; omega
    clear hl
    go_enter Try.func102, Try.ntmps102
    go_wp2
    go_ret
    exact ⟨ret_i64 HV.out.symm, (Below.refl _ _).alloc (Nat.le_refl _) _⟩
theorem getD_of_get {xs : List UInt8} {k : Nat} {x : UInt8} (h : Hid (xs[k]? = some x)) : xs.getD k 0 = x := by
  rw [List.getD_eq_getElem?_getD, h.out]; rfl
set_option maxHeartbeats 1000000 in
theorem inf_S (nad kind seq : Int) (more : Bool) (code : Int) (answer : Bool) (A : Option Addr) (n c : Nat) (inf : List UInt8) (w : World) (h : IsB w A n c inf) (h0 : 0 <= code) (h3 : code <= 3) :
    Calls Try.prog 102 #[.iface 127 (.agg #[]), .agg #[.int .i64 nad, .int .i64 kind, .int .i64 seq, .bool more, .int .i64 code, .bool answer, .slice A n c]] w
      fun e w' => e = .returned (.int .i64 (infE 2 code inf)) /\ Below w.heap.size w w' := by
  have hl := IsB.len h
  by_cases hc : code = 0 ∨ code = 2
  . have hc1 : (code == 1) = false := by simp; omega
    have hc3 : (code == 3) = false := by simp; omega
    by_cases h1 : n = 0
    . subst h1
      have HV : Hid (infE 2 code inf = 0) := by show _ = _; unfold infE; rw [if_neg (by omega), if_pos (by omega), if_pos (by omega)]
      clear hl hc h0 h3
      go_enter Try.func102, Try.ntmps102
      go_wp2
      go_ret
      exact ⟨ret_i64 HV.out.symm, (Below.refl _ _).alloc (Nat.le_refl _) _⟩
    . have HV : Hid (infE 2 code inf = 4) := by show _ = _; unfold infE; rw [if_neg (by omega), if_pos (by omega), if_neg (by omega)]
      have h1' : ((n : Int) == 0) = false := by simp; omega
      clear hl hc h0 h3 h1
      go_enter Try.func102, Try.ntmps102
      go_wp2
      go_ret
      exact ⟨ret_i64 HV.out.symm, (Below.refl _ _).alloc (Nat.le_refl _) _⟩
  . by_cases h1 : n = 1
    . subst h1
      obtain ⟨x, b, off, hx, rfl, hcx, hx8⟩ := IsB.at_ h (show 0 < 1 by omega)
      have hgx := getD_of_get hx
      obtain ⟨a, ha⟩ : ∃ a, a = x.toNat := ⟨_, rfl⟩
      rw [← ha] at hcx hx8
      have hV : infE 2 code inf = if 1 <= a /\ (code = 1 -> a <= 254) then 0 else 4 := by
        unfold infE
        rw [if_neg (by omega), if_neg (by omega), hgx, ← ha]
        by_cases hq : 1 <= a /\ (code = 1 -> a <= 254)
        . rw [if_pos hq, if_pos ⟨hl, hq.1, hq.2⟩]
        . rw [if_neg hq, if_neg (fun h => hq ⟨h.2.1, h.2.2⟩)]
      rw [Nat.add_zero] at hcx
      have hb := World.block_lt_of_cell? w _ hcx
      have hc2 : (w.alloc (.cells #[.int .i64 nad, .int .i64 kind, .int .i64 seq, .bool more, .int .i64 code, .bool answer, .slice (some ⟨b, off, none⟩) 1 c] 29)).cell? ⟨b, off, none⟩ = some (.int .u8 (a : Int)) := by
        rw [World.cell?_alloc_lt _ _ _ hb]; exact hcx
      clear hl hgx ha hx
      by_cases hc1 : code = 1
      . subst hc1
        by_cases hq : 1 <= a /\ a <= 254
        . have HV := Lib.hid (hV.trans (if_pos ⟨hq.1, fun _ => hq.2⟩))
          have hi1 : (1 : Int) <= a := by omega
          have hi2 : (a : Int) <= 254 := by omega
          clear hV hq hc h0 h3
          go_enter Try.func102, Try.ntmps102
          go_wp2
          go_ret
          exact ⟨ret_i64 HV.out.symm, (Below.refl _ _).alloc (Nat.le_refl _) _⟩
        . have HV := Lib.hid (hV.trans (if_neg (by omega)))
          by_cases hi1 : (1 : Int) <= a
          . have hi2 : ¬ (a : Int) <= 254 := by omega
            clear hV hq hc h0 h3
            go_enter Try.func102, Try.ntmps102
            go_wp2
            go_ret
            exact ⟨ret_i64 HV.out.symm, (Below.refl _ _).alloc (Nat.le_refl _) _⟩
          . clear hV hq hc h0 h3
            go_enter Try.func102, Try.ntmps102
            go_wp2
            go_ret
            exact ⟨ret_i64 HV.out.symm, (Below.refl _ _).alloc (Nat.le_refl _) _⟩
      . obtain rfl : code = 3 := by omega
        by_cases hq : 1 <= a
        . have HV := Lib.hid (hV.trans (if_pos ⟨hq, fun h => absurd h (by omega)⟩))
          have hi1 : (1 : Int) <= a := by omega
          have hi2 : (a : Int) <= 255 := by omega
          clear hV hq hc h0 h3 hc1
          go_enter Try.func102, Try.ntmps102
          go_wp2
          go_ret
          exact ⟨ret_i64 HV.out.symm, (Below.refl _ _).alloc (Nat.le_refl _) _⟩
        . have HV := Lib.hid (hV.trans (if_neg (by omega)))
          have hi1 : ¬ (1 : Int) <= a := by omega
          clear hV hq hc h0 h3 hc1
          go_enter Try.func102, Try.ntmps102
          go_wp2
          go_ret
          exact ⟨ret_i64 HV.out.symm, (Below.refl _ _).alloc (Nat.le_refl _) _⟩
    . have HV : Hid (infE 2 code inf = 4) := by show _ = _; unfold infE; rw [if_neg (by omega), if_neg (by omega), if_neg (by omega)]
      have h1' : ((n : Int) == 1) = false := by simp; omega
      clear hl h1
      by_cases hc1 : code = 1
      . subst hc1
        clear hc h0 h3
        go_enter Try.func102, Try.ntmps102
        go_wp2
        go_ret
        exact ⟨ret_i64 HV.out.symm, (Below.refl _ _).alloc (Nat.le_refl _) _⟩
      . obtain rfl : code = 3 := by omega
        clear hc h0 h3 hc1
        go_enter Try.func102, Try.ntmps102
        go_wp2
        go_ret
        exact ⟨ret_i64 HV.out.symm, (Below.refl _ _).alloc (Nat.le_refl _) _⟩
end Go.Proofs.Ytilfphdeacogmaa

/- smartcard/block.Check: the walk, path by path (printed by wip/gen/check.py). -/
namespace Go.Proofs.Ytilfphdeacogmaa
open Go.RowKit
set_option linter.unusedVariables false
attribute [local go_sem] ta_II ta_IR ta_IS ta_RI ta_RR ta_RS ta_SI ta_SR ta_SS ta_NI ta_NR ta_NS
abbrev Ck (f : FuncId) (kind nad seq : Int) (more : Bool) (code : Int) (answer : Bool) (A : Option Addr) (n c : Nat) (w : World) (r : Int) : Prop := Calls Try.prog f #[.agg #[.int .i64 nad, .int .i64 kind, .int .i64 seq, .bool more, .int .i64 code, .bool answer, .slice A n c]] w fun e w' => e = .returned (.int .i64 r) /\ Below w.heap.size w w'
set_option maxHeartbeats 1000000
theorem check_N (nad seq kind : Int) (more : Bool) (code : Int) (answer : Bool) (A : Option Addr) (n c : Nat) (inf : List UInt8) (w : World) (hk : kind < 0 ∨ 2 < kind) :
    Ck 94 kind nad seq more code answer A n c w (checkE nad kind seq more code answer inf) := by
  have HV : Hid (checkE nad kind seq more code answer inf = 1) := by show _ = _; unfold checkE; rw [if_pos hk]
  have h1 : (kind == 0) = false := by simp; omega
  have h2 : (kind == 1) = false := by simp; omega
  have h3 : (kind == 2) = false := by simp; omega
  clear hk
  go_enter Try.func94, Try.ntmps94
  go_wp2_with (first | (go_at_call 101; go_in) | fail)
  go_ret
  exact ⟨ret_i64 HV.out.symm, (((Below.refl _ _).alloc (Nat.le_refl _) _).alloc (by simp) _).alloc (by simp; omega) _⟩
section
variable (nad seq : Int) (more : Bool) (code : Int) (answer : Bool) (A : Option Addr) (n c : Nat) (inf : List UInt8) (w : World)
theorem check_I_0 (h : IsB w A n c inf)
    (h_nadlo : nad < 0) :
    Ck 94 0 nad seq more code answer A n c w (checkE nad 0 seq more code answer inf) := by
  have HV : Hid (checkE nad 0 seq more code answer inf = 2) := by
    show _ = _
    unfold checkE
    simp_all <;> (try omega)
  go_enter Try.func94, Try.ntmps94
  go_wp2_with (first | (go_at_call 101; go_in) | fail)
  go_ret
  exact ⟨ret_i64 HV.out.symm, (((Below.refl _ _).alloc (Nat.le_refl _) _).alloc (by simp) _).alloc (by simp; omega) _⟩
theorem check_I_1 (h : IsB w A n c inf)
    (h_nadlo : ¬ (nad < 0)) (h_nadhi : 254 < nad) :
    Ck 94 0 nad seq more code answer A n c w (checkE nad 0 seq more code answer inf) := by
  have HV : Hid (checkE nad 0 seq more code answer inf = 2) := by
    show _ = _
    unfold checkE
    simp_all <;> (try omega)
  go_enter Try.func94, Try.ntmps94
  go_wp2_with (first | (go_at_call 101; go_in) | fail)
  go_ret
  exact ⟨ret_i64 HV.out.symm, (((Below.refl _ _).alloc (Nat.le_refl _) _).alloc (by simp) _).alloc (by simp; omega) _⟩
theorem check_I_2 (h : IsB w A n c inf)
    (h_nadlo : ¬ (nad < 0)) (h_nadhi : ¬ (254 < nad)) (h_seqlo : seq < 0) :
    Ck 94 0 nad seq more code answer A n c w (checkE nad 0 seq more code answer inf) := by
  have HV : Hid (checkE nad 0 seq more code answer inf = 2) := by
    show _ = _
    unfold checkE
    simp_all <;> (try omega)
  go_enter Try.func94, Try.ntmps94
  go_wp2_with (first | (go_at_call 101; go_in) | fail)
  go_ret
  exact ⟨ret_i64 HV.out.symm, (((Below.refl _ _).alloc (Nat.le_refl _) _).alloc (by simp) _).alloc (by simp; omega) _⟩
theorem check_I_3 (h : IsB w A n c inf)
    (h_nadlo : ¬ (nad < 0)) (h_nadhi : ¬ (254 < nad)) (h_seqlo : ¬ (seq < 0)) (h_seqhi : 1 < seq) :
    Ck 94 0 nad seq more code answer A n c w (checkE nad 0 seq more code answer inf) := by
  have HV : Hid (checkE nad 0 seq more code answer inf = 2) := by
    show _ = _
    unfold checkE
    simp_all <;> (try omega)
  go_enter Try.func94, Try.ntmps94
  go_wp2_with (first | (go_at_call 101; go_in) | fail)
  go_ret
  exact ⟨ret_i64 HV.out.symm, (((Below.refl _ _).alloc (Nat.le_refl _) _).alloc (by simp) _).alloc (by simp; omega) _⟩
theorem check_I_4 (h : IsB w A n c inf)
    (h_nadlo : ¬ (nad < 0)) (h_nadhi : ¬ (254 < nad)) (h_seqlo : ¬ (seq < 0)) (h_seqhi : ¬ (1 < seq)) (h_code0 : ¬ (code = 0)) :
    Ck 94 0 nad seq more code answer A n c w (checkE nad 0 seq more code answer inf) := by
  have HV : Hid (checkE nad 0 seq more code answer inf = 4) := by
    show _ = _
    unfold checkE
    simp_all <;> (try omega)
  have b_code0 : (code != 0) = true := by simp; omega
  go_enter Try.func94, Try.ntmps94
  go_wp2_with (first | (go_at_call 101; go_in) | fail)
  go_quiet (fail)
  go_wp2_with fail
  go_ret
  exact ⟨ret_i64 HV.out.symm, Below.drewN' ((((Below.refl _ _).alloc (Nat.le_refl _) _).alloc (by simp) _).alloc (by simp; omega) _) _⟩
theorem check_I_5 (h : IsB w A n c inf)
    (h_nadlo : ¬ (nad < 0)) (h_nadhi : ¬ (254 < nad)) (h_seqlo : ¬ (seq < 0)) (h_seqhi : ¬ (1 < seq)) (h_code0 : code = 0) (h_answer : answer = true) :
    Ck 94 0 nad seq more code answer A n c w (checkE nad 0 seq more code answer inf) := by
  have HV : Hid (checkE nad 0 seq more code answer inf = 4) := by
    show _ = _
    unfold checkE
    simp_all <;> (try omega)
  subst h_code0
  subst h_answer
  go_enter Try.func94, Try.ntmps94
  go_wp2_with (first | (go_at_call 101; go_in) | fail)
  go_quiet (fail)
  go_wp2_with fail
  go_ret
  exact ⟨ret_i64 HV.out.symm, Below.drewN' ((((Below.refl _ _).alloc (Nat.le_refl _) _).alloc (by simp) _).alloc (by simp; omega) _) _⟩
theorem check_I_6 (h : IsB w A n c inf)
    (h_nadlo : ¬ (nad < 0)) (h_nadhi : ¬ (254 < nad)) (h_seqlo : ¬ (seq < 0)) (h_seqhi : ¬ (1 < seq)) (h_code0 : code = 0) (h_answer : ¬ (answer = true)) :
    Ck 94 0 nad seq more code answer A n c w (checkE nad 0 seq more code answer inf) := by
  have HV : Hid (checkE nad 0 seq more code answer inf = infE 0 code inf) := by
    show _ = _
    unfold checkE
    simp_all <;> (try omega)
  subst h_code0
  obtain rfl : answer = false := by simpa using h_answer
  go_enter Try.func94, Try.ntmps94
  go_wp2_with (first | (go_at_call 101; go_in) | fail)
  go_quiet (fail)
  go_wp2_with fail
  refine (inf_I _ _ _ _ _ _ _ _ _ inf _ (Rd.drewN (((h.alloc _).alloc _).alloc _) _)).mono ?_
  rintro e w1 ⟨rfl, hb⟩
  go_wp2_with fail
  go_ret
  exact ⟨ret_i64 HV.out.symm, (Below.drewN' ((((Below.refl _ _).alloc (Nat.le_refl _) _).alloc (by simp) _).alloc (by simp; omega) _) _).trans (hb.mono (by simp; omega))⟩
theorem check_R_0 (h : IsB w A n c inf)
    (h_nadlo : nad < 0) :
    Ck 94 1 nad seq more code answer A n c w (checkE nad 1 seq more code answer inf) := by
  have HV : Hid (checkE nad 1 seq more code answer inf = 2) := by
    show _ = _
    unfold checkE
    simp_all <;> (try omega)
  go_enter Try.func94, Try.ntmps94
  go_wp2_with (first | (go_at_call 101; go_in) | fail)
  go_ret
  exact ⟨ret_i64 HV.out.symm, (((Below.refl _ _).alloc (Nat.le_refl _) _).alloc (by simp) _).alloc (by simp; omega) _⟩
theorem check_R_1 (h : IsB w A n c inf)
    (h_nadlo : ¬ (nad < 0)) (h_nadhi : 254 < nad) :
    Ck 94 1 nad seq more code answer A n c w (checkE nad 1 seq more code answer inf) := by
  have HV : Hid (checkE nad 1 seq more code answer inf = 2) := by
    show _ = _
    unfold checkE
    simp_all <;> (try omega)
  go_enter Try.func94, Try.ntmps94
  go_wp2_with (first | (go_at_call 101; go_in) | fail)
  go_ret
  exact ⟨ret_i64 HV.out.symm, (((Below.refl _ _).alloc (Nat.le_refl _) _).alloc (by simp) _).alloc (by simp; omega) _⟩
theorem check_R_2 (h : IsB w A n c inf)
    (h_nadlo : ¬ (nad < 0)) (h_nadhi : ¬ (254 < nad)) (h_seqlo : seq < 0) :
    Ck 94 1 nad seq more code answer A n c w (checkE nad 1 seq more code answer inf) := by
  have HV : Hid (checkE nad 1 seq more code answer inf = 2) := by
    show _ = _
    unfold checkE
    simp_all <;> (try omega)
  go_enter Try.func94, Try.ntmps94
  go_wp2_with (first | (go_at_call 101; go_in) | fail)
  go_ret
  exact ⟨ret_i64 HV.out.symm, (((Below.refl _ _).alloc (Nat.le_refl _) _).alloc (by simp) _).alloc (by simp; omega) _⟩
theorem check_R_3 (h : IsB w A n c inf)
    (h_nadlo : ¬ (nad < 0)) (h_nadhi : ¬ (254 < nad)) (h_seqlo : ¬ (seq < 0)) (h_seqhi : 1 < seq) :
    Ck 94 1 nad seq more code answer A n c w (checkE nad 1 seq more code answer inf) := by
  have HV : Hid (checkE nad 1 seq more code answer inf = 2) := by
    show _ = _
    unfold checkE
    simp_all <;> (try omega)
  go_enter Try.func94, Try.ntmps94
  go_wp2_with (first | (go_at_call 101; go_in) | fail)
  go_ret
  exact ⟨ret_i64 HV.out.symm, (((Below.refl _ _).alloc (Nat.le_refl _) _).alloc (by simp) _).alloc (by simp; omega) _⟩
theorem check_R_4 (h : IsB w A n c inf)
    (h_nadlo : ¬ (nad < 0)) (h_nadhi : ¬ (254 < nad)) (h_seqlo : ¬ (seq < 0)) (h_seqhi : ¬ (1 < seq)) (h_codelo : code < 0) :
    Ck 94 1 nad seq more code answer A n c w (checkE nad 1 seq more code answer inf) := by
  have HV : Hid (checkE nad 1 seq more code answer inf = 2) := by
    show _ = _
    unfold checkE
    simp_all <;> (try omega)
  go_enter Try.func94, Try.ntmps94
  go_wp2_with (first | (go_at_call 101; go_in) | fail)
  go_quiet (fail)
  go_wp2_with fail
  go_ret
  exact ⟨ret_i64 HV.out.symm, Below.drewN' ((((Below.refl _ _).alloc (Nat.le_refl _) _).alloc (by simp) _).alloc (by simp; omega) _) _⟩
theorem check_R_5 (h : IsB w A n c inf)
    (h_nadlo : ¬ (nad < 0)) (h_nadhi : ¬ (254 < nad)) (h_seqlo : ¬ (seq < 0)) (h_seqhi : ¬ (1 < seq)) (h_codelo : ¬ (code < 0)) (h_codehi : 3 <= code) :
    Ck 94 1 nad seq more code answer A n c w (checkE nad 1 seq more code answer inf) := by
  have HV : Hid (checkE nad 1 seq more code answer inf = 2) := by
    show _ = _
    unfold checkE
    simp_all <;> (try omega)
  go_enter Try.func94, Try.ntmps94
  go_wp2_with (first | (go_at_call 101; go_in) | fail)
  go_quiet ((go_at_call 100; exact Calls.quiet_of_same (codes_R _)))
  go_wp2_with fail
  go_ret
  exact ⟨ret_i64 HV.out.symm, Below.drewN' ((((Below.refl _ _).alloc (Nat.le_refl _) _).alloc (by simp) _).alloc (by simp; omega) _) _⟩
theorem check_R_6 (h : IsB w A n c inf)
    (h_nadlo : ¬ (nad < 0)) (h_nadhi : ¬ (254 < nad)) (h_seqlo : ¬ (seq < 0)) (h_seqhi : ¬ (1 < seq)) (h_codelo : ¬ (code < 0)) (h_codehi : ¬ (3 <= code)) (h_more : more = true) :
    Ck 94 1 nad seq more code answer A n c w (checkE nad 1 seq more code answer inf) := by
  have HV : Hid (checkE nad 1 seq more code answer inf = 4) := by
    show _ = _
    unfold checkE
    simp_all <;> (try omega)
  subst h_more
  go_enter Try.func94, Try.ntmps94
  go_wp2_with (first | (go_at_call 101; go_in) | fail)
  go_quiet ((go_at_call 100; exact Calls.quiet_of_same (codes_R _)))
  go_wp2_with fail
  go_ret
  exact ⟨ret_i64 HV.out.symm, Below.drewN' ((((Below.refl _ _).alloc (Nat.le_refl _) _).alloc (by simp) _).alloc (by simp; omega) _) _⟩
theorem check_R_7 (h : IsB w A n c inf)
    (h_nadlo : ¬ (nad < 0)) (h_nadhi : ¬ (254 < nad)) (h_seqlo : ¬ (seq < 0)) (h_seqhi : ¬ (1 < seq)) (h_codelo : ¬ (code < 0)) (h_codehi : ¬ (3 <= code)) (h_more : ¬ (more = true)) (h_answer : answer = true) :
    Ck 94 1 nad seq more code answer A n c w (checkE nad 1 seq more code answer inf) := by
  have HV : Hid (checkE nad 1 seq more code answer inf = 4) := by
    show _ = _
    unfold checkE
    simp_all <;> (try omega)
  obtain rfl : more = false := by simpa using h_more
  subst h_answer
  go_enter Try.func94, Try.ntmps94
  go_wp2_with (first | (go_at_call 101; go_in) | fail)
  go_quiet ((go_at_call 100; exact Calls.quiet_of_same (codes_R _)))
  go_wp2_with fail
  go_ret
  exact ⟨ret_i64 HV.out.symm, Below.drewN' ((((Below.refl _ _).alloc (Nat.le_refl _) _).alloc (by simp) _).alloc (by simp; omega) _) _⟩
theorem check_R_8 (h : IsB w A n c inf)
    (h_nadlo : ¬ (nad < 0)) (h_nadhi : ¬ (254 < nad)) (h_seqlo : ¬ (seq < 0)) (h_seqhi : ¬ (1 < seq)) (h_codelo : ¬ (code < 0)) (h_codehi : ¬ (3 <= code)) (h_more : ¬ (more = true)) (h_answer : ¬ (answer = true)) :
    Ck 94 1 nad seq more code answer A n c w (checkE nad 1 seq more code answer inf) := by
  have HV : Hid (checkE nad 1 seq more code answer inf = infE 1 code inf) := by
    show _ = _
    unfold checkE
    simp_all <;> (try omega)
  obtain rfl : more = false := by simpa using h_more
  obtain rfl : answer = false := by simpa using h_answer
  go_enter Try.func94, Try.ntmps94
  go_wp2_with (first | (go_at_call 101; go_in) | fail)
  go_quiet ((go_at_call 100; exact Calls.quiet_of_same (codes_R _)))
  go_wp2_with fail
  refine (inf_R _ _ _ _ _ _ _ _ _ inf _ (Rd.drewN (((h.alloc _).alloc _).alloc _) _)).mono ?_
  rintro e w1 ⟨rfl, hb⟩
  go_wp2_with fail
  go_ret
  exact ⟨ret_i64 HV.out.symm, (Below.drewN' ((((Below.refl _ _).alloc (Nat.le_refl _) _).alloc (by simp) _).alloc (by simp; omega) _) _).trans (hb.mono (by simp; omega))⟩
theorem check_S_0 (h : IsB w A n c inf)
    (h_nadlo : nad < 0) :
    Ck 94 2 nad seq more code answer A n c w (checkE nad 2 seq more code answer inf) := by
  have HV : Hid (checkE nad 2 seq more code answer inf = 2) := by
    show _ = _
    unfold checkE
    simp_all <;> (try omega)
  go_enter Try.func94, Try.ntmps94
  go_wp2_with (first | (go_at_call 101; go_in) | fail)
  go_ret
  exact ⟨ret_i64 HV.out.symm, (((Below.refl _ _).alloc (Nat.le_refl _) _).alloc (by simp) _).alloc (by simp; omega) _⟩
theorem check_S_1 (h : IsB w A n c inf)
    (h_nadlo : ¬ (nad < 0)) (h_nadhi : 254 < nad) :
    Ck 94 2 nad seq more code answer A n c w (checkE nad 2 seq more code answer inf) := by
  have HV : Hid (checkE nad 2 seq more code answer inf = 2) := by
    show _ = _
    unfold checkE
    simp_all <;> (try omega)
  go_enter Try.func94, Try.ntmps94
  go_wp2_with (first | (go_at_call 101; go_in) | fail)
  go_ret
  exact ⟨ret_i64 HV.out.symm, (((Below.refl _ _).alloc (Nat.le_refl _) _).alloc (by simp) _).alloc (by simp; omega) _⟩
theorem check_S_2 (h : IsB w A n c inf)
    (h_nadlo : ¬ (nad < 0)) (h_nadhi : ¬ (254 < nad)) (h_codelo : code < 0) :
    Ck 94 2 nad seq more code answer A n c w (checkE nad 2 seq more code answer inf) := by
  have HV : Hid (checkE nad 2 seq more code answer inf = 2) := by
    show _ = _
    unfold checkE
    simp_all <;> (try omega)
  go_enter Try.func94, Try.ntmps94
  go_wp2_with (first | (go_at_call 101; go_in) | fail)
  go_quiet (fail)
  go_wp2_with fail
  go_ret
  exact ⟨ret_i64 HV.out.symm, Below.drewN' ((((Below.refl _ _).alloc (Nat.le_refl _) _).alloc (by simp) _).alloc (by simp; omega) _) _⟩
theorem check_S_3 (h : IsB w A n c inf)
    (h_nadlo : ¬ (nad < 0)) (h_nadhi : ¬ (254 < nad)) (h_codelo : ¬ (code < 0)) (h_codehi : 4 <= code) :
    Ck 94 2 nad seq more code answer A n c w (checkE nad 2 seq more code answer inf) := by
  have HV : Hid (checkE nad 2 seq more code answer inf = 2) := by
    show _ = _
    unfold checkE
    simp_all <;> (try omega)
  go_enter Try.func94, Try.ntmps94
  go_wp2_with (first | (go_at_call 101; go_in) | fail)
  go_quiet ((go_at_call 100; exact Calls.quiet_of_same (codes_S _)))
  go_wp2_with fail
  go_ret
  exact ⟨ret_i64 HV.out.symm, Below.drewN' ((((Below.refl _ _).alloc (Nat.le_refl _) _).alloc (by simp) _).alloc (by simp; omega) _) _⟩
theorem check_S_4 (h : IsB w A n c inf)
    (h_nadlo : ¬ (nad < 0)) (h_nadhi : ¬ (254 < nad)) (h_codelo : ¬ (code < 0)) (h_codehi : ¬ (4 <= code)) (h_seq0 : ¬ (seq = 0)) :
    Ck 94 2 nad seq more code answer A n c w (checkE nad 2 seq more code answer inf) := by
  have HV : Hid (checkE nad 2 seq more code answer inf = 4) := by
    show _ = _
    unfold checkE
    simp_all <;> (try omega)
  have b_seq0 : (seq != 0) = true := by simp; omega
  go_enter Try.func94, Try.ntmps94
  go_wp2_with (first | (go_at_call 101; go_in) | fail)
  go_quiet ((go_at_call 100; exact Calls.quiet_of_same (codes_S _)))
  go_wp2_with fail
  go_ret
  exact ⟨ret_i64 HV.out.symm, Below.drewN' ((((Below.refl _ _).alloc (Nat.le_refl _) _).alloc (by simp) _).alloc (by simp; omega) _) _⟩
theorem check_S_5 (h : IsB w A n c inf)
    (h_nadlo : ¬ (nad < 0)) (h_nadhi : ¬ (254 < nad)) (h_codelo : ¬ (code < 0)) (h_codehi : ¬ (4 <= code)) (h_seq0 : seq = 0) (h_more : more = true) :
    Ck 94 2 nad seq more code answer A n c w (checkE nad 2 seq more code answer inf) := by
  have HV : Hid (checkE nad 2 seq more code answer inf = 4) := by
    show _ = _
    unfold checkE
    simp_all <;> (try omega)
  subst h_seq0
  subst h_more
  go_enter Try.func94, Try.ntmps94
  go_wp2_with (first | (go_at_call 101; go_in) | fail)
  go_quiet ((go_at_call 100; exact Calls.quiet_of_same (codes_S _)))
  go_wp2_with fail
  go_ret
  exact ⟨ret_i64 HV.out.symm, Below.drewN' ((((Below.refl _ _).alloc (Nat.le_refl _) _).alloc (by simp) _).alloc (by simp; omega) _) _⟩
theorem check_S_6 (h : IsB w A n c inf)
    (h_nadlo : ¬ (nad < 0)) (h_nadhi : ¬ (254 < nad)) (h_codelo : ¬ (code < 0)) (h_codehi : ¬ (4 <= code)) (h_seq0 : seq = 0) (h_more : ¬ (more = true)) :
    Ck 94 2 nad seq more code answer A n c w (checkE nad 2 seq more code answer inf) := by
  have HV : Hid (checkE nad 2 seq more code answer inf = infE 2 code inf) := by
    show _ = _
    unfold checkE
    simp_all <;> (try omega)
  have hlo : 0 <= code := by omega
  have hhi : code <= 3 := by omega
  subst h_seq0
  obtain rfl : more = false := by simpa using h_more
  go_enter Try.func94, Try.ntmps94
  go_wp2_with (first | (go_at_call 101; go_in) | fail)
  go_quiet ((go_at_call 100; exact Calls.quiet_of_same (codes_S _)))
  go_wp2_with fail
  refine (inf_S _ _ _ _ _ _ _ _ _ inf _ (Rd.drewN (((h.alloc _).alloc _).alloc _) _) hlo hhi).mono ?_
  rintro e w1 ⟨rfl, hb⟩
  go_wp2_with fail
  go_ret
  exact ⟨ret_i64 HV.out.symm, (Below.drewN' ((((Below.refl _ _).alloc (Nat.le_refl _) _).alloc (by simp) _).alloc (by simp; omega) _) _).trans (hb.mono (by simp; omega))⟩
theorem check_any (nad kind seq : Int) (more : Bool) (code : Int) (answer : Bool) (A : Option Addr) (n c : Nat) (inf : List UInt8) (w : World) (h : IsB w A n c inf) :
    Ck 94 kind nad seq more code answer A n c w (checkE nad kind seq more code answer inf) := by
  by_cases hk : kind < 0 ∨ 2 < kind
  . exact check_N nad seq kind more code answer A n c inf w hk
  have h012 : kind = 0 ∨ kind = 1 ∨ kind = 2 := by omega
  clear hk
  rcases h012 with rfl | rfl | rfl
  . by_cases h_nadlo : nad < 0
    . exact check_I_0 nad seq more code answer A n c inf w h h_nadlo
    by_cases h_nadhi : 254 < nad
    . exact check_I_1 nad seq more code answer A n c inf w h h_nadlo h_nadhi
    by_cases h_seqlo : seq < 0
    . exact check_I_2 nad seq more code answer A n c inf w h h_nadlo h_nadhi h_seqlo
    by_cases h_seqhi : 1 < seq
    . exact check_I_3 nad seq more code answer A n c inf w h h_nadlo h_nadhi h_seqlo h_seqhi
    by_cases h_code0 : code = 0
    rotate_left
    . exact check_I_4 nad seq more code answer A n c inf w h h_nadlo h_nadhi h_seqlo h_seqhi h_code0
    by_cases h_answer : answer = true
    . exact check_I_5 nad seq more code answer A n c inf w h h_nadlo h_nadhi h_seqlo h_seqhi h_code0 h_answer
    exact check_I_6 nad seq more code answer A n c inf w h h_nadlo h_nadhi h_seqlo h_seqhi h_code0 h_answer
  . by_cases h_nadlo : nad < 0
    . exact check_R_0 nad seq more code answer A n c inf w h h_nadlo
    by_cases h_nadhi : 254 < nad
    . exact check_R_1 nad seq more code answer A n c inf w h h_nadlo h_nadhi
    by_cases h_seqlo : seq < 0
    . exact check_R_2 nad seq more code answer A n c inf w h h_nadlo h_nadhi h_seqlo
    by_cases h_seqhi : 1 < seq
    . exact check_R_3 nad seq more code answer A n c inf w h h_nadlo h_nadhi h_seqlo h_seqhi
    by_cases h_codelo : code < 0
    . exact check_R_4 nad seq more code answer A n c inf w h h_nadlo h_nadhi h_seqlo h_seqhi h_codelo
    by_cases h_codehi : 3 <= code
    . exact check_R_5 nad seq more code answer A n c inf w h h_nadlo h_nadhi h_seqlo h_seqhi h_codelo h_codehi
    by_cases h_more : more = true
    . exact check_R_6 nad seq more code answer A n c inf w h h_nadlo h_nadhi h_seqlo h_seqhi h_codelo h_codehi h_more
    by_cases h_answer : answer = true
    . exact check_R_7 nad seq more code answer A n c inf w h h_nadlo h_nadhi h_seqlo h_seqhi h_codelo h_codehi h_more h_answer
    exact check_R_8 nad seq more code answer A n c inf w h h_nadlo h_nadhi h_seqlo h_seqhi h_codelo h_codehi h_more h_answer
  . by_cases h_nadlo : nad < 0
    . exact check_S_0 nad seq more code answer A n c inf w h h_nadlo
    by_cases h_nadhi : 254 < nad
    . exact check_S_1 nad seq more code answer A n c inf w h h_nadlo h_nadhi
    by_cases h_codelo : code < 0
    . exact check_S_2 nad seq more code answer A n c inf w h h_nadlo h_nadhi h_codelo
    by_cases h_codehi : 4 <= code
    . exact check_S_3 nad seq more code answer A n c inf w h h_nadlo h_nadhi h_codelo h_codehi
    by_cases h_seq0 : seq = 0
    rotate_left
    . exact check_S_4 nad seq more code answer A n c inf w h h_nadlo h_nadhi h_codelo h_codehi h_seq0
    by_cases h_more : more = true
    . exact check_S_5 nad seq more code answer A n c inf w h h_nadlo h_nadhi h_codelo h_codehi h_seq0 h_more
    exact check_S_6 nad seq more code answer A n c inf w h h_nadlo h_nadhi h_codelo h_codehi h_seq0 h_more
end
end Go.Proofs.Ytilfphdeacogmaa

/- smartcardref06.inf, Check: the walks, path by path (printed by wip/gen/rcheck.py). -/
namespace Go.Proofs.Ytilfphdeacogmaa
open Go.RowKit
set_option linter.unusedVariables false
end Go.Proofs.Ytilfphdeacogmaa

/- smartcard/block: the methods control and parse of the kinds; smartcardref06.control: the walks. -/
namespace Go.Proofs.Ytilfphdeacogmaa
open Go.RowKit
set_option linter.unusedVariables false
def ctlI (seq : Int) (more : Bool) : Int := 64 * seq + (if more then 32 else 0)
def ctlR (seq code : Int) : Int := 128 + 16 * seq + code
def ctlS (code : Int) (answer : Bool) : Int := 192 + (if answer then 32 else 0) + code
theorem flag_t (n : Int) (w : World) :
    Calls Try.prog 125 #[.bool true, .int .i64 n] w fun e w' => e = .returned (.int .i64 n) /\ w' = w := by
  go_enter Try.func125, Try.ntmps125
  go_wp2
  go_ret
  exact ⟨rfl, rfl⟩
theorem flag_f (n : Int) (w : World) :
    Calls Try.prog 125 #[.bool false, .int .i64 n] w fun e w' => e = .returned (.int .i64 0) /\ w' = w := by
  go_enter Try.func125, Try.ntmps125
  go_wp2
  go_ret
  exact ⟨rfl, rfl⟩
set_option maxHeartbeats 1000000 in
theorem control_R (nad kind seq : Int) (more : Bool) (code : Int) (answer : Bool) (v : Value) (w : World) (hs : seq = 0 ∨ seq = 1) (hc : code = 0 ∨ code = 1 ∨ code = 2 ∨ code = 3) :
    Calls Try.prog 126 #[.agg #[], .agg #[.int .i64 nad, .int .i64 kind, .int .i64 seq, .bool more, .int .i64 code, .bool answer, v]] w
      fun e w' => e = .returned (.int .i64 (ctlR seq code)) /\ Below w.heap.size w w' := by
  rcases hs with rfl | rfl
  all_goals
    rcases hc with rfl | rfl | rfl | rfl
  all_goals
    go_enter Try.func126, Try.ntmps126
    go_wp2
    go_ret
    exact ⟨ret_i64 (by decide +kernel), (((Below.refl _ _).alloc (Nat.le_refl _) _).alloc (by simp) _)⟩
set_option maxHeartbeats 1000000 in
theorem control_I (nad kind seq : Int) (more : Bool) (code : Int) (answer : Bool) (v : Value) (w : World) (hs : seq = 0 ∨ seq = 1) :
    Calls Try.prog 129 #[.agg #[], .agg #[.int .i64 nad, .int .i64 kind, .int .i64 seq, .bool more, .int .i64 code, .bool answer, v]] w
      fun e w' => e = .returned (.int .i64 (ctlI seq more)) /\ Below w.heap.size w w' := by
  cases more
  . rcases hs with rfl | rfl
    all_goals
      go_enter Try.func129, Try.ntmps129
      go_wp2_with fail
      go_quiet ((go_at_call 125; exact Calls.quiet_of_same (flag_f _ _)))
      go_wp2_with fail
      go_ret
      exact ⟨ret_i64 (by decide +kernel), Below.drewN' (((Below.refl _ _).alloc (Nat.le_refl _) _).alloc (by simp) _) _⟩
  . rcases hs with rfl | rfl
    all_goals
      go_enter Try.func129, Try.ntmps129
      go_wp2_with fail
      go_quiet ((go_at_call 125; exact Calls.quiet_of_same (flag_t _ _)))
      go_wp2_with fail
      go_ret
      exact ⟨ret_i64 (by decide +kernel), Below.drewN' (((Below.refl _ _).alloc (Nat.le_refl _) _).alloc (by simp) _) _⟩
set_option maxHeartbeats 1000000 in
theorem control_S (nad kind seq : Int) (more : Bool) (code : Int) (answer : Bool) (v : Value) (w : World) (hc : code = 0 ∨ code = 1 ∨ code = 2 ∨ code = 3) :
    Calls Try.prog 122 #[.agg #[], .agg #[.int .i64 nad, .int .i64 kind, .int .i64 seq, .bool more, .int .i64 code, .bool answer, v]] w
      fun e w' => e = .returned (.int .i64 (ctlS code answer)) /\ Below w.heap.size w w' := by
  cases answer
  . rcases hc with rfl | rfl | rfl | rfl
    all_goals
      go_enter Try.func122, Try.ntmps122
      go_wp2_with fail
      go_quiet ((go_at_call 125; exact Calls.quiet_of_same (flag_f _ _)))
      go_wp2_with fail
      go_ret
      exact ⟨ret_i64 (by decide +kernel), Below.drewN' (((Below.refl _ _).alloc (Nat.le_refl _) _).alloc (by simp) _) _⟩
  . rcases hc with rfl | rfl | rfl | rfl
    all_goals
      go_enter Try.func122, Try.ntmps122
      go_wp2_with fail
      go_quiet ((go_at_call 125; exact Calls.quiet_of_same (flag_t _ _)))
      go_wp2_with fail
      go_ret
      exact ⟨ret_i64 (by decide +kernel), Below.drewN' (((Below.refl _ _).alloc (Nat.le_refl _) _).alloc (by simp) _) _⟩
end Go.Proofs.Ytilfphdeacogmaa

/- smartcard/block: the methods parse of the kinds: the walks. -/
namespace Go.Proofs.Ytilfphdeacogmaa
open Go.RowKit
set_option linter.unusedVariables false
theorem i64_and (a b : Nat) (ha : a < 4611686018427387904) (hb : b < 4611686018427387904) : bits .and .i64 (a : Int) (b : Int) = ((a &&& b : Nat) : Int) := by
  have hx : a &&& b < 2 ^ 62 := Nat.and_lt_two_pow _ (by omega)
  have e : ∀ c : Nat, c < 4611686018427387904 -> (BitVec.ofInt 64 (c : Int)).toNat = c := fun c hc => by
    rw [BitVec.ofInt_natCast, BitVec.toNat_ofNat]; exact Nat.mod_eq_of_lt (by omega)
  show IntKind.i64.wrap ((BitVec.ofInt 64 (a : Int) &&& BitVec.ofInt 64 (b : Int)).toNat : Int) = _
  rw [BitVec.toNat_and, e a ha, e b hb, IntKind.wrap_i64]
  omega
theorem byte_and32 (c : Nat) (h : c < 256) : bits .and .i64 (c : Int) 32 = ((c / 32 % 2 * 32 : Nat) : Int) := by
  have := i64_and c 32 (by omega) (by omega)
  rw [nat_bit 5 c] at this
  exact this
theorem byte_and3 (c : Nat) (h : c < 256) : bits .and .i64 (c : Int) 3 = ((c % 4 : Nat) : Int) := by
  have := i64_and c 3 (by omega) (by omega)
  rw [nat_mask2] at this
  exact this
theorem byte_and1 (c : Nat) (h : c < 256) : bits .and .i64 (c : Int) 1 = ((c % 2 : Nat) : Int) := by
  have := i64_and c 1 (by omega) (by omega)
  rw [nat_mask1] at this
  exact this
theorem byte_and192 (c : Nat) (h : c < 256) : bits .and .i64 (c : Int) 192 = ((c / 64 * 64 : Nat) : Int) := by
  have := i64_and c 192 (by omega) (by omega)
  rw [show c &&& 192 = c / 64 * 64 from by
    have e := nat_midmask 8 6 c (by decide)
    rw [show (2 : Nat) ^ 8 - 2 ^ 6 = 192 by decide] at e
    rw [e, Nat.mod_eq_of_lt (by omega)]] at this
  exact this
set_option maxHeartbeats 1000000 in
theorem parse_I (c : Nat) (hc : c < 128) (w : World) :
    Calls Try.prog 130 #[.agg #[], .int .i64 (c : Int)] w
      fun e w' => e = .returned (.agg #[.int .i64 0, .int .i64 0, .int .i64 (c / 64 : Nat), .bool (decide (c / 32 % 2 = 1)), .int .i64 0, .bool false, .slice none 0 0]) /\ Below w.heap.size w w' := by
  have h1 := byte_and32 c (by omega)
  rcases Nat.mod_two_eq_zero_or_one (c / 32) with h2 | h2
  . rw [h2] at h1
    have HD : Hid (decide (c / 32 % 2 = 1) = false) := by show _ = _; rw [h2]; rfl
    have hci : (c : Int) < 256 := by omega
    clear h2
    go_enter Try.func130, Try.ntmps130
    go_wp2
    refine bodyPost_ret (v := .agg #[.int .i64 0, .int .i64 0, .int .i64 ((c : Int) / 64), .bool false, .int .i64 0, .bool false, .slice none 0 0]) (by simp [results, Try.results130, go_sem]) rfl ⟨?_, ((Below.refl _ _).alloc (Nat.le_refl _) _).alloc (by simp) _⟩
    rw [HD.out]; rfl
  . rw [h2] at h1
    have HD : Hid (decide (c / 32 % 2 = 1) = true) := by show _ = _; rw [h2]; rfl
    have hci : (c : Int) < 256 := by omega
    clear h2
    go_enter Try.func130, Try.ntmps130
    go_wp2
    refine bodyPost_ret (v := .agg #[.int .i64 0, .int .i64 0, .int .i64 ((c : Int) / 64), .bool true, .int .i64 0, .bool false, .slice none 0 0]) (by simp [results, Try.results130, go_sem]) rfl ⟨?_, ((Below.refl _ _).alloc (Nat.le_refl _) _).alloc (by simp) _⟩
    rw [HD.out]; rfl
set_option maxHeartbeats 1000000 in
theorem parse_R (c : Nat) (hc : c < 256) (w : World) :
    Calls Try.prog 127 #[.agg #[], .int .i64 (c : Int)] w
      fun e w' => e = .returned (.agg #[.int .i64 0, .int .i64 1, .int .i64 (c / 16 % 2 : Nat), .bool false, .int .i64 (c % 4 : Nat), .bool false, .slice none 0 0]) /\ Below w.heap.size w w' := by
  have h1 : bits .and .i64 ((c : Int) / 16) 1 = ((c / 16 % 2 : Nat) : Int) := byte_and1 (c / 16) (by omega)
  have h3 := byte_and3 c hc
  have hci : (c : Int) < 256 := by omega
  go_enter Try.func127, Try.ntmps127
  go_wp2
  exact bodyPost_ret (v := .agg #[.int .i64 0, .int .i64 1, .int .i64 (c / 16 % 2 : Nat), .bool false, .int .i64 (c % 4 : Nat), .bool false, .slice none 0 0]) (by simp [results, Try.results127, go_sem]) rfl ⟨rfl, ((Below.refl _ _).alloc (Nat.le_refl _) _).alloc (by simp) _⟩
set_option maxHeartbeats 1000000 in
theorem parse_S (c : Nat) (hc : c < 256) (w : World) :
    Calls Try.prog 123 #[.agg #[], .int .i64 (c : Int)] w
      fun e w' => e = .returned (.agg #[.int .i64 0, .int .i64 2, .int .i64 0, .bool false, .int .i64 (c % 4 : Nat), .bool (decide (c / 32 % 2 = 1)), .slice none 0 0]) /\ Below w.heap.size w w' := by
  have h1 := byte_and32 c hc
  have h3 := byte_and3 c hc
  rcases Nat.mod_two_eq_zero_or_one (c / 32) with h2 | h2
  . rw [h2] at h1
    have HD : Hid (decide (c / 32 % 2 = 1) = false) := by show _ = _; rw [h2]; rfl
    have hci : (c : Int) < 256 := by omega
    clear h2
    go_enter Try.func123, Try.ntmps123
    go_wp2
    refine bodyPost_ret (v := .agg #[.int .i64 0, .int .i64 2, .int .i64 0, .bool false, .int .i64 ((c % 4 : Nat) : Int), .bool false, .slice none 0 0]) (by simp [results, Try.results123, go_sem]) rfl ⟨?_, ((Below.refl _ _).alloc (Nat.le_refl _) _).alloc (by simp) _⟩
    rw [HD.out]
  . rw [h2] at h1
    have HD : Hid (decide (c / 32 % 2 = 1) = true) := by show _ = _; rw [h2]; rfl
    have hci : (c : Int) < 256 := by omega
    clear h2
    go_enter Try.func123, Try.ntmps123
    go_wp2
    refine bodyPost_ret (v := .agg #[.int .i64 0, .int .i64 2, .int .i64 0, .bool false, .int .i64 ((c % 4 : Nat) : Int), .bool true, .slice none 0 0]) (by simp [results, Try.results123, go_sem]) rfl ⟨?_, ((Below.refl _ _).alloc (Nat.le_refl _) _).alloc (by simp) _⟩
    rw [HD.out]
theorem m_PI (w : World) : (method 260 129 (.agg #[]) "smartcard/block.parse").run Try.prog w = .ok (130, .agg #[]) w := by kernel_rfl
theorem m_PR (w : World) : (method 260 128 (.agg #[]) "smartcard/block.parse").run Try.prog w = .ok (127, .agg #[]) w := by kernel_rfl
theorem m_PS (w : World) : (method 260 127 (.agg #[]) "smartcard/block.parse").run Try.prog w = .ok (123, .agg #[]) w := by kernel_rfl
theorem m_CI (w : World) : (method 260 129 (.agg #[]) "smartcard/block.control").run Try.prog w = .ok (129, .agg #[]) w := by kernel_rfl
theorem m_CR (w : World) : (method 260 128 (.agg #[]) "smartcard/block.control").run Try.prog w = .ok (126, .agg #[]) w := by kernel_rfl
theorem m_CS (w : World) : (method 260 127 (.agg #[]) "smartcard/block.control").run Try.prog w = .ok (122, .agg #[]) w := by kernel_rfl
end Go.Proofs.Ytilfphdeacogmaa

/- A region that draws its order, whatever the order: each operation is shown once, from what the operations that it waits for have yielded. No program in sight. -/
namespace Go.Proofs.Ytilfphdeacogmaa
open Go.RowKit
def slotAt (a : Act) (d : Option Tmp) : Value := match d with | some d => a.tmps[d]?.getD undef | none => undef
def dstAt (ops : Array Oper) (i : Nat) : Option Tmp := (ops[i]?).bind (·.dst)
def Region.plain (ops : Array Oper) (n : Nat) : Bool :=
  (List.range ops.size).all fun i => match ops[i]? with
    | none => false
    | some o => (o.after.all fun e => !Region.binds .any e || decide (e.on < i)) &&
      (match o.dst with
       | none => true
       | some d => decide (d < n) && (List.range ops.size).all fun j => decide (j = i) || dstAt ops j != some d)
def Region.before (ops : Array Oper) (i k : Nat) : Bool :=
  ops.all fun o => o.dst != some k || o.after.any fun e => Region.binds .any e && e.on == i
def Waited (ops : Array Oper) (φ : Nat -> Value -> World -> Prop) (a : Act) (w : World) : List Edge -> Prop
  | [] => True
  | e :: r => (match Region.binds .any e with | true => φ e.on (slotAt a (dstAt ops e.on)) w | false => True) /\ Waited ops φ a w r
def ofDst (d : Option Tmp) (v : Value) : Value := match d with | some _ => v | none => undef
def StepAt (P : Program) (ops : Array Oper) (Q : Exit -> Act -> World -> Prop) (T : World -> World -> Prop) (φ : Nat -> Value -> World -> Prop) (a0 : Act) (w0 : World) (i : Nat) (o : Oper) : Prop :=
  ∀ (a : Act) (w : World) (K : Act -> World -> Prop), T w0 w -> (∀ k, Region.before ops i k = true -> a.tmps[k]?.getD undef = a0.tmps[k]?.getD undef) -> Waited ops φ a w o.after.toList ->
    (∀ v w', T w w' -> φ i (ofDst o.dst v) w' -> K (a.put o.dst v) w') -> if Region.wanted o (yielded ops a.tmps) = true then Oper.wp P o a w K Q else K (a.put o.dst undef) w
def StepsAt (P : Program) (ops : Array Oper) (Q : Exit -> Act -> World -> Prop) (T : World -> World -> Prop) (φ : Nat -> Value -> World -> Prop) (a0 : Act) (w0 : World) : Nat -> List Oper -> Prop
  | _, [] => True
  | i, o :: r => StepAt P ops Q T φ a0 w0 i o /\ StepsAt P ops Q T φ a0 w0 (i + 1) r
def putsAt (vs : Nat -> Value) : Nat -> List Oper -> Act -> Act
  | _, [], a => a
  | i, o :: r, a => putsAt vs (i + 1) r (a.put o.dst (vs i))
def AllAt (φ : Nat -> Value -> World -> Prop) (vs : Nat -> Value) (w : World) : Nat -> List Oper -> Prop
  | _, [] => True
  | i, _ :: r => φ i (vs i) w /\ AllAt φ vs w (i + 1) r
section
variable {P : Program} {ops : Array Oper} {Q : Exit -> Act -> World -> Prop} {T : World -> World -> Prop} {φ : Nat -> Value -> World -> Prop} {a0 : Act} {w0 : World}
theorem StepsAt.get : ∀ (l : List Oper) (k : Nat), StepsAt P ops Q T φ a0 w0 k l -> ∀ i o, l[i]? = some o -> StepAt P ops Q T φ a0 w0 (k + i) o
  | [], _, _, i, o, h => by simp at h
  | x :: l, k, hs, 0, o, h => by simp at h; subst h; exact hs.1
  | x :: l, k, hs, i + 1, o, h => by
    have := StepsAt.get l (k + 1) hs.2 i o (by simpa using h)
    rwa [show k + 1 + i = k + (i + 1) by omega] at this
theorem AllAt.of : ∀ (l : List Oper) (k : Nat) {vs : Nat -> Value} {w : World}, (∀ i, i < l.length -> φ (k + i) (vs (k + i)) w) -> AllAt φ vs w k l
  | [], _, _, _, _ => trivial
  | _ :: l, k, vs, w, h => ⟨by simpa using h 0 (by simp), AllAt.of l (k + 1) (fun i hi => by have := h (i + 1) (by simp; omega); rwa [show k + (i + 1) = k + 1 + i by omega] at this)⟩
theorem Waited.of {a : Act} {w : World} : ∀ (l : List Edge), (∀ e ∈ l, Region.binds .any e = true -> φ e.on (slotAt a (dstAt ops e.on)) w) -> Waited ops φ a w l
  | [], _ => trivial
  | e :: l, h => ⟨by cases hb : Region.binds .any e with | true => exact h e (by simp) hb | false => trivial, Waited.of l (fun e' he' => h e' (by simp [he']))⟩
theorem plain_spec {n : Nat} (h : Region.plain ops n = true) {i : Nat} {o : Oper} (ho : ops[i]? = some o) :
    (∀ e ∈ o.after, Region.binds .any e = true -> e.on < i) /\ (∀ d, o.dst = some d -> d < n /\ ∀ j, j < ops.size -> j ≠ i -> dstAt ops j ≠ some d) := by
  have hi : i < ops.size := (Array.getElem?_eq_some_iff.1 ho).1
  unfold Region.plain at h
  rw [List.all_eq_true] at h
  have h1 := h i (List.mem_range.2 hi)
  rw [ho] at h1
  simp only [Bool.and_eq_true] at h1
  refine ⟨fun e he hb => ?_, fun d hd => ?_⟩
  . have := Array.all_eq_true_iff_forall_mem.1 h1.1 e he
    simpa [hb] using this
  . have h2 := h1.2
    rw [hd] at h2
    simp only [Bool.and_eq_true, decide_eq_true_eq, List.all_eq_true] at h2
    refine ⟨h2.1, fun j hj hne => ?_⟩
    have := h2.2 j (List.mem_range.2 hj)
    simpa [hne] using this
structure RegInv (ops : Array Oper) (T : World -> World -> Prop) (φ : Nat -> Value -> World -> Prop) (a0 : Act) (w0 : World) (listed : Array Bool) (a : Act) (w : World) : Prop where
  world : T w0 w
  size : listed.size = ops.size
  defers : a.defers = a0.defers
  frame : a.tmps.size = a0.tmps.size
  same : ∀ k, (∀ j, listed.getD j false = true -> dstAt ops j ≠ some k) -> a.tmps[k]?.getD undef = a0.tmps[k]?.getD undef
  vals : ∀ j, listed.getD j false = true -> φ j (slotAt a (dstAt ops j)) w
  closed : ∀ j o, ops[j]? = some o -> listed.getD j false = true -> ∀ e ∈ o.after, Region.binds .any e = true -> listed.getD e.on false = true
theorem put_tmps_size (a : Act) (d : Option Tmp) (v : Value) : (a.put d v).tmps.size = a.tmps.size := by cases d <;> simp [Act.put]
theorem put_defers (a : Act) (d : Option Tmp) (v : Value) : (a.put d v).defers = a.defers := by cases d <;> simp [Act.put]
theorem put_getD_ne (a : Act) (d : Option Tmp) (v : Value) (k : Nat) (h : d ≠ some k) : (a.put d v).tmps[k]?.getD undef = a.tmps[k]?.getD undef := by
  cases d with
  | none => rfl
  | some d => simp only [Act.put]; rw [Array.getElem?_setIfInBounds_ne (fun e => h (by rw [e]))]
theorem put_getD_self (a : Act) (d : Nat) (v : Value) (h : d < a.tmps.size) : (a.put (some d) v).tmps[d]?.getD undef = v := by
  simp [Act.put, h]
theorem listed_set {listed : Array Bool} {i j : Nat} (hi : i < listed.size) : (listed.setIfInBounds i true).getD j false = true ↔ j = i ∨ listed.getD j false = true := by
  by_cases h : i = j
  . subst h; simp [hi]
  . rw [getD_set_ne false h]; simp [Ne.symm h]
theorem RegInv.step (hp : Region.plain ops a0.tmps.size = true) (htr : ∀ x y z : World, T x y -> T y z -> T x z) (hst : ∀ i v w w', T w w' -> φ i v w -> φ i v w')
    {listed : Array Bool} {a : Act} {w : World} (inv : RegInv ops T φ a0 w0 listed a w) {i : Nat} {o : Oper} (ho : ops[i]? = some o) (hr : i ∈ Region.ready .any ops listed)
    {v : Value} {w' : World} (hw : T w w') (hv : φ i (ofDst o.dst v) w') : RegInv ops T φ a0 w0 (listed.setIfInBounds i true) (a.put o.dst v) w' := by
  have hi : i < ops.size := (Array.getElem?_eq_some_iff.1 ho).1
  have hil : i < listed.size := by rw [inv.size]; exact hi
  obtain ⟨hun, o', ho', hall⟩ := mem_ready.1 hr
  rw [ho] at ho'; injection ho' with ho'; subst ho'
  obtain ⟨_, hd⟩ := plain_spec hp ho
  have hdi : dstAt ops i = o.dst := by simp [dstAt, ho]
  refine ⟨htr _ _ _ inv.world hw, by simpa using inv.size, by rw [put_defers]; exact inv.defers, by rw [put_tmps_size]; exact inv.frame, ?_, ?_, ?_⟩
  . intro k hk
    rw [put_getD_ne _ _ _ _ (by rw [← hdi]; exact hk i ((listed_set hil).2 (.inl rfl)))]
    exact inv.same k fun j hj => hk j ((listed_set hil).2 (.inr hj))
  . intro j hj
    rcases (listed_set hil).1 hj with rfl | hj2
    . rw [hdi]
      cases hdo : o.dst with
      | none => rw [hdo] at hv; exact hv
      | some d =>
        rw [hdo] at hv
        have := (hd d hdo).1
        rw [show slotAt (a.put (some d) v) (some d) = v from put_getD_self a d v (by rw [inv.frame]; exact this)]
        exact hv
    . have hne : j ≠ i := fun e => by
        subst e
        rcases Nat.lt_or_ge j listed.size with h' | h'
        . rw [Array.getD_eq_getD_getElem?, Array.getElem?_eq_getElem h'] at hun hj2
          simp only [Option.getD_some] at hun hj2
          rw [hun] at hj2; cases hj2
        . omega
      have hjl : j < ops.size := by
        rcases Nat.lt_or_ge j ops.size with h' | h'
        . exact h'
        . rw [← inv.size] at h'; simp [Array.getElem?_eq_none h'] at hj2
      have := hst j _ _ _ hw (inv.vals j hj2)
      have hs : slotAt (a.put o.dst v) (dstAt ops j) = slotAt a (dstAt ops j) := by
        cases hdj : dstAt ops j with
        | none => rfl
        | some k => exact put_getD_ne _ _ _ _ (fun e => (hd k e).2 j hjl hne hdj)
      rw [hs]; exact this
  . intro j oj hoj hj e he hb
    rcases (listed_set hil).1 hj with rfl | hj
    . rw [ho] at hoj; injection hoj with hoj; subst hoj
      exact (listed_set hil).2 (.inr (hall e he hb))
    . exact (listed_set hil).2 (.inr (inv.closed j oj hoj hj e he hb))
theorem RegInv.wpOp (hp : Region.plain ops a0.tmps.size = true) (htr : ∀ x y z : World, T x y -> T y z -> T x z) (hst : ∀ i v w w', T w w' -> φ i v w -> φ i v w')
    {listed : Array Bool} {a : Act} {w : World} (inv : RegInv ops T φ a0 w0 listed a w) {i : Nat} {o : Oper} (ho : ops[i]? = some o) (hr : i ∈ Region.ready .any ops listed)
    (hs : StepAt P ops Q T φ a0 w0 i o) :
    Go.wpOp P ops Q i (fun a' w' => RegInv ops T φ a0 w0 (listed.setIfInBounds i true) a' w') a w := by
  have hi : i < ops.size := (Array.getElem?_eq_some_iff.1 ho).1
  obtain ⟨hun, o', ho', hall⟩ := mem_ready.1 hr
  rw [ho] at ho'; injection ho' with ho'; subst ho'
  have hil : i < listed.size := by rw [inv.size]; exact hi
  have hstep := hs a w (fun a' w' => RegInv ops T φ a0 w0 (listed.setIfInBounds i true) a' w') inv.world
    (fun k hk => inv.same k fun j hj hdj => by
      unfold Region.before at hk
      have hjl : j < ops.size := by
        rcases Nat.lt_or_ge j ops.size with h' | h'
        . exact h'
        . rw [← inv.size] at h'; simp [Array.getElem?_eq_none h'] at hj
      have hoj : ops[j]? = some ops[j] := Array.getElem?_eq_getElem hjl
      have hdj' : (ops[j]).dst = some k := by simpa [dstAt, hoj] using hdj
      have h1 := Array.all_eq_true_iff_forall_mem.1 hk ops[j] (Array.getElem_mem hjl)
      simp only [hdj', bne_self_eq_false, Bool.false_or] at h1
      rw [Array.any_eq_true] at h1
      obtain ⟨q, hq, hb⟩ := h1
      simp only [Bool.and_eq_true, beq_iff_eq] at hb
      have h2 := inv.closed j _ hoj hj _ (Array.getElem_mem hq) hb.1
      rw [hb.2] at h2
      rw [Array.getD_eq_getD_getElem?, Array.getElem?_eq_getElem hil] at hun h2
      simp only [Option.getD_some] at hun h2
      rw [hun] at h2; cases h2)
    (Waited.of _ fun e he hb => inv.vals _ (hall e (by simpa using he) hb))
    (fun v w' hw hv => inv.step hp htr hst ho hr hw hv)
  unfold Go.wpOp
  simp only [ho]
  split
  . rename_i hw
    rw [if_pos hw] at hstep
    exact .inl hstep
  . rename_i hw
    rw [if_neg hw] at hstep
    exact hstep
def marked (listed : Array Bool) : Nat := listed.toList.countP (· = true)
theorem marked_set {listed : Array Bool} {i : Nat} (hi : i < listed.size) (h : listed.getD i true = false) : marked (listed.setIfInBounds i true) = marked listed + 1 := by
  have hf : listed[i] = false := by rw [Array.getD_eq_getD_getElem?, Array.getElem?_eq_getElem hi] at h; simpa using h
  unfold marked
  rw [Array.toList_setIfInBounds]
  have hl : listed.toList = listed.toList.take i ++ listed.toList[i]'(by simpa using hi) :: listed.toList.drop (i + 1) := by
    conv => lhs; rw [← List.take_append_drop i listed.toList, List.drop_eq_getElem_cons (by simpa using hi)]
  rw [List.set_eq_take_append_cons_drop, if_pos (by simpa using hi)]
  conv => rhs; rw [hl]
  simp [List.countP_append, hf]
  omega
theorem marked_le (listed : Array Bool) : marked listed <= listed.size := by
  unfold marked; rw [← Array.length_toList]; exact List.countP_le_length
theorem RegInv.any (hp : Region.plain ops a0.tmps.size = true) (htr : ∀ x y z : World, T x y -> T y z -> T x z) (hst : ∀ i v w w', T w w' -> φ i v w -> φ i v w')
    (hs : StepsAt P ops Q T φ a0 w0 0 ops.toList) (hfin : ∀ listed a w, RegInv ops T φ a0 w0 listed a w -> (∀ j, j < ops.size -> listed.getD j false = true) -> Q .normal a w) :
    ∀ (fuel : Nat) (listed : Array Bool) (a : Act) (w : World), fuel + marked listed = ops.size -> RegInv ops T φ a0 w0 listed a w -> wpAny P .any ops Q fuel listed a w := by
  have hdone : ∀ (listed : Array Bool) (a : Act) (w : World), RegInv ops T φ a0 w0 listed a w -> Region.ready .any ops listed = [] -> ∀ j, j < ops.size -> listed.getD j false = true := by
    intro listed a w inv hr j
    induction j using Nat.strongRecOn with
    | _ j ih =>
      intro hj
      have hoj : ops[j]? = some ops[j] := Array.getElem?_eq_getElem hj
      have hjl : j < listed.size := by rw [inv.size]; exact hj
      cases hl : listed.getD j false with
      | true => rfl
      | false =>
        have : j ∈ Region.ready .any ops listed := mem_ready.2 ⟨by
          rw [Array.getD_eq_getD_getElem?, Array.getElem?_eq_getElem hjl] at hl ⊢; exact hl, _, hoj, fun e he hb => by
          have hlt := (plain_spec hp hoj).1 e he hb
          exact ih e.on hlt (by omega)⟩
        rw [hr] at this; cases this
  intro fuel
  induction fuel with
  | zero =>
    intro listed a w hm inv
    have hall : ∀ j, j < ops.size -> listed.getD j false = true := by
      intro j hj
      have hjl : j < listed.size := by rw [inv.size]; exact hj
      cases hl : listed.getD j false with
      | true => rfl
      | false =>
        have h1 := marked_set (listed := listed) hjl (by rw [Array.getD_eq_getD_getElem?, Array.getElem?_eq_getElem hjl] at hl ⊢; exact hl)
        have h2 := marked_le (listed.setIfInBounds j true)
        rw [Array.size_setIfInBounds, inv.size] at h2
        omega
    refine ⟨?_, hfin listed a w inv hall⟩
    rcases hr : Region.ready .any ops listed with _ | ⟨j, l⟩
    . rfl
    . have hj : j ∈ Region.ready .any ops listed := by rw [hr]; exact List.mem_cons_self
      obtain ⟨hun, o, ho, _⟩ := mem_ready.1 hj
      have hjs : j < ops.size := (Array.getElem?_eq_some_iff.1 ho).1
      have h1 := hall j hjs
      have hjl : j < listed.size := by rw [inv.size]; exact hjs
      rw [Array.getD_eq_getD_getElem?, Array.getElem?_eq_getElem hjl] at hun h1
      simp only [Option.getD_some] at hun h1
      rw [hun] at h1; cases h1
  | succ fuel ih =>
    intro listed a w hm inv
    refine ⟨fun hr => hfin listed a w inv (hdone listed a w inv hr), fun i hi => ?_⟩
    obtain ⟨hun, o, ho, _⟩ := mem_ready.1 hi
    have his : i < ops.size := (Array.getElem?_eq_some_iff.1 ho).1
    have hsi := StepsAt.get ops.toList 0 hs i o (by simpa using ho)
    rw [Nat.zero_add] at hsi
    refine wpOp_mono (fun a' w' inv' => ih _ a' w' ?_ inv') (inv.wpOp hp htr hst ho hi hsi)
    rw [marked_set (by rw [inv.size]; exact his) hun]
    omega
theorem putsAt_getD (vs : Nat -> Value) (k : Nat) : ∀ (l : List Oper) (i : Nat) (a : Act), (∀ (j : Nat) (o : Oper), l[j]? = some o -> o.dst ≠ some k) -> (putsAt vs i l a).tmps[k]?.getD undef = a.tmps[k]?.getD undef
  | [], _, _, _ => rfl
  | o :: l, i, a, h => by
    rw [putsAt, putsAt_getD vs k l (i + 1) _ (fun j o' hj => h (j + 1) o' (by simpa using hj)), put_getD_ne _ _ _ _ (h 0 o rfl)]
theorem putsAt_size (vs : Nat -> Value) : ∀ (l : List Oper) (i : Nat) (a : Act), (putsAt vs i l a).tmps.size = a.tmps.size
  | [], _, _ => rfl
  | o :: l, i, a => by rw [putsAt, putsAt_size vs l, put_tmps_size]
theorem putsAt_defers (vs : Nat -> Value) : ∀ (l : List Oper) (i : Nat) (a : Act), (putsAt vs i l a).defers = a.defers
  | [], _, _ => rfl
  | o :: l, i, a => by rw [putsAt, putsAt_defers vs l, put_defers]
theorem putsAt_get (vs : Nat -> Value) (k : Nat) : ∀ (l : List Oper) (i : Nat) (a : Act) (j : Nat) (o : Oper), l[j]? = some o -> o.dst = some k -> k < a.tmps.size -> (∀ (j' : Nat) (o' : Oper), l[j']? = some o' -> o'.dst = some k -> j' = j) -> (putsAt vs i l a).tmps[k]?.getD undef = vs (i + j)
  | [], _, _, _, _, h, _, _, _ => by simp at h
  | x :: l, i, a, 0, o, h, hd, hk, hu => by
    simp at h; subst h
    rw [putsAt, putsAt_getD vs k l (i + 1) _ (fun j o' hj hd' => by have := hu (j + 1) o' (by simpa using hj) hd'; omega), hd, put_getD_self _ _ _ hk]; rfl
  | x :: l, i, a, j + 1, o, h, hd, hk, hu => by
    rw [putsAt, putsAt_get vs k l (i + 1) _ j o (by simpa using h) hd (by rw [put_tmps_size]; exact hk) (fun j' o' hj' hd' => by have := hu (j' + 1) o' (by simpa using hj') hd'; omega)]
    congr 1; omega
theorem wp_region_steps {id : Nat} {l : List Oper} (T : World -> World -> Prop) (φ : Nat -> Value -> World -> Prop) (hm : P.follows .mixedOrders = true) (hp : Region.plain l.toArray a0.tmps.size = true)
    (hrf : ∀ w, T w w) (htr : ∀ x y z : World, T x y -> T y z -> T x z) (hst : ∀ i v w w', T w w' -> φ i v w -> φ i v w')
    (hs : StepsAt P l.toArray Q T φ a0 w0.drew 0 l)
    (hfin : ∀ (vs : Nat -> Value) w, T w0.drew w -> AllAt φ vs w 0 l -> Q .normal (putsAt vs 0 l a0) w) : (Code.region id l.toArray true).wp P Q a0 w0 := by
  refine wp_region_any hm (RegInv.any hp htr hst (by simpa using hs) ?_ _ _ _ _ ?_ ?_)
  . intro listed a w inv hall
    have hput : a = putsAt (fun i => slotAt a (dstAt l.toArray i)) 0 l a0 := by
      have hsz : a.tmps.size = (putsAt (fun i => slotAt a (dstAt l.toArray i)) 0 l a0).tmps.size := by rw [putsAt_size, inv.frame]
      have hd : a.defers = (putsAt (fun i => slotAt a (dstAt l.toArray i)) 0 l a0).defers := by rw [putsAt_defers, inv.defers]
      have ht : a.tmps = (putsAt (fun i => slotAt a (dstAt l.toArray i)) 0 l a0).tmps := by
        apply Array.ext hsz
        intro k hk1 hk2
        have hg : a.tmps[k]?.getD undef = (putsAt (fun i => slotAt a (dstAt l.toArray i)) 0 l a0).tmps[k]?.getD undef := by
          by_cases hex : ∃ (j : Nat) (o : Oper), l[j]? = some o /\ o.dst = some k
          . obtain ⟨j, o, ho, hdo⟩ := hex
            have hoa : l.toArray[j]? = some o := by simpa using ho
            have hsp := (plain_spec hp hoa).2 k hdo
            rw [putsAt_get _ k l 0 a0 j o ho hdo hsp.1 (fun j' o' hj' hd' => by
              by_cases he : j' = j
              . exact he
              . exact absurd (by simp [dstAt, hj', hd'] : dstAt l.toArray j' = some k) (hsp.2 j' (by have := (List.getElem?_eq_some_iff.1 hj').1; simpa using this) he))]
            simp only [Nat.zero_add, dstAt, hoa, Option.bind_some, hdo, slotAt]
          . rw [putsAt_getD _ k l 0 a0 (fun j o ho hdo => hex ⟨j, o, ho, hdo⟩)]
            refine inv.same k fun j hj hdj => ?_
            have hjl : j < l.toArray.size := by
              rcases Nat.lt_or_ge j l.toArray.size with h' | h'
              . exact h'
              . rw [← inv.size] at h'; simp [Array.getElem?_eq_none h'] at hj
            have hoj : l.toArray[j]? = some l.toArray[j] := Array.getElem?_eq_getElem hjl
            exact hex ⟨j, l.toArray[j], by simp, by simpa [dstAt, hoj] using hdj⟩
        rw [Array.getElem?_eq_getElem hk1, Array.getElem?_eq_getElem hk2] at hg
        exact hg
      cases a with
      | mk t d => simp only at ht hd; cases hq : putsAt (fun i => slotAt (Act.mk t d) (dstAt l.toArray i)) 0 l a0 with | mk t' d' => rw [hq] at ht hd; simp only at ht hd; subst ht hd; rfl
    rw [hput]
    exact hfin _ w inv.world (AllAt.of l 0 fun i hi => by rw [Nat.zero_add]; exact inv.vals i (hall i (by simpa using hi)))
  . simp [marked, List.countP_replicate]
  . refine ⟨hrf _, by simp, rfl, rfl, fun _ _ => rfl, fun j hj => ?_, fun j o _ hj => ?_⟩
    . simp [Array.getElem?_replicate] at hj; split at hj <;> simp at hj
    . simp [Array.getElem?_replicate] at hj; split at hj <;> simp at hj
def St (T : World -> World -> Prop) : Type := { p : Value -> World -> Prop // ∀ v w w', T w w' -> p v w -> p v w' }
def St.is {T : World -> World -> Prop} (x : Value) : St T := ⟨fun v _ => v = x, fun _ _ _ _ h => h⟩
def St.pred {T : World -> World -> Prop} (p : Value -> World -> Prop) (h : ∀ v w w', T w w' -> p v w -> p v w') : St T := ⟨p, h⟩
theorem wp_region_list' {id : Nat} {l : List Oper} {T : World -> World -> Prop} (L : List (St T)) (hm : P.follows .mixedOrders = true) (hp : Region.plain l.toArray a0.tmps.size = true)
    (hrf : ∀ w, T w w) (htr : ∀ x y z : World, T x y -> T y z -> T x z)
    (hs : StepsAt P l.toArray Q T (fun i v w => (L.getD i (St.is undef)).1 v w) a0 w0.drew 0 l)
    (hfin : ∀ (vs : Nat -> Value) w, T w0.drew w -> AllAt (fun i v w => (L.getD i (St.is undef)).1 v w) vs w 0 l -> Q .normal (putsAt vs 0 l a0) w) : (Code.region id l.toArray true).wp P Q a0 w0 :=
  wp_region_steps T _ hm hp hrf htr (fun i v w w' hT h => (L.getD i (St.is undef)).2 v w w' hT h) hs hfin
theorem eval_tmp (a : Act) (k : Nat) {v : Value} (h : a.tmps[k]?.getD undef = v) : a.eval (.tmp k) = v := by
  rw [← h]; simp [Act.eval]
theorem yielded_of {ops : Array Oper} {a : Act} {g d : Nat} {b : Bool} (hd : dstAt ops g = some d) (h : a.tmps[d]?.getD undef = .bool b) : yielded ops a.tmps g = some b := by
  unfold yielded
  unfold dstAt at hd
  rw [hd]
  cases hq : a.tmps[d]? with
  | none => rw [hq] at h; cases h
  | some v => rw [hq] at h; simp at h; subst h; simp [hq]
theorem step_free {ops : Array Oper} {o : Oper} {a : Act} {w : World} {K : Act -> World -> Prop} (hg : o.guard = none) (h : Oper.wp P o a w K Q) :
    if Region.wanted o (yielded ops a.tmps) = true then Oper.wp P o a w K Q else K (a.put o.dst undef) w := by
  rw [if_pos (by simp [Region.wanted, hg])]; exact h
theorem step_yes {ops : Array Oper} {o : Oper} {a : Act} {w : World} {K : Act -> World -> Prop} {g d : Nat} {b : Bool} (hg : o.guard = some (g, b)) (hd : dstAt ops g = some d) (hv : a.tmps[d]?.getD undef = .bool b) (h : Oper.wp P o a w K Q) :
    if Region.wanted o (yielded ops a.tmps) = true then Oper.wp P o a w K Q else K (a.put o.dst undef) w := by
  rw [if_pos (by simp [Region.wanted, hg, yielded_of hd hv])]; exact h
theorem step_no {ops : Array Oper} {o : Oper} {a : Act} {w : World} {K : Act -> World -> Prop} {g d : Nat} {b : Bool} (hg : o.guard = some (g, b)) (hd : dstAt ops g = some d) (hv : a.tmps[d]?.getD undef = .bool (!b) ∨ a.tmps[d]?.getD undef = undef) (h : K (a.put o.dst undef) w) :
    if Region.wanted o (yielded ops a.tmps) = true then Oper.wp P o a w K Q else K (a.put o.dst undef) w := by
  rw [if_neg]
  . exact h
  . rcases hv with hv | hv
    . cases b <;> simp [Region.wanted, hg, yielded_of hd hv]
    . have hy : yielded ops a.tmps g = none := by
        unfold yielded
        unfold dstAt at hd
        rw [hd]
        cases hq : a.tmps[d]? with
        | none => simp [hq]
        | some v => rw [hq] at hv; simp at hv; subst hv; simp [hq, undef]
      simp [Region.wanted, hg, hy]
end
structure TR (R n : Nat) (cs : List Value) (w w' : World) : Prop where
  grown : w.grownBy w' (some R)
  there : w.there R 0 n -> w'.there R 0 n
  fin : w.rangeAt R 0 cs -> w'.rangeAt R 0 cs
theorem TR.refl (R n : Nat) (cs : List Value) (w : World) : TR R n cs w w := ⟨World.grownBy.refl w _, id, id⟩
theorem grown_trans {a b c : World} {row : Option Nat} (h : a.grownBy b row) (k : b.grownBy c row) : a.grownBy c row :=
  ⟨k.os.trans h.os, k.tape.trans h.tape, k.output.trans h.output, Nat.le_trans h.size k.size, fun i hi hne => (k.block i (Nat.lt_of_lt_of_le hi h.size) hne).trans (h.block i hi hne)⟩
theorem TR.trans (R n : Nat) (cs : List Value) (x y z : World) (h : TR R n cs x y) (k : TR R n cs y z) : TR R n cs x z :=
  ⟨grown_trans h.grown k.grown, fun q => k.there (h.there q), fun q => k.fin (h.fin q)⟩
theorem TR.of_below {R n : Nat} {cs : List Value} {w w' : World} (hR : R < w.heap.size) (h : Below w.heap.size w w') : TR R n cs w w' :=
  ⟨⟨h.os, h.tape, h.output, h.size, fun k hk _ => h.block k hk⟩,
   fun q j hj => ⟨by rw [h.cell (p := ⟨R, 0 + j, none⟩) hR]; exact (q j hj).1, by rw [h.frozen (p := ⟨R, 0 + j, none⟩) hR]; exact (q j hj).2⟩,
   fun q j v hv => by rw [h.cell (p := ⟨R, 0 + j, none⟩) hR]; exact q j v hv⟩
theorem TR.cell {R n : Nat} {cs : List Value} {w w' : World} (h : TR R n cs w w') {b o : Nat} (hb : b < w.heap.size) (hne : b ≠ R) : w'.cell? ⟨b, o, none⟩ = w.cell? ⟨b, o, none⟩ :=
  World.cell?_of_block (h.grown.block b hb (fun e => hne (by injection e)))
theorem grown_setCells {R : Nat} : ∀ (vs : List Value) (o : Nat) (w : World), w.grownBy (w.setCells R o vs) (some R)
  | [], _, w => World.grownBy.refl w _
  | v :: vs, o, w => by
    have h1 : w.grownBy (w.setCell ⟨R, o, none⟩ v) (some R) := ⟨rfl, rfl, rfl, by simp [World.setCell], fun k _ hne => Below.heap_setCell w ⟨R, o, none⟩ v k (fun e => hne (by rw [e]))⟩
    exact grown_trans h1 (grown_setCells vs (o + 1) (w.setCell ⟨R, o, none⟩ v))
theorem TR.store {R n : Nat} {cs : List Value} {w : World} (ht : w.there R 0 n) (hn : cs.length = n) : TR R n cs w (w.setCells R 0 cs) /\ (w.setCells R 0 cs).rangeAt R 0 cs := by
  have hr := World.rangeAt_setCells_same w R 0 cs (by rw [hn]; exact ht)
  exact ⟨⟨grown_setCells cs 0 w, fun q => World.there_setCells q R 0 cs, fun _ => hr⟩, hr⟩
theorem TR.below {R n B : Nat} {cs : List Value} {w0 w w' : World} (h : TR R n cs w w') (hb : Below B w0 w) (hB : B <= R) (hs : w0.heap.size = B) : Below B w0 w' :=
  hb.grown h.grown (by have := hb.size; omega) (fun k hk => by injection hk with hk; omega)
def TB (w w' : World) : Prop := Below w.heap.size w w'
theorem TB.refl (w : World) : TB w w := Below.refl _ _
theorem TB.trans (x y z : World) (h : TB x y) (k : TB y z) : TB x z := Below.trans h (Below.mono k h.size)
theorem TB.cell {w w' : World} (h : TB w w') {b o : Nat} (hb : b < w.heap.size) : w'.cell? ⟨b, o, none⟩ = w.cell? ⟨b, o, none⟩ := Below.cell h (p := ⟨b, o, none⟩) hb
theorem TB.alloc (w : World) (o : Obj) : TB w (w.alloc o) := (Below.refl _ _).alloc (Nat.le_refl _) o
end Go.Proofs.Ytilfphdeacogmaa

/- smartcard/block.parse: the walk, by kind (printed by wip/gen/parse.py). -/
namespace Go.Proofs.Ytilfphdeacogmaa
open Go.RowKit
set_option linter.unusedVariables false
attribute [local go_sem] m_PI m_PR m_PS m_CI m_CR m_CS
def okC (c : Nat) : Bool := if c < 128 then decide (c % 32 = 0) else if c < 192 then decide (c < 160 /\ c % 16 < 3) else decide (c % 32 < 4)
def blkC (c : Nat) : List Value :=
  if c < 128 then [.int .i64 0, .int .i64 0, .int .i64 (c / 64 : Nat), .bool (decide (c / 32 % 2 = 1)), .int .i64 0, .bool false, .slice none 0 0]
  else if c < 192 then [.int .i64 0, .int .i64 1, .int .i64 (c / 16 % 2 : Nat), .bool false, .int .i64 (c % 4 : Nat), .bool false, .slice none 0 0]
  else [.int .i64 0, .int .i64 2, .int .i64 0, .bool false, .int .i64 (c % 4 : Nat), .bool (decide (c / 32 % 2 = 1)), .slice none 0 0]
set_option maxHeartbeats 2000000 in
theorem bparse_I_ok (c : Nat) (hc : c < 128) (hok : c % 32 = 0) (w : World) :
    Calls Try.prog 93 #[.int .i64 (c : Int)] w
      fun e w' => e = .returned (.tuple #[.agg (blkC c).toArray, .bool (okC c)]) /\ Below w.heap.size w w' := by
  have ho : okC c = true := by unfold okC; rw [if_pos hc]; simp; omega
  have hbl : blkC c = [.int .i64 0, .int .i64 0, .int .i64 (c / 64 : Nat), .bool (decide (c / 32 % 2 = 1)), .int .i64 0, .bool false, .slice none 0 0] := by unfold blkC; rw [if_pos hc]
  rw [ho, hbl]
  clear ho hbl
  have h1 := byte_and192 c (by omega)
  have h192 : (bits .and .i64 (c : Int) 192 == 192) = false := by rw [h1, beq_eq_false_iff_ne]; omega
  have h128 : (bits .and .i64 (c : Int) 192 == 128) = false := by rw [h1, beq_eq_false_iff_ne]; omega
  clear h1
  have hq : ctlI ((c / 64 : Nat) : Int) (decide (c / 32 % 2 = 1)) = (64 * (c / 64) + (if c / 32 % 2 = 1 then 32 else 0) : Nat) := by unfold ctlI; split <;> simp_all
  have h01 : ((c / 64 : Nat) : Int) = 0 ∨ ((c / 64 : Nat) : Int) = 1 := by omega
  have heq : (ctlI ((c / 64 : Nat) : Int) (decide (c / 32 % 2 = 1)) == (c : Int)) = true := by
    rw [hq, beq_iff_eq]; split <;> omega
  have hP : ∀ W, Calls Try.prog 130 #[.agg #[], .int .i64 (c : Int)] W fun e w' => e = .returned (.agg #[.int .i64 0, .int .i64 0, .int .i64 (c / 64 : Nat), .bool (decide (c / 32 % 2 = 1)), .int .i64 0, .bool false, .slice none 0 0]) /\ Below W.heap.size W w' := fun W => parse_I c hc W
  clear hq hok hc
  generalize hs : ((c / 64 : Nat) : Int) = s at *
  generalize hm : decide (c / 32 % 2 = 1) = m at *
  have HK := Lib.hid h01
  clear h01 hs hm
  have HP := Lib.hid hP
  clear hP
  go_enter Try.func93, Try.ntmps93
  go_wp2_with fail
  refine (HP.out _).mono ?_
  rintro e w1 ⟨rfl, hb⟩
  obtain ⟨hc1, hf1⟩ := bcell hb
  have hz : w.heap.size < w1.heap.size := by have := hb.size; simp at this; omega
  have hne : w.heap.size ≠ w1.heap.size := by omega
  go_wp2_with fail
  have hw1 : Below w.heap.size w w1 := ((Below.refl _ _).alloc (Nat.le_refl _) _).trans (hb.mono (by simp))
  have hth : (w1.alloc (.cells #[.int .i64 0, .int .i64 0, .int .i64 s, .bool m, .int .i64 0, .bool false, .slice none 0 0] 29)).drew.there w.heap.size 0 7 := by
    refine there_of_cells (cs := #[.int .i64 0, .int .i64 0, .int .i64 0, .bool false, .int .i64 0, .bool false, .slice none 0 0]) (t := 29) ?_ rfl
    show (w1.alloc _).heap[w.heap.size]? = _
    rw [Below.heap_alloc _ _ _ hz, hb.block _ (by simp)]
    exact heap_alloc_new w _
  refine wp_region_list' (T := TR w.heap.size 7 [.int .i64 0, .int .i64 0, .int .i64 s, .bool m, .int .i64 0, .bool false, .slice none 0 0]) [St.is (.agg #[.int .i64 0, .int .i64 0, .int .i64 s, .bool m, .int .i64 0, .bool false, .slice none 0 0]), St.is (.iface 129 (.agg #[])), St.is (.agg #[.int .i64 0, .int .i64 0, .int .i64 s, .bool m, .int .i64 0, .bool false, .slice none 0 0]), St.is (.int .i64 (ctlI s m)), St.is (.int .i64 (c : Int)), St.is (.bool true), St.is (.bool true), St.is (.iface 129 (.agg #[])), St.is (.int .i64 0), St.is (.bool true), St.is (.bool true), St.is undef, St.is undef, St.is undef, St.is undef, St.is undef, St.is (Go.Value.bool true), St.is (Go.Value.bool true), St.pred (fun v' w' => w'.rangeAt w.heap.size 0 [.int .i64 0, .int .i64 0, .int .i64 s, .bool m, .int .i64 0, .bool false, .slice none 0 0]) (fun _ _ _ h q => h.fin q), St.is (Go.Value.bool true)] (by kernel_rfl) (by kernel_rfl) (TR.refl _ _ _) (TR.trans _ _ _) ⟨?s0, ?s1, ?s2, ?s3, ?s4, ?s5, ?s6, ?s7, ?s8, ?s9, ?s10, ?s11, ?s12, ?s13, ?s14, ?s15, ?s16, ?s17, ?s18, ?s19, trivial⟩ ?hfin
  case s0 =>
    intro a w' K hT hf hw hK
    refine step_free rfl ?_
    have h5 : a.tmps[5]?.getD undef = .pointer (some ⟨w1.heap.size, 0, none⟩) := hf 5 (by kernel_rfl)
    clear hf hw
    have hcell : ∀ j, w'.cell? ⟨w1.heap.size, j, none⟩ = (w1.alloc (.cells #[.int .i64 0, .int .i64 0, .int .i64 s, .bool m, .int .i64 0, .bool false, .slice none 0 0] 29)).cell? ⟨w1.heap.size, j, none⟩ := fun j => hT.cell (by simp) (Ne.symm hne)
    go_simp
    exact hK _ _ (TR.refl _ _ _ _) rfl
  case s1 =>
    intro a w' K hT hf hw hK
    refine step_free rfl ?_
    have h4 : a.tmps[4]?.getD undef = .iface 129 (.agg #[]) := hf 4 (by kernel_rfl)
    clear hf hw
    go_simp
    exact hK _ _ (TR.refl _ _ _ _) rfl
  case s2 =>
    intro a w' K hT hf hw hK
    refine step_free rfl ?_
    have h5 : a.tmps[5]?.getD undef = .pointer (some ⟨w1.heap.size, 0, none⟩) := hf 5 (by kernel_rfl)
    clear hf hw
    have hcell : ∀ j, w'.cell? ⟨w1.heap.size, j, none⟩ = (w1.alloc (.cells #[.int .i64 0, .int .i64 0, .int .i64 s, .bool m, .int .i64 0, .bool false, .slice none 0 0] 29)).cell? ⟨w1.heap.size, j, none⟩ := fun j => hT.cell (by simp) (Ne.symm hne)
    go_simp
    exact hK _ _ (TR.refl _ _ _ _) rfl
  case s3 =>
    intro a w' K hT hf hw hK
    refine step_free rfl ?_
    have h22 : a.tmps[22]?.getD undef = .iface 129 (.agg #[]) := hw.1
    have h23 : a.tmps[23]?.getD undef = .agg #[.int .i64 0, .int .i64 0, .int .i64 s, .bool m, .int .i64 0, .bool false, .slice none 0 0] := hw.2.1
    clear hf hw
    have hR : w.heap.size < w'.heap.size := by have := hT.grown.size; simp at this; omega
    go_simp
    refine (control_I _ _ _ _ _ _ _ _ HK.out).mono ?_
    rintro e w2 ⟨rfl, hb2⟩
    exact hK _ _ (TR.of_below hR hb2) rfl
  case s4 =>
    intro a w' K hT hf hw hK
    refine step_free rfl ?_
    have h0 : a.tmps[0]?.getD undef = .int .i64 (c : Int) := hf 0 (by kernel_rfl)
    clear hf hw
    go_simp
    exact hK _ _ (TR.refl _ _ _ _) rfl
  case s5 =>
    intro a w' K hT hf hw hK
    refine step_free rfl ?_
    have h24 : a.tmps[24]?.getD undef = .int .i64 (ctlI s m) := hw.1
    have h25 : a.tmps[25]?.getD undef = .int .i64 (c : Int) := hw.2.1
    clear hf hw
    go_simp
    exact hK _ _ (TR.refl _ _ _ _) rfl
  case s6 =>
    intro a w' K hT hf hw hK
    refine step_free rfl ?_
    have h26 : a.tmps[26]?.getD undef = .bool true := hw.1
    clear hf hw
    go_simp
    exact hK _ _ (TR.refl _ _ _ _) rfl
  case s7 =>
    intro a w' K hT hf hw hK
    have hg : a.tmps[27]?.getD undef = .bool true := hw.1
    refine step_yes rfl rfl hg ?_
    clear hg
    have h4 : a.tmps[4]?.getD undef = .iface 129 (.agg #[]) := hf 4 (by kernel_rfl)
    clear hf hw
    go_simp
    exact hK _ _ (TR.refl _ _ _ _) rfl
  case s8 =>
    intro a w' K hT hf hw hK
    have hg : a.tmps[27]?.getD undef = .bool true := hw.2.1
    refine step_yes rfl rfl hg ?_
    clear hg
    have h28 : a.tmps[28]?.getD undef = .iface 129 (.agg #[]) := hw.1
    clear hf hw
    go_simp
    refine (codes_I _).mono ?_
    rintro e w2 ⟨rfl, rfl⟩
    exact hK _ _ (TR.refl _ _ _ _) rfl
  case s9 =>
    intro a w' K hT hf hw hK
    have hg : a.tmps[27]?.getD undef = .bool true := hw.2.1
    refine step_yes rfl rfl hg ?_
    clear hg
    have h29 : a.tmps[29]?.getD undef = .int .i64 0 := hw.1
    clear hf hw
    go_simp
    exact hK _ _ (TR.refl _ _ _ _) rfl
  case s10 =>
    intro a w' K hT hf hw hK
    have hg : a.tmps[27]?.getD undef = .bool true := hw.2.2.1
    refine step_yes rfl rfl hg ?_
    clear hg
    have h30 : a.tmps[30]?.getD undef = .bool true := hw.1
    clear hf hw
    go_simp
    exact hK _ _ (TR.refl _ _ _ _) rfl
  case s11 =>
    intro a w' K hT hf hw hK
    have hg : a.tmps[31]?.getD undef = .bool true := hw.1
    refine step_no rfl rfl (.inl hg) ?_
    exact hK _ _ (TR.refl _ _ _ _) rfl
  case s12 =>
    intro a w' K hT hf hw hK
    have hg : a.tmps[31]?.getD undef = .bool true := hw.2.1
    refine step_no rfl rfl (.inl hg) ?_
    exact hK _ _ (TR.refl _ _ _ _) rfl
  case s13 =>
    intro a w' K hT hf hw hK
    have hg : a.tmps[31]?.getD undef = .bool true := hw.1
    refine step_no rfl rfl (.inl hg) ?_
    exact hK _ _ (TR.refl _ _ _ _) rfl
  case s14 =>
    intro a w' K hT hf hw hK
    have hg : a.tmps[31]?.getD undef = .bool true := hw.2.1
    refine step_no rfl rfl (.inl hg) ?_
    exact hK _ _ (TR.refl _ _ _ _) rfl
  case s15 =>
    intro a w' K hT hf hw hK
    have hg : a.tmps[31]?.getD undef = .bool true := hw.2.2.1
    refine step_no rfl rfl (.inl hg) ?_
    exact hK _ _ (TR.refl _ _ _ _) rfl
  case s16 =>
    intro a w' K hT hf hw hK
    have hg : a.tmps[27]?.getD undef = .bool true := hw.2.2.1
    refine step_yes rfl rfl hg ?_
    clear hg
    have h31 : a.tmps[31]?.getD undef = .bool true := hw.1
    have h36 : a.tmps[36]?.getD undef = undef := hw.2.1
    clear hf hw
    go_simp
    exact hK _ _ (TR.refl _ _ _ _) rfl
  case s17 =>
    intro a w' K hT hf hw hK
    refine step_free rfl ?_
    have h27 : a.tmps[27]?.getD undef = .bool true := hw.1
    have h37 : a.tmps[37]?.getD undef = Go.Value.bool true := hw.2.1
    clear hf hw
    go_simp
    exact hK _ _ (TR.refl _ _ _ _) rfl
  case s18 =>
    intro a w' K hT hf hw hK
    refine step_free rfl ?_
    have h2 : a.tmps[2]?.getD undef = .pointer (some ⟨w.heap.size, 0, none⟩) := hf 2 (by kernel_rfl)
    have h21 : a.tmps[21]?.getD undef = .agg #[.int .i64 0, .int .i64 0, .int .i64 s, .bool m, .int .i64 0, .bool false, .slice none 0 0] := hw.1
    exact wp_store_mid 29 _ _ rfl w.heap.size 0 #[.int .i64 0, .int .i64 0, .int .i64 s, .bool m, .int .i64 0, .bool false, .slice none 0 0] (eval_tmp a 2 h2) (eval_tmp a 21 h21) (hT.there hth) (by kernel_rfl) (by simp [Value.oneCell']) (hK _ _ (TR.store (hT.there hth) rfl).1 (TR.store (hT.there hth) rfl).2)
  case s19 =>
    intro a w' K hT hf hw hK
    refine step_free rfl ?_
    have h38 : a.tmps[38]?.getD undef = Go.Value.bool true := hw.1
    clear hf hw
    go_simp
    exact hK _ _ (TR.refl _ _ _ _) rfl
  case hfin =>
    rintro vs w' hT ⟨f0, f1, f2, f3, f4, f5, f6, f7, f8, f9, f10, f11, f12, f13, f14, f15, f16, f17, f18, f19, -⟩
    have e0 : vs 0 = .agg #[.int .i64 0, .int .i64 0, .int .i64 s, .bool m, .int .i64 0, .bool false, .slice none 0 0] := f0
    have e1 : vs 1 = .iface 129 (.agg #[]) := f1
    have e2 : vs 2 = .agg #[.int .i64 0, .int .i64 0, .int .i64 s, .bool m, .int .i64 0, .bool false, .slice none 0 0] := f2
    have e3 : vs 3 = .int .i64 (ctlI s m) := f3
    have e4 : vs 4 = .int .i64 (c : Int) := f4
    have e5 : vs 5 = .bool true := f5
    have e6 : vs 6 = .bool true := f6
    have e7 : vs 7 = .iface 129 (.agg #[]) := f7
    have e8 : vs 8 = .int .i64 0 := f8
    have e9 : vs 9 = .bool true := f9
    have e10 : vs 10 = .bool true := f10
    have e11 : vs 11 = undef := f11
    have e12 : vs 12 = undef := f12
    have e13 : vs 13 = undef := f13
    have e14 : vs 14 = undef := f14
    have e15 : vs 15 = undef := f15
    have e16 : vs 16 = Go.Value.bool true := f16
    have e17 : vs 17 = Go.Value.bool true := f17
    have e19 : vs 19 = Go.Value.bool true := f19
    simp only [putsAt, Act.put, e0, e1, e2, e3, e4, e5, e6, e7, e8, e9, e10, e11, e12, e13, e14, e15, e16, e17, e19]
    simp only [List.setIfInBounds_toArray, List.set_cons_succ, List.set_cons_zero]
    clear e0 e1 e2 e3 e4 e5 e6 e7 e8 e9 e10 e11 e12 e13 e14 e15 e16 e17 e19 f0 f1 f2 f3 f4 f5 f6 f7 f8 f9 f10 f11 f12 f13 f14 f15 f16 f17 f19
    have hr : w'.rangeAt w.heap.size 0 [.int .i64 0, .int .i64 0, .int .i64 s, .bool m, .int .i64 0, .bool false, .slice none 0 0] := f18
    clear f18
    go_wp2_with fail
    refine bodyPost_ret (results_cell_tmp rfl _ _ w.heap.size 0 [.int .i64 0, .int .i64 0, .int .i64 s, .bool m, .int .i64 0, .bool false, .slice none 0 0] _ rfl hr Try.underlying29 rfl (by kernel_rfl)) rfl ⟨rfl, ?_⟩
    exact hT.below (hw1.alloc hw1.size _).drew (Nat.le_refl _) rfl
set_option maxHeartbeats 2000000 in
theorem bparse_I_no (c : Nat) (hc : c < 128) (hok : ¬ c % 32 = 0) (w : World) :
    Calls Try.prog 93 #[.int .i64 (c : Int)] w
      fun e w' => e = .returned (.tuple #[.agg (blkC c).toArray, .bool (okC c)]) /\ Below w.heap.size w w' := by
  have ho : okC c = false := by unfold okC; rw [if_pos hc]; simp; omega
  have hbl : blkC c = [.int .i64 0, .int .i64 0, .int .i64 (c / 64 : Nat), .bool (decide (c / 32 % 2 = 1)), .int .i64 0, .bool false, .slice none 0 0] := by unfold blkC; rw [if_pos hc]
  rw [ho, hbl]
  clear ho hbl
  have h1 := byte_and192 c (by omega)
  have h192 : (bits .and .i64 (c : Int) 192 == 192) = false := by rw [h1, beq_eq_false_iff_ne]; omega
  have h128 : (bits .and .i64 (c : Int) 192 == 128) = false := by rw [h1, beq_eq_false_iff_ne]; omega
  clear h1
  have hq : ctlI ((c / 64 : Nat) : Int) (decide (c / 32 % 2 = 1)) = (64 * (c / 64) + (if c / 32 % 2 = 1 then 32 else 0) : Nat) := by unfold ctlI; split <;> simp_all
  have h01 : ((c / 64 : Nat) : Int) = 0 ∨ ((c / 64 : Nat) : Int) = 1 := by omega
  have heq : (ctlI ((c / 64 : Nat) : Int) (decide (c / 32 % 2 = 1)) == (c : Int)) = false := by
    rw [hq, beq_eq_false_iff_ne]; split <;> omega
  have hP : ∀ W, Calls Try.prog 130 #[.agg #[], .int .i64 (c : Int)] W fun e w' => e = .returned (.agg #[.int .i64 0, .int .i64 0, .int .i64 (c / 64 : Nat), .bool (decide (c / 32 % 2 = 1)), .int .i64 0, .bool false, .slice none 0 0]) /\ Below W.heap.size W w' := fun W => parse_I c hc W
  clear hq hok hc
  generalize hs : ((c / 64 : Nat) : Int) = s at *
  generalize hm : decide (c / 32 % 2 = 1) = m at *
  have HK := Lib.hid h01
  clear h01 hs hm
  have HP := Lib.hid hP
  clear hP
  go_enter Try.func93, Try.ntmps93
  go_wp2_with fail
  refine (HP.out _).mono ?_
  rintro e w1 ⟨rfl, hb⟩
  obtain ⟨hc1, hf1⟩ := bcell hb
  have hz : w.heap.size < w1.heap.size := by have := hb.size; simp at this; omega
  have hne : w.heap.size ≠ w1.heap.size := by omega
  go_wp2_with fail
  have hw1 : Below w.heap.size w w1 := ((Below.refl _ _).alloc (Nat.le_refl _) _).trans (hb.mono (by simp))
  have hth : (w1.alloc (.cells #[.int .i64 0, .int .i64 0, .int .i64 s, .bool m, .int .i64 0, .bool false, .slice none 0 0] 29)).drew.there w.heap.size 0 7 := by
    refine there_of_cells (cs := #[.int .i64 0, .int .i64 0, .int .i64 0, .bool false, .int .i64 0, .bool false, .slice none 0 0]) (t := 29) ?_ rfl
    show (w1.alloc _).heap[w.heap.size]? = _
    rw [Below.heap_alloc _ _ _ hz, hb.block _ (by simp)]
    exact heap_alloc_new w _
  refine wp_region_list' (T := TR w.heap.size 7 [.int .i64 0, .int .i64 0, .int .i64 s, .bool m, .int .i64 0, .bool false, .slice none 0 0]) [St.is (.agg #[.int .i64 0, .int .i64 0, .int .i64 s, .bool m, .int .i64 0, .bool false, .slice none 0 0]), St.is (.iface 129 (.agg #[])), St.is (.agg #[.int .i64 0, .int .i64 0, .int .i64 s, .bool m, .int .i64 0, .bool false, .slice none 0 0]), St.is (.int .i64 (ctlI s m)), St.is (.int .i64 (c : Int)), St.is (.bool false), St.is (.bool false), St.is undef, St.is undef, St.is undef, St.is undef, St.is undef, St.is undef, St.is undef, St.is undef, St.is undef, St.is undef, St.is (Go.Value.bool false), St.pred (fun v' w' => w'.rangeAt w.heap.size 0 [.int .i64 0, .int .i64 0, .int .i64 s, .bool m, .int .i64 0, .bool false, .slice none 0 0]) (fun _ _ _ h q => h.fin q), St.is (Go.Value.bool false)] (by kernel_rfl) (by kernel_rfl) (TR.refl _ _ _) (TR.trans _ _ _) ⟨?s0, ?s1, ?s2, ?s3, ?s4, ?s5, ?s6, ?s7, ?s8, ?s9, ?s10, ?s11, ?s12, ?s13, ?s14, ?s15, ?s16, ?s17, ?s18, ?s19, trivial⟩ ?hfin
  case s0 =>
    intro a w' K hT hf hw hK
    refine step_free rfl ?_
    have h5 : a.tmps[5]?.getD undef = .pointer (some ⟨w1.heap.size, 0, none⟩) := hf 5 (by kernel_rfl)
    clear hf hw
    have hcell : ∀ j, w'.cell? ⟨w1.heap.size, j, none⟩ = (w1.alloc (.cells #[.int .i64 0, .int .i64 0, .int .i64 s, .bool m, .int .i64 0, .bool false, .slice none 0 0] 29)).cell? ⟨w1.heap.size, j, none⟩ := fun j => hT.cell (by simp) (Ne.symm hne)
    go_simp
    exact hK _ _ (TR.refl _ _ _ _) rfl
  case s1 =>
    intro a w' K hT hf hw hK
    refine step_free rfl ?_
    have h4 : a.tmps[4]?.getD undef = .iface 129 (.agg #[]) := hf 4 (by kernel_rfl)
    clear hf hw
    go_simp
    exact hK _ _ (TR.refl _ _ _ _) rfl
  case s2 =>
    intro a w' K hT hf hw hK
    refine step_free rfl ?_
    have h5 : a.tmps[5]?.getD undef = .pointer (some ⟨w1.heap.size, 0, none⟩) := hf 5 (by kernel_rfl)
    clear hf hw
    have hcell : ∀ j, w'.cell? ⟨w1.heap.size, j, none⟩ = (w1.alloc (.cells #[.int .i64 0, .int .i64 0, .int .i64 s, .bool m, .int .i64 0, .bool false, .slice none 0 0] 29)).cell? ⟨w1.heap.size, j, none⟩ := fun j => hT.cell (by simp) (Ne.symm hne)
    go_simp
    exact hK _ _ (TR.refl _ _ _ _) rfl
  case s3 =>
    intro a w' K hT hf hw hK
    refine step_free rfl ?_
    have h22 : a.tmps[22]?.getD undef = .iface 129 (.agg #[]) := hw.1
    have h23 : a.tmps[23]?.getD undef = .agg #[.int .i64 0, .int .i64 0, .int .i64 s, .bool m, .int .i64 0, .bool false, .slice none 0 0] := hw.2.1
    clear hf hw
    have hR : w.heap.size < w'.heap.size := by have := hT.grown.size; simp at this; omega
    go_simp
    refine (control_I _ _ _ _ _ _ _ _ HK.out).mono ?_
    rintro e w2 ⟨rfl, hb2⟩
    exact hK _ _ (TR.of_below hR hb2) rfl
  case s4 =>
    intro a w' K hT hf hw hK
    refine step_free rfl ?_
    have h0 : a.tmps[0]?.getD undef = .int .i64 (c : Int) := hf 0 (by kernel_rfl)
    clear hf hw
    go_simp
    exact hK _ _ (TR.refl _ _ _ _) rfl
  case s5 =>
    intro a w' K hT hf hw hK
    refine step_free rfl ?_
    have h24 : a.tmps[24]?.getD undef = .int .i64 (ctlI s m) := hw.1
    have h25 : a.tmps[25]?.getD undef = .int .i64 (c : Int) := hw.2.1
    clear hf hw
    go_simp
    exact hK _ _ (TR.refl _ _ _ _) rfl
  case s6 =>
    intro a w' K hT hf hw hK
    refine step_free rfl ?_
    have h26 : a.tmps[26]?.getD undef = .bool false := hw.1
    clear hf hw
    go_simp
    exact hK _ _ (TR.refl _ _ _ _) rfl
  case s7 =>
    intro a w' K hT hf hw hK
    have hg : a.tmps[27]?.getD undef = .bool false := hw.1
    refine step_no rfl rfl (.inl hg) ?_
    exact hK _ _ (TR.refl _ _ _ _) rfl
  case s8 =>
    intro a w' K hT hf hw hK
    have hg : a.tmps[27]?.getD undef = .bool false := hw.2.1
    refine step_no rfl rfl (.inl hg) ?_
    exact hK _ _ (TR.refl _ _ _ _) rfl
  case s9 =>
    intro a w' K hT hf hw hK
    have hg : a.tmps[27]?.getD undef = .bool false := hw.2.1
    refine step_no rfl rfl (.inl hg) ?_
    exact hK _ _ (TR.refl _ _ _ _) rfl
  case s10 =>
    intro a w' K hT hf hw hK
    have hg : a.tmps[27]?.getD undef = .bool false := hw.2.2.1
    refine step_no rfl rfl (.inl hg) ?_
    exact hK _ _ (TR.refl _ _ _ _) rfl
  case s11 =>
    intro a w' K hT hf hw hK
    have hg : a.tmps[31]?.getD undef = undef := hw.1
    refine step_no rfl rfl (.inr hg) ?_
    exact hK _ _ (TR.refl _ _ _ _) rfl
  case s12 =>
    intro a w' K hT hf hw hK
    have hg : a.tmps[31]?.getD undef = undef := hw.2.1
    refine step_no rfl rfl (.inr hg) ?_
    exact hK _ _ (TR.refl _ _ _ _) rfl
  case s13 =>
    intro a w' K hT hf hw hK
    have hg : a.tmps[31]?.getD undef = undef := hw.1
    refine step_no rfl rfl (.inr hg) ?_
    exact hK _ _ (TR.refl _ _ _ _) rfl
  case s14 =>
    intro a w' K hT hf hw hK
    have hg : a.tmps[31]?.getD undef = undef := hw.2.1
    refine step_no rfl rfl (.inr hg) ?_
    exact hK _ _ (TR.refl _ _ _ _) rfl
  case s15 =>
    intro a w' K hT hf hw hK
    have hg : a.tmps[31]?.getD undef = undef := hw.2.2.1
    refine step_no rfl rfl (.inr hg) ?_
    exact hK _ _ (TR.refl _ _ _ _) rfl
  case s16 =>
    intro a w' K hT hf hw hK
    have hg : a.tmps[27]?.getD undef = .bool false := hw.2.2.1
    refine step_no rfl rfl (.inl hg) ?_
    exact hK _ _ (TR.refl _ _ _ _) rfl
  case s17 =>
    intro a w' K hT hf hw hK
    refine step_free rfl ?_
    have h27 : a.tmps[27]?.getD undef = .bool false := hw.1
    have h37 : a.tmps[37]?.getD undef = undef := hw.2.1
    clear hf hw
    go_simp
    exact hK _ _ (TR.refl _ _ _ _) rfl
  case s18 =>
    intro a w' K hT hf hw hK
    refine step_free rfl ?_
    have h2 : a.tmps[2]?.getD undef = .pointer (some ⟨w.heap.size, 0, none⟩) := hf 2 (by kernel_rfl)
    have h21 : a.tmps[21]?.getD undef = .agg #[.int .i64 0, .int .i64 0, .int .i64 s, .bool m, .int .i64 0, .bool false, .slice none 0 0] := hw.1
    exact wp_store_mid 29 _ _ rfl w.heap.size 0 #[.int .i64 0, .int .i64 0, .int .i64 s, .bool m, .int .i64 0, .bool false, .slice none 0 0] (eval_tmp a 2 h2) (eval_tmp a 21 h21) (hT.there hth) (by kernel_rfl) (by simp [Value.oneCell']) (hK _ _ (TR.store (hT.there hth) rfl).1 (TR.store (hT.there hth) rfl).2)
  case s19 =>
    intro a w' K hT hf hw hK
    refine step_free rfl ?_
    have h38 : a.tmps[38]?.getD undef = Go.Value.bool false := hw.1
    clear hf hw
    go_simp
    exact hK _ _ (TR.refl _ _ _ _) rfl
  case hfin =>
    rintro vs w' hT ⟨f0, f1, f2, f3, f4, f5, f6, f7, f8, f9, f10, f11, f12, f13, f14, f15, f16, f17, f18, f19, -⟩
    have e0 : vs 0 = .agg #[.int .i64 0, .int .i64 0, .int .i64 s, .bool m, .int .i64 0, .bool false, .slice none 0 0] := f0
    have e1 : vs 1 = .iface 129 (.agg #[]) := f1
    have e2 : vs 2 = .agg #[.int .i64 0, .int .i64 0, .int .i64 s, .bool m, .int .i64 0, .bool false, .slice none 0 0] := f2
    have e3 : vs 3 = .int .i64 (ctlI s m) := f3
    have e4 : vs 4 = .int .i64 (c : Int) := f4
    have e5 : vs 5 = .bool false := f5
    have e6 : vs 6 = .bool false := f6
    have e7 : vs 7 = undef := f7
    have e8 : vs 8 = undef := f8
    have e9 : vs 9 = undef := f9
    have e10 : vs 10 = undef := f10
    have e11 : vs 11 = undef := f11
    have e12 : vs 12 = undef := f12
    have e13 : vs 13 = undef := f13
    have e14 : vs 14 = undef := f14
    have e15 : vs 15 = undef := f15
    have e16 : vs 16 = undef := f16
    have e17 : vs 17 = Go.Value.bool false := f17
    have e19 : vs 19 = Go.Value.bool false := f19
    simp only [putsAt, Act.put, e0, e1, e2, e3, e4, e5, e6, e7, e8, e9, e10, e11, e12, e13, e14, e15, e16, e17, e19]
    simp only [List.setIfInBounds_toArray, List.set_cons_succ, List.set_cons_zero]
    clear e0 e1 e2 e3 e4 e5 e6 e7 e8 e9 e10 e11 e12 e13 e14 e15 e16 e17 e19 f0 f1 f2 f3 f4 f5 f6 f7 f8 f9 f10 f11 f12 f13 f14 f15 f16 f17 f19
    have hr : w'.rangeAt w.heap.size 0 [.int .i64 0, .int .i64 0, .int .i64 s, .bool m, .int .i64 0, .bool false, .slice none 0 0] := f18
    clear f18
    go_wp2_with fail
    refine bodyPost_ret (results_cell_tmp rfl _ _ w.heap.size 0 [.int .i64 0, .int .i64 0, .int .i64 s, .bool m, .int .i64 0, .bool false, .slice none 0 0] _ rfl hr Try.underlying29 rfl (by kernel_rfl)) rfl ⟨rfl, ?_⟩
    exact hT.below (hw1.alloc hw1.size _).drew (Nat.le_refl _) rfl
set_option maxHeartbeats 2000000 in
theorem bparse_R_ok (c : Nat) (h0 : 128 <= c) (hc : c < 192) (hok : c < 160 /\ c % 16 < 3) (w : World) :
    Calls Try.prog 93 #[.int .i64 (c : Int)] w
      fun e w' => e = .returned (.tuple #[.agg (blkC c).toArray, .bool (okC c)]) /\ Below w.heap.size w w' := by
  have ho : okC c = true := by unfold okC; rw [if_neg (by omega), if_pos hc]; simp; omega
  have hbl : blkC c = [.int .i64 0, .int .i64 1, .int .i64 (c / 16 % 2 : Nat), .bool false, .int .i64 (c % 4 : Nat), .bool false, .slice none 0 0] := by unfold blkC; rw [if_neg (by omega), if_pos hc]
  rw [ho, hbl]
  clear ho hbl
  have h1 := byte_and192 c (by omega)
  rw [show c / 64 * 64 = 128 by omega] at h1
  have hq : ctlR ((c / 16 % 2 : Nat) : Int) ((c % 4 : Nat) : Int) = (128 + 16 * (c / 16 % 2) + c % 4 : Nat) := by unfold ctlR; omega
  have h01 : ((c / 16 % 2 : Nat) : Int) = 0 ∨ ((c / 16 % 2 : Nat) : Int) = 1 := by omega
  have h4 : ((c % 4 : Nat) : Int) = 0 ∨ ((c % 4 : Nat) : Int) = 1 ∨ ((c % 4 : Nat) : Int) = 2 ∨ ((c % 4 : Nat) : Int) = 3 := by omega
  have heq : (ctlR ((c / 16 % 2 : Nat) : Int) ((c % 4 : Nat) : Int) == (c : Int)) = true := by
    rw [hq, beq_iff_eq]; omega
  have hlt : ((c % 4 : Nat) : Int) < 3 := by omega
  have hP : ∀ W, Calls Try.prog 127 #[.agg #[], .int .i64 (c : Int)] W fun e w' => e = .returned (.agg #[.int .i64 0, .int .i64 1, .int .i64 (c / 16 % 2 : Nat), .bool false, .int .i64 (c % 4 : Nat), .bool false, .slice none 0 0]) /\ Below W.heap.size W w' := fun W => parse_R c (by omega) W
  clear hq hok h0 hc
  generalize hs : ((c / 16 % 2 : Nat) : Int) = s at *
  generalize hk : ((c % 4 : Nat) : Int) = k at *
  have HK := Lib.hid (And.intro h01 h4)
  clear h01 h4 hs hk
  have HP := Lib.hid hP
  clear hP
  go_enter Try.func93, Try.ntmps93
  go_wp2_with fail
  refine (HP.out _).mono ?_
  rintro e w1 ⟨rfl, hb⟩
  obtain ⟨hc1, hf1⟩ := bcell hb
  have hz : w.heap.size < w1.heap.size := by have := hb.size; simp at this; omega
  have hne : w.heap.size ≠ w1.heap.size := by omega
  go_wp2_with fail
  have hw1 : Below w.heap.size w w1 := ((Below.refl _ _).alloc (Nat.le_refl _) _).trans (hb.mono (by simp))
  have hth : (w1.alloc (.cells #[.int .i64 0, .int .i64 1, .int .i64 s, .bool false, .int .i64 k, .bool false, .slice none 0 0] 29)).drew.there w.heap.size 0 7 := by
    refine there_of_cells (cs := #[.int .i64 0, .int .i64 0, .int .i64 0, .bool false, .int .i64 0, .bool false, .slice none 0 0]) (t := 29) ?_ rfl
    show (w1.alloc _).heap[w.heap.size]? = _
    rw [Below.heap_alloc _ _ _ hz, hb.block _ (by simp)]
    exact heap_alloc_new w _
  refine wp_region_list' (T := TR w.heap.size 7 [.int .i64 0, .int .i64 1, .int .i64 s, .bool false, .int .i64 k, .bool false, .slice none 0 0]) [St.is (.agg #[.int .i64 0, .int .i64 1, .int .i64 s, .bool false, .int .i64 k, .bool false, .slice none 0 0]), St.is (.iface 128 (.agg #[])), St.is (.agg #[.int .i64 0, .int .i64 1, .int .i64 s, .bool false, .int .i64 k, .bool false, .slice none 0 0]), St.is (.int .i64 (ctlR s k)), St.is (.int .i64 (c : Int)), St.is (.bool true), St.is (.bool true), St.is (.iface 128 (.agg #[])), St.is (.int .i64 3), St.is (.bool false), St.is (.bool false), St.is (.pointer (some ⟨w1.heap.size, 4, none⟩)), St.is (.int .i64 k), St.is (.iface 128 (.agg #[])), St.is (.int .i64 3), St.is (.bool true), St.is (.bool true), St.is (.bool true), St.pred (fun v' w' => w'.rangeAt w.heap.size 0 [.int .i64 0, .int .i64 1, .int .i64 s, .bool false, .int .i64 k, .bool false, .slice none 0 0]) (fun _ _ _ h q => h.fin q), St.is (.bool true)] (by kernel_rfl) (by kernel_rfl) (TR.refl _ _ _) (TR.trans _ _ _) ⟨?s0, ?s1, ?s2, ?s3, ?s4, ?s5, ?s6, ?s7, ?s8, ?s9, ?s10, ?s11, ?s12, ?s13, ?s14, ?s15, ?s16, ?s17, ?s18, ?s19, trivial⟩ ?hfin
  case s0 =>
    intro a w' K hT hf hw hK
    refine step_free rfl ?_
    have h5 : a.tmps[5]?.getD undef = .pointer (some ⟨w1.heap.size, 0, none⟩) := hf 5 (by kernel_rfl)
    clear hf hw
    have hcell : ∀ j, w'.cell? ⟨w1.heap.size, j, none⟩ = (w1.alloc (.cells #[.int .i64 0, .int .i64 1, .int .i64 s, .bool false, .int .i64 k, .bool false, .slice none 0 0] 29)).cell? ⟨w1.heap.size, j, none⟩ := fun j => hT.cell (by simp) (Ne.symm hne)
    go_simp
    exact hK _ _ (TR.refl _ _ _ _) rfl
  case s1 =>
    intro a w' K hT hf hw hK
    refine step_free rfl ?_
    have h4 : a.tmps[4]?.getD undef = .iface 128 (.agg #[]) := hf 4 (by kernel_rfl)
    clear hf hw
    go_simp
    exact hK _ _ (TR.refl _ _ _ _) rfl
  case s2 =>
    intro a w' K hT hf hw hK
    refine step_free rfl ?_
    have h5 : a.tmps[5]?.getD undef = .pointer (some ⟨w1.heap.size, 0, none⟩) := hf 5 (by kernel_rfl)
    clear hf hw
    have hcell : ∀ j, w'.cell? ⟨w1.heap.size, j, none⟩ = (w1.alloc (.cells #[.int .i64 0, .int .i64 1, .int .i64 s, .bool false, .int .i64 k, .bool false, .slice none 0 0] 29)).cell? ⟨w1.heap.size, j, none⟩ := fun j => hT.cell (by simp) (Ne.symm hne)
    go_simp
    exact hK _ _ (TR.refl _ _ _ _) rfl
  case s3 =>
    intro a w' K hT hf hw hK
    refine step_free rfl ?_
    have h22 : a.tmps[22]?.getD undef = .iface 128 (.agg #[]) := hw.1
    have h23 : a.tmps[23]?.getD undef = .agg #[.int .i64 0, .int .i64 1, .int .i64 s, .bool false, .int .i64 k, .bool false, .slice none 0 0] := hw.2.1
    clear hf hw
    have hR : w.heap.size < w'.heap.size := by have := hT.grown.size; simp at this; omega
    go_simp
    refine (control_R _ _ _ _ _ _ _ _ HK.out.1 HK.out.2).mono ?_
    rintro e w2 ⟨rfl, hb2⟩
    exact hK _ _ (TR.of_below hR hb2) rfl
  case s4 =>
    intro a w' K hT hf hw hK
    refine step_free rfl ?_
    have h0 : a.tmps[0]?.getD undef = .int .i64 (c : Int) := hf 0 (by kernel_rfl)
    clear hf hw
    go_simp
    exact hK _ _ (TR.refl _ _ _ _) rfl
  case s5 =>
    intro a w' K hT hf hw hK
    refine step_free rfl ?_
    have h24 : a.tmps[24]?.getD undef = .int .i64 (ctlR s k) := hw.1
    have h25 : a.tmps[25]?.getD undef = .int .i64 (c : Int) := hw.2.1
    clear hf hw
    go_simp
    exact hK _ _ (TR.refl _ _ _ _) rfl
  case s6 =>
    intro a w' K hT hf hw hK
    refine step_free rfl ?_
    have h26 : a.tmps[26]?.getD undef = .bool true := hw.1
    clear hf hw
    go_simp
    exact hK _ _ (TR.refl _ _ _ _) rfl
  case s7 =>
    intro a w' K hT hf hw hK
    have hg : a.tmps[27]?.getD undef = .bool true := hw.1
    refine step_yes rfl rfl hg ?_
    clear hg
    have h4 : a.tmps[4]?.getD undef = .iface 128 (.agg #[]) := hf 4 (by kernel_rfl)
    clear hf hw
    go_simp
    exact hK _ _ (TR.refl _ _ _ _) rfl
  case s8 =>
    intro a w' K hT hf hw hK
    have hg : a.tmps[27]?.getD undef = .bool true := hw.2.1
    refine step_yes rfl rfl hg ?_
    clear hg
    have h28 : a.tmps[28]?.getD undef = .iface 128 (.agg #[]) := hw.1
    clear hf hw
    go_simp
    refine (codes_R _).mono ?_
    rintro e w2 ⟨rfl, rfl⟩
    exact hK _ _ (TR.refl _ _ _ _) rfl
  case s9 =>
    intro a w' K hT hf hw hK
    have hg : a.tmps[27]?.getD undef = .bool true := hw.2.1
    refine step_yes rfl rfl hg ?_
    clear hg
    have h29 : a.tmps[29]?.getD undef = .int .i64 3 := hw.1
    clear hf hw
    go_simp
    exact hK _ _ (TR.refl _ _ _ _) rfl
  case s10 =>
    intro a w' K hT hf hw hK
    have hg : a.tmps[27]?.getD undef = .bool true := hw.2.2.1
    refine step_yes rfl rfl hg ?_
    clear hg
    have h30 : a.tmps[30]?.getD undef = .bool false := hw.1
    clear hf hw
    go_simp
    exact hK _ _ (TR.refl _ _ _ _) rfl
  case s11 =>
    intro a w' K hT hf hw hK
    have hg : a.tmps[31]?.getD undef = .bool false := hw.1
    refine step_yes rfl rfl hg ?_
    clear hg
    have h5 : a.tmps[5]?.getD undef = .pointer (some ⟨w1.heap.size, 0, none⟩) := hf 5 (by kernel_rfl)
    clear hf hw
    go_simp
    exact hK _ _ (TR.refl _ _ _ _) rfl
  case s12 =>
    intro a w' K hT hf hw hK
    have hg : a.tmps[31]?.getD undef = .bool false := hw.2.1
    refine step_yes rfl rfl hg ?_
    clear hg
    have h32 : a.tmps[32]?.getD undef = .pointer (some ⟨w1.heap.size, 4, none⟩) := hw.1
    clear hf hw
    have hcell : ∀ j, w'.cell? ⟨w1.heap.size, j, none⟩ = (w1.alloc (.cells #[.int .i64 0, .int .i64 1, .int .i64 s, .bool false, .int .i64 k, .bool false, .slice none 0 0] 29)).cell? ⟨w1.heap.size, j, none⟩ := fun j => hT.cell (by simp) (Ne.symm hne)
    go_simp
    exact hK _ _ (TR.refl _ _ _ _) rfl
  case s13 =>
    intro a w' K hT hf hw hK
    have hg : a.tmps[31]?.getD undef = .bool false := hw.1
    refine step_yes rfl rfl hg ?_
    clear hg
    have h4 : a.tmps[4]?.getD undef = .iface 128 (.agg #[]) := hf 4 (by kernel_rfl)
    clear hf hw
    go_simp
    exact hK _ _ (TR.refl _ _ _ _) rfl
  case s14 =>
    intro a w' K hT hf hw hK
    have hg : a.tmps[31]?.getD undef = .bool false := hw.2.1
    refine step_yes rfl rfl hg ?_
    clear hg
    have h34 : a.tmps[34]?.getD undef = .iface 128 (.agg #[]) := hw.1
    clear hf hw
    go_simp
    refine (codes_R _).mono ?_
    rintro e w2 ⟨rfl, rfl⟩
    exact hK _ _ (TR.refl _ _ _ _) rfl
  case s15 =>
    intro a w' K hT hf hw hK
    have hg : a.tmps[31]?.getD undef = .bool false := hw.2.2.1
    refine step_yes rfl rfl hg ?_
    clear hg
    have h33 : a.tmps[33]?.getD undef = .int .i64 k := hw.1
    have h35 : a.tmps[35]?.getD undef = .int .i64 3 := hw.2.1
    clear hf hw
    go_simp
    exact hK _ _ (TR.refl _ _ _ _) rfl
  case s16 =>
    intro a w' K hT hf hw hK
    have hg : a.tmps[27]?.getD undef = .bool true := hw.2.2.1
    refine step_yes rfl rfl hg ?_
    clear hg
    have h31 : a.tmps[31]?.getD undef = .bool false := hw.1
    have h36 : a.tmps[36]?.getD undef = .bool true := hw.2.1
    clear hf hw
    go_simp
    exact hK _ _ (TR.refl _ _ _ _) rfl
  case s17 =>
    intro a w' K hT hf hw hK
    refine step_free rfl ?_
    have h27 : a.tmps[27]?.getD undef = .bool true := hw.1
    have h37 : a.tmps[37]?.getD undef = .bool true := hw.2.1
    clear hf hw
    go_simp
    exact hK _ _ (TR.refl _ _ _ _) rfl
  case s18 =>
    intro a w' K hT hf hw hK
    refine step_free rfl ?_
    have h2 : a.tmps[2]?.getD undef = .pointer (some ⟨w.heap.size, 0, none⟩) := hf 2 (by kernel_rfl)
    have h21 : a.tmps[21]?.getD undef = .agg #[.int .i64 0, .int .i64 1, .int .i64 s, .bool false, .int .i64 k, .bool false, .slice none 0 0] := hw.1
    exact wp_store_mid 29 _ _ rfl w.heap.size 0 #[.int .i64 0, .int .i64 1, .int .i64 s, .bool false, .int .i64 k, .bool false, .slice none 0 0] (eval_tmp a 2 h2) (eval_tmp a 21 h21) (hT.there hth) (by kernel_rfl) (by simp [Value.oneCell']) (hK _ _ (TR.store (hT.there hth) rfl).1 (TR.store (hT.there hth) rfl).2)
  case s19 =>
    intro a w' K hT hf hw hK
    refine step_free rfl ?_
    have h38 : a.tmps[38]?.getD undef = .bool true := hw.1
    clear hf hw
    go_simp
    exact hK _ _ (TR.refl _ _ _ _) rfl
  case hfin =>
    rintro vs w' hT ⟨f0, f1, f2, f3, f4, f5, f6, f7, f8, f9, f10, f11, f12, f13, f14, f15, f16, f17, f18, f19, -⟩
    have e0 : vs 0 = .agg #[.int .i64 0, .int .i64 1, .int .i64 s, .bool false, .int .i64 k, .bool false, .slice none 0 0] := f0
    have e1 : vs 1 = .iface 128 (.agg #[]) := f1
    have e2 : vs 2 = .agg #[.int .i64 0, .int .i64 1, .int .i64 s, .bool false, .int .i64 k, .bool false, .slice none 0 0] := f2
    have e3 : vs 3 = .int .i64 (ctlR s k) := f3
    have e4 : vs 4 = .int .i64 (c : Int) := f4
    have e5 : vs 5 = .bool true := f5
    have e6 : vs 6 = .bool true := f6
    have e7 : vs 7 = .iface 128 (.agg #[]) := f7
    have e8 : vs 8 = .int .i64 3 := f8
    have e9 : vs 9 = .bool false := f9
    have e10 : vs 10 = .bool false := f10
    have e11 : vs 11 = .pointer (some ⟨w1.heap.size, 4, none⟩) := f11
    have e12 : vs 12 = .int .i64 k := f12
    have e13 : vs 13 = .iface 128 (.agg #[]) := f13
    have e14 : vs 14 = .int .i64 3 := f14
    have e15 : vs 15 = .bool true := f15
    have e16 : vs 16 = .bool true := f16
    have e17 : vs 17 = .bool true := f17
    have e19 : vs 19 = .bool true := f19
    simp only [putsAt, Act.put, e0, e1, e2, e3, e4, e5, e6, e7, e8, e9, e10, e11, e12, e13, e14, e15, e16, e17, e19]
    simp only [List.setIfInBounds_toArray, List.set_cons_succ, List.set_cons_zero]
    clear e0 e1 e2 e3 e4 e5 e6 e7 e8 e9 e10 e11 e12 e13 e14 e15 e16 e17 e19 f0 f1 f2 f3 f4 f5 f6 f7 f8 f9 f10 f11 f12 f13 f14 f15 f16 f17 f19
    have hr : w'.rangeAt w.heap.size 0 [.int .i64 0, .int .i64 1, .int .i64 s, .bool false, .int .i64 k, .bool false, .slice none 0 0] := f18
    clear f18
    go_wp2_with fail
    refine bodyPost_ret (results_cell_tmp rfl _ _ w.heap.size 0 [.int .i64 0, .int .i64 1, .int .i64 s, .bool false, .int .i64 k, .bool false, .slice none 0 0] _ rfl hr Try.underlying29 rfl (by kernel_rfl)) rfl ⟨rfl, ?_⟩
    exact hT.below (hw1.alloc hw1.size _).drew (Nat.le_refl _) rfl
set_option maxHeartbeats 2000000 in
theorem bparse_R_no (c : Nat) (h0 : 128 <= c) (hc : c < 192) (hok : ¬ (c < 160 /\ c % 16 < 4)) (w : World) :
    Calls Try.prog 93 #[.int .i64 (c : Int)] w
      fun e w' => e = .returned (.tuple #[.agg (blkC c).toArray, .bool (okC c)]) /\ Below w.heap.size w w' := by
  have ho : okC c = false := by unfold okC; rw [if_neg (by omega), if_pos hc]; simp; omega
  have hbl : blkC c = [.int .i64 0, .int .i64 1, .int .i64 (c / 16 % 2 : Nat), .bool false, .int .i64 (c % 4 : Nat), .bool false, .slice none 0 0] := by unfold blkC; rw [if_neg (by omega), if_pos hc]
  rw [ho, hbl]
  clear ho hbl
  have h1 := byte_and192 c (by omega)
  rw [show c / 64 * 64 = 128 by omega] at h1
  have hq : ctlR ((c / 16 % 2 : Nat) : Int) ((c % 4 : Nat) : Int) = (128 + 16 * (c / 16 % 2) + c % 4 : Nat) := by unfold ctlR; omega
  have h01 : ((c / 16 % 2 : Nat) : Int) = 0 ∨ ((c / 16 % 2 : Nat) : Int) = 1 := by omega
  have h4 : ((c % 4 : Nat) : Int) = 0 ∨ ((c % 4 : Nat) : Int) = 1 ∨ ((c % 4 : Nat) : Int) = 2 ∨ ((c % 4 : Nat) : Int) = 3 := by omega
  have heq : (ctlR ((c / 16 % 2 : Nat) : Int) ((c % 4 : Nat) : Int) == (c : Int)) = false := by
    rw [hq, beq_eq_false_iff_ne]; omega
  have hP : ∀ W, Calls Try.prog 127 #[.agg #[], .int .i64 (c : Int)] W fun e w' => e = .returned (.agg #[.int .i64 0, .int .i64 1, .int .i64 (c / 16 % 2 : Nat), .bool false, .int .i64 (c % 4 : Nat), .bool false, .slice none 0 0]) /\ Below W.heap.size W w' := fun W => parse_R c (by omega) W
  clear hq hok h0 hc
  generalize hs : ((c / 16 % 2 : Nat) : Int) = s at *
  generalize hk : ((c % 4 : Nat) : Int) = k at *
  have HK := Lib.hid (And.intro h01 h4)
  clear h01 h4 hs hk
  have HP := Lib.hid hP
  clear hP
  go_enter Try.func93, Try.ntmps93
  go_wp2_with fail
  refine (HP.out _).mono ?_
  rintro e w1 ⟨rfl, hb⟩
  obtain ⟨hc1, hf1⟩ := bcell hb
  have hz : w.heap.size < w1.heap.size := by have := hb.size; simp at this; omega
  have hne : w.heap.size ≠ w1.heap.size := by omega
  go_wp2_with fail
  have hw1 : Below w.heap.size w w1 := ((Below.refl _ _).alloc (Nat.le_refl _) _).trans (hb.mono (by simp))
  have hth : (w1.alloc (.cells #[.int .i64 0, .int .i64 1, .int .i64 s, .bool false, .int .i64 k, .bool false, .slice none 0 0] 29)).drew.there w.heap.size 0 7 := by
    refine there_of_cells (cs := #[.int .i64 0, .int .i64 0, .int .i64 0, .bool false, .int .i64 0, .bool false, .slice none 0 0]) (t := 29) ?_ rfl
    show (w1.alloc _).heap[w.heap.size]? = _
    rw [Below.heap_alloc _ _ _ hz, hb.block _ (by simp)]
    exact heap_alloc_new w _
  refine wp_region_list' (T := TR w.heap.size 7 [.int .i64 0, .int .i64 1, .int .i64 s, .bool false, .int .i64 k, .bool false, .slice none 0 0]) [St.is (.agg #[.int .i64 0, .int .i64 1, .int .i64 s, .bool false, .int .i64 k, .bool false, .slice none 0 0]), St.is (.iface 128 (.agg #[])), St.is (.agg #[.int .i64 0, .int .i64 1, .int .i64 s, .bool false, .int .i64 k, .bool false, .slice none 0 0]), St.is (.int .i64 (ctlR s k)), St.is (.int .i64 (c : Int)), St.is (.bool false), St.is (.bool false), St.is undef, St.is undef, St.is undef, St.is undef, St.is undef, St.is undef, St.is undef, St.is undef, St.is undef, St.is undef, St.is (Go.Value.bool false), St.pred (fun v' w' => w'.rangeAt w.heap.size 0 [.int .i64 0, .int .i64 1, .int .i64 s, .bool false, .int .i64 k, .bool false, .slice none 0 0]) (fun _ _ _ h q => h.fin q), St.is (Go.Value.bool false)] (by kernel_rfl) (by kernel_rfl) (TR.refl _ _ _) (TR.trans _ _ _) ⟨?s0, ?s1, ?s2, ?s3, ?s4, ?s5, ?s6, ?s7, ?s8, ?s9, ?s10, ?s11, ?s12, ?s13, ?s14, ?s15, ?s16, ?s17, ?s18, ?s19, trivial⟩ ?hfin
  case s0 =>
    intro a w' K hT hf hw hK
    refine step_free rfl ?_
    have h5 : a.tmps[5]?.getD undef = .pointer (some ⟨w1.heap.size, 0, none⟩) := hf 5 (by kernel_rfl)
    clear hf hw
    have hcell : ∀ j, w'.cell? ⟨w1.heap.size, j, none⟩ = (w1.alloc (.cells #[.int .i64 0, .int .i64 1, .int .i64 s, .bool false, .int .i64 k, .bool false, .slice none 0 0] 29)).cell? ⟨w1.heap.size, j, none⟩ := fun j => hT.cell (by simp) (Ne.symm hne)
    go_simp
    exact hK _ _ (TR.refl _ _ _ _) rfl
  case s1 =>
    intro a w' K hT hf hw hK
    refine step_free rfl ?_
    have h4 : a.tmps[4]?.getD undef = .iface 128 (.agg #[]) := hf 4 (by kernel_rfl)
    clear hf hw
    go_simp
    exact hK _ _ (TR.refl _ _ _ _) rfl
  case s2 =>
    intro a w' K hT hf hw hK
    refine step_free rfl ?_
    have h5 : a.tmps[5]?.getD undef = .pointer (some ⟨w1.heap.size, 0, none⟩) := hf 5 (by kernel_rfl)
    clear hf hw
    have hcell : ∀ j, w'.cell? ⟨w1.heap.size, j, none⟩ = (w1.alloc (.cells #[.int .i64 0, .int .i64 1, .int .i64 s, .bool false, .int .i64 k, .bool false, .slice none 0 0] 29)).cell? ⟨w1.heap.size, j, none⟩ := fun j => hT.cell (by simp) (Ne.symm hne)
    go_simp
    exact hK _ _ (TR.refl _ _ _ _) rfl
  case s3 =>
    intro a w' K hT hf hw hK
    refine step_free rfl ?_
    have h22 : a.tmps[22]?.getD undef = .iface 128 (.agg #[]) := hw.1
    have h23 : a.tmps[23]?.getD undef = .agg #[.int .i64 0, .int .i64 1, .int .i64 s, .bool false, .int .i64 k, .bool false, .slice none 0 0] := hw.2.1
    clear hf hw
    have hR : w.heap.size < w'.heap.size := by have := hT.grown.size; simp at this; omega
    go_simp
    refine (control_R _ _ _ _ _ _ _ _ HK.out.1 HK.out.2).mono ?_
    rintro e w2 ⟨rfl, hb2⟩
    exact hK _ _ (TR.of_below hR hb2) rfl
  case s4 =>
    intro a w' K hT hf hw hK
    refine step_free rfl ?_
    have h0 : a.tmps[0]?.getD undef = .int .i64 (c : Int) := hf 0 (by kernel_rfl)
    clear hf hw
    go_simp
    exact hK _ _ (TR.refl _ _ _ _) rfl
  case s5 =>
    intro a w' K hT hf hw hK
    refine step_free rfl ?_
    have h24 : a.tmps[24]?.getD undef = .int .i64 (ctlR s k) := hw.1
    have h25 : a.tmps[25]?.getD undef = .int .i64 (c : Int) := hw.2.1
    clear hf hw
    go_simp
    exact hK _ _ (TR.refl _ _ _ _) rfl
  case s6 =>
    intro a w' K hT hf hw hK
    refine step_free rfl ?_
    have h26 : a.tmps[26]?.getD undef = .bool false := hw.1
    clear hf hw
    go_simp
    exact hK _ _ (TR.refl _ _ _ _) rfl
  case s7 =>
    intro a w' K hT hf hw hK
    have hg : a.tmps[27]?.getD undef = .bool false := hw.1
    refine step_no rfl rfl (.inl hg) ?_
    exact hK _ _ (TR.refl _ _ _ _) rfl
  case s8 =>
    intro a w' K hT hf hw hK
    have hg : a.tmps[27]?.getD undef = .bool false := hw.2.1
    refine step_no rfl rfl (.inl hg) ?_
    exact hK _ _ (TR.refl _ _ _ _) rfl
  case s9 =>
    intro a w' K hT hf hw hK
    have hg : a.tmps[27]?.getD undef = .bool false := hw.2.1
    refine step_no rfl rfl (.inl hg) ?_
    exact hK _ _ (TR.refl _ _ _ _) rfl
  case s10 =>
    intro a w' K hT hf hw hK
    have hg : a.tmps[27]?.getD undef = .bool false := hw.2.2.1
    refine step_no rfl rfl (.inl hg) ?_
    exact hK _ _ (TR.refl _ _ _ _) rfl
  case s11 =>
    intro a w' K hT hf hw hK
    have hg : a.tmps[31]?.getD undef = undef := hw.1
    refine step_no rfl rfl (.inr hg) ?_
    exact hK _ _ (TR.refl _ _ _ _) rfl
  case s12 =>
    intro a w' K hT hf hw hK
    have hg : a.tmps[31]?.getD undef = undef := hw.2.1
    refine step_no rfl rfl (.inr hg) ?_
    exact hK _ _ (TR.refl _ _ _ _) rfl
  case s13 =>
    intro a w' K hT hf hw hK
    have hg : a.tmps[31]?.getD undef = undef := hw.1
    refine step_no rfl rfl (.inr hg) ?_
    exact hK _ _ (TR.refl _ _ _ _) rfl
  case s14 =>
    intro a w' K hT hf hw hK
    have hg : a.tmps[31]?.getD undef = undef := hw.2.1
    refine step_no rfl rfl (.inr hg) ?_
    exact hK _ _ (TR.refl _ _ _ _) rfl
  case s15 =>
    intro a w' K hT hf hw hK
    have hg : a.tmps[31]?.getD undef = undef := hw.2.2.1
    refine step_no rfl rfl (.inr hg) ?_
    exact hK _ _ (TR.refl _ _ _ _) rfl
  case s16 =>
    intro a w' K hT hf hw hK
    have hg : a.tmps[27]?.getD undef = .bool false := hw.2.2.1
    refine step_no rfl rfl (.inl hg) ?_
    exact hK _ _ (TR.refl _ _ _ _) rfl
  case s17 =>
    intro a w' K hT hf hw hK
    refine step_free rfl ?_
    have h27 : a.tmps[27]?.getD undef = .bool false := hw.1
    have h37 : a.tmps[37]?.getD undef = undef := hw.2.1
    clear hf hw
    go_simp
    exact hK _ _ (TR.refl _ _ _ _) rfl
  case s18 =>
    intro a w' K hT hf hw hK
    refine step_free rfl ?_
    have h2 : a.tmps[2]?.getD undef = .pointer (some ⟨w.heap.size, 0, none⟩) := hf 2 (by kernel_rfl)
    have h21 : a.tmps[21]?.getD undef = .agg #[.int .i64 0, .int .i64 1, .int .i64 s, .bool false, .int .i64 k, .bool false, .slice none 0 0] := hw.1
    exact wp_store_mid 29 _ _ rfl w.heap.size 0 #[.int .i64 0, .int .i64 1, .int .i64 s, .bool false, .int .i64 k, .bool false, .slice none 0 0] (eval_tmp a 2 h2) (eval_tmp a 21 h21) (hT.there hth) (by kernel_rfl) (by simp [Value.oneCell']) (hK _ _ (TR.store (hT.there hth) rfl).1 (TR.store (hT.there hth) rfl).2)
  case s19 =>
    intro a w' K hT hf hw hK
    refine step_free rfl ?_
    have h38 : a.tmps[38]?.getD undef = Go.Value.bool false := hw.1
    clear hf hw
    go_simp
    exact hK _ _ (TR.refl _ _ _ _) rfl
  case hfin =>
    rintro vs w' hT ⟨f0, f1, f2, f3, f4, f5, f6, f7, f8, f9, f10, f11, f12, f13, f14, f15, f16, f17, f18, f19, -⟩
    have e0 : vs 0 = .agg #[.int .i64 0, .int .i64 1, .int .i64 s, .bool false, .int .i64 k, .bool false, .slice none 0 0] := f0
    have e1 : vs 1 = .iface 128 (.agg #[]) := f1
    have e2 : vs 2 = .agg #[.int .i64 0, .int .i64 1, .int .i64 s, .bool false, .int .i64 k, .bool false, .slice none 0 0] := f2
    have e3 : vs 3 = .int .i64 (ctlR s k) := f3
    have e4 : vs 4 = .int .i64 (c : Int) := f4
    have e5 : vs 5 = .bool false := f5
    have e6 : vs 6 = .bool false := f6
    have e7 : vs 7 = undef := f7
    have e8 : vs 8 = undef := f8
    have e9 : vs 9 = undef := f9
    have e10 : vs 10 = undef := f10
    have e11 : vs 11 = undef := f11
    have e12 : vs 12 = undef := f12
    have e13 : vs 13 = undef := f13
    have e14 : vs 14 = undef := f14
    have e15 : vs 15 = undef := f15
    have e16 : vs 16 = undef := f16
    have e17 : vs 17 = Go.Value.bool false := f17
    have e19 : vs 19 = Go.Value.bool false := f19
    simp only [putsAt, Act.put, e0, e1, e2, e3, e4, e5, e6, e7, e8, e9, e10, e11, e12, e13, e14, e15, e16, e17, e19]
    simp only [List.setIfInBounds_toArray, List.set_cons_succ, List.set_cons_zero]
    clear e0 e1 e2 e3 e4 e5 e6 e7 e8 e9 e10 e11 e12 e13 e14 e15 e16 e17 e19 f0 f1 f2 f3 f4 f5 f6 f7 f8 f9 f10 f11 f12 f13 f14 f15 f16 f17 f19
    have hr : w'.rangeAt w.heap.size 0 [.int .i64 0, .int .i64 1, .int .i64 s, .bool false, .int .i64 k, .bool false, .slice none 0 0] := f18
    clear f18
    go_wp2_with fail
    refine bodyPost_ret (results_cell_tmp rfl _ _ w.heap.size 0 [.int .i64 0, .int .i64 1, .int .i64 s, .bool false, .int .i64 k, .bool false, .slice none 0 0] _ rfl hr Try.underlying29 rfl (by kernel_rfl)) rfl ⟨rfl, ?_⟩
    exact hT.below (hw1.alloc hw1.size _).drew (Nat.le_refl _) rfl
set_option maxHeartbeats 2000000 in
theorem bparse_R_co (c : Nat) (h0 : 128 <= c) (hc : c < 192) (hok : c < 160 /\ c % 16 = 3) (w : World) :
    Calls Try.prog 93 #[.int .i64 (c : Int)] w
      fun e w' => e = .returned (.tuple #[.agg (blkC c).toArray, .bool (okC c)]) /\ Below w.heap.size w w' := by
  have ho : okC c = false := by unfold okC; rw [if_neg (by omega), if_pos hc]; simp; omega
  have hbl : blkC c = [.int .i64 0, .int .i64 1, .int .i64 (c / 16 % 2 : Nat), .bool false, .int .i64 (c % 4 : Nat), .bool false, .slice none 0 0] := by unfold blkC; rw [if_neg (by omega), if_pos hc]
  rw [ho, hbl]
  clear ho hbl
  have h1 := byte_and192 c (by omega)
  rw [show c / 64 * 64 = 128 by omega] at h1
  have hq : ctlR ((c / 16 % 2 : Nat) : Int) ((c % 4 : Nat) : Int) = (128 + 16 * (c / 16 % 2) + c % 4 : Nat) := by unfold ctlR; omega
  have h01 : ((c / 16 % 2 : Nat) : Int) = 0 ∨ ((c / 16 % 2 : Nat) : Int) = 1 := by omega
  have h4 : ((c % 4 : Nat) : Int) = 0 ∨ ((c % 4 : Nat) : Int) = 1 ∨ ((c % 4 : Nat) : Int) = 2 ∨ ((c % 4 : Nat) : Int) = 3 := by omega
  have heq : (ctlR ((c / 16 % 2 : Nat) : Int) ((c % 4 : Nat) : Int) == (c : Int)) = true := by
    rw [hq, beq_iff_eq]; omega
  have hlt : decide (((c % 4 : Nat) : Int) < 3) = false := by simp; omega
  have hP : ∀ W, Calls Try.prog 127 #[.agg #[], .int .i64 (c : Int)] W fun e w' => e = .returned (.agg #[.int .i64 0, .int .i64 1, .int .i64 (c / 16 % 2 : Nat), .bool false, .int .i64 (c % 4 : Nat), .bool false, .slice none 0 0]) /\ Below W.heap.size W w' := fun W => parse_R c (by omega) W
  clear hq hok h0 hc
  generalize hs : ((c / 16 % 2 : Nat) : Int) = s at *
  generalize hk : ((c % 4 : Nat) : Int) = k at *
  have HK := Lib.hid (And.intro h01 h4)
  clear h01 h4 hs hk
  have HP := Lib.hid hP
  clear hP
  go_enter Try.func93, Try.ntmps93
  go_wp2_with fail
  refine (HP.out _).mono ?_
  rintro e w1 ⟨rfl, hb⟩
  obtain ⟨hc1, hf1⟩ := bcell hb
  have hz : w.heap.size < w1.heap.size := by have := hb.size; simp at this; omega
  have hne : w.heap.size ≠ w1.heap.size := by omega
  go_wp2_with fail
  have hw1 : Below w.heap.size w w1 := ((Below.refl _ _).alloc (Nat.le_refl _) _).trans (hb.mono (by simp))
  have hth : (w1.alloc (.cells #[.int .i64 0, .int .i64 1, .int .i64 s, .bool false, .int .i64 k, .bool false, .slice none 0 0] 29)).drew.there w.heap.size 0 7 := by
    refine there_of_cells (cs := #[.int .i64 0, .int .i64 0, .int .i64 0, .bool false, .int .i64 0, .bool false, .slice none 0 0]) (t := 29) ?_ rfl
    show (w1.alloc _).heap[w.heap.size]? = _
    rw [Below.heap_alloc _ _ _ hz, hb.block _ (by simp)]
    exact heap_alloc_new w _
  refine wp_region_list' (T := TR w.heap.size 7 [.int .i64 0, .int .i64 1, .int .i64 s, .bool false, .int .i64 k, .bool false, .slice none 0 0]) [St.is (.agg #[.int .i64 0, .int .i64 1, .int .i64 s, .bool false, .int .i64 k, .bool false, .slice none 0 0]), St.is (.iface 128 (.agg #[])), St.is (.agg #[.int .i64 0, .int .i64 1, .int .i64 s, .bool false, .int .i64 k, .bool false, .slice none 0 0]), St.is (.int .i64 (ctlR s k)), St.is (.int .i64 (c : Int)), St.is (.bool true), St.is (.bool true), St.is (.iface 128 (.agg #[])), St.is (.int .i64 3), St.is (.bool false), St.is (.bool false), St.is (.pointer (some ⟨w1.heap.size, 4, none⟩)), St.is (.int .i64 k), St.is (.iface 128 (.agg #[])), St.is (.int .i64 3), St.is (.bool false), St.is (.bool false), St.is (.bool false), St.pred (fun v' w' => w'.rangeAt w.heap.size 0 [.int .i64 0, .int .i64 1, .int .i64 s, .bool false, .int .i64 k, .bool false, .slice none 0 0]) (fun _ _ _ h q => h.fin q), St.is (.bool false)] (by kernel_rfl) (by kernel_rfl) (TR.refl _ _ _) (TR.trans _ _ _) ⟨?s0, ?s1, ?s2, ?s3, ?s4, ?s5, ?s6, ?s7, ?s8, ?s9, ?s10, ?s11, ?s12, ?s13, ?s14, ?s15, ?s16, ?s17, ?s18, ?s19, trivial⟩ ?hfin
  case s0 =>
    intro a w' K hT hf hw hK
    refine step_free rfl ?_
    have h5 : a.tmps[5]?.getD undef = .pointer (some ⟨w1.heap.size, 0, none⟩) := hf 5 (by kernel_rfl)
    clear hf hw
    have hcell : ∀ j, w'.cell? ⟨w1.heap.size, j, none⟩ = (w1.alloc (.cells #[.int .i64 0, .int .i64 1, .int .i64 s, .bool false, .int .i64 k, .bool false, .slice none 0 0] 29)).cell? ⟨w1.heap.size, j, none⟩ := fun j => hT.cell (by simp) (Ne.symm hne)
    go_simp
    exact hK _ _ (TR.refl _ _ _ _) rfl
  case s1 =>
    intro a w' K hT hf hw hK
    refine step_free rfl ?_
    have h4 : a.tmps[4]?.getD undef = .iface 128 (.agg #[]) := hf 4 (by kernel_rfl)
    clear hf hw
    go_simp
    exact hK _ _ (TR.refl _ _ _ _) rfl
  case s2 =>
    intro a w' K hT hf hw hK
    refine step_free rfl ?_
    have h5 : a.tmps[5]?.getD undef = .pointer (some ⟨w1.heap.size, 0, none⟩) := hf 5 (by kernel_rfl)
    clear hf hw
    have hcell : ∀ j, w'.cell? ⟨w1.heap.size, j, none⟩ = (w1.alloc (.cells #[.int .i64 0, .int .i64 1, .int .i64 s, .bool false, .int .i64 k, .bool false, .slice none 0 0] 29)).cell? ⟨w1.heap.size, j, none⟩ := fun j => hT.cell (by simp) (Ne.symm hne)
    go_simp
    exact hK _ _ (TR.refl _ _ _ _) rfl
  case s3 =>
    intro a w' K hT hf hw hK
    refine step_free rfl ?_
    have h22 : a.tmps[22]?.getD undef = .iface 128 (.agg #[]) := hw.1
    have h23 : a.tmps[23]?.getD undef = .agg #[.int .i64 0, .int .i64 1, .int .i64 s, .bool false, .int .i64 k, .bool false, .slice none 0 0] := hw.2.1
    clear hf hw
    have hR : w.heap.size < w'.heap.size := by have := hT.grown.size; simp at this; omega
    go_simp
    refine (control_R _ _ _ _ _ _ _ _ HK.out.1 HK.out.2).mono ?_
    rintro e w2 ⟨rfl, hb2⟩
    exact hK _ _ (TR.of_below hR hb2) rfl
  case s4 =>
    intro a w' K hT hf hw hK
    refine step_free rfl ?_
    have h0 : a.tmps[0]?.getD undef = .int .i64 (c : Int) := hf 0 (by kernel_rfl)
    clear hf hw
    go_simp
    exact hK _ _ (TR.refl _ _ _ _) rfl
  case s5 =>
    intro a w' K hT hf hw hK
    refine step_free rfl ?_
    have h24 : a.tmps[24]?.getD undef = .int .i64 (ctlR s k) := hw.1
    have h25 : a.tmps[25]?.getD undef = .int .i64 (c : Int) := hw.2.1
    clear hf hw
    go_simp
    exact hK _ _ (TR.refl _ _ _ _) rfl
  case s6 =>
    intro a w' K hT hf hw hK
    refine step_free rfl ?_
    have h26 : a.tmps[26]?.getD undef = .bool true := hw.1
    clear hf hw
    go_simp
    exact hK _ _ (TR.refl _ _ _ _) rfl
  case s7 =>
    intro a w' K hT hf hw hK
    have hg : a.tmps[27]?.getD undef = .bool true := hw.1
    refine step_yes rfl rfl hg ?_
    clear hg
    have h4 : a.tmps[4]?.getD undef = .iface 128 (.agg #[]) := hf 4 (by kernel_rfl)
    clear hf hw
    go_simp
    exact hK _ _ (TR.refl _ _ _ _) rfl
  case s8 =>
    intro a w' K hT hf hw hK
    have hg : a.tmps[27]?.getD undef = .bool true := hw.2.1
    refine step_yes rfl rfl hg ?_
    clear hg
    have h28 : a.tmps[28]?.getD undef = .iface 128 (.agg #[]) := hw.1
    clear hf hw
    go_simp
    refine (codes_R _).mono ?_
    rintro e w2 ⟨rfl, rfl⟩
    exact hK _ _ (TR.refl _ _ _ _) rfl
  case s9 =>
    intro a w' K hT hf hw hK
    have hg : a.tmps[27]?.getD undef = .bool true := hw.2.1
    refine step_yes rfl rfl hg ?_
    clear hg
    have h29 : a.tmps[29]?.getD undef = .int .i64 3 := hw.1
    clear hf hw
    go_simp
    exact hK _ _ (TR.refl _ _ _ _) rfl
  case s10 =>
    intro a w' K hT hf hw hK
    have hg : a.tmps[27]?.getD undef = .bool true := hw.2.2.1
    refine step_yes rfl rfl hg ?_
    clear hg
    have h30 : a.tmps[30]?.getD undef = .bool false := hw.1
    clear hf hw
    go_simp
    exact hK _ _ (TR.refl _ _ _ _) rfl
  case s11 =>
    intro a w' K hT hf hw hK
    have hg : a.tmps[31]?.getD undef = .bool false := hw.1
    refine step_yes rfl rfl hg ?_
    clear hg
    have h5 : a.tmps[5]?.getD undef = .pointer (some ⟨w1.heap.size, 0, none⟩) := hf 5 (by kernel_rfl)
    clear hf hw
    go_simp
    exact hK _ _ (TR.refl _ _ _ _) rfl
  case s12 =>
    intro a w' K hT hf hw hK
    have hg : a.tmps[31]?.getD undef = .bool false := hw.2.1
    refine step_yes rfl rfl hg ?_
    clear hg
    have h32 : a.tmps[32]?.getD undef = .pointer (some ⟨w1.heap.size, 4, none⟩) := hw.1
    clear hf hw
    have hcell : ∀ j, w'.cell? ⟨w1.heap.size, j, none⟩ = (w1.alloc (.cells #[.int .i64 0, .int .i64 1, .int .i64 s, .bool false, .int .i64 k, .bool false, .slice none 0 0] 29)).cell? ⟨w1.heap.size, j, none⟩ := fun j => hT.cell (by simp) (Ne.symm hne)
    go_simp
    exact hK _ _ (TR.refl _ _ _ _) rfl
  case s13 =>
    intro a w' K hT hf hw hK
    have hg : a.tmps[31]?.getD undef = .bool false := hw.1
    refine step_yes rfl rfl hg ?_
    clear hg
    have h4 : a.tmps[4]?.getD undef = .iface 128 (.agg #[]) := hf 4 (by kernel_rfl)
    clear hf hw
    go_simp
    exact hK _ _ (TR.refl _ _ _ _) rfl
  case s14 =>
    intro a w' K hT hf hw hK
    have hg : a.tmps[31]?.getD undef = .bool false := hw.2.1
    refine step_yes rfl rfl hg ?_
    clear hg
    have h34 : a.tmps[34]?.getD undef = .iface 128 (.agg #[]) := hw.1
    clear hf hw
    go_simp
    refine (codes_R _).mono ?_
    rintro e w2 ⟨rfl, rfl⟩
    exact hK _ _ (TR.refl _ _ _ _) rfl
  case s15 =>
    intro a w' K hT hf hw hK
    have hg : a.tmps[31]?.getD undef = .bool false := hw.2.2.1
    refine step_yes rfl rfl hg ?_
    clear hg
    have h33 : a.tmps[33]?.getD undef = .int .i64 k := hw.1
    have h35 : a.tmps[35]?.getD undef = .int .i64 3 := hw.2.1
    clear hf hw
    go_simp
    exact hK _ _ (TR.refl _ _ _ _) rfl
  case s16 =>
    intro a w' K hT hf hw hK
    have hg : a.tmps[27]?.getD undef = .bool true := hw.2.2.1
    refine step_yes rfl rfl hg ?_
    clear hg
    have h31 : a.tmps[31]?.getD undef = .bool false := hw.1
    have h36 : a.tmps[36]?.getD undef = .bool false := hw.2.1
    clear hf hw
    go_simp
    exact hK _ _ (TR.refl _ _ _ _) rfl
  case s17 =>
    intro a w' K hT hf hw hK
    refine step_free rfl ?_
    have h27 : a.tmps[27]?.getD undef = .bool true := hw.1
    have h37 : a.tmps[37]?.getD undef = .bool false := hw.2.1
    clear hf hw
    go_simp
    exact hK _ _ (TR.refl _ _ _ _) rfl
  case s18 =>
    intro a w' K hT hf hw hK
    refine step_free rfl ?_
    have h2 : a.tmps[2]?.getD undef = .pointer (some ⟨w.heap.size, 0, none⟩) := hf 2 (by kernel_rfl)
    have h21 : a.tmps[21]?.getD undef = .agg #[.int .i64 0, .int .i64 1, .int .i64 s, .bool false, .int .i64 k, .bool false, .slice none 0 0] := hw.1
    exact wp_store_mid 29 _ _ rfl w.heap.size 0 #[.int .i64 0, .int .i64 1, .int .i64 s, .bool false, .int .i64 k, .bool false, .slice none 0 0] (eval_tmp a 2 h2) (eval_tmp a 21 h21) (hT.there hth) (by kernel_rfl) (by simp [Value.oneCell']) (hK _ _ (TR.store (hT.there hth) rfl).1 (TR.store (hT.there hth) rfl).2)
  case s19 =>
    intro a w' K hT hf hw hK
    refine step_free rfl ?_
    have h38 : a.tmps[38]?.getD undef = .bool false := hw.1
    clear hf hw
    go_simp
    exact hK _ _ (TR.refl _ _ _ _) rfl
  case hfin =>
    rintro vs w' hT ⟨f0, f1, f2, f3, f4, f5, f6, f7, f8, f9, f10, f11, f12, f13, f14, f15, f16, f17, f18, f19, -⟩
    have e0 : vs 0 = .agg #[.int .i64 0, .int .i64 1, .int .i64 s, .bool false, .int .i64 k, .bool false, .slice none 0 0] := f0
    have e1 : vs 1 = .iface 128 (.agg #[]) := f1
    have e2 : vs 2 = .agg #[.int .i64 0, .int .i64 1, .int .i64 s, .bool false, .int .i64 k, .bool false, .slice none 0 0] := f2
    have e3 : vs 3 = .int .i64 (ctlR s k) := f3
    have e4 : vs 4 = .int .i64 (c : Int) := f4
    have e5 : vs 5 = .bool true := f5
    have e6 : vs 6 = .bool true := f6
    have e7 : vs 7 = .iface 128 (.agg #[]) := f7
    have e8 : vs 8 = .int .i64 3 := f8
    have e9 : vs 9 = .bool false := f9
    have e10 : vs 10 = .bool false := f10
    have e11 : vs 11 = .pointer (some ⟨w1.heap.size, 4, none⟩) := f11
    have e12 : vs 12 = .int .i64 k := f12
    have e13 : vs 13 = .iface 128 (.agg #[]) := f13
    have e14 : vs 14 = .int .i64 3 := f14
    have e15 : vs 15 = .bool false := f15
    have e16 : vs 16 = .bool false := f16
    have e17 : vs 17 = .bool false := f17
    have e19 : vs 19 = .bool false := f19
    simp only [putsAt, Act.put, e0, e1, e2, e3, e4, e5, e6, e7, e8, e9, e10, e11, e12, e13, e14, e15, e16, e17, e19]
    simp only [List.setIfInBounds_toArray, List.set_cons_succ, List.set_cons_zero]
    clear e0 e1 e2 e3 e4 e5 e6 e7 e8 e9 e10 e11 e12 e13 e14 e15 e16 e17 e19 f0 f1 f2 f3 f4 f5 f6 f7 f8 f9 f10 f11 f12 f13 f14 f15 f16 f17 f19
    have hr : w'.rangeAt w.heap.size 0 [.int .i64 0, .int .i64 1, .int .i64 s, .bool false, .int .i64 k, .bool false, .slice none 0 0] := f18
    clear f18
    go_wp2_with fail
    refine bodyPost_ret (results_cell_tmp rfl _ _ w.heap.size 0 [.int .i64 0, .int .i64 1, .int .i64 s, .bool false, .int .i64 k, .bool false, .slice none 0 0] _ rfl hr Try.underlying29 rfl (by kernel_rfl)) rfl ⟨rfl, ?_⟩
    exact hT.below (hw1.alloc hw1.size _).drew (Nat.le_refl _) rfl
set_option maxHeartbeats 2000000 in
theorem bparse_S_ok (c : Nat) (h0 : 192 <= c) (hc : c < 256) (hok : c % 32 < 4) (w : World) :
    Calls Try.prog 93 #[.int .i64 (c : Int)] w
      fun e w' => e = .returned (.tuple #[.agg (blkC c).toArray, .bool (okC c)]) /\ Below w.heap.size w w' := by
  have ho : okC c = true := by unfold okC; rw [if_neg (by omega), if_neg (by omega)]; simp; omega
  have hbl : blkC c = [.int .i64 0, .int .i64 2, .int .i64 0, .bool false, .int .i64 (c % 4 : Nat), .bool (decide (c / 32 % 2 = 1)), .slice none 0 0] := by unfold blkC; rw [if_neg (by omega), if_neg (by omega)]
  rw [ho, hbl]
  clear ho hbl
  have h1 := byte_and192 c hc
  rw [show c / 64 * 64 = 192 by omega] at h1
  have hq : ctlS ((c % 4 : Nat) : Int) (decide (c / 32 % 2 = 1)) = (192 + (if c / 32 % 2 = 1 then 32 else 0) + c % 4 : Nat) := by unfold ctlS; split <;> simp_all <;> omega
  have h4 : ((c % 4 : Nat) : Int) = 0 ∨ ((c % 4 : Nat) : Int) = 1 ∨ ((c % 4 : Nat) : Int) = 2 ∨ ((c % 4 : Nat) : Int) = 3 := by omega
  have heq : (ctlS ((c % 4 : Nat) : Int) (decide (c / 32 % 2 = 1)) == (c : Int)) = true := by
    rw [hq, beq_iff_eq]; split <;> omega
  have hlt : ((c % 4 : Nat) : Int) < 4 := by omega
  have hP : ∀ W, Calls Try.prog 123 #[.agg #[], .int .i64 (c : Int)] W fun e w' => e = .returned (.agg #[.int .i64 0, .int .i64 2, .int .i64 0, .bool false, .int .i64 (c % 4 : Nat), .bool (decide (c / 32 % 2 = 1)), .slice none 0 0]) /\ Below W.heap.size W w' := fun W => parse_S c hc W
  clear hq hok h0 hc
  generalize hk : ((c % 4 : Nat) : Int) = k at *
  generalize hm : decide (c / 32 % 2 = 1) = m at *
  have HK := Lib.hid h4
  clear h4 hk hm
  have HP := Lib.hid hP
  clear hP
  go_enter Try.func93, Try.ntmps93
  go_wp2_with fail
  refine (HP.out _).mono ?_
  rintro e w1 ⟨rfl, hb⟩
  obtain ⟨hc1, hf1⟩ := bcell hb
  have hz : w.heap.size < w1.heap.size := by have := hb.size; simp at this; omega
  have hne : w.heap.size ≠ w1.heap.size := by omega
  go_wp2_with fail
  have hw1 : Below w.heap.size w w1 := ((Below.refl _ _).alloc (Nat.le_refl _) _).trans (hb.mono (by simp))
  have hth : (w1.alloc (.cells #[.int .i64 0, .int .i64 2, .int .i64 0, .bool false, .int .i64 k, .bool m, .slice none 0 0] 29)).drew.there w.heap.size 0 7 := by
    refine there_of_cells (cs := #[.int .i64 0, .int .i64 0, .int .i64 0, .bool false, .int .i64 0, .bool false, .slice none 0 0]) (t := 29) ?_ rfl
    show (w1.alloc _).heap[w.heap.size]? = _
    rw [Below.heap_alloc _ _ _ hz, hb.block _ (by simp)]
    exact heap_alloc_new w _
  refine wp_region_list' (T := TR w.heap.size 7 [.int .i64 0, .int .i64 2, .int .i64 0, .bool false, .int .i64 k, .bool m, .slice none 0 0]) [St.is (.agg #[.int .i64 0, .int .i64 2, .int .i64 0, .bool false, .int .i64 k, .bool m, .slice none 0 0]), St.is (.iface 127 (.agg #[])), St.is (.agg #[.int .i64 0, .int .i64 2, .int .i64 0, .bool false, .int .i64 k, .bool m, .slice none 0 0]), St.is (.int .i64 (ctlS k m)), St.is (.int .i64 (c : Int)), St.is (.bool true), St.is (.bool true), St.is (.iface 127 (.agg #[])), St.is (.int .i64 4), St.is (.bool false), St.is (.bool false), St.is (.pointer (some ⟨w1.heap.size, 4, none⟩)), St.is (.int .i64 k), St.is (.iface 127 (.agg #[])), St.is (.int .i64 4), St.is (.bool true), St.is (.bool true), St.is (.bool true), St.pred (fun v' w' => w'.rangeAt w.heap.size 0 [.int .i64 0, .int .i64 2, .int .i64 0, .bool false, .int .i64 k, .bool m, .slice none 0 0]) (fun _ _ _ h q => h.fin q), St.is (.bool true)] (by kernel_rfl) (by kernel_rfl) (TR.refl _ _ _) (TR.trans _ _ _) ⟨?s0, ?s1, ?s2, ?s3, ?s4, ?s5, ?s6, ?s7, ?s8, ?s9, ?s10, ?s11, ?s12, ?s13, ?s14, ?s15, ?s16, ?s17, ?s18, ?s19, trivial⟩ ?hfin
  case s0 =>
    intro a w' K hT hf hw hK
    refine step_free rfl ?_
    have h5 : a.tmps[5]?.getD undef = .pointer (some ⟨w1.heap.size, 0, none⟩) := hf 5 (by kernel_rfl)
    clear hf hw
    have hcell : ∀ j, w'.cell? ⟨w1.heap.size, j, none⟩ = (w1.alloc (.cells #[.int .i64 0, .int .i64 2, .int .i64 0, .bool false, .int .i64 k, .bool m, .slice none 0 0] 29)).cell? ⟨w1.heap.size, j, none⟩ := fun j => hT.cell (by simp) (Ne.symm hne)
    go_simp
    exact hK _ _ (TR.refl _ _ _ _) rfl
  case s1 =>
    intro a w' K hT hf hw hK
    refine step_free rfl ?_
    have h4 : a.tmps[4]?.getD undef = .iface 127 (.agg #[]) := hf 4 (by kernel_rfl)
    clear hf hw
    go_simp
    exact hK _ _ (TR.refl _ _ _ _) rfl
  case s2 =>
    intro a w' K hT hf hw hK
    refine step_free rfl ?_
    have h5 : a.tmps[5]?.getD undef = .pointer (some ⟨w1.heap.size, 0, none⟩) := hf 5 (by kernel_rfl)
    clear hf hw
    have hcell : ∀ j, w'.cell? ⟨w1.heap.size, j, none⟩ = (w1.alloc (.cells #[.int .i64 0, .int .i64 2, .int .i64 0, .bool false, .int .i64 k, .bool m, .slice none 0 0] 29)).cell? ⟨w1.heap.size, j, none⟩ := fun j => hT.cell (by simp) (Ne.symm hne)
    go_simp
    exact hK _ _ (TR.refl _ _ _ _) rfl
  case s3 =>
    intro a w' K hT hf hw hK
    refine step_free rfl ?_
    have h22 : a.tmps[22]?.getD undef = .iface 127 (.agg #[]) := hw.1
    have h23 : a.tmps[23]?.getD undef = .agg #[.int .i64 0, .int .i64 2, .int .i64 0, .bool false, .int .i64 k, .bool m, .slice none 0 0] := hw.2.1
    clear hf hw
    have hR : w.heap.size < w'.heap.size := by have := hT.grown.size; simp at this; omega
    go_simp
    refine (control_S _ _ _ _ _ _ _ _ HK.out).mono ?_
    rintro e w2 ⟨rfl, hb2⟩
    exact hK _ _ (TR.of_below hR hb2) rfl
  case s4 =>
    intro a w' K hT hf hw hK
    refine step_free rfl ?_
    have h0 : a.tmps[0]?.getD undef = .int .i64 (c : Int) := hf 0 (by kernel_rfl)
    clear hf hw
    go_simp
    exact hK _ _ (TR.refl _ _ _ _) rfl
  case s5 =>
    intro a w' K hT hf hw hK
    refine step_free rfl ?_
    have h24 : a.tmps[24]?.getD undef = .int .i64 (ctlS k m) := hw.1
    have h25 : a.tmps[25]?.getD undef = .int .i64 (c : Int) := hw.2.1
    clear hf hw
    go_simp
    exact hK _ _ (TR.refl _ _ _ _) rfl
  case s6 =>
    intro a w' K hT hf hw hK
    refine step_free rfl ?_
    have h26 : a.tmps[26]?.getD undef = .bool true := hw.1
    clear hf hw
    go_simp
    exact hK _ _ (TR.refl _ _ _ _) rfl
  case s7 =>
    intro a w' K hT hf hw hK
    have hg : a.tmps[27]?.getD undef = .bool true := hw.1
    refine step_yes rfl rfl hg ?_
    clear hg
    have h4 : a.tmps[4]?.getD undef = .iface 127 (.agg #[]) := hf 4 (by kernel_rfl)
    clear hf hw
    go_simp
    exact hK _ _ (TR.refl _ _ _ _) rfl
  case s8 =>
    intro a w' K hT hf hw hK
    have hg : a.tmps[27]?.getD undef = .bool true := hw.2.1
    refine step_yes rfl rfl hg ?_
    clear hg
    have h28 : a.tmps[28]?.getD undef = .iface 127 (.agg #[]) := hw.1
    clear hf hw
    go_simp
    refine (codes_S _).mono ?_
    rintro e w2 ⟨rfl, rfl⟩
    exact hK _ _ (TR.refl _ _ _ _) rfl
  case s9 =>
    intro a w' K hT hf hw hK
    have hg : a.tmps[27]?.getD undef = .bool true := hw.2.1
    refine step_yes rfl rfl hg ?_
    clear hg
    have h29 : a.tmps[29]?.getD undef = .int .i64 4 := hw.1
    clear hf hw
    go_simp
    exact hK _ _ (TR.refl _ _ _ _) rfl
  case s10 =>
    intro a w' K hT hf hw hK
    have hg : a.tmps[27]?.getD undef = .bool true := hw.2.2.1
    refine step_yes rfl rfl hg ?_
    clear hg
    have h30 : a.tmps[30]?.getD undef = .bool false := hw.1
    clear hf hw
    go_simp
    exact hK _ _ (TR.refl _ _ _ _) rfl
  case s11 =>
    intro a w' K hT hf hw hK
    have hg : a.tmps[31]?.getD undef = .bool false := hw.1
    refine step_yes rfl rfl hg ?_
    clear hg
    have h5 : a.tmps[5]?.getD undef = .pointer (some ⟨w1.heap.size, 0, none⟩) := hf 5 (by kernel_rfl)
    clear hf hw
    go_simp
    exact hK _ _ (TR.refl _ _ _ _) rfl
  case s12 =>
    intro a w' K hT hf hw hK
    have hg : a.tmps[31]?.getD undef = .bool false := hw.2.1
    refine step_yes rfl rfl hg ?_
    clear hg
    have h32 : a.tmps[32]?.getD undef = .pointer (some ⟨w1.heap.size, 4, none⟩) := hw.1
    clear hf hw
    have hcell : ∀ j, w'.cell? ⟨w1.heap.size, j, none⟩ = (w1.alloc (.cells #[.int .i64 0, .int .i64 2, .int .i64 0, .bool false, .int .i64 k, .bool m, .slice none 0 0] 29)).cell? ⟨w1.heap.size, j, none⟩ := fun j => hT.cell (by simp) (Ne.symm hne)
    go_simp
    exact hK _ _ (TR.refl _ _ _ _) rfl
  case s13 =>
    intro a w' K hT hf hw hK
    have hg : a.tmps[31]?.getD undef = .bool false := hw.1
    refine step_yes rfl rfl hg ?_
    clear hg
    have h4 : a.tmps[4]?.getD undef = .iface 127 (.agg #[]) := hf 4 (by kernel_rfl)
    clear hf hw
    go_simp
    exact hK _ _ (TR.refl _ _ _ _) rfl
  case s14 =>
    intro a w' K hT hf hw hK
    have hg : a.tmps[31]?.getD undef = .bool false := hw.2.1
    refine step_yes rfl rfl hg ?_
    clear hg
    have h34 : a.tmps[34]?.getD undef = .iface 127 (.agg #[]) := hw.1
    clear hf hw
    go_simp
    refine (codes_S _).mono ?_
    rintro e w2 ⟨rfl, rfl⟩
    exact hK _ _ (TR.refl _ _ _ _) rfl
  case s15 =>
    intro a w' K hT hf hw hK
    have hg : a.tmps[31]?.getD undef = .bool false := hw.2.2.1
    refine step_yes rfl rfl hg ?_
    clear hg
    have h33 : a.tmps[33]?.getD undef = .int .i64 k := hw.1
    have h35 : a.tmps[35]?.getD undef = .int .i64 4 := hw.2.1
    clear hf hw
    go_simp
    exact hK _ _ (TR.refl _ _ _ _) rfl
  case s16 =>
    intro a w' K hT hf hw hK
    have hg : a.tmps[27]?.getD undef = .bool true := hw.2.2.1
    refine step_yes rfl rfl hg ?_
    clear hg
    have h31 : a.tmps[31]?.getD undef = .bool false := hw.1
    have h36 : a.tmps[36]?.getD undef = .bool true := hw.2.1
    clear hf hw
    go_simp
    exact hK _ _ (TR.refl _ _ _ _) rfl
  case s17 =>
    intro a w' K hT hf hw hK
    refine step_free rfl ?_
    have h27 : a.tmps[27]?.getD undef = .bool true := hw.1
    have h37 : a.tmps[37]?.getD undef = .bool true := hw.2.1
    clear hf hw
    go_simp
    exact hK _ _ (TR.refl _ _ _ _) rfl
  case s18 =>
    intro a w' K hT hf hw hK
    refine step_free rfl ?_
    have h2 : a.tmps[2]?.getD undef = .pointer (some ⟨w.heap.size, 0, none⟩) := hf 2 (by kernel_rfl)
    have h21 : a.tmps[21]?.getD undef = .agg #[.int .i64 0, .int .i64 2, .int .i64 0, .bool false, .int .i64 k, .bool m, .slice none 0 0] := hw.1
    exact wp_store_mid 29 _ _ rfl w.heap.size 0 #[.int .i64 0, .int .i64 2, .int .i64 0, .bool false, .int .i64 k, .bool m, .slice none 0 0] (eval_tmp a 2 h2) (eval_tmp a 21 h21) (hT.there hth) (by kernel_rfl) (by simp [Value.oneCell']) (hK _ _ (TR.store (hT.there hth) rfl).1 (TR.store (hT.there hth) rfl).2)
  case s19 =>
    intro a w' K hT hf hw hK
    refine step_free rfl ?_
    have h38 : a.tmps[38]?.getD undef = .bool true := hw.1
    clear hf hw
    go_simp
    exact hK _ _ (TR.refl _ _ _ _) rfl
  case hfin =>
    rintro vs w' hT ⟨f0, f1, f2, f3, f4, f5, f6, f7, f8, f9, f10, f11, f12, f13, f14, f15, f16, f17, f18, f19, -⟩
    have e0 : vs 0 = .agg #[.int .i64 0, .int .i64 2, .int .i64 0, .bool false, .int .i64 k, .bool m, .slice none 0 0] := f0
    have e1 : vs 1 = .iface 127 (.agg #[]) := f1
    have e2 : vs 2 = .agg #[.int .i64 0, .int .i64 2, .int .i64 0, .bool false, .int .i64 k, .bool m, .slice none 0 0] := f2
    have e3 : vs 3 = .int .i64 (ctlS k m) := f3
    have e4 : vs 4 = .int .i64 (c : Int) := f4
    have e5 : vs 5 = .bool true := f5
    have e6 : vs 6 = .bool true := f6
    have e7 : vs 7 = .iface 127 (.agg #[]) := f7
    have e8 : vs 8 = .int .i64 4 := f8
    have e9 : vs 9 = .bool false := f9
    have e10 : vs 10 = .bool false := f10
    have e11 : vs 11 = .pointer (some ⟨w1.heap.size, 4, none⟩) := f11
    have e12 : vs 12 = .int .i64 k := f12
    have e13 : vs 13 = .iface 127 (.agg #[]) := f13
    have e14 : vs 14 = .int .i64 4 := f14
    have e15 : vs 15 = .bool true := f15
    have e16 : vs 16 = .bool true := f16
    have e17 : vs 17 = .bool true := f17
    have e19 : vs 19 = .bool true := f19
    simp only [putsAt, Act.put, e0, e1, e2, e3, e4, e5, e6, e7, e8, e9, e10, e11, e12, e13, e14, e15, e16, e17, e19]
    simp only [List.setIfInBounds_toArray, List.set_cons_succ, List.set_cons_zero]
    clear e0 e1 e2 e3 e4 e5 e6 e7 e8 e9 e10 e11 e12 e13 e14 e15 e16 e17 e19 f0 f1 f2 f3 f4 f5 f6 f7 f8 f9 f10 f11 f12 f13 f14 f15 f16 f17 f19
    have hr : w'.rangeAt w.heap.size 0 [.int .i64 0, .int .i64 2, .int .i64 0, .bool false, .int .i64 k, .bool m, .slice none 0 0] := f18
    clear f18
    go_wp2_with fail
    refine bodyPost_ret (results_cell_tmp rfl _ _ w.heap.size 0 [.int .i64 0, .int .i64 2, .int .i64 0, .bool false, .int .i64 k, .bool m, .slice none 0 0] _ rfl hr Try.underlying29 rfl (by kernel_rfl)) rfl ⟨rfl, ?_⟩
    exact hT.below (hw1.alloc hw1.size _).drew (Nat.le_refl _) rfl
set_option maxHeartbeats 2000000 in
theorem bparse_S_no (c : Nat) (h0 : 192 <= c) (hc : c < 256) (hok : ¬ c % 32 < 4) (w : World) :
    Calls Try.prog 93 #[.int .i64 (c : Int)] w
      fun e w' => e = .returned (.tuple #[.agg (blkC c).toArray, .bool (okC c)]) /\ Below w.heap.size w w' := by
  have ho : okC c = false := by unfold okC; rw [if_neg (by omega), if_neg (by omega)]; simp; omega
  have hbl : blkC c = [.int .i64 0, .int .i64 2, .int .i64 0, .bool false, .int .i64 (c % 4 : Nat), .bool (decide (c / 32 % 2 = 1)), .slice none 0 0] := by unfold blkC; rw [if_neg (by omega), if_neg (by omega)]
  rw [ho, hbl]
  clear ho hbl
  have h1 := byte_and192 c hc
  rw [show c / 64 * 64 = 192 by omega] at h1
  have hq : ctlS ((c % 4 : Nat) : Int) (decide (c / 32 % 2 = 1)) = (192 + (if c / 32 % 2 = 1 then 32 else 0) + c % 4 : Nat) := by unfold ctlS; split <;> simp_all <;> omega
  have h4 : ((c % 4 : Nat) : Int) = 0 ∨ ((c % 4 : Nat) : Int) = 1 ∨ ((c % 4 : Nat) : Int) = 2 ∨ ((c % 4 : Nat) : Int) = 3 := by omega
  have heq : (ctlS ((c % 4 : Nat) : Int) (decide (c / 32 % 2 = 1)) == (c : Int)) = false := by
    rw [hq, beq_eq_false_iff_ne]; split <;> omega
  have hP : ∀ W, Calls Try.prog 123 #[.agg #[], .int .i64 (c : Int)] W fun e w' => e = .returned (.agg #[.int .i64 0, .int .i64 2, .int .i64 0, .bool false, .int .i64 (c % 4 : Nat), .bool (decide (c / 32 % 2 = 1)), .slice none 0 0]) /\ Below W.heap.size W w' := fun W => parse_S c hc W
  clear hq hok h0 hc
  generalize hk : ((c % 4 : Nat) : Int) = k at *
  generalize hm : decide (c / 32 % 2 = 1) = m at *
  have HK := Lib.hid h4
  clear h4 hk hm
  have HP := Lib.hid hP
  clear hP
  go_enter Try.func93, Try.ntmps93
  go_wp2_with fail
  refine (HP.out _).mono ?_
  rintro e w1 ⟨rfl, hb⟩
  obtain ⟨hc1, hf1⟩ := bcell hb
  have hz : w.heap.size < w1.heap.size := by have := hb.size; simp at this; omega
  have hne : w.heap.size ≠ w1.heap.size := by omega
  go_wp2_with fail
  have hw1 : Below w.heap.size w w1 := ((Below.refl _ _).alloc (Nat.le_refl _) _).trans (hb.mono (by simp))
  have hth : (w1.alloc (.cells #[.int .i64 0, .int .i64 2, .int .i64 0, .bool false, .int .i64 k, .bool m, .slice none 0 0] 29)).drew.there w.heap.size 0 7 := by
    refine there_of_cells (cs := #[.int .i64 0, .int .i64 0, .int .i64 0, .bool false, .int .i64 0, .bool false, .slice none 0 0]) (t := 29) ?_ rfl
    show (w1.alloc _).heap[w.heap.size]? = _
    rw [Below.heap_alloc _ _ _ hz, hb.block _ (by simp)]
    exact heap_alloc_new w _
  refine wp_region_list' (T := TR w.heap.size 7 [.int .i64 0, .int .i64 2, .int .i64 0, .bool false, .int .i64 k, .bool m, .slice none 0 0]) [St.is (.agg #[.int .i64 0, .int .i64 2, .int .i64 0, .bool false, .int .i64 k, .bool m, .slice none 0 0]), St.is (.iface 127 (.agg #[])), St.is (.agg #[.int .i64 0, .int .i64 2, .int .i64 0, .bool false, .int .i64 k, .bool m, .slice none 0 0]), St.is (.int .i64 (ctlS k m)), St.is (.int .i64 (c : Int)), St.is (.bool false), St.is (.bool false), St.is undef, St.is undef, St.is undef, St.is undef, St.is undef, St.is undef, St.is undef, St.is undef, St.is undef, St.is undef, St.is (Go.Value.bool false), St.pred (fun v' w' => w'.rangeAt w.heap.size 0 [.int .i64 0, .int .i64 2, .int .i64 0, .bool false, .int .i64 k, .bool m, .slice none 0 0]) (fun _ _ _ h q => h.fin q), St.is (Go.Value.bool false)] (by kernel_rfl) (by kernel_rfl) (TR.refl _ _ _) (TR.trans _ _ _) ⟨?s0, ?s1, ?s2, ?s3, ?s4, ?s5, ?s6, ?s7, ?s8, ?s9, ?s10, ?s11, ?s12, ?s13, ?s14, ?s15, ?s16, ?s17, ?s18, ?s19, trivial⟩ ?hfin
  case s0 =>
    intro a w' K hT hf hw hK
    refine step_free rfl ?_
    have h5 : a.tmps[5]?.getD undef = .pointer (some ⟨w1.heap.size, 0, none⟩) := hf 5 (by kernel_rfl)
    clear hf hw
    have hcell : ∀ j, w'.cell? ⟨w1.heap.size, j, none⟩ = (w1.alloc (.cells #[.int .i64 0, .int .i64 2, .int .i64 0, .bool false, .int .i64 k, .bool m, .slice none 0 0] 29)).cell? ⟨w1.heap.size, j, none⟩ := fun j => hT.cell (by simp) (Ne.symm hne)
    go_simp
    exact hK _ _ (TR.refl _ _ _ _) rfl
  case s1 =>
    intro a w' K hT hf hw hK
    refine step_free rfl ?_
    have h4 : a.tmps[4]?.getD undef = .iface 127 (.agg #[]) := hf 4 (by kernel_rfl)
    clear hf hw
    go_simp
    exact hK _ _ (TR.refl _ _ _ _) rfl
  case s2 =>
    intro a w' K hT hf hw hK
    refine step_free rfl ?_
    have h5 : a.tmps[5]?.getD undef = .pointer (some ⟨w1.heap.size, 0, none⟩) := hf 5 (by kernel_rfl)
    clear hf hw
    have hcell : ∀ j, w'.cell? ⟨w1.heap.size, j, none⟩ = (w1.alloc (.cells #[.int .i64 0, .int .i64 2, .int .i64 0, .bool false, .int .i64 k, .bool m, .slice none 0 0] 29)).cell? ⟨w1.heap.size, j, none⟩ := fun j => hT.cell (by simp) (Ne.symm hne)
    go_simp
    exact hK _ _ (TR.refl _ _ _ _) rfl
  case s3 =>
    intro a w' K hT hf hw hK
    refine step_free rfl ?_
    have h22 : a.tmps[22]?.getD undef = .iface 127 (.agg #[]) := hw.1
    have h23 : a.tmps[23]?.getD undef = .agg #[.int .i64 0, .int .i64 2, .int .i64 0, .bool false, .int .i64 k, .bool m, .slice none 0 0] := hw.2.1
    clear hf hw
    have hR : w.heap.size < w'.heap.size := by have := hT.grown.size; simp at this; omega
    go_simp
    refine (control_S _ _ _ _ _ _ _ _ HK.out).mono ?_
    rintro e w2 ⟨rfl, hb2⟩
    exact hK _ _ (TR.of_below hR hb2) rfl
  case s4 =>
    intro a w' K hT hf hw hK
    refine step_free rfl ?_
    have h0 : a.tmps[0]?.getD undef = .int .i64 (c : Int) := hf 0 (by kernel_rfl)
    clear hf hw
    go_simp
    exact hK _ _ (TR.refl _ _ _ _) rfl
  case s5 =>
    intro a w' K hT hf hw hK
    refine step_free rfl ?_
    have h24 : a.tmps[24]?.getD undef = .int .i64 (ctlS k m) := hw.1
    have h25 : a.tmps[25]?.getD undef = .int .i64 (c : Int) := hw.2.1
    clear hf hw
    go_simp
    exact hK _ _ (TR.refl _ _ _ _) rfl
  case s6 =>
    intro a w' K hT hf hw hK
    refine step_free rfl ?_
    have h26 : a.tmps[26]?.getD undef = .bool false := hw.1
    clear hf hw
    go_simp
    exact hK _ _ (TR.refl _ _ _ _) rfl
  case s7 =>
    intro a w' K hT hf hw hK
    have hg : a.tmps[27]?.getD undef = .bool false := hw.1
    refine step_no rfl rfl (.inl hg) ?_
    exact hK _ _ (TR.refl _ _ _ _) rfl
  case s8 =>
    intro a w' K hT hf hw hK
    have hg : a.tmps[27]?.getD undef = .bool false := hw.2.1
    refine step_no rfl rfl (.inl hg) ?_
    exact hK _ _ (TR.refl _ _ _ _) rfl
  case s9 =>
    intro a w' K hT hf hw hK
    have hg : a.tmps[27]?.getD undef = .bool false := hw.2.1
    refine step_no rfl rfl (.inl hg) ?_
    exact hK _ _ (TR.refl _ _ _ _) rfl
  case s10 =>
    intro a w' K hT hf hw hK
    have hg : a.tmps[27]?.getD undef = .bool false := hw.2.2.1
    refine step_no rfl rfl (.inl hg) ?_
    exact hK _ _ (TR.refl _ _ _ _) rfl
  case s11 =>
    intro a w' K hT hf hw hK
    have hg : a.tmps[31]?.getD undef = undef := hw.1
    refine step_no rfl rfl (.inr hg) ?_
    exact hK _ _ (TR.refl _ _ _ _) rfl
  case s12 =>
    intro a w' K hT hf hw hK
    have hg : a.tmps[31]?.getD undef = undef := hw.2.1
    refine step_no rfl rfl (.inr hg) ?_
    exact hK _ _ (TR.refl _ _ _ _) rfl
  case s13 =>
    intro a w' K hT hf hw hK
    have hg : a.tmps[31]?.getD undef = undef := hw.1
    refine step_no rfl rfl (.inr hg) ?_
    exact hK _ _ (TR.refl _ _ _ _) rfl
  case s14 =>
    intro a w' K hT hf hw hK
    have hg : a.tmps[31]?.getD undef = undef := hw.2.1
    refine step_no rfl rfl (.inr hg) ?_
    exact hK _ _ (TR.refl _ _ _ _) rfl
  case s15 =>
    intro a w' K hT hf hw hK
    have hg : a.tmps[31]?.getD undef = undef := hw.2.2.1
    refine step_no rfl rfl (.inr hg) ?_
    exact hK _ _ (TR.refl _ _ _ _) rfl
  case s16 =>
    intro a w' K hT hf hw hK
    have hg : a.tmps[27]?.getD undef = .bool false := hw.2.2.1
    refine step_no rfl rfl (.inl hg) ?_
    exact hK _ _ (TR.refl _ _ _ _) rfl
  case s17 =>
    intro a w' K hT hf hw hK
    refine step_free rfl ?_
    have h27 : a.tmps[27]?.getD undef = .bool false := hw.1
    have h37 : a.tmps[37]?.getD undef = undef := hw.2.1
    clear hf hw
    go_simp
    exact hK _ _ (TR.refl _ _ _ _) rfl
  case s18 =>
    intro a w' K hT hf hw hK
    refine step_free rfl ?_
    have h2 : a.tmps[2]?.getD undef = .pointer (some ⟨w.heap.size, 0, none⟩) := hf 2 (by kernel_rfl)
    have h21 : a.tmps[21]?.getD undef = .agg #[.int .i64 0, .int .i64 2, .int .i64 0, .bool false, .int .i64 k, .bool m, .slice none 0 0] := hw.1
    exact wp_store_mid 29 _ _ rfl w.heap.size 0 #[.int .i64 0, .int .i64 2, .int .i64 0, .bool false, .int .i64 k, .bool m, .slice none 0 0] (eval_tmp a 2 h2) (eval_tmp a 21 h21) (hT.there hth) (by kernel_rfl) (by simp [Value.oneCell']) (hK _ _ (TR.store (hT.there hth) rfl).1 (TR.store (hT.there hth) rfl).2)
  case s19 =>
    intro a w' K hT hf hw hK
    refine step_free rfl ?_
    have h38 : a.tmps[38]?.getD undef = Go.Value.bool false := hw.1
    clear hf hw
    go_simp
    exact hK _ _ (TR.refl _ _ _ _) rfl
  case hfin =>
    rintro vs w' hT ⟨f0, f1, f2, f3, f4, f5, f6, f7, f8, f9, f10, f11, f12, f13, f14, f15, f16, f17, f18, f19, -⟩
    have e0 : vs 0 = .agg #[.int .i64 0, .int .i64 2, .int .i64 0, .bool false, .int .i64 k, .bool m, .slice none 0 0] := f0
    have e1 : vs 1 = .iface 127 (.agg #[]) := f1
    have e2 : vs 2 = .agg #[.int .i64 0, .int .i64 2, .int .i64 0, .bool false, .int .i64 k, .bool m, .slice none 0 0] := f2
    have e3 : vs 3 = .int .i64 (ctlS k m) := f3
    have e4 : vs 4 = .int .i64 (c : Int) := f4
    have e5 : vs 5 = .bool false := f5
    have e6 : vs 6 = .bool false := f6
    have e7 : vs 7 = undef := f7
    have e8 : vs 8 = undef := f8
    have e9 : vs 9 = undef := f9
    have e10 : vs 10 = undef := f10
    have e11 : vs 11 = undef := f11
    have e12 : vs 12 = undef := f12
    have e13 : vs 13 = undef := f13
    have e14 : vs 14 = undef := f14
    have e15 : vs 15 = undef := f15
    have e16 : vs 16 = undef := f16
    have e17 : vs 17 = Go.Value.bool false := f17
    have e19 : vs 19 = Go.Value.bool false := f19
    simp only [putsAt, Act.put, e0, e1, e2, e3, e4, e5, e6, e7, e8, e9, e10, e11, e12, e13, e14, e15, e16, e17, e19]
    simp only [List.setIfInBounds_toArray, List.set_cons_succ, List.set_cons_zero]
    clear e0 e1 e2 e3 e4 e5 e6 e7 e8 e9 e10 e11 e12 e13 e14 e15 e16 e17 e19 f0 f1 f2 f3 f4 f5 f6 f7 f8 f9 f10 f11 f12 f13 f14 f15 f16 f17 f19
    have hr : w'.rangeAt w.heap.size 0 [.int .i64 0, .int .i64 2, .int .i64 0, .bool false, .int .i64 k, .bool m, .slice none 0 0] := f18
    clear f18
    go_wp2_with fail
    refine bodyPost_ret (results_cell_tmp rfl _ _ w.heap.size 0 [.int .i64 0, .int .i64 2, .int .i64 0, .bool false, .int .i64 k, .bool m, .slice none 0 0] _ rfl hr Try.underlying29 rfl (by kernel_rfl)) rfl ⟨rfl, ?_⟩
    exact hT.below (hw1.alloc hw1.size _).drew (Nat.le_refl _) rfl
theorem bparse_any (c : Nat) (hc : c < 256) (w : World) :
    Calls Try.prog 93 #[.int .i64 (c : Int)] w
      fun e w' => e = .returned (.tuple #[.agg (blkC c).toArray, .bool (okC c)]) /\ Below w.heap.size w w' := by
  by_cases h1 : c < 128
  . by_cases h2 : c % 32 = 0
    . exact bparse_I_ok c h1 h2 w
    . exact bparse_I_no c h1 h2 w
  . by_cases h3 : c < 192
    . by_cases h4 : c < 160 /\ c % 16 < 4
      . by_cases h5 : c % 16 < 3
        . exact bparse_R_ok c (by omega) h3 ⟨h4.1, h5⟩ w
        . exact bparse_R_co c (by omega) h3 (by omega) w
      . exact bparse_R_no c (by omega) h3 h4 w
    . by_cases h5 : c % 32 < 4
      . exact bparse_S_ok c (by omega) hc h5 w
      . exact bparse_S_no c (by omega) hc h5 w
end Go.Proofs.Ytilfphdeacogmaa

/- smartcard/block.Encode: the walk (printed by wip/gen/encode.py). -/
namespace Go.Proofs.Ytilfphdeacogmaa
open Go.RowKit
set_option linter.unusedVariables false
attribute [local go_sem] m_PI m_PR m_PS m_CI m_CR m_CS
def ctlN (kind seq : Int) (more : Bool) (code : Int) (answer : Bool) : Int := if kind = 0 then ctlI seq more else if kind = 1 then ctlR seq code else ctlS code answer
def headB (nad kind seq : Int) (more : Bool) (code : Int) (answer : Bool) (n : Nat) : List UInt8 := [UInt8.ofNat nad.toNat, UInt8.ofNat (ctlN kind seq more code answer).toNat, UInt8.ofNat n]
def encB (k nad kind seq : Int) (more : Bool) (code : Int) (answer : Bool) (inf : List UInt8) : List UInt8 :=
  headB nad kind seq more code answer inf.length ++ inf ++ sumB k (headB nad kind seq more code answer inf.length ++ inf)
theorem u8_ofNat (a : Nat) (h : a < 256) : u8 (UInt8.ofNat a) = .int .u8 (a : Int) := by
  unfold u8; rw [UInt8.toNat_ofNat']; rw [Nat.mod_eq_of_lt (by omega)]
theorem u8_ofInt (a : Int) (h0 : 0 <= a) (h : a < 256) : u8 (UInt8.ofNat a.toNat) = .int .u8 (a % 256) := by
  rw [u8_ofNat _ (by omega)]; congr 1; omega
theorem u8_ofNat' (a : Nat) (h : a < 256) : u8 (UInt8.ofNat a) = .int .u8 ((a : Int) % 256) := by
  rw [u8_ofNat a h]; congr 1; omega
theorem flat2 {α : Type} (a b : List α) : [a, b].flatten = a ++ b := by simp
theorem kindOf_0 (w : World) : Calls Try.prog 101 #[.int .i64 0] w fun e w' => e = .returned (.iface 129 (.agg #[])) /\ w = w' := by
  go_enter Try.func101, Try.ntmps101
  go_wp2
  go_ret
  exact ⟨rfl, rfl⟩
theorem kindOf_1 (w : World) : Calls Try.prog 101 #[.int .i64 1] w fun e w' => e = .returned (.iface 128 (.agg #[])) /\ w = w' := by
  go_enter Try.func101, Try.ntmps101
  go_wp2
  go_ret
  exact ⟨rfl, rfl⟩
theorem kindOf_2 (w : World) : Calls Try.prog 101 #[.int .i64 2] w fun e w' => e = .returned (.iface 127 (.agg #[])) /\ w = w' := by
  go_enter Try.func101, Try.ntmps101
  go_wp2
  go_ret
  exact ⟨rfl, rfl⟩
set_option maxHeartbeats 400000 in
theorem encode_kind (nad kind seq : Int) (more : Bool) (code : Int) (answer : Bool) (v : Value) (k : Int) (hk : ¬ (k = 0 ∨ k = 1)) (w : World) :
    Calls Try.prog 95 #[.agg #[.int .i64 nad, .int .i64 kind, .int .i64 seq, .bool more, .int .i64 code, .bool answer, v], .int .i64 k] w
      fun e w' => e = .returned (.tuple #[.slice none 0 0, .int .i64 1]) /\ Below w.heap.size w w' := by
  have hs : sizeI k = 0 := by unfold sizeI; rw [if_neg (by omega), if_neg (by omega)]
  go_enter Try.func95, Try.ntmps95
  go_wp2_with fail
  refine (size_any k _).mono ?_
  rintro e w1 ⟨rfl, rfl⟩
  rw [hs]
  go_wp2_with fail
  go_ret2
  exact ⟨rfl, (Below.refl _ _).alloc (Nat.le_refl _) _⟩
set_option maxHeartbeats 400000 in
theorem encode_bad (nad kind seq : Int) (more : Bool) (code : Int) (answer : Bool) (A : Option Addr) (n c : Nat) (inf : List UInt8) (k : Int) (hk : k = 0 ∨ k = 1) (w : World) (h : IsB w A n c inf)
    (hbad : checkE nad kind seq more code answer inf ≠ 0) :
    Calls Try.prog 95 #[.agg #[.int .i64 nad, .int .i64 kind, .int .i64 seq, .bool more, .int .i64 code, .bool answer, .slice A n c], .int .i64 k] w
      fun e w' => e = .returned (.tuple #[.slice none 0 0, .int .i64 (checkE nad kind seq more code answer inf)]) /\ Below w.heap.size w w' := by
  have hp := sizeN_pos k hk
  have hC : ∀ W, IsB W A n c inf -> Calls Try.prog 94 #[.agg #[.int .i64 nad, .int .i64 kind, .int .i64 seq, .bool more, .int .i64 code, .bool answer, .slice A n c]] W
      fun e w' => e = .returned (.int .i64 (checkE nad kind seq more code answer inf)) /\ Below W.heap.size W w' := fun W hW => check_any nad kind seq more code answer A n c inf W hW
  generalize checkE nad kind seq more code answer inf = er at *
  have HC := Lib.hid hC
  have hne : (er != 0) = true := by simpa using hbad
  clear hC hbad
  go_enter Try.func95, Try.ntmps95
  go_wp2_with fail
  refine (size_any k _).mono ?_
  rintro e w1 ⟨rfl, rfl⟩
  rw [sizeI_eq]
  generalize sizeN k = s at *
  have h0 : ((s : Int) == 0) = false := by simp; omega
  go_wp2_with fail
  refine (HC.out _ (h.alloc _)).mono ?_
  rintro e w1 ⟨rfl, hb⟩
  go_wp2_with fail
  go_ret2
  exact ⟨rfl, ((Below.refl _ _).alloc (Nat.le_refl _) _).trans (hb.mono (by simp))⟩
set_option maxRecDepth 8000 in
set_option maxHeartbeats 2000000 in
theorem encode_I (nad seq : Int) (more : Bool) (A : Option Addr) (n c : Nat) (inf : List UInt8) (k : Int) (hk : k = 0 ∨ k = 1) (w : World) (h : IsB w A n c inf)
    (hok : checkE nad 0 seq more 0 false inf = 0) (hn0 : 0 <= nad) (hn1 : nad <= 254) (hv : (seq = 0 ∨ seq = 1)) (hlen : n <= 254) :
    Calls Try.prog 95 #[.agg #[.int .i64 nad, .int .i64 0, .int .i64 seq, .bool more, .int .i64 0, .bool false, .slice A n c], .int .i64 k] w
      fun e w' => ∃ A' n' c', e = .returned (.tuple #[.slice A' n' c', .int .i64 0]) /\ Own w' w.heap.size 5 A' n' c' ((encB k nad 0 seq more 0 false inf).map u8) /\ Below w.heap.size w w' := by
  have hp := sizeN_pos k hk
  have hl := IsB.len h
  have hctl : 0 <= ctlI seq more /\ ctlI seq more < 256 := by unfold ctlI; rcases hv with rfl | rfl <;> cases more <;> simp
  have HV : Hid (((seq = 0 ∨ seq = 1)) /\ u8 (UInt8.ofNat nad.toNat) = .int .u8 (nad % 256) /\ u8 (UInt8.ofNat (ctlI seq more).toNat) = .int .u8 ((ctlI seq more) % 256) /\ u8 (UInt8.ofNat n) = .int .u8 ((n : Int) % 256)) := ⟨hv, u8_ofInt _ hn0 (by omega), u8_ofInt _ hctl.1 hctl.2, u8_ofNat' _ (by omega)⟩
  have HV0 : Hid (IsB w A n c inf /\ inf.length <= 254 /\ (k = 0 ∨ k = 1)) := ⟨h, by omega, hk⟩
  have HL : Hid (encB k nad 0 seq more 0 false inf = [UInt8.ofNat nad.toNat, UInt8.ofNat (ctlI seq more).toNat, UInt8.ofNat n] ++ inf ++ sumB k ([UInt8.ofNat nad.toNat, UInt8.ofNat (ctlI seq more).toNat, UInt8.ofNat n] ++ inf)) := by
    show _ = _
    unfold encB headB
    rw [hl]
    rfl
  have hC : ∀ W, IsB W A n c inf -> Calls Try.prog 94 #[.agg #[.int .i64 nad, .int .i64 0, .int .i64 seq, .bool more, .int .i64 0, .bool false, .slice A n c]] W fun e w' => e = .returned (.int .i64 0) /\ Below W.heap.size W w' := fun W hW => by
    have := check_any nad 0 seq more 0 false A n c inf W hW
    rwa [hok] at this
  have HC := Lib.hid hC
  have hc0 := hctl.1
  have hc1 := hctl.2
  clear hC hok hl hctl hv
  go_enter Try.func95, Try.ntmps95
  go_wp2_with fail
  refine (size_any k _).mono ?_
  rintro e w1 ⟨rfl, rfl⟩
  rw [sizeI_eq]
  generalize sizeN k = s at *
  have h0 : ((s : Int) == 0) = false := by simp; omega
  go_wp2_with fail
  refine (HC.out _ (h.alloc _)).mono ?_
  rintro e w1 ⟨rfl, hb⟩
  have hbw : Below w.heap.size w w1 := ((Below.refl _ _).alloc (Nat.le_refl _) _).trans (hb.mono (by simp))
  go_wp2_with fail
  refine wp_region_list' (T := TB) [St.is (.pointer (some ⟨w.heap.size, 0, none⟩)), St.is (.int .i64 nad), St.is (.int .u8 (nad % 256)), St.is (.pointer (some ⟨w.heap.size, 1, none⟩)), St.is (.int .i64 0), St.is (.iface 129 (.agg #[])), St.is (.agg #[.int .i64 nad, .int .i64 0, .int .i64 seq, .bool more, .int .i64 0, .bool false, .slice A n c]), St.is (.int .i64 (ctlI seq more)), St.is (.int .u8 ((ctlI seq more) % 256)), St.is (.pointer (some ⟨w.heap.size, 6, none⟩)), St.is (.slice A n c), St.is (.int .i64 (n : Int)), St.is (.int .u8 ((n : Int) % 256)), St.pred (fun v' w' => ∃ g, v' = .slice (some ⟨g, 0, none⟩) 3 3 /\ IsB w' (some ⟨g, 0, none⟩) 3 3 [UInt8.ofNat nad.toNat, UInt8.ofNat (ctlI seq more).toNat, UInt8.ofNat n]) (fun _ _ _ h q => q.imp fun _ q => ⟨q.1, Rd.below q.2 h⟩), St.pred (fun v' w' => ∃ g, v' = .slice (some ⟨g, 0, none⟩) 3 3 /\ IsB w' (some ⟨g, 0, none⟩) 3 3 [UInt8.ofNat nad.toNat, UInt8.ofNat (ctlI seq more).toNat, UInt8.ofNat n]) (fun _ _ _ h q => q.imp fun _ q => ⟨q.1, Rd.below q.2 h⟩)] (by kernel_rfl) (by kernel_rfl) (TB.refl) (TB.trans) ⟨?s0, ?s1, ?s2, ?s3, ?s4, ?s5, ?s6, ?s7, ?s8, ?s9, ?s10, ?s11, ?s12, ?s13, ?s14, trivial⟩ ?hfin
  case s0 =>
    intro a w' K hT hf hw hK
    refine step_free ?_ ?_
    . rfl
    have h2 : a.tmps[2]?.getD undef = .pointer (some ⟨w.heap.size, 0, none⟩) := hf 2 (by kernel_rfl)
    clear hf hw
    go_simp
    exact hK _ _ (TB.refl _) rfl
  case s1 =>
    intro a w' K hT hf hw hK
    refine step_free ?_ ?_
    . rfl
    have h16 : a.tmps[16]?.getD undef = .pointer (some ⟨w.heap.size, 0, none⟩) := hw.1
    clear hf hw
    have hcell : ∀ j, w'.cell? ⟨w.heap.size, j, none⟩ = (w.alloc (.cells #[.int .i64 nad, .int .i64 0, .int .i64 seq, .bool more, .int .i64 0, .bool false, .slice A n c] 29)).cell? ⟨w.heap.size, j, none⟩ := fun j => (hT.cell (by have := hb.size; simp at this ⊢; omega)).trans (hb.cell (p := ⟨w.heap.size, j, none⟩) (by simp))
    go_simp
    exact hK _ _ (TB.refl _) rfl
  case s2 =>
    intro a w' K hT hf hw hK
    refine step_free ?_ ?_
    . rfl
    have h17 : a.tmps[17]?.getD undef = .int .i64 nad := hw.1
    clear hf hw
    go_simp
    exact hK _ _ (TB.refl _) rfl
  case s3 =>
    intro a w' K hT hf hw hK
    refine step_free ?_ ?_
    . rfl
    have h2 : a.tmps[2]?.getD undef = .pointer (some ⟨w.heap.size, 0, none⟩) := hf 2 (by kernel_rfl)
    clear hf hw
    go_simp
    exact hK _ _ (TB.refl _) rfl
  case s4 =>
    intro a w' K hT hf hw hK
    refine step_free ?_ ?_
    . rfl
    have h19 : a.tmps[19]?.getD undef = .pointer (some ⟨w.heap.size, 1, none⟩) := hw.1
    clear hf hw
    have hcell : ∀ j, w'.cell? ⟨w.heap.size, j, none⟩ = (w.alloc (.cells #[.int .i64 nad, .int .i64 0, .int .i64 seq, .bool more, .int .i64 0, .bool false, .slice A n c] 29)).cell? ⟨w.heap.size, j, none⟩ := fun j => (hT.cell (by have := hb.size; simp at this ⊢; omega)).trans (hb.cell (p := ⟨w.heap.size, j, none⟩) (by simp))
    go_simp
    exact hK _ _ (TB.refl _) rfl
  case s5 =>
    intro a w' K hT hf hw hK
    refine step_free ?_ ?_
    . rfl
    have h20 : a.tmps[20]?.getD undef = .int .i64 0 := hw.1
    clear hf hw
    go_simp
    refine (kindOf_0 _).mono ?_
    rintro e w2 ⟨rfl, rfl⟩
    exact hK _ _ (TB.refl _) rfl
  case s6 =>
    intro a w' K hT hf hw hK
    refine step_free ?_ ?_
    . rfl
    have h2 : a.tmps[2]?.getD undef = .pointer (some ⟨w.heap.size, 0, none⟩) := hf 2 (by kernel_rfl)
    clear hf hw
    have hcell : ∀ j, w'.cell? ⟨w.heap.size, j, none⟩ = (w.alloc (.cells #[.int .i64 nad, .int .i64 0, .int .i64 seq, .bool more, .int .i64 0, .bool false, .slice A n c] 29)).cell? ⟨w.heap.size, j, none⟩ := fun j => (hT.cell (by have := hb.size; simp at this ⊢; omega)).trans (hb.cell (p := ⟨w.heap.size, j, none⟩) (by simp))
    go_simp
    exact hK _ _ (TB.refl _) rfl
  case s7 =>
    intro a w' K hT hf hw hK
    refine step_free ?_ ?_
    . rfl
    have h21 : a.tmps[21]?.getD undef = .iface 129 (.agg #[]) := hw.1
    have h22 : a.tmps[22]?.getD undef = .agg #[.int .i64 nad, .int .i64 0, .int .i64 seq, .bool more, .int .i64 0, .bool false, .slice A n c] := hw.2.1
    clear hf hw
    go_simp
    refine (control_I _ _ _ _ _ _ _ _ HV.out.1).mono ?_
    rintro e w2 ⟨rfl, hb2⟩
    exact hK _ _ hb2 rfl
  case s8 =>
    intro a w' K hT hf hw hK
    refine step_free ?_ ?_
    . rfl
    have h23 : a.tmps[23]?.getD undef = .int .i64 (ctlI seq more) := hw.1
    clear hf hw
    go_simp
    exact hK _ _ (TB.refl _) rfl
  case s9 =>
    intro a w' K hT hf hw hK
    refine step_free ?_ ?_
    . rfl
    have h2 : a.tmps[2]?.getD undef = .pointer (some ⟨w.heap.size, 0, none⟩) := hf 2 (by kernel_rfl)
    clear hf hw
    go_simp
    exact hK _ _ (TB.refl _) rfl
  case s10 =>
    intro a w' K hT hf hw hK
    refine step_free ?_ ?_
    . rfl
    have h25 : a.tmps[25]?.getD undef = .pointer (some ⟨w.heap.size, 6, none⟩) := hw.1
    clear hf hw
    have hcell : ∀ j, w'.cell? ⟨w.heap.size, j, none⟩ = (w.alloc (.cells #[.int .i64 nad, .int .i64 0, .int .i64 seq, .bool more, .int .i64 0, .bool false, .slice A n c] 29)).cell? ⟨w.heap.size, j, none⟩ := fun j => (hT.cell (by have := hb.size; simp at this ⊢; omega)).trans (hb.cell (p := ⟨w.heap.size, j, none⟩) (by simp))
    go_simp
    exact hK _ _ (TB.refl _) rfl
  case s11 =>
    intro a w' K hT hf hw hK
    refine step_free ?_ ?_
    . rfl
    have h26 : a.tmps[26]?.getD undef = .slice A n c := hw.1
    clear hf hw
    go_simp
    exact hK _ _ (TB.refl _) rfl
  case s12 =>
    intro a w' K hT hf hw hK
    refine step_free ?_ ?_
    . rfl
    have h27 : a.tmps[27]?.getD undef = .int .i64 (n : Int) := hw.1
    clear hf hw
    go_simp
    exact hK _ _ (TB.refl _) rfl
  case s13 =>
    intro a w' K hT hf hw hK
    refine step_free ?_ ?_
    . rfl
    have h18 : a.tmps[18]?.getD undef = .int .u8 (nad % 256) := hw.1
    have h24 : a.tmps[24]?.getD undef = .int .u8 ((ctlI seq more) % 256) := hw.2.1
    have h28 : a.tmps[28]?.getD undef = .int .u8 ((n : Int) % 256) := hw.2.2.1
    clear hf hw
    go_simp
    refine hK _ _ (TB.alloc _ _) ⟨w'.heap.size, rfl, ?_⟩
    have ho := own_lit (w := w') (B := 0) (e := 5) [u8 (UInt8.ofNat nad.toNat), u8 (UInt8.ofNat (ctlI seq more).toNat), u8 (UInt8.ofNat n)] (Nat.zero_le _) (by simp)
    have hr := ho.rd
    rw [HV.out.2.1, HV.out.2.2.1, HV.out.2.2.2] at hr
    show Rd _ _ _ _ [u8 (UInt8.ofNat nad.toNat), u8 (UInt8.ofNat (ctlI seq more).toNat), u8 (UInt8.ofNat n)]
    rw [HV.out.2.1, HV.out.2.2.1, HV.out.2.2.2]
    exact hr
  case s14 =>
    intro a w' K hT hf hw hK
    refine step_free ?_ ?_
    . rfl
    have h29 := hw.1
    clear hf hw
    obtain ⟨g, h29, hg⟩ := h29
    have h29 : a.tmps[29]?.getD undef = .slice (some ⟨g, 0, none⟩) 3 3 := h29
    have HG := Lib.hid hg
    go_simp
    refine hK _ _ (TB.refl _) ?_
    exact ⟨g, rfl, hg⟩
  case hfin =>
    rintro vs w' hT ⟨f0, f1, f2, f3, f4, f5, f6, f7, f8, f9, f10, f11, f12, f13, f14, -⟩
    have e0 : vs 0 = .pointer (some ⟨w.heap.size, 0, none⟩) := f0
    have e1 : vs 1 = .int .i64 nad := f1
    have e2 : vs 2 = .int .u8 (nad % 256) := f2
    have e3 : vs 3 = .pointer (some ⟨w.heap.size, 1, none⟩) := f3
    have e4 : vs 4 = .int .i64 0 := f4
    have e5 : vs 5 = .iface 129 (.agg #[]) := f5
    have e6 : vs 6 = .agg #[.int .i64 nad, .int .i64 0, .int .i64 seq, .bool more, .int .i64 0, .bool false, .slice A n c] := f6
    have e7 : vs 7 = .int .i64 (ctlI seq more) := f7
    have e8 : vs 8 = .int .u8 ((ctlI seq more) % 256) := f8
    have e9 : vs 9 = .pointer (some ⟨w.heap.size, 6, none⟩) := f9
    have e10 : vs 10 = .slice A n c := f10
    have e11 : vs 11 = .int .i64 (n : Int) := f11
    have e12 : vs 12 = .int .u8 ((n : Int) % 256) := f12
    simp only [putsAt, Act.put, e0, e1, e2, e3, e4, e5, e6, e7, e8, e9, e10, e11, e12]
    simp only [List.setIfInBounds_toArray, List.set_cons_succ, List.set_cons_zero]
    clear e0 e1 e2 e3 e4 e5 e6 e7 e8 e9 e10 e11 e12 f0 f1 f2 f3 f4 f5 f6 f7 f8 f9 f10 f11 f12
    obtain ⟨g1, e13, -⟩ := f13
    obtain ⟨g, e14, hg⟩ := f14
    rw [e13, e14]
    clear e13 e14
    have hbT : Below w.heap.size w w' := hbw.drew.trans (Below.mono hT hbw.size)
    have HJ := Lib.hid (IsBB.lit2 (e := 27) hg (Rd.below HV0.out.1 hbT))
    have hcell : ∀ j, w'.cell? ⟨w.heap.size, j, none⟩ = (w.alloc (.cells #[.int .i64 nad, .int .i64 0, .int .i64 seq, .bool more, .int .i64 0, .bool false, .slice A n c] 29)).cell? ⟨w.heap.size, j, none⟩ := fun j => (TB.cell hT (by have := hb.size; simp at this ⊢; omega)).trans (hb.cell (p := ⟨w.heap.size, j, none⟩) (by simp))
    have HB := Lib.hid hbT
    clear hg hbT
    go_wp2_with fail
    refine (join_any _ _ _ [[UInt8.ofNat nad.toNat, UInt8.ofNat (ctlI seq more).toNat, UInt8.ofNat n], inf] _ HJ.out (by simp; have := HV0.out.2; omega)).mono ?_
    rintro e w2 ⟨A2, n2, c2, rfl, ho2, hb2⟩
    have hb3 : Below w.heap.size w w2 := (HB.out.alloc HB.out.size _).trans (hb2.mono (by have := HB.out.size; simp; omega))
    have HO := Lib.hid (And.intro ho2 hb3)
    clear ho2 hb2 hb3
    go_wp2_with fail
    refine (append_ok k HV0.out.2.2 A2 n2 c2 ([UInt8.ofNat nad.toNat, UInt8.ofNat (ctlI seq more).toNat, UInt8.ofNat n] ++ inf) _ (by have := HO.out.1.rd; rw [flat2] at this; exact this) (by simp; have := HV0.out.2.1; omega)).mono ?_
    rintro e w3 ⟨A3, n3, c3, rfl, ho3, hb4⟩
    have HO3 := Lib.hid (And.intro ho3 hb4)
    clear ho3 hb4
    go_wp2_with fail
    go_ret2
    refine ⟨A3, n3, c3, rfl, ?_, HO.out.2.trans (HO3.out.2.mono HO.out.2.size)⟩
    have h1 := HO3.out.1.base (B' := w.heap.size) HO.out.2.size
    rw [HL.out]
    exact h1
set_option maxRecDepth 8000 in
set_option maxHeartbeats 2000000 in
theorem encode_R (nad seq code : Int)  (A : Option Addr) (n c : Nat) (inf : List UInt8) (k : Int) (hk : k = 0 ∨ k = 1) (w : World) (h : IsB w A n c inf)
    (hok : checkE nad 1 seq false code false inf = 0) (hn0 : 0 <= nad) (hn1 : nad <= 254) (hv : (seq = 0 ∨ seq = 1) /\ (code = 0 ∨ code = 1 ∨ code = 2 ∨ code = 3)) (hlen : n <= 254) :
    Calls Try.prog 95 #[.agg #[.int .i64 nad, .int .i64 1, .int .i64 seq, .bool false, .int .i64 code, .bool false, .slice A n c], .int .i64 k] w
      fun e w' => ∃ A' n' c', e = .returned (.tuple #[.slice A' n' c', .int .i64 0]) /\ Own w' w.heap.size 5 A' n' c' ((encB k nad 1 seq false code false inf).map u8) /\ Below w.heap.size w w' := by
  have hp := sizeN_pos k hk
  have hl := IsB.len h
  have hctl : 0 <= ctlR seq code /\ ctlR seq code < 256 := by unfold ctlR; rcases hv with ⟨rfl | rfl, rfl | rfl | rfl | rfl⟩ <;> simp
  have HV : Hid (((seq = 0 ∨ seq = 1) /\ (code = 0 ∨ code = 1 ∨ code = 2 ∨ code = 3)) /\ u8 (UInt8.ofNat nad.toNat) = .int .u8 (nad % 256) /\ u8 (UInt8.ofNat (ctlR seq code).toNat) = .int .u8 ((ctlR seq code) % 256) /\ u8 (UInt8.ofNat n) = .int .u8 ((n : Int) % 256)) := ⟨hv, u8_ofInt _ hn0 (by omega), u8_ofInt _ hctl.1 hctl.2, u8_ofNat' _ (by omega)⟩
  have HV0 : Hid (IsB w A n c inf /\ inf.length <= 254 /\ (k = 0 ∨ k = 1)) := ⟨h, by omega, hk⟩
  have HL : Hid (encB k nad 1 seq false code false inf = [UInt8.ofNat nad.toNat, UInt8.ofNat (ctlR seq code).toNat, UInt8.ofNat n] ++ inf ++ sumB k ([UInt8.ofNat nad.toNat, UInt8.ofNat (ctlR seq code).toNat, UInt8.ofNat n] ++ inf)) := by
    show _ = _
    unfold encB headB
    rw [hl]
    rfl
  have hC : ∀ W, IsB W A n c inf -> Calls Try.prog 94 #[.agg #[.int .i64 nad, .int .i64 1, .int .i64 seq, .bool false, .int .i64 code, .bool false, .slice A n c]] W fun e w' => e = .returned (.int .i64 0) /\ Below W.heap.size W w' := fun W hW => by
    have := check_any nad 1 seq false code false A n c inf W hW
    rwa [hok] at this
  have HC := Lib.hid hC
  have hc0 := hctl.1
  have hc1 := hctl.2
  clear hC hok hl hctl hv
  go_enter Try.func95, Try.ntmps95
  go_wp2_with fail
  refine (size_any k _).mono ?_
  rintro e w1 ⟨rfl, rfl⟩
  rw [sizeI_eq]
  generalize sizeN k = s at *
  have h0 : ((s : Int) == 0) = false := by simp; omega
  go_wp2_with fail
  refine (HC.out _ (h.alloc _)).mono ?_
  rintro e w1 ⟨rfl, hb⟩
  have hbw : Below w.heap.size w w1 := ((Below.refl _ _).alloc (Nat.le_refl _) _).trans (hb.mono (by simp))
  go_wp2_with fail
  refine wp_region_list' (T := TB) [St.is (.pointer (some ⟨w.heap.size, 0, none⟩)), St.is (.int .i64 nad), St.is (.int .u8 (nad % 256)), St.is (.pointer (some ⟨w.heap.size, 1, none⟩)), St.is (.int .i64 1), St.is (.iface 128 (.agg #[])), St.is (.agg #[.int .i64 nad, .int .i64 1, .int .i64 seq, .bool false, .int .i64 code, .bool false, .slice A n c]), St.is (.int .i64 (ctlR seq code)), St.is (.int .u8 ((ctlR seq code) % 256)), St.is (.pointer (some ⟨w.heap.size, 6, none⟩)), St.is (.slice A n c), St.is (.int .i64 (n : Int)), St.is (.int .u8 ((n : Int) % 256)), St.pred (fun v' w' => ∃ g, v' = .slice (some ⟨g, 0, none⟩) 3 3 /\ IsB w' (some ⟨g, 0, none⟩) 3 3 [UInt8.ofNat nad.toNat, UInt8.ofNat (ctlR seq code).toNat, UInt8.ofNat n]) (fun _ _ _ h q => q.imp fun _ q => ⟨q.1, Rd.below q.2 h⟩), St.pred (fun v' w' => ∃ g, v' = .slice (some ⟨g, 0, none⟩) 3 3 /\ IsB w' (some ⟨g, 0, none⟩) 3 3 [UInt8.ofNat nad.toNat, UInt8.ofNat (ctlR seq code).toNat, UInt8.ofNat n]) (fun _ _ _ h q => q.imp fun _ q => ⟨q.1, Rd.below q.2 h⟩)] (by kernel_rfl) (by kernel_rfl) (TB.refl) (TB.trans) ⟨?s0, ?s1, ?s2, ?s3, ?s4, ?s5, ?s6, ?s7, ?s8, ?s9, ?s10, ?s11, ?s12, ?s13, ?s14, trivial⟩ ?hfin
  case s0 =>
    intro a w' K hT hf hw hK
    refine step_free ?_ ?_
    . rfl
    have h2 : a.tmps[2]?.getD undef = .pointer (some ⟨w.heap.size, 0, none⟩) := hf 2 (by kernel_rfl)
    clear hf hw
    go_simp
    exact hK _ _ (TB.refl _) rfl
  case s1 =>
    intro a w' K hT hf hw hK
    refine step_free ?_ ?_
    . rfl
    have h16 : a.tmps[16]?.getD undef = .pointer (some ⟨w.heap.size, 0, none⟩) := hw.1
    clear hf hw
    have hcell : ∀ j, w'.cell? ⟨w.heap.size, j, none⟩ = (w.alloc (.cells #[.int .i64 nad, .int .i64 1, .int .i64 seq, .bool false, .int .i64 code, .bool false, .slice A n c] 29)).cell? ⟨w.heap.size, j, none⟩ := fun j => (hT.cell (by have := hb.size; simp at this ⊢; omega)).trans (hb.cell (p := ⟨w.heap.size, j, none⟩) (by simp))
    go_simp
    exact hK _ _ (TB.refl _) rfl
  case s2 =>
    intro a w' K hT hf hw hK
    refine step_free ?_ ?_
    . rfl
    have h17 : a.tmps[17]?.getD undef = .int .i64 nad := hw.1
    clear hf hw
    go_simp
    exact hK _ _ (TB.refl _) rfl
  case s3 =>
    intro a w' K hT hf hw hK
    refine step_free ?_ ?_
    . rfl
    have h2 : a.tmps[2]?.getD undef = .pointer (some ⟨w.heap.size, 0, none⟩) := hf 2 (by kernel_rfl)
    clear hf hw
    go_simp
    exact hK _ _ (TB.refl _) rfl
  case s4 =>
    intro a w' K hT hf hw hK
    refine step_free ?_ ?_
    . rfl
    have h19 : a.tmps[19]?.getD undef = .pointer (some ⟨w.heap.size, 1, none⟩) := hw.1
    clear hf hw
    have hcell : ∀ j, w'.cell? ⟨w.heap.size, j, none⟩ = (w.alloc (.cells #[.int .i64 nad, .int .i64 1, .int .i64 seq, .bool false, .int .i64 code, .bool false, .slice A n c] 29)).cell? ⟨w.heap.size, j, none⟩ := fun j => (hT.cell (by have := hb.size; simp at this ⊢; omega)).trans (hb.cell (p := ⟨w.heap.size, j, none⟩) (by simp))
    go_simp
    exact hK _ _ (TB.refl _) rfl
  case s5 =>
    intro a w' K hT hf hw hK
    refine step_free ?_ ?_
    . rfl
    have h20 : a.tmps[20]?.getD undef = .int .i64 1 := hw.1
    clear hf hw
    go_simp
    refine (kindOf_1 _).mono ?_
    rintro e w2 ⟨rfl, rfl⟩
    exact hK _ _ (TB.refl _) rfl
  case s6 =>
    intro a w' K hT hf hw hK
    refine step_free ?_ ?_
    . rfl
    have h2 : a.tmps[2]?.getD undef = .pointer (some ⟨w.heap.size, 0, none⟩) := hf 2 (by kernel_rfl)
    clear hf hw
    have hcell : ∀ j, w'.cell? ⟨w.heap.size, j, none⟩ = (w.alloc (.cells #[.int .i64 nad, .int .i64 1, .int .i64 seq, .bool false, .int .i64 code, .bool false, .slice A n c] 29)).cell? ⟨w.heap.size, j, none⟩ := fun j => (hT.cell (by have := hb.size; simp at this ⊢; omega)).trans (hb.cell (p := ⟨w.heap.size, j, none⟩) (by simp))
    go_simp
    exact hK _ _ (TB.refl _) rfl
  case s7 =>
    intro a w' K hT hf hw hK
    refine step_free ?_ ?_
    . rfl
    have h21 : a.tmps[21]?.getD undef = .iface 128 (.agg #[]) := hw.1
    have h22 : a.tmps[22]?.getD undef = .agg #[.int .i64 nad, .int .i64 1, .int .i64 seq, .bool false, .int .i64 code, .bool false, .slice A n c] := hw.2.1
    clear hf hw
    go_simp
    refine (control_R _ _ _ _ _ _ _ _ HV.out.1.1 HV.out.1.2).mono ?_
    rintro e w2 ⟨rfl, hb2⟩
    exact hK _ _ hb2 rfl
  case s8 =>
    intro a w' K hT hf hw hK
    refine step_free ?_ ?_
    . rfl
    have h23 : a.tmps[23]?.getD undef = .int .i64 (ctlR seq code) := hw.1
    clear hf hw
    go_simp
    exact hK _ _ (TB.refl _) rfl
  case s9 =>
    intro a w' K hT hf hw hK
    refine step_free ?_ ?_
    . rfl
    have h2 : a.tmps[2]?.getD undef = .pointer (some ⟨w.heap.size, 0, none⟩) := hf 2 (by kernel_rfl)
    clear hf hw
    go_simp
    exact hK _ _ (TB.refl _) rfl
  case s10 =>
    intro a w' K hT hf hw hK
    refine step_free ?_ ?_
    . rfl
    have h25 : a.tmps[25]?.getD undef = .pointer (some ⟨w.heap.size, 6, none⟩) := hw.1
    clear hf hw
    have hcell : ∀ j, w'.cell? ⟨w.heap.size, j, none⟩ = (w.alloc (.cells #[.int .i64 nad, .int .i64 1, .int .i64 seq, .bool false, .int .i64 code, .bool false, .slice A n c] 29)).cell? ⟨w.heap.size, j, none⟩ := fun j => (hT.cell (by have := hb.size; simp at this ⊢; omega)).trans (hb.cell (p := ⟨w.heap.size, j, none⟩) (by simp))
    go_simp
    exact hK _ _ (TB.refl _) rfl
  case s11 =>
    intro a w' K hT hf hw hK
    refine step_free ?_ ?_
    . rfl
    have h26 : a.tmps[26]?.getD undef = .slice A n c := hw.1
    clear hf hw
    go_simp
    exact hK _ _ (TB.refl _) rfl
  case s12 =>
    intro a w' K hT hf hw hK
    refine step_free ?_ ?_
    . rfl
    have h27 : a.tmps[27]?.getD undef = .int .i64 (n : Int) := hw.1
    clear hf hw
    go_simp
    exact hK _ _ (TB.refl _) rfl
  case s13 =>
    intro a w' K hT hf hw hK
    refine step_free ?_ ?_
    . rfl
    have h18 : a.tmps[18]?.getD undef = .int .u8 (nad % 256) := hw.1
    have h24 : a.tmps[24]?.getD undef = .int .u8 ((ctlR seq code) % 256) := hw.2.1
    have h28 : a.tmps[28]?.getD undef = .int .u8 ((n : Int) % 256) := hw.2.2.1
    clear hf hw
    go_simp
    refine hK _ _ (TB.alloc _ _) ⟨w'.heap.size, rfl, ?_⟩
    have ho := own_lit (w := w') (B := 0) (e := 5) [u8 (UInt8.ofNat nad.toNat), u8 (UInt8.ofNat (ctlR seq code).toNat), u8 (UInt8.ofNat n)] (Nat.zero_le _) (by simp)
    have hr := ho.rd
    rw [HV.out.2.1, HV.out.2.2.1, HV.out.2.2.2] at hr
    show Rd _ _ _ _ [u8 (UInt8.ofNat nad.toNat), u8 (UInt8.ofNat (ctlR seq code).toNat), u8 (UInt8.ofNat n)]
    rw [HV.out.2.1, HV.out.2.2.1, HV.out.2.2.2]
    exact hr
  case s14 =>
    intro a w' K hT hf hw hK
    refine step_free ?_ ?_
    . rfl
    have h29 := hw.1
    clear hf hw
    obtain ⟨g, h29, hg⟩ := h29
    have h29 : a.tmps[29]?.getD undef = .slice (some ⟨g, 0, none⟩) 3 3 := h29
    have HG := Lib.hid hg
    go_simp
    refine hK _ _ (TB.refl _) ?_
    exact ⟨g, rfl, hg⟩
  case hfin =>
    rintro vs w' hT ⟨f0, f1, f2, f3, f4, f5, f6, f7, f8, f9, f10, f11, f12, f13, f14, -⟩
    have e0 : vs 0 = .pointer (some ⟨w.heap.size, 0, none⟩) := f0
    have e1 : vs 1 = .int .i64 nad := f1
    have e2 : vs 2 = .int .u8 (nad % 256) := f2
    have e3 : vs 3 = .pointer (some ⟨w.heap.size, 1, none⟩) := f3
    have e4 : vs 4 = .int .i64 1 := f4
    have e5 : vs 5 = .iface 128 (.agg #[]) := f5
    have e6 : vs 6 = .agg #[.int .i64 nad, .int .i64 1, .int .i64 seq, .bool false, .int .i64 code, .bool false, .slice A n c] := f6
    have e7 : vs 7 = .int .i64 (ctlR seq code) := f7
    have e8 : vs 8 = .int .u8 ((ctlR seq code) % 256) := f8
    have e9 : vs 9 = .pointer (some ⟨w.heap.size, 6, none⟩) := f9
    have e10 : vs 10 = .slice A n c := f10
    have e11 : vs 11 = .int .i64 (n : Int) := f11
    have e12 : vs 12 = .int .u8 ((n : Int) % 256) := f12
    simp only [putsAt, Act.put, e0, e1, e2, e3, e4, e5, e6, e7, e8, e9, e10, e11, e12]
    simp only [List.setIfInBounds_toArray, List.set_cons_succ, List.set_cons_zero]
    clear e0 e1 e2 e3 e4 e5 e6 e7 e8 e9 e10 e11 e12 f0 f1 f2 f3 f4 f5 f6 f7 f8 f9 f10 f11 f12
    obtain ⟨g1, e13, -⟩ := f13
    obtain ⟨g, e14, hg⟩ := f14
    rw [e13, e14]
    clear e13 e14
    have hbT : Below w.heap.size w w' := hbw.drew.trans (Below.mono hT hbw.size)
    have HJ := Lib.hid (IsBB.lit2 (e := 27) hg (Rd.below HV0.out.1 hbT))
    have hcell : ∀ j, w'.cell? ⟨w.heap.size, j, none⟩ = (w.alloc (.cells #[.int .i64 nad, .int .i64 1, .int .i64 seq, .bool false, .int .i64 code, .bool false, .slice A n c] 29)).cell? ⟨w.heap.size, j, none⟩ := fun j => (TB.cell hT (by have := hb.size; simp at this ⊢; omega)).trans (hb.cell (p := ⟨w.heap.size, j, none⟩) (by simp))
    have HB := Lib.hid hbT
    clear hg hbT
    go_wp2_with fail
    refine (join_any _ _ _ [[UInt8.ofNat nad.toNat, UInt8.ofNat (ctlR seq code).toNat, UInt8.ofNat n], inf] _ HJ.out (by simp; have := HV0.out.2; omega)).mono ?_
    rintro e w2 ⟨A2, n2, c2, rfl, ho2, hb2⟩
    have hb3 : Below w.heap.size w w2 := (HB.out.alloc HB.out.size _).trans (hb2.mono (by have := HB.out.size; simp; omega))
    have HO := Lib.hid (And.intro ho2 hb3)
    clear ho2 hb2 hb3
    go_wp2_with fail
    refine (append_ok k HV0.out.2.2 A2 n2 c2 ([UInt8.ofNat nad.toNat, UInt8.ofNat (ctlR seq code).toNat, UInt8.ofNat n] ++ inf) _ (by have := HO.out.1.rd; rw [flat2] at this; exact this) (by simp; have := HV0.out.2.1; omega)).mono ?_
    rintro e w3 ⟨A3, n3, c3, rfl, ho3, hb4⟩
    have HO3 := Lib.hid (And.intro ho3 hb4)
    clear ho3 hb4
    go_wp2_with fail
    go_ret2
    refine ⟨A3, n3, c3, rfl, ?_, HO.out.2.trans (HO3.out.2.mono HO.out.2.size)⟩
    have h1 := HO3.out.1.base (B' := w.heap.size) HO.out.2.size
    rw [HL.out]
    exact h1
set_option maxRecDepth 8000 in
set_option maxHeartbeats 2000000 in
theorem encode_S (nad code : Int) (answer : Bool) (A : Option Addr) (n c : Nat) (inf : List UInt8) (k : Int) (hk : k = 0 ∨ k = 1) (w : World) (h : IsB w A n c inf)
    (hok : checkE nad 2 0 false code answer inf = 0) (hn0 : 0 <= nad) (hn1 : nad <= 254) (hv : (code = 0 ∨ code = 1 ∨ code = 2 ∨ code = 3)) (hlen : n <= 254) :
    Calls Try.prog 95 #[.agg #[.int .i64 nad, .int .i64 2, .int .i64 0, .bool false, .int .i64 code, .bool answer, .slice A n c], .int .i64 k] w
      fun e w' => ∃ A' n' c', e = .returned (.tuple #[.slice A' n' c', .int .i64 0]) /\ Own w' w.heap.size 5 A' n' c' ((encB k nad 2 0 false code answer inf).map u8) /\ Below w.heap.size w w' := by
  have hp := sizeN_pos k hk
  have hl := IsB.len h
  have hctl : 0 <= ctlS code answer /\ ctlS code answer < 256 := by unfold ctlS; rcases hv with rfl | rfl | rfl | rfl <;> cases answer <;> simp
  have HV : Hid (((code = 0 ∨ code = 1 ∨ code = 2 ∨ code = 3)) /\ u8 (UInt8.ofNat nad.toNat) = .int .u8 (nad % 256) /\ u8 (UInt8.ofNat (ctlS code answer).toNat) = .int .u8 ((ctlS code answer) % 256) /\ u8 (UInt8.ofNat n) = .int .u8 ((n : Int) % 256)) := ⟨hv, u8_ofInt _ hn0 (by omega), u8_ofInt _ hctl.1 hctl.2, u8_ofNat' _ (by omega)⟩
  have HV0 : Hid (IsB w A n c inf /\ inf.length <= 254 /\ (k = 0 ∨ k = 1)) := ⟨h, by omega, hk⟩
  have HL : Hid (encB k nad 2 0 false code answer inf = [UInt8.ofNat nad.toNat, UInt8.ofNat (ctlS code answer).toNat, UInt8.ofNat n] ++ inf ++ sumB k ([UInt8.ofNat nad.toNat, UInt8.ofNat (ctlS code answer).toNat, UInt8.ofNat n] ++ inf)) := by
    show _ = _
    unfold encB headB
    rw [hl]
    rfl
  have hC : ∀ W, IsB W A n c inf -> Calls Try.prog 94 #[.agg #[.int .i64 nad, .int .i64 2, .int .i64 0, .bool false, .int .i64 code, .bool answer, .slice A n c]] W fun e w' => e = .returned (.int .i64 0) /\ Below W.heap.size W w' := fun W hW => by
    have := check_any nad 2 0 false code answer A n c inf W hW
    rwa [hok] at this
  have HC := Lib.hid hC
  have hc0 := hctl.1
  have hc1 := hctl.2
  clear hC hok hl hctl hv
  go_enter Try.func95, Try.ntmps95
  go_wp2_with fail
  refine (size_any k _).mono ?_
  rintro e w1 ⟨rfl, rfl⟩
  rw [sizeI_eq]
  generalize sizeN k = s at *
  have h0 : ((s : Int) == 0) = false := by simp; omega
  go_wp2_with fail
  refine (HC.out _ (h.alloc _)).mono ?_
  rintro e w1 ⟨rfl, hb⟩
  have hbw : Below w.heap.size w w1 := ((Below.refl _ _).alloc (Nat.le_refl _) _).trans (hb.mono (by simp))
  go_wp2_with fail
  refine wp_region_list' (T := TB) [St.is (.pointer (some ⟨w.heap.size, 0, none⟩)), St.is (.int .i64 nad), St.is (.int .u8 (nad % 256)), St.is (.pointer (some ⟨w.heap.size, 1, none⟩)), St.is (.int .i64 2), St.is (.iface 127 (.agg #[])), St.is (.agg #[.int .i64 nad, .int .i64 2, .int .i64 0, .bool false, .int .i64 code, .bool answer, .slice A n c]), St.is (.int .i64 (ctlS code answer)), St.is (.int .u8 ((ctlS code answer) % 256)), St.is (.pointer (some ⟨w.heap.size, 6, none⟩)), St.is (.slice A n c), St.is (.int .i64 (n : Int)), St.is (.int .u8 ((n : Int) % 256)), St.pred (fun v' w' => ∃ g, v' = .slice (some ⟨g, 0, none⟩) 3 3 /\ IsB w' (some ⟨g, 0, none⟩) 3 3 [UInt8.ofNat nad.toNat, UInt8.ofNat (ctlS code answer).toNat, UInt8.ofNat n]) (fun _ _ _ h q => q.imp fun _ q => ⟨q.1, Rd.below q.2 h⟩), St.pred (fun v' w' => ∃ g, v' = .slice (some ⟨g, 0, none⟩) 3 3 /\ IsB w' (some ⟨g, 0, none⟩) 3 3 [UInt8.ofNat nad.toNat, UInt8.ofNat (ctlS code answer).toNat, UInt8.ofNat n]) (fun _ _ _ h q => q.imp fun _ q => ⟨q.1, Rd.below q.2 h⟩)] (by kernel_rfl) (by kernel_rfl) (TB.refl) (TB.trans) ⟨?s0, ?s1, ?s2, ?s3, ?s4, ?s5, ?s6, ?s7, ?s8, ?s9, ?s10, ?s11, ?s12, ?s13, ?s14, trivial⟩ ?hfin
  case s0 =>
    intro a w' K hT hf hw hK
    refine step_free ?_ ?_
    . rfl
    have h2 : a.tmps[2]?.getD undef = .pointer (some ⟨w.heap.size, 0, none⟩) := hf 2 (by kernel_rfl)
    clear hf hw
    go_simp
    exact hK _ _ (TB.refl _) rfl
  case s1 =>
    intro a w' K hT hf hw hK
    refine step_free ?_ ?_
    . rfl
    have h16 : a.tmps[16]?.getD undef = .pointer (some ⟨w.heap.size, 0, none⟩) := hw.1
    clear hf hw
    have hcell : ∀ j, w'.cell? ⟨w.heap.size, j, none⟩ = (w.alloc (.cells #[.int .i64 nad, .int .i64 2, .int .i64 0, .bool false, .int .i64 code, .bool answer, .slice A n c] 29)).cell? ⟨w.heap.size, j, none⟩ := fun j => (hT.cell (by have := hb.size; simp at this ⊢; omega)).trans (hb.cell (p := ⟨w.heap.size, j, none⟩) (by simp))
    go_simp
    exact hK _ _ (TB.refl _) rfl
  case s2 =>
    intro a w' K hT hf hw hK
    refine step_free ?_ ?_
    . rfl
    have h17 : a.tmps[17]?.getD undef = .int .i64 nad := hw.1
    clear hf hw
    go_simp
    exact hK _ _ (TB.refl _) rfl
  case s3 =>
    intro a w' K hT hf hw hK
    refine step_free ?_ ?_
    . rfl
    have h2 : a.tmps[2]?.getD undef = .pointer (some ⟨w.heap.size, 0, none⟩) := hf 2 (by kernel_rfl)
    clear hf hw
    go_simp
    exact hK _ _ (TB.refl _) rfl
  case s4 =>
    intro a w' K hT hf hw hK
    refine step_free ?_ ?_
    . rfl
    have h19 : a.tmps[19]?.getD undef = .pointer (some ⟨w.heap.size, 1, none⟩) := hw.1
    clear hf hw
    have hcell : ∀ j, w'.cell? ⟨w.heap.size, j, none⟩ = (w.alloc (.cells #[.int .i64 nad, .int .i64 2, .int .i64 0, .bool false, .int .i64 code, .bool answer, .slice A n c] 29)).cell? ⟨w.heap.size, j, none⟩ := fun j => (hT.cell (by have := hb.size; simp at this ⊢; omega)).trans (hb.cell (p := ⟨w.heap.size, j, none⟩) (by simp))
    go_simp
    exact hK _ _ (TB.refl _) rfl
  case s5 =>
    intro a w' K hT hf hw hK
    refine step_free ?_ ?_
    . rfl
    have h20 : a.tmps[20]?.getD undef = .int .i64 2 := hw.1
    clear hf hw
    go_simp
    refine (kindOf_2 _).mono ?_
    rintro e w2 ⟨rfl, rfl⟩
    exact hK _ _ (TB.refl _) rfl
  case s6 =>
    intro a w' K hT hf hw hK
    refine step_free ?_ ?_
    . rfl
    have h2 : a.tmps[2]?.getD undef = .pointer (some ⟨w.heap.size, 0, none⟩) := hf 2 (by kernel_rfl)
    clear hf hw
    have hcell : ∀ j, w'.cell? ⟨w.heap.size, j, none⟩ = (w.alloc (.cells #[.int .i64 nad, .int .i64 2, .int .i64 0, .bool false, .int .i64 code, .bool answer, .slice A n c] 29)).cell? ⟨w.heap.size, j, none⟩ := fun j => (hT.cell (by have := hb.size; simp at this ⊢; omega)).trans (hb.cell (p := ⟨w.heap.size, j, none⟩) (by simp))
    go_simp
    exact hK _ _ (TB.refl _) rfl
  case s7 =>
    intro a w' K hT hf hw hK
    refine step_free ?_ ?_
    . rfl
    have h21 : a.tmps[21]?.getD undef = .iface 127 (.agg #[]) := hw.1
    have h22 : a.tmps[22]?.getD undef = .agg #[.int .i64 nad, .int .i64 2, .int .i64 0, .bool false, .int .i64 code, .bool answer, .slice A n c] := hw.2.1
    clear hf hw
    go_simp
    refine (control_S _ _ _ _ _ _ _ _ HV.out.1).mono ?_
    rintro e w2 ⟨rfl, hb2⟩
    exact hK _ _ hb2 rfl
  case s8 =>
    intro a w' K hT hf hw hK
    refine step_free ?_ ?_
    . rfl
    have h23 : a.tmps[23]?.getD undef = .int .i64 (ctlS code answer) := hw.1
    clear hf hw
    go_simp
    exact hK _ _ (TB.refl _) rfl
  case s9 =>
    intro a w' K hT hf hw hK
    refine step_free ?_ ?_
    . rfl
    have h2 : a.tmps[2]?.getD undef = .pointer (some ⟨w.heap.size, 0, none⟩) := hf 2 (by kernel_rfl)
    clear hf hw
    go_simp
    exact hK _ _ (TB.refl _) rfl
  case s10 =>
    intro a w' K hT hf hw hK
    refine step_free ?_ ?_
    . rfl
    have h25 : a.tmps[25]?.getD undef = .pointer (some ⟨w.heap.size, 6, none⟩) := hw.1
    clear hf hw
    have hcell : ∀ j, w'.cell? ⟨w.heap.size, j, none⟩ = (w.alloc (.cells #[.int .i64 nad, .int .i64 2, .int .i64 0, .bool false, .int .i64 code, .bool answer, .slice A n c] 29)).cell? ⟨w.heap.size, j, none⟩ := fun j => (hT.cell (by have := hb.size; simp at this ⊢; omega)).trans (hb.cell (p := ⟨w.heap.size, j, none⟩) (by simp))
    go_simp
    exact hK _ _ (TB.refl _) rfl
  case s11 =>
    intro a w' K hT hf hw hK
    refine step_free ?_ ?_
    . rfl
    have h26 : a.tmps[26]?.getD undef = .slice A n c := hw.1
    clear hf hw
    go_simp
    exact hK _ _ (TB.refl _) rfl
  case s12 =>
    intro a w' K hT hf hw hK
    refine step_free ?_ ?_
    . rfl
    have h27 : a.tmps[27]?.getD undef = .int .i64 (n : Int) := hw.1
    clear hf hw
    go_simp
    exact hK _ _ (TB.refl _) rfl
  case s13 =>
    intro a w' K hT hf hw hK
    refine step_free ?_ ?_
    . rfl
    have h18 : a.tmps[18]?.getD undef = .int .u8 (nad % 256) := hw.1
    have h24 : a.tmps[24]?.getD undef = .int .u8 ((ctlS code answer) % 256) := hw.2.1
    have h28 : a.tmps[28]?.getD undef = .int .u8 ((n : Int) % 256) := hw.2.2.1
    clear hf hw
    go_simp
    refine hK _ _ (TB.alloc _ _) ⟨w'.heap.size, rfl, ?_⟩
    have ho := own_lit (w := w') (B := 0) (e := 5) [u8 (UInt8.ofNat nad.toNat), u8 (UInt8.ofNat (ctlS code answer).toNat), u8 (UInt8.ofNat n)] (Nat.zero_le _) (by simp)
    have hr := ho.rd
    rw [HV.out.2.1, HV.out.2.2.1, HV.out.2.2.2] at hr
    show Rd _ _ _ _ [u8 (UInt8.ofNat nad.toNat), u8 (UInt8.ofNat (ctlS code answer).toNat), u8 (UInt8.ofNat n)]
    rw [HV.out.2.1, HV.out.2.2.1, HV.out.2.2.2]
    exact hr
  case s14 =>
    intro a w' K hT hf hw hK
    refine step_free ?_ ?_
    . rfl
    have h29 := hw.1
    clear hf hw
    obtain ⟨g, h29, hg⟩ := h29
    have h29 : a.tmps[29]?.getD undef = .slice (some ⟨g, 0, none⟩) 3 3 := h29
    have HG := Lib.hid hg
    go_simp
    refine hK _ _ (TB.refl _) ?_
    exact ⟨g, rfl, hg⟩
  case hfin =>
    rintro vs w' hT ⟨f0, f1, f2, f3, f4, f5, f6, f7, f8, f9, f10, f11, f12, f13, f14, -⟩
    have e0 : vs 0 = .pointer (some ⟨w.heap.size, 0, none⟩) := f0
    have e1 : vs 1 = .int .i64 nad := f1
    have e2 : vs 2 = .int .u8 (nad % 256) := f2
    have e3 : vs 3 = .pointer (some ⟨w.heap.size, 1, none⟩) := f3
    have e4 : vs 4 = .int .i64 2 := f4
    have e5 : vs 5 = .iface 127 (.agg #[]) := f5
    have e6 : vs 6 = .agg #[.int .i64 nad, .int .i64 2, .int .i64 0, .bool false, .int .i64 code, .bool answer, .slice A n c] := f6
    have e7 : vs 7 = .int .i64 (ctlS code answer) := f7
    have e8 : vs 8 = .int .u8 ((ctlS code answer) % 256) := f8
    have e9 : vs 9 = .pointer (some ⟨w.heap.size, 6, none⟩) := f9
    have e10 : vs 10 = .slice A n c := f10
    have e11 : vs 11 = .int .i64 (n : Int) := f11
    have e12 : vs 12 = .int .u8 ((n : Int) % 256) := f12
    simp only [putsAt, Act.put, e0, e1, e2, e3, e4, e5, e6, e7, e8, e9, e10, e11, e12]
    simp only [List.setIfInBounds_toArray, List.set_cons_succ, List.set_cons_zero]
    clear e0 e1 e2 e3 e4 e5 e6 e7 e8 e9 e10 e11 e12 f0 f1 f2 f3 f4 f5 f6 f7 f8 f9 f10 f11 f12
    obtain ⟨g1, e13, -⟩ := f13
    obtain ⟨g, e14, hg⟩ := f14
    rw [e13, e14]
    clear e13 e14
    have hbT : Below w.heap.size w w' := hbw.drew.trans (Below.mono hT hbw.size)
    have HJ := Lib.hid (IsBB.lit2 (e := 27) hg (Rd.below HV0.out.1 hbT))
    have hcell : ∀ j, w'.cell? ⟨w.heap.size, j, none⟩ = (w.alloc (.cells #[.int .i64 nad, .int .i64 2, .int .i64 0, .bool false, .int .i64 code, .bool answer, .slice A n c] 29)).cell? ⟨w.heap.size, j, none⟩ := fun j => (TB.cell hT (by have := hb.size; simp at this ⊢; omega)).trans (hb.cell (p := ⟨w.heap.size, j, none⟩) (by simp))
    have HB := Lib.hid hbT
    clear hg hbT
    go_wp2_with fail
    refine (join_any _ _ _ [[UInt8.ofNat nad.toNat, UInt8.ofNat (ctlS code answer).toNat, UInt8.ofNat n], inf] _ HJ.out (by simp; have := HV0.out.2; omega)).mono ?_
    rintro e w2 ⟨A2, n2, c2, rfl, ho2, hb2⟩
    have hb3 : Below w.heap.size w w2 := (HB.out.alloc HB.out.size _).trans (hb2.mono (by have := HB.out.size; simp; omega))
    have HO := Lib.hid (And.intro ho2 hb3)
    clear ho2 hb2 hb3
    go_wp2_with fail
    refine (append_ok k HV0.out.2.2 A2 n2 c2 ([UInt8.ofNat nad.toNat, UInt8.ofNat (ctlS code answer).toNat, UInt8.ofNat n] ++ inf) _ (by have := HO.out.1.rd; rw [flat2] at this; exact this) (by simp; have := HV0.out.2.1; omega)).mono ?_
    rintro e w3 ⟨A3, n3, c3, rfl, ho3, hb4⟩
    have HO3 := Lib.hid (And.intro ho3 hb4)
    clear ho3 hb4
    go_wp2_with fail
    go_ret2
    refine ⟨A3, n3, c3, rfl, ?_, HO.out.2.trans (HO3.out.2.mono HO.out.2.size)⟩
    have h1 := HO3.out.1.base (B' := w.heap.size) HO.out.2.size
    rw [HL.out]
    exact h1
end Go.Proofs.Ytilfphdeacogmaa

/- smartcardref06.Encode: the walk; and one statement for each Encode (printed by wip/gen/rencode.py). -/
namespace Go.Proofs.Ytilfphdeacogmaa
open Go.RowKit
set_option linter.unusedVariables false
section
variable {nad kind seq : Int} {more : Bool} {code : Int} {answer : Bool} {inf : List UInt8}
theorem ok_facts (h : checkE nad kind seq more code answer inf = 0) : (0 <= nad /\ nad <= 254) /\ inf.length <= 254 /\
    ((kind = 0 /\ (seq = 0 ∨ seq = 1) /\ code = 0 /\ answer = false) ∨ (kind = 1 /\ (seq = 0 ∨ seq = 1) /\ (code = 0 ∨ code = 1 ∨ code = 2 ∨ code = 3) /\ more = false /\ answer = false) ∨ (kind = 2 /\ seq = 0 /\ (code = 0 ∨ code = 1 ∨ code = 2 ∨ code = 3) /\ more = false)) := by
  unfold checkE at h
  by_cases h1 : kind < 0 ∨ 2 < kind
  . rw [if_pos h1] at h; exact absurd h (by decide)
  rw [if_neg h1] at h
  by_cases h2 : nad < 0 ∨ 254 < nad
  . rw [if_pos h2] at h; exact absurd h (by decide)
  rw [if_neg h2] at h
  by_cases h3 : kind ≠ 2 /\ (seq < 0 ∨ 1 < seq)
  . rw [if_pos h3] at h; exact absurd h (by decide)
  rw [if_neg h3] at h
  by_cases h4 : kind ≠ 0 /\ (code < 0 ∨ (if kind = 1 then 3 else 4) <= code)
  . rw [if_pos h4] at h; exact absurd h (by decide)
  rw [if_neg h4] at h
  by_cases h5 : (kind = 2 /\ seq ≠ 0) ∨ (kind = 0 /\ code ≠ 0) ∨ (kind ≠ 0 /\ more = true) ∨ (kind ≠ 2 /\ answer = true)
  . rw [if_pos h5] at h; exact absurd h (by decide)
  rw [if_neg h5] at h
  unfold infE at h
  refine ⟨by omega, ?_, ?_⟩
  . by_cases k0 : kind = 0
    . rw [if_pos k0] at h
      by_cases hl : 254 < inf.length
      . rw [if_pos hl] at h; exact absurd h (by decide)
      . omega
    . rw [if_neg k0] at h
      split at h
      . split at h
        . omega
        . exact absurd h (by decide)
      . split at h
        . omega
        . exact absurd h (by decide)
  . have hm : kind ≠ 0 -> more = false := fun k => by
      cases more
      . rfl
      . exact absurd (.inr (.inr (.inl ⟨k, rfl⟩))) h5
    have ha : kind ≠ 2 -> answer = false := fun k => by
      cases answer
      . rfl
      . exact absurd (.inr (.inr (.inr ⟨k, rfl⟩))) h5
    have hk : kind = 0 ∨ kind = 1 ∨ kind = 2 := by omega
    rcases hk with rfl | rfl | rfl
    . exact .inl ⟨rfl, by omega, by omega, ha (by decide)⟩
    . simp at h4
      exact .inr (.inl ⟨rfl, by omega, by omega, hm (by decide), ha (by decide)⟩)
    . simp at h4
      exact .inr (.inr ⟨rfl, by omega, by omega, hm (by decide)⟩)
theorem ctl_ok (h : checkE nad kind seq more code answer inf = 0) : 0 <= ctlN kind seq more code answer /\ ctlN kind seq more code answer < 256 := by
  obtain ⟨-, -, ⟨rfl, hs, rfl, rfl⟩ | ⟨rfl, hs, hc, rfl, rfl⟩ | ⟨rfl, rfl, hc, rfl⟩⟩ := ok_facts h
  . unfold ctlN ctlI; rcases hs with rfl | rfl <;> cases more <;> simp
  . unfold ctlN ctlR; rcases hs with rfl | rfl <;> rcases hc with rfl | rfl | rfl | rfl <;> simp
  . unfold ctlN ctlS; rcases hc with rfl | rfl | rfl | rfl <;> cases answer <;> simp
end
def encE (k nad kind seq : Int) (more : Bool) (code : Int) (answer : Bool) (inf : List UInt8) : Int := if k = 0 ∨ k = 1 then checkE nad kind seq more code answer inf else 1
def encL (k nad kind seq : Int) (more : Bool) (code : Int) (answer : Bool) (inf : List UInt8) : List UInt8 := if encE k nad kind seq more code answer inf = 0 then encB k nad kind seq more code answer inf else []
def EncPost (k nad kind seq : Int) (more : Bool) (code : Int) (answer : Bool) (inf : List UInt8) (w : World) (e : Ending) (w' : World) : Prop :=
  ∃ A n c, e = .returned (.tuple #[.slice A n c, .int .i64 (encE k nad kind seq more code answer inf)]) /\ Own w' w.heap.size 5 A n c ((encL k nad kind seq more code answer inf).map u8) /\ Below w.heap.size w w'
section
variable (nad kind seq : Int) (more : Bool) (code : Int) (answer : Bool) (A : Option Addr) (n c : Nat) (inf : List UInt8) (k : Int) (w : World)
theorem encPost_bad {er : Int} (h : encE k nad kind seq more code answer inf = er) (hne : er ≠ 0) : ∀ e w', (e = .returned (.tuple #[.slice none 0 0, .int .i64 er]) /\ Below w.heap.size w w') -> EncPost k nad kind seq more code answer inf w e w' := by
  rintro e w' ⟨rfl, hb⟩
  unfold EncPost encL
  rw [h, if_neg hne]
  exact ⟨none, 0, 0, rfl, Own.nil _ _, hb⟩
theorem encPost_ok (h : encE k nad kind seq more code answer inf = 0) : ∀ e w', (∃ A' n' c', e = .returned (.tuple #[.slice A' n' c', .int .i64 0]) /\ Own w' w.heap.size 5 A' n' c' ((encB k nad kind seq more code answer inf).map u8) /\ Below w.heap.size w w') -> EncPost k nad kind seq more code answer inf w e w' := by
  rintro e w' ⟨A', n', c', rfl, ho, hb⟩
  unfold EncPost encL
  rw [h, if_pos rfl]
  exact ⟨A', n', c', rfl, ho, hb⟩
theorem enc_any (h : IsB w A n c inf) : Calls Try.prog 95 #[.agg #[.int .i64 nad, .int .i64 kind, .int .i64 seq, .bool more, .int .i64 code, .bool answer, .slice A n c], .int .i64 k] w (EncPost k nad kind seq more code answer inf w) := by
  have hl := IsB.len h
  by_cases hk : k = 0 ∨ k = 1
  case neg => exact (encode_kind nad kind seq more code answer _ k hk w).mono (encPost_bad nad kind seq more code answer inf k w (by unfold encE; rw [if_neg hk]) (by decide))
  have hE : encE k nad kind seq more code answer inf = checkE nad kind seq more code answer inf := by unfold encE; rw [if_pos hk]
  by_cases hc : checkE nad kind seq more code answer inf = 0
  case neg => exact (encode_bad nad kind seq more code answer A n c inf k hk w h hc).mono (encPost_bad nad kind seq more code answer inf k w hE hc)
  rw [hc] at hE
  refine Calls.mono ?_ (encPost_ok nad kind seq more code answer inf k w hE)
  clear hE
  obtain ⟨hn, hi, ⟨rfl, hs, rfl, rfl⟩ | ⟨rfl, hs, hc', rfl, rfl⟩ | ⟨rfl, rfl, hc', rfl⟩⟩ := ok_facts hc
  . exact encode_I nad seq more A n c inf k hk w h hc hn.1 hn.2 hs (by omega)
  . exact encode_R nad seq code A n c inf k hk w h hc hn.1 hn.2 ⟨hs, hc'⟩ (by omega)
  . exact encode_S nad code answer A n c inf k hk w h hc hn.1 hn.2 hc' (by omega)
end
end Go.Proofs.Ytilfphdeacogmaa
