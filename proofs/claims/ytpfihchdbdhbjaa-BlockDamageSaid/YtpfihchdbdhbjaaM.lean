/- Words for memory that the walks of this seat share: slices of bytes, slices of slices, appending to a row of the call's own. No program in sight. -/
import Derived.WalkKit
import Derived.WalkSpells
import Derived.WalkLawsBesides
import Derived.Lib.Hide
import Derived.Deep.Draws
import Derived.Deep.AppendLies
import Derived.Maps.AppendAt
import Derived.Deep.MidRow
namespace Go.Proofs.Ytpfihchdbdhbjaa
open Go.RowKit

theorem ret_congr {v u : Value} (h : v = u) : Ending.returned v = Ending.returned u := by rw [h]
theorem ret_i64 {a b : Int} (h : a = b) : Ending.returned (.int .i64 a) = Ending.returned (.int .i64 b) := by rw [h]
theorem ret_bool {a b : Bool} (h : a = b) : Ending.returned (.bool a) = Ending.returned (.bool b) := by rw [h]

/-- What a world w' that is as w was below w's heap size gives the walk: all old cells read as before. -/
theorem bcell {w w1 : World} (hb : Below w.heap.size w w1) : (∀ b o, b < w.heap.size → w1.cell? ⟨b, o, none⟩ = w.cell? ⟨b, o, none⟩) ∧ (∀ b o, b < w.heap.size → w1.frozen? ⟨b, o, none⟩ = w.frozen? ⟨b, o, none⟩) :=
  ⟨fun b o h => hb.cell (p := ⟨b, o, none⟩) h, fun b o h => hb.frozen (p := ⟨b, o, none⟩) h⟩

theorem Below.drewN' {B : Nat} {a w : World} (h : Below B a w) (n : Nat) : Below B a (w.drewN n) := ⟨h.os, h.tape, h.output, h.size, h.block⟩

def u8 (b : UInt8) : Value := .int .u8 (b.toNat : Int)

/-- Place k of the row at A holds v. -/
def At (w : World) (A : Option Addr) (k : Nat) (v : Value) : Prop := ∃ b off, A = some ⟨b, off, none⟩ ∧ w.cell? ⟨b, off + k, none⟩ = some v

theorem At.keep {w w' : World} {A : Option Addr} {k : Nat} {v : Value} (h : At w A k v) (hk : ∀ p : Addr, p.block < w.heap.size → w'.cell? p = w.cell? p) : At w' A k v := by
  obtain ⟨b, off, rfl, hc⟩ := h
  exact ⟨b, off, rfl, (hk _ (World.block_lt_of_cell? w _ hc)).trans hc⟩
theorem At.below {w w' : World} {A : Option Addr} {k : Nat} {v : Value} (h : At w A k v) (hb : Below w.heap.size w w') : At w' A k v := h.keep fun _ hp => hb.cell hp

/-- A slice value reads as the row of values vs. -/
structure Rd (w : World) (A : Option Addr) (n c : Nat) (vs : List Value) : Prop where
  len : vs.length = n
  cap : n ≤ c
  max : c ≤ maxLen
  at_ : ∀ k v, vs[k]? = some v → At w A k v

/-- A slice of bytes reads as xs. -/
abbrev IsB (w : World) (A : Option Addr) (n c : Nat) (xs : List UInt8) : Prop := Rd w A n c (xs.map u8)

section
variable {w w' : World} {A : Option Addr} {n c : Nat} {vs : List Value} {xs : List UInt8}
theorem Rd.nil : Rd w none 0 0 [] := ⟨rfl, Nat.le_refl _, Nat.zero_le _, fun k v h => by simp at h⟩
theorem Rd.empty (A : Option Addr) (hc : c ≤ maxLen) : Rd w A 0 c [] := ⟨rfl, Nat.zero_le _, hc, fun k v h => by simp at h⟩
theorem Rd.keep (h : Rd w A n c vs) (hk : ∀ p : Addr, p.block < w.heap.size → w'.cell? p = w.cell? p) : Rd w' A n c vs :=
  ⟨h.len, h.cap, h.max, fun k v hv => (h.at_ k v hv).keep hk⟩
theorem Rd.below (h : Rd w A n c vs) (hb : Below w.heap.size w w') : Rd w' A n c vs := h.keep fun _ hp => hb.cell hp
theorem Rd.drew (h : Rd w A n c vs) : Rd w.drew A n c vs := ⟨h.len, h.cap, h.max, h.at_⟩
theorem Rd.drewN (h : Rd w A n c vs) (k : Nat) : Rd (w.drewN k) A n c vs := ⟨h.len, h.cap, h.max, h.at_⟩
theorem Rd.alloc (h : Rd w A n c vs) (o : Obj) : Rd (w.alloc o) A n c vs := h.keep fun p hp => World.cell?_alloc_lt w o p hp
theorem Rd.len63 (h : Rd w A n c vs) : n ≤ 9223372036854775807 ∧ c ≤ 9223372036854775807 := by
  have h1 := h.cap; have h2 := h.max; unfold maxLen at h2; omega
theorem IsB.len (h : IsB w A n c xs) : xs.length = n := by simpa using Rd.len h
theorem IsB.at_ (h : IsB w A n c xs) {k : Nat} (hk : k < n) : ∃ x b off, Hid (xs[k]? = some x) ∧ A = some ⟨b, off, none⟩ ∧ w.cell? ⟨b, off + k, none⟩ = some (.int .u8 (x.toNat : Int)) ∧ (x.toNat : Int) < 256 := by
  have hl : k < xs.length := by have := IsB.len h; omega
  obtain ⟨b, off, hA, hc⟩ := Rd.at_ h k (u8 xs[k]) (by simp [hl])
  exact ⟨xs[k], b, off, List.getElem?_eq_getElem hl, hA, hc, by have := UInt8.toNat_lt xs[k]; omega⟩
theorem IsB.cells (h : IsB w A n c xs) (hn : 0 < n) : ∃ b off, A = some ⟨b, off, none⟩ ∧ ∀ k x, xs[k]? = some x → w.cell? ⟨b, off + k, none⟩ = some (.int .u8 (x.toNat : Int)) := by
  obtain ⟨x, b, off, _, rfl, _⟩ := IsB.at_ h hn
  refine ⟨b, off, rfl, fun k y hk => ?_⟩
  obtain ⟨b', off', hA, hc⟩ := Rd.at_ h k (u8 y) (by simp [hk])
  injection hA with hA
  injection hA with e1 e2
  subst e1 e2
  exact hc
/-- s[k:] -/
theorem Rd.cut (h : Rd w A n c vs) {k : Nat} (hk : k ≤ n) : Rd w (if c = k then A else A.map (·.add k)) (n - k) (c - k) (vs.drop k) := by
  refine ⟨by rw [List.length_drop, h.len], by have := h.cap; omega, by have := h.max; omega, fun j v hv => ?_⟩
  rw [List.getElem?_drop] at hv
  obtain ⟨b, off, rfl, hc⟩ := h.at_ _ v hv
  have hkj : k + j < n := by have := (List.getElem?_eq_some_iff.1 hv).1; rw [h.len] at this; exact this
  have hcap := h.cap
  rw [if_neg (by omega)]
  by_cases h0 : k = 0
  · subst h0; exact ⟨b, off, by simp [Addr.add], by simpa using hc⟩
  · exact ⟨b, off + k, by simp [Addr.add, h0], by rw [Nat.add_assoc]; exact hc⟩
/-- s[:k] -/
theorem Rd.take (h : Rd w A n c vs) {k : Nat} (hk : k ≤ n) : Rd w A k c (vs.take k) := by
  refine ⟨by rw [List.length_take, h.len]; omega, by have := h.cap; omega, h.max, fun j v hv => ?_⟩
  by_cases hj : j < k
  · rw [List.getElem?_take_of_lt hj] at hv
    exact h.at_ j v hv
  · rw [List.getElem?_eq_none (by rw [List.length_take]; omega)] at hv; cases hv
theorem IsB.cut (h : IsB w A n c xs) {k : Nat} (hk : k ≤ n) : IsB w (if c = k then A else A.map (·.add k)) (n - k) (c - k) (xs.drop k) := by
  have := Rd.cut h hk
  rwa [← List.map_drop] at this
theorem IsB.take (h : IsB w A n c xs) {k : Nat} (hk : k ≤ n) : IsB w A k c (xs.take k) := by
  have := Rd.take h hk
  rwa [← List.map_take] at this
end

/-- A slice of slices of bytes reads as ls. -/
structure IsBB (w : World) (A : Option Addr) (n c : Nat) (ls : List (List UInt8)) : Prop where
  len : ls.length = n
  cap : n ≤ c
  max : c ≤ maxLen
  at_ : ∀ k l, ls[k]? = some l → ∃ A' n' c', At w A k (.slice A' n' c') ∧ IsB w A' n' c' l
theorem IsBB.keep {w w' : World} {A : Option Addr} {n c : Nat} {ls : List (List UInt8)} (h : IsBB w A n c ls) (hk : ∀ p : Addr, p.block < w.heap.size → w'.cell? p = w.cell? p) : IsBB w' A n c ls :=
  ⟨h.len, h.cap, h.max, fun k l hl => let ⟨A', n', c', h1, h2⟩ := h.at_ k l hl; ⟨A', n', c', h1.keep hk, Rd.keep h2 hk⟩⟩
theorem IsBB.below {w w' : World} {A : Option Addr} {n c : Nat} {ls : List (List UInt8)} (h : IsBB w A n c ls) (hb : Below w.heap.size w w') : IsBB w' A n c ls := h.keep fun _ hp => hb.cell hp

theorem cell_new (w : World) (vs : List Value) (e : TypeId) (k : Nat) : (w.alloc (.cells vs.toArray e)).cell? ⟨w.heap.size, k, none⟩ = vs[k]? := by
  rw [cell_of_row _ _ k vs.toArray e (0, 0) (heap_alloc_new w _)]; simp
theorem IsBB.lit1 {w : World} {e : TypeId} {A : Option Addr} {n c : Nat} {xs : List UInt8} (h : IsB w A n c xs) :
    IsBB (w.alloc (.cells #[.slice A n c] e)) (some ⟨w.heap.size, 0, none⟩) 1 1 [xs] := by
  refine ⟨rfl, Nat.le_refl _, by unfold maxLen; omega, fun k l hl => ?_⟩
  obtain ⟨hk, rfl⟩ := List.getElem?_eq_some_iff.1 hl
  simp at hk
  subst hk
  exact ⟨A, n, c, ⟨w.heap.size, 0, rfl, by simp⟩, h.alloc _⟩
theorem IsBB.lit2 {w : World} {e : TypeId} {A A' : Option Addr} {n c n' c' : Nat} {xs ys : List UInt8} (h : IsB w A n c xs) (h' : IsB w A' n' c' ys) :
    IsBB (w.alloc (.cells #[.slice A n c, .slice A' n' c'] e)) (some ⟨w.heap.size, 0, none⟩) 2 2 [xs, ys] := by
  refine ⟨rfl, Nat.le_refl _, by unfold maxLen; omega, fun k l hl => ?_⟩
  have hk : k = 0 ∨ k = 1 := by have := (List.getElem?_eq_some_iff.1 hl).1; simp at this; omega
  rcases hk with rfl | rfl
  · simp at hl; subst hl
    exact ⟨A, n, c, ⟨w.heap.size, 0, rfl, by simp⟩, h.alloc _⟩
  · simp at hl; subst hl
    exact ⟨A', n', c', ⟨w.heap.size, 0, rfl, by simp⟩, h'.alloc _⟩

/-- A slice value that owns its row, from block B on. -/
abbrev Own (w : World) (B : Nat) (e : TypeId) (A : Option Addr) (n c : Nat) (vs : List Value) : Prop := w.ownsRow B e 1 (.slice A n c) n vs

section
variable {w w' : World} {B n c : Nat} {e : TypeId} {A : Option Addr} {vs : List Value}
theorem Own.rd (h : Own w B e A n c vs) : Rd w A n c vs := by
  have hl := h.1
  rcases h.2 with ⟨hv, hn⟩ | ⟨g, cap, cur, hv, hb, hg, hnc, hcm, hcs, htk⟩
  · injection hv with h1 h2 h3
    subst h1 h2 h3
    have : vs = [] := List.eq_nil_of_length_eq_zero (by simpa using hl)
    subst this
    exact Rd.nil
  · injection hv with h1 h2 h3
    subst h1 h3
    refine ⟨by simpa using hl, hnc, hcm, fun k v hk => ⟨g, 0, rfl, ?_⟩⟩
    have hlt : k < n * 1 := by have := (List.getElem?_eq_some_iff.1 hk).1; rw [hl] at this; exact this
    rw [Nat.zero_add, World.ownsRow.cellAt h k hlt]
    exact hk
theorem Own.nil (B : Nat) (e : TypeId) : Own w B e none 0 0 [] := World.ownsRow_nil w B e 1
theorem Own.form {v : Value} (h : w.ownsRow B e 1 v n vs) : ∃ A c, v = .slice A n c ∧ Own w B e A n c vs ∧ (∀ k, v.ownBlock = some k → B ≤ k ∧ k < w.heap.size) := by
  have hlt := h.lt
  rcases h.2 with ⟨hv, hn⟩ | ⟨g, cap, cur, hv, _⟩
  · subst hv hn; exact ⟨none, 0, rfl, h, hlt⟩
  · subst hv; exact ⟨_, _, rfl, h, hlt⟩
theorem Own.block (h : Own w B e A n c vs) : ∀ k, (Value.slice A n c).ownBlock = some k → B ≤ k := fun k hk => (h.lt k hk).1
theorem Own.below (h : Own w B e A n c vs) (hb : Below w.heap.size w w') : Own w' B e A n c vs := by
  refine ⟨h.1, ?_⟩
  rcases h.2 with h2 | ⟨g, cap, cur, hv, hg, hh, r⟩
  · exact .inl h2
  · refine .inr ⟨g, cap, cur, hv, hg, ?_, r⟩
    rw [hb.block g (Array.getElem?_eq_some_iff.1 hh).1]; exact hh
theorem Own.base (h : Own w B e A n c vs) {B' : Nat} (hB : B' ≤ B) : Own w B' e A n c vs := by
  refine ⟨h.1, ?_⟩
  rcases h.2 with h2 | ⟨g, cap, cur, hv, hg, hh, r⟩
  · exact .inl h2
  · exact .inr ⟨g, cap, cur, hv, by omega, hh, r⟩
end

/-- append(s, x...): s owns its row; x reads as news, wherever it lies. -/
theorem run_append_rd {P : Program} (w : World) (B : Nat) (t ty e : TypeId) (i : TypeInfo) (z : Value) (bytes : Nat) (ht : P.underlying t = some (.slice e)) (hi : P.info? e = some i) (hz : i.zero = some z)
    (hsize : i.size = 1) (hby : i.bytes = bytes) (hzs : z.cells.size = 1)
    (A : Option Addr) (n c : Nat) (xs : List Value) (hown : Own w B e A n c xs)
    (A' : Option Addr) (m c' : Nat) (news : List Value) (hr : Rd w A' m c' news) (h1 : ∀ u ∈ news, u.oneCell' = true)
    (hbytes : (n + m) * bytes ≤ 140737488355328) (hb0 : 0 < bytes) (hbase : B ≤ w.heap.size) :
    ∃ A2 c2 w', (Builtin.append_ #[t, t] ty #[.slice A n c, .slice A' m c']).run P w = .ok (.slice A2 (n + m) c2) w' ∧ Own w' B e A2 (n + m) c2 (xs ++ news) ∧ w.grownBy w' (Value.slice A n c).ownBlock ∧
      ((Value.slice A2 (n + m) c2).ownBlock = (Value.slice A n c).ownBlock ∨ (Value.slice A2 (n + m) c2).ownBlock = some w.heap.size) := by
  have h63 : n + m ≤ maxLen := by
    have h2 : (n + m) * 1 ≤ (n + m) * bytes := Nat.mul_le_mul_left _ hb0
    unfold maxLen; omega
  by_cases hm : m = 0
  · subst hm
    have hn : news = [] := List.eq_nil_of_length_eq_zero hr.len
    subst hn
    refine ⟨A, c, w, ?_, by simpa using hown, World.grownBy.refl w _, .inl rfl⟩
    rcases hown.2 with ⟨hv, hn0⟩ | ⟨g, cap, cur, hv, _, _, hnc, _⟩
    · injection hv with a1 a2 a3
      subst a1 a2 a3
      cases A' <;> simp [Builtin.append_, run_underlying ht, sizeOf, typeInfo, hi, Builtin.lenOf, Builtin.firstCells, loadCells, loadCellsFrom]
    · injection hv with a1 a2 a3
      subst a1 a3
      cases A' <;> simp [Builtin.append_, run_underlying ht, sizeOf, typeInfo, hi, Builtin.lenOf, Builtin.firstCells, hnc, storeCells, loadCells, loadCellsFrom]
  · have hpos : 0 < news.length := by rw [hr.len]; omega
    obtain ⟨b, off, rfl, _⟩ := hr.at_ 0 _ (List.getElem?_eq_getElem hpos)
    have hnews : ∀ j u, news[j]? = some u → w.cell? ((⟨b, off, none⟩ : Addr).add j) = some u := by
      intro j u hu
      obtain ⟨b', off', he, hc⟩ := hr.at_ j u hu
      injection he with he
      injection he with e1 e2
      subst e1 e2
      by_cases hj : j = 0
      · subst hj; simpa [Addr.add] using hc
      · simpa [Addr.add, hj] using hc
    obtain ⟨v', w', hrun, h2, h3, _, h5⟩ := run_append_own_at (P := P) w B t ty e i z 1 bytes ht hi hz hsize hby hzs (by omega) (.slice A n c) n xs hown ⟨b, off, none⟩ m c' news (by rw [hr.len]; omega) hnews h1 h63 hbytes hbase
    obtain ⟨A2, c2, rfl, h6, _⟩ := Own.form h2
    exact ⟨A2, c2, w', hrun, h6, h3, h5⟩

theorem wp_append_rd {P : Program} (w : World) {o : Oper} {a : Act} {K : Act → World → Prop} {Q : Exit → Act → World → Prop} (s x : Operand) (t : TypeId)
    (ho : o.op = .call { callee := .builtin .append, args := #[s, x], argTypes := #[t, t] })
    (B : Nat) (e : TypeId) (i : TypeInfo) (z : Value) (bytes : Nat) (ht : P.underlying t = some (.slice e)) (hi : P.info? e = some i) (hz : i.zero = some z)
    (hsize : i.size = 1) (hby : i.bytes = bytes) (hzs : z.cells.size = 1)
    (A : Option Addr) (n c : Nat) (xs : List Value) (hs : a.eval s = .slice A n c) (hown : Own w B e A n c xs)
    (A' : Option Addr) (m c' : Nat) (news : List Value) (hx : a.eval x = .slice A' m c') (hr : Rd w A' m c' news) (h1 : ∀ u ∈ news, u.oneCell' = true)
    (hbytes : (n + m) * bytes ≤ 140737488355328) (hb0 : 0 < bytes) (hbase : B ≤ w.heap.size)
    (h : ∀ A2 c2 w', Own w' B e A2 (n + m) c2 (xs ++ news) → w.grownBy w' (Value.slice A n c).ownBlock → ((Value.slice A2 (n + m) c2).ownBlock = (Value.slice A n c).ownBlock ∨ (Value.slice A2 (n + m) c2).ownBlock = some w.heap.size) → K (a.put o.dst (.slice A2 (n + m) c2)) w') : o.wp P a w K Q := by
  obtain ⟨A2, c2, w', hrun, h2, h3, h4⟩ := run_append_rd (P := P) w B t o.type e i z bytes ht hi hz hsize hby hzs A n c xs hown A' m c' news hr h1 hbytes hb0 hbase
  unfold Oper.wp execOp
  simp only [ho, resolve, invoke, builtin, Sem.run_bind, Sem.run_pure, Result.andThen_ok, List.map_toArray, List.map_cons, List.map_nil, hs, hx, hrun]
  exact h A2 c2 w' h2 h3 h4

theorem wpList_append_rd {P : Program} (w : World) {ops : Array Oper} {rest : List Oper} {o : Oper} {a : Act} {Q : Exit → Act → World → Prop} (hgd : o.guard = none) (s x : Operand) (t : TypeId)
    (ho : o.op = .call { callee := .builtin .append, args := #[s, x], argTypes := #[t, t] })
    (B : Nat) (e : TypeId) (i : TypeInfo) (z : Value) (bytes : Nat) (ht : P.underlying t = some (.slice e)) (hi : P.info? e = some i) (hz : i.zero = some z)
    (hsize : i.size = 1) (hby : i.bytes = bytes) (hzs : z.cells.size = 1)
    (A : Option Addr) (n c : Nat) (xs : List Value) (hs : a.eval s = .slice A n c) (hown : Own w B e A n c xs)
    (A' : Option Addr) (m c' : Nat) (news : List Value) (hx : a.eval x = .slice A' m c') (hr : Rd w A' m c' news) (h1 : ∀ u ∈ news, u.oneCell' = true)
    (hbytes : (n + m) * bytes ≤ 140737488355328) (hb0 : 0 < bytes) (hbase : B ≤ w.heap.size)
    (h : ∀ A2 c2 w', Own w' B e A2 (n + m) c2 (xs ++ news) → w.grownBy w' (Value.slice A n c).ownBlock → ((Value.slice A2 (n + m) c2).ownBlock = (Value.slice A n c).ownBlock ∨ (Value.slice A2 (n + m) c2).ownBlock = some w.heap.size) → wpList P ops Q rest (a.put o.dst (.slice A2 (n + m) c2)) w') : wpList P ops Q (o :: rest) a w :=
  wpList_plain hgd fun _ hK => wp_append_rd w s x t ho B e i z bytes ht hi hz hsize hby hzs A n c xs hs hown A' m c' news hx hr h1 hbytes hb0 hbase fun A2 c2 w' h2 h3 h4 => hK _ _ (h A2 c2 w' h2 h3 h4)

theorem u8_one (xs : List UInt8) : ∀ u ∈ xs.map u8, u.oneCell' = true := by
  intro u hu
  obtain ⟨b, _, rfl⟩ := List.mem_map.1 hu
  rfl
theorem below_setCells {B : Nat} {a : World} {b : Nat} (hB : B ≤ b) : ∀ (vs : List Value) (o : Nat) (w : World), Below B a w → Below B a (w.setCells b o vs)
  | [], _, _, h => h
  | v :: vs, o, _, h => below_setCells hB vs (o + 1) _ (h.setCell hB v)
theorem there_of_block {w : World} {b : Nat} {cs : Array Value} {t : TypeId} (h : w.heap[b]? = some (.cells cs t (0, 0))) : w.there b 0 cs.size := fun j hj => by
  rw [Nat.zero_add]
  exact ⟨by rw [cell_of_row w b j cs t _ h]; simp [hj], frozen_of_row w b j cs t h⟩
/-- A result that lies in a variable of several cells. -/
theorem results_cell_mid {P : Program} {fn : Func} {p : Tmp} {ty : TypeId} (h : fn.results = #[.cell p ty]) (tmps : Array Value) (w : World) (b o : Nat) (cs : List Value) (d : TypeDesc)
    (hp : tmps.getD p undef = .pointer (some ⟨b, o, none⟩)) (hc : w.rangeAt b o cs)
    (hu : P.underlying ty = some d) (hd : d.isRow = true) (hi : (P.info? ty).map (·.size) = some cs.length) :
    (results fn tmps).run P w = .ok (.agg cs.toArray) w := by
  have hp' : tmps[p]?.getD undef = .pointer (some ⟨b, o, none⟩) := by simpa using hp
  simp [results, h, hp', asAddr, run_loadVar_mid w b o ty cs d hc hu hd hi]
/-- Two results, of which the first lies in a variable of several cells. -/
theorem results_cell_tmp {P : Program} {fn : Func} {p q : Tmp} {ty : TypeId} (h : fn.results = #[.cell p ty, .tmp q]) (tmps : Array Value) (w : World) (b o : Nat) (cs : List Value) (d : TypeDesc)
    (hp : tmps.getD p undef = .pointer (some ⟨b, o, none⟩)) (hc : w.rangeAt b o cs)
    (hu : P.underlying ty = some d) (hd : d.isRow = true) (hi : (P.info? ty).map (·.size) = some cs.length) :
    (results fn tmps).run P w = .ok (.tuple #[.agg cs.toArray, tmps.getD q undef]) w := by
  have hp' : tmps[p]?.getD undef = .pointer (some ⟨b, o, none⟩) := by simpa using hp
  simp [results, h, hp', asAddr, run_loadVar_mid w b o ty cs d hc hu hd hi]
theorem there_of_cells {w : World} {b n : Nat} {cs : Array Value} {t : TypeId} (h : w.heap[b]? = some (.cells cs t (0, 0))) (hn : cs.size = n) : w.there b 0 n := by
  subst hn; exact there_of_block h
/-- string(b) -/
theorem run_convert_rd {P : Program} {w : World} {A : Option Addr} {n c : Nat} {xs : List UInt8} (h : IsB w A n c xs) (src e dst : TypeId) (hs : P.underlying src = some (.slice e)) (he : P.underlying e = some (.int .u8)) (hd : P.underlying dst = some .string) :
    (convert src dst (.slice A n c)).run P w = .ok (.string ⟨xs.toArray⟩) w := by
  rw [run_convert_bytes_string w src dst e _ n c hs he hd]
  have hl := IsB.len h
  by_cases h0 : n = 0
  · subst h0
    have : xs = [] := List.eq_nil_of_length_eq_zero hl
    subst this
    cases A <;> simp [Conv.bytesToString, loadCells, loadCellsFrom] <;> rfl
  · have hpos : 0 < (xs.map u8).length := by rw [List.length_map]; omega
    obtain ⟨b, off, rfl, _⟩ := Rd.at_ h 0 _ (List.getElem?_eq_getElem hpos)
    have hm : xs.map u8 = (xs.map fun b => (b.toNat : Int)).map (Value.int .u8) := by rw [List.map_map]; rfl
    have hload : (loadCells ⟨b, off, none⟩ n).run P w = .ok ((xs.map fun b => (b.toNat : Int)).map (Value.int .u8)).toArray w := by
      have := run_loadCells_list (P := P) w ⟨b, off, none⟩ (xs.map u8) (fun j v hj => by
        obtain ⟨b', off', hA, hc⟩ := Rd.at_ h j v hj
        injection hA with hA
        injection hA with e1 e2
        subst e1 e2
        rw [Addr.add_mid]; exact hc)
      rw [List.length_map, hl, hm] at this
      exact this
    rw [run_bytesToString w _ n c _ hload, foldl_push_bytes]
    simp [ByteArray.empty, ByteArray.emptyWithCapacity, Function.comp_def]
    rfl
theorem take_snoc {α : Type} {l : List α} {k : Nat} {x : α} (h : Hid (l[k]? = some x)) : l.take (k + 1) = l.take k ++ [x] := by
  obtain ⟨hk, rfl⟩ := List.getElem?_eq_some_iff.1 h.out
  exact List.take_succ_eq_append_getElem hk

end Go.Proofs.Ytpfihchdbdhbjaa
