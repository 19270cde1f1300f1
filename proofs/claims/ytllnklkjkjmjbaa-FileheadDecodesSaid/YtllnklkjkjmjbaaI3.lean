/- Several texts in one. -/
import Derived.WalkKit
import Derived.WalkSpells
import Derived.WalkLawsBesides
import Derived.Lib.Hide
import Derived.Deep.Draws
import Derived.Deep.AppendLies
import Derived.Maps.AppendAt
import Derived.Deep.MidRow
import Derived.Test.YtllnklkjkjmjbaaI2
import Derived.Deep.LoopGhost
import Derived.Deep.DeepMust
import Derived.Lib.AppendZeros
import Derived.Lib.SliceRun
import Derived.Laws.Rows
import Derived.Laws.MakeOwn
import Derived.Deep.RegionLaw

set_option linter.unusedSimpArgs false
set_option linter.unusedVariables false
set_option linter.unusedSectionVars false
/- Words for memory that the walks of this seat share: slices of bytes, slices of slices, appending to a row of the call's own. No program in sight. -/
namespace Go.Proofs.Ytllnklkjkjmjbaa
open Go.RowKit

def u8 (b : UInt8) : Value := .int .u8 (b.toNat : Int)

/-- Place k of the row at A holds v. -/
def At (w : World) (A : Option Addr) (k : Nat) (v : Value) : Prop := ∃ b off, A = some ⟨b, off, none⟩ ∧ w.cell? ⟨b, off + k, none⟩ = some v

theorem At.keep {w w' : World} {A : Option Addr} {k : Nat} {v : Value} (h : At w A k v) (hk : ∀ p : Addr, p.block < w.heap.size → w'.cell? p = w.cell? p) : At w' A k v := by
  obtain ⟨b, off, rfl, hc⟩ := h
  exact ⟨b, off, rfl, (hk _ (World.block_lt_of_cell? w _ hc)).trans hc⟩
theorem At.below {w w' : World} {A : Option Addr} {k : Nat} {v : Value} (h : At w A k v) (hb : Below w.heap.size w w') : At w' A k v := h.keep fun _ hp => hb.cell hp

/-- A slice value reads as the row of values vs. -/
structure Rd (w : World) (A : Option Addr) (n c : Nat) (vs : List Value) : Prop where
  len : vs.length = n
  cap : n ≤ c
  max : c ≤ maxLen
  at_ : ∀ k v, vs[k]? = some v → At w A k v

/-- A slice of bytes reads as xs. -/
abbrev IsB (w : World) (A : Option Addr) (n c : Nat) (xs : List UInt8) : Prop := Rd w A n c (xs.map u8)

section
variable {w w' : World} {A : Option Addr} {n c : Nat} {vs : List Value} {xs : List UInt8}
theorem Rd.nil : Rd w none 0 0 [] := ⟨rfl, Nat.le_refl _, Nat.zero_le _, fun k v h => by simp at h⟩
theorem Rd.keep (h : Rd w A n c vs) (hk : ∀ p : Addr, p.block < w.heap.size → w'.cell? p = w.cell? p) : Rd w' A n c vs :=
  ⟨h.len, h.cap, h.max, fun k v hv => (h.at_ k v hv).keep hk⟩
theorem Rd.below (h : Rd w A n c vs) (hb : Below w.heap.size w w') : Rd w' A n c vs := h.keep fun _ hp => hb.cell hp
theorem Rd.drew (h : Rd w A n c vs) : Rd w.drew A n c vs := ⟨h.len, h.cap, h.max, h.at_⟩
theorem Rd.alloc (h : Rd w A n c vs) (o : Obj) : Rd (w.alloc o) A n c vs := h.keep fun p hp => World.cell?_alloc_lt w o p hp
theorem IsB.len (h : IsB w A n c xs) : xs.length = n := by simpa using Rd.len h
theorem IsB.at_ (h : IsB w A n c xs) {k : Nat} (hk : k < n) : ∃ x b off, Hid (xs[k]? = some x) ∧ A = some ⟨b, off, none⟩ ∧ w.cell? ⟨b, off + k, none⟩ = some (.int .u8 (x.toNat : Int)) ∧ (x.toNat : Int) < 256 := by
  have hl : k < xs.length := by have := IsB.len h; omega
  obtain ⟨b, off, hA, hc⟩ := Rd.at_ h k (u8 xs[k]) (by simp [hl])
  exact ⟨xs[k], b, off, List.getElem?_eq_getElem hl, hA, hc, by have := UInt8.toNat_lt xs[k]; omega⟩
theorem IsB.cells (h : IsB w A n c xs) (hn : 0 < n) : ∃ b off, A = some ⟨b, off, none⟩ ∧ ∀ k x, xs[k]? = some x → w.cell? ⟨b, off + k, none⟩ = some (.int .u8 (x.toNat : Int)) := by
  obtain ⟨x, b, off, _, rfl, _⟩ := IsB.at_ h hn
  refine ⟨b, off, rfl, fun k y hk => ?_⟩
  obtain ⟨b', off', hA, hc⟩ := Rd.at_ h k (u8 y) (by simp [hk])
  injection hA with hA
  injection hA with e1 e2
  subst e1 e2
  exact hc
/-- s[:k] -/
theorem Rd.take (h : Rd w A n c vs) {k : Nat} (hk : k ≤ n) : Rd w A k c (vs.take k) := by
  refine ⟨by rw [List.length_take, h.len]; omega, by have := h.cap; omega, h.max, fun j v hv => ?_⟩
  by_cases hj : j < k
  · rw [List.getElem?_take_of_lt hj] at hv
    exact h.at_ j v hv
  · rw [List.getElem?_eq_none (by rw [List.length_take]; omega)] at hv; cases hv
theorem IsB.take (h : IsB w A n c xs) {k : Nat} (hk : k ≤ n) : IsB w A k c (xs.take k) := by
  have := Rd.take h hk
  rwa [← List.map_take] at this
end

/-- A slice of slices of bytes reads as ls. -/
structure IsBB (w : World) (A : Option Addr) (n c : Nat) (ls : List (List UInt8)) : Prop where
  len : ls.length = n
  cap : n ≤ c
  max : c ≤ maxLen
  at_ : ∀ k l, ls[k]? = some l → ∃ A' n' c', At w A k (.slice A' n' c') ∧ IsB w A' n' c' l
theorem IsBB.keep {w w' : World} {A : Option Addr} {n c : Nat} {ls : List (List UInt8)} (h : IsBB w A n c ls) (hk : ∀ p : Addr, p.block < w.heap.size → w'.cell? p = w.cell? p) : IsBB w' A n c ls :=
  ⟨h.len, h.cap, h.max, fun k l hl => let ⟨A', n', c', h1, h2⟩ := h.at_ k l hl; ⟨A', n', c', h1.keep hk, Rd.keep h2 hk⟩⟩
theorem IsBB.below {w w' : World} {A : Option Addr} {n c : Nat} {ls : List (List UInt8)} (h : IsBB w A n c ls) (hb : Below w.heap.size w w') : IsBB w' A n c ls := h.keep fun _ hp => hb.cell hp

/-- A slice value that owns its row, from block B on. -/
abbrev Own (w : World) (B : Nat) (e : TypeId) (A : Option Addr) (n c : Nat) (vs : List Value) : Prop := w.ownsRow B e 1 (.slice A n c) n vs

section
variable {w w' : World} {B n c : Nat} {e : TypeId} {A : Option Addr} {vs : List Value}
theorem Own.rd (h : Own w B e A n c vs) : Rd w A n c vs := by
  have hl := h.1
  rcases h.2 with ⟨hv, hn⟩ | ⟨g, cap, cur, hv, hb, hg, hnc, hcm, hcs, htk⟩
  · injection hv with h1 h2 h3
    subst h1 h2 h3
    have : vs = [] := List.eq_nil_of_length_eq_zero (by simpa using hl)
    subst this
    exact Rd.nil
  · injection hv with h1 h2 h3
    subst h1 h3
    refine ⟨by simpa using hl, hnc, hcm, fun k v hk => ⟨g, 0, rfl, ?_⟩⟩
    have hlt : k < n * 1 := by have := (List.getElem?_eq_some_iff.1 hk).1; rw [hl] at this; exact this
    rw [Nat.zero_add, World.ownsRow.cellAt h k hlt]
    exact hk
theorem Own.nil (B : Nat) (e : TypeId) : Own w B e none 0 0 [] := World.ownsRow_nil w B e 1
theorem Own.form {v : Value} (h : w.ownsRow B e 1 v n vs) : ∃ A c, v = .slice A n c ∧ Own w B e A n c vs ∧ (∀ k, v.ownBlock = some k → B ≤ k ∧ k < w.heap.size) := by
  have hlt := h.lt
  rcases h.2 with ⟨hv, hn⟩ | ⟨g, cap, cur, hv, _⟩
  · subst hv hn; exact ⟨none, 0, rfl, h, hlt⟩
  · subst hv; exact ⟨_, _, rfl, h, hlt⟩
theorem Own.block (h : Own w B e A n c vs) : ∀ k, (Value.slice A n c).ownBlock = some k → B ≤ k := fun k hk => (h.lt k hk).1
theorem Own.below (h : Own w B e A n c vs) (hb : Below w.heap.size w w') : Own w' B e A n c vs := by
  refine ⟨h.1, ?_⟩
  rcases h.2 with h2 | ⟨g, cap, cur, hv, hg, hh, r⟩
  · exact .inl h2
  · refine .inr ⟨g, cap, cur, hv, hg, ?_, r⟩
    rw [hb.block g (Array.getElem?_eq_some_iff.1 hh).1]; exact hh
theorem Own.base (h : Own w B e A n c vs) {B' : Nat} (hB : B' ≤ B) : Own w B' e A n c vs := by
  refine ⟨h.1, ?_⟩
  rcases h.2 with h2 | ⟨g, cap, cur, hv, hg, hh, r⟩
  · exact .inl h2
  · exact .inr ⟨g, cap, cur, hv, by omega, hh, r⟩
end

/-- append(s, x...): s owns its row; x reads as news, wherever it lies. -/
theorem run_append_rd {P : Program} (w : World) (B : Nat) (t ty e : TypeId) (i : TypeInfo) (z : Value) (bytes : Nat) (ht : P.underlying t = some (.slice e)) (hi : P.info? e = some i) (hz : i.zero = some z)
    (hsize : i.size = 1) (hby : i.bytes = bytes) (hzs : z.cells.size = 1)
    (A : Option Addr) (n c : Nat) (xs : List Value) (hown : Own w B e A n c xs)
    (A' : Option Addr) (m c' : Nat) (news : List Value) (hr : Rd w A' m c' news) (h1 : ∀ u ∈ news, u.oneCell' = true)
    (hbytes : (n + m) * bytes ≤ 140737488355328) (hb0 : 0 < bytes) (hbase : B ≤ w.heap.size) :
    ∃ A2 c2 w', (Builtin.append_ #[t, t] ty #[.slice A n c, .slice A' m c']).run P w = .ok (.slice A2 (n + m) c2) w' ∧ Own w' B e A2 (n + m) c2 (xs ++ news) ∧ w.grownBy w' (Value.slice A n c).ownBlock ∧
      ((Value.slice A2 (n + m) c2).ownBlock = (Value.slice A n c).ownBlock ∨ (Value.slice A2 (n + m) c2).ownBlock = some w.heap.size) := by
  have h63 : n + m ≤ maxLen := by
    have h2 : (n + m) * 1 ≤ (n + m) * bytes := Nat.mul_le_mul_left _ hb0
    unfold maxLen; omega
  by_cases hm : m = 0
  · subst hm
    have hn : news = [] := List.eq_nil_of_length_eq_zero hr.len
    subst hn
    refine ⟨A, c, w, ?_, by simpa using hown, World.grownBy.refl w _, .inl rfl⟩
    rcases hown.2 with ⟨hv, hn0⟩ | ⟨g, cap, cur, hv, _, _, hnc, _⟩
    · injection hv with a1 a2 a3
      subst a1 a2 a3
      cases A' <;> simp [Builtin.append_, run_underlying ht, sizeOf, typeInfo, hi, Builtin.lenOf, Builtin.firstCells, loadCells, loadCellsFrom]
    · injection hv with a1 a2 a3
      subst a1 a3
      cases A' <;> simp [Builtin.append_, run_underlying ht, sizeOf, typeInfo, hi, Builtin.lenOf, Builtin.firstCells, hnc, storeCells, loadCells, loadCellsFrom]
  · have hpos : 0 < news.length := by rw [hr.len]; omega
    obtain ⟨b, off, rfl, _⟩ := hr.at_ 0 _ (List.getElem?_eq_getElem hpos)
    have hnews : ∀ j u, news[j]? = some u → w.cell? ((⟨b, off, none⟩ : Addr).add j) = some u := by
      intro j u hu
      obtain ⟨b', off', he, hc⟩ := hr.at_ j u hu
      injection he with he
      injection he with e1 e2
      subst e1 e2
      by_cases hj : j = 0
      · subst hj; simpa [Addr.add] using hc
      · simpa [Addr.add, hj] using hc
    obtain ⟨v', w', hrun, h2, h3, _, h5⟩ := run_append_own_at (P := P) w B t ty e i z 1 bytes ht hi hz hsize hby hzs (by omega) (.slice A n c) n xs hown ⟨b, off, none⟩ m c' news (by rw [hr.len]; omega) hnews h1 h63 hbytes hbase
    obtain ⟨A2, c2, rfl, h6, _⟩ := Own.form h2
    exact ⟨A2, c2, w', hrun, h6, h3, h5⟩

theorem wp_append_rd {P : Program} (w : World) {o : Oper} {a : Act} {K : Act → World → Prop} {Q : Exit → Act → World → Prop} (s x : Operand) (t : TypeId)
    (ho : o.op = .call { callee := .builtin .append, args := #[s, x], argTypes := #[t, t] })
    (B : Nat) (e : TypeId) (i : TypeInfo) (z : Value) (bytes : Nat) (ht : P.underlying t = some (.slice e)) (hi : P.info? e = some i) (hz : i.zero = some z)
    (hsize : i.size = 1) (hby : i.bytes = bytes) (hzs : z.cells.size = 1)
    (A : Option Addr) (n c : Nat) (xs : List Value) (hs : a.eval s = .slice A n c) (hown : Own w B e A n c xs)
    (A' : Option Addr) (m c' : Nat) (news : List Value) (hx : a.eval x = .slice A' m c') (hr : Rd w A' m c' news) (h1 : ∀ u ∈ news, u.oneCell' = true)
    (hbytes : (n + m) * bytes ≤ 140737488355328) (hb0 : 0 < bytes) (hbase : B ≤ w.heap.size)
    (h : ∀ A2 c2 w', Own w' B e A2 (n + m) c2 (xs ++ news) → w.grownBy w' (Value.slice A n c).ownBlock → ((Value.slice A2 (n + m) c2).ownBlock = (Value.slice A n c).ownBlock ∨ (Value.slice A2 (n + m) c2).ownBlock = some w.heap.size) → K (a.put o.dst (.slice A2 (n + m) c2)) w') : o.wp P a w K Q := by
  obtain ⟨A2, c2, w', hrun, h2, h3, h4⟩ := run_append_rd (P := P) w B t o.type e i z bytes ht hi hz hsize hby hzs A n c xs hown A' m c' news hr h1 hbytes hb0 hbase
  unfold Oper.wp execOp
  simp only [ho, resolve, invoke, builtin, Sem.run_bind, Sem.run_pure, Result.andThen_ok, List.map_toArray, List.map_cons, List.map_nil, hs, hx, hrun]
  exact h A2 c2 w' h2 h3 h4

theorem wpList_append_rd {P : Program} (w : World) {ops : Array Oper} {rest : List Oper} {o : Oper} {a : Act} {Q : Exit → Act → World → Prop} (hgd : o.guard = none) (s x : Operand) (t : TypeId)
    (ho : o.op = .call { callee := .builtin .append, args := #[s, x], argTypes := #[t, t] })
    (B : Nat) (e : TypeId) (i : TypeInfo) (z : Value) (bytes : Nat) (ht : P.underlying t = some (.slice e)) (hi : P.info? e = some i) (hz : i.zero = some z)
    (hsize : i.size = 1) (hby : i.bytes = bytes) (hzs : z.cells.size = 1)
    (A : Option Addr) (n c : Nat) (xs : List Value) (hs : a.eval s = .slice A n c) (hown : Own w B e A n c xs)
    (A' : Option Addr) (m c' : Nat) (news : List Value) (hx : a.eval x = .slice A' m c') (hr : Rd w A' m c' news) (h1 : ∀ u ∈ news, u.oneCell' = true)
    (hbytes : (n + m) * bytes ≤ 140737488355328) (hb0 : 0 < bytes) (hbase : B ≤ w.heap.size)
    (h : ∀ A2 c2 w', Own w' B e A2 (n + m) c2 (xs ++ news) → w.grownBy w' (Value.slice A n c).ownBlock → ((Value.slice A2 (n + m) c2).ownBlock = (Value.slice A n c).ownBlock ∨ (Value.slice A2 (n + m) c2).ownBlock = some w.heap.size) → wpList P ops Q rest (a.put o.dst (.slice A2 (n + m) c2)) w') : wpList P ops Q (o :: rest) a w :=
  wpList_plain hgd fun _ hK => wp_append_rd w s x t ho B e i z bytes ht hi hz hsize hby hzs A n c xs hs hown A' m c' news hx hr h1 hbytes hb0 hbase fun A2 c2 w' h2 h3 h4 => hK _ _ (h A2 c2 w' h2 h3 h4)

theorem u8_one (xs : List UInt8) : ∀ u ∈ xs.map u8, u.oneCell' = true := by
  intro u hu
  obtain ⟨b, _, rfl⟩ := List.mem_map.1 hu
  rfl
end Go.Proofs.Ytllnklkjkjmjbaa

/- slices.Clone and slices.Concat of bytes: the walks; as entries of the engine. -/
namespace Go.Proofs.Ytllnklkjkjmjbaa.En
open Go Go.RowKit
set_option linter.unusedVariables false
theorem info8 : (Try.prog.info? 5).map (fun i => (i.zero, i.size, i.bytes)) = some (some (.int .u8 0), 1, 1) := by kernel_rfl
section
variable {T : TypeId → Option Ty} {E : Env} {g : G} {w w' : World} {A : Option Addr} {n c B : Nat} {xs : List UInt8}
theorem own_lit {w : World} {B : Nat} {e : TypeId} (vs : List Value) (hB : B ≤ w.heap.size) (hm : vs.length ≤ 1000) : Own (w.alloc (.cells vs.toArray e)) B e (some ⟨w.heap.size, 0, none⟩) vs.length vs.length vs := by
  have h := World.ownsRow_lit (base := B) (e := e) (size := 1) w vs.toArray vs.length hB (by unfold maxLen; omega) (by simp)
  simpa using h
/-- Bytes, as the walks have them. -/
theorem isB_of_rep {u : Value} (h : RepV g w (.bytes xs) u) : ∃ A n c, u = .slice A n c ∧ IsB w A n c xs := by
  cases h with
  | bytes xs A n c hn hc hm h =>
    refine ⟨A, n, c, rfl, ⟨by simp [hn], hc, hm, fun k v hv => ?_⟩⟩
    rw [List.getElem?_map, Option.map_eq_some_iff] at hv
    obtain ⟨x, hx, rfl⟩ := hv
    obtain ⟨b, off, e, _, h2⟩ := h k x hx
    exact ⟨b, off, e, h2⟩
/-- What a call leaves that makes one row of bytes. -/
theorem pure_of_own (hb : Below w.heap.size w w') {A : Option Addr} {n c : Nat} (ho : Own w' w.heap.size 5 A n c (xs.map u8)) :
    ∃ us' g', Ending.returned (.slice A n c) = .returned (retV us') ∧ (∀ E' : Env, RepDs E' g' w' [] [.v (.bytes xs) .no] us') ∧ PureTr g w g' w' := by
  refine ⟨[.slice A n c], { g with Γ := fun b => if b < w.heap.size then g.Γ b else .imm }, rfl, fun E' => ⟨rfl, fun k y hk => ?_⟩, ⟨⟨hb.os, hb.tape, hb.output, hb.size, hb.block⟩, fun b hlt => if_pos hlt, fun b hge => by
    show Perm.still (if b < w.heap.size then g.Γ b else .imm) = true
    rw [if_neg (by omega)]; rfl, rfl, rfl⟩⟩
  rcases k with _ | k
  · simp at hk
    subst hk
    have hr := ho.rd
    refine .v _ _ _ (.bytes xs A n c (by simpa using hr.len) hr.cap hr.max fun k x hx => ?_) trivial
    obtain ⟨b, off, e, h2⟩ := hr.at_ k (u8 x) (by simp [hx])
    refine ⟨b, off, e, ?_, h2⟩
    have hge : w.heap.size ≤ b := ho.block b (by subst e; rfl)
    unfold Stable
    show (match (if b < w.heap.size then g.Γ b else .imm) with | .imm => True | .low n => off + k < n | .own _ n => off + k < n | .box _ _ => False)
    rw [if_neg (by omega)]; trivial
  · simp at hk
end
set_option maxHeartbeats 400000 in
theorem clone_any (A : Option Addr) (n c : Nat) (xs : List UInt8) (w : World) (h : IsB w A n c xs) (hn : xs.length ≤ 1000000) :
    Calls Try.prog 61 #[.slice A n c] w fun e w' => ∃ A' n' c', e = .returned (.slice A' n' c') ∧ Own w' w.heap.size 5 A' n' c' (xs.map u8) ∧ Below w.heap.size w w' := by
  obtain ⟨i0, hi0, hz0, hz1, hz2⟩ := info_parts info8
  have hl := IsB.len h
  have H := Lib.hid h
  have HI := Lib.hid (And.intro hi0 (And.intro hz0 (And.intro hz1 hz2)))
  have HL := Lib.hid hl
  clear h hi0 hz0 hz1 hz2 hl
  have qT : ∀ (w : World) (a : Option Addr) (n c n' c' : Nat), (binOp .eql 22 (.slice a n c) (.slice none n' c')).run Try.prog w = .ok (.bool a.isNone) w := fun w a n c n' c' => Lib.run_eql_slice_nil w _ _ a n c n' c' Try.underlying22
  cases A with
  | none =>
    have h0 : xs = [] := by
      have hr := H.out
      rcases xs with _ | ⟨x, xs⟩
      · rfl
      · obtain ⟨b, off, hA, _⟩ := Rd.at_ hr 0 (u8 x) rfl
        cases hA
    subst h0
    go_enter Try.func61, Try.ntmps61
    go_wp2_with fail
    go_ret
    exact ⟨none, 0, 0, rfl, Own.nil _ _, Below.refl _ _⟩
  | some a =>
    go_enter Try.func61, Try.ntmps61
    have hown := own_lit (w := w) (B := w.heap.size) (e := 5) [] (Nat.le_refl _) (by simp)
    have HO := Lib.hid hown
    clear hown
    have hn' : n ≤ 1000000 := by have := HL.out; omega
    go_wp2_with (at_builtin; refine wpList_append_rd _ rfl (.tmp 5) (.tmp 6) 22 rfl w.heap.size 5 i0 _ 1 Try.underlying22 HI.out.1 HI.out.2.1 HI.out.2.2.1 HI.out.2.2.2 rfl (some ⟨w.heap.size, 0, none⟩) 0 0 [] rfl HO.out (some a) n c _ rfl (H.out.alloc _) (u8_one _) ?_ (by omega) (by simp) ?_)
    case _ => omega
    intro A3 c3 w3 hown3 hg3 _
    have hb3 : Below w.heap.size w w3 := ((Below.refl _ _).alloc (Nat.le_refl _) _).grown hg3 (by simp) (by simp [Value.ownBlock])
    go_wp2
    go_ret
    exact ⟨A3, 0 + n, c3, by simp, by simpa using hown3, hb3⟩
noncomputable def s_clone (N : Nat) (l : List UInt8) : Option (List UInt8) := br (decide (l.length ≤ 1000000)) (some l) none
theorem p_clone (N : Nat) (x0 r0 : List UInt8) (h : s_clone N x0 = some r0) : PureRet Try.prog T 61 [.v (.bytes x0) .no] [.v (.bytes r0) .no] := by
  have hn : x0.length ≤ 1000000 ∧ r0 = x0 := by
    unfold s_clone br at h
    by_cases hx : x0.length ≤ 1000000
    · simp [hx] at h; exact ⟨hx, h.symm⟩
    · simp [hx] at h
  obtain ⟨hn, rfl⟩ := hn
  intro E g w us hsz hus
  obtain ⟨hl, hr⟩ := hus
  match us, hl with
  | [u], _ =>
  have hu := hr 0 _ rfl
  simp only [List.getD_cons_zero] at hu
  cases hu with
  | v x a v hv ha =>
  obtain ⟨A, n, c, rfl, hB⟩ := isB_of_rep hv
  refine (clone_any A n c r0 w hB hn).mono ?_
  rintro e w' ⟨A', n', c', rfl, ho, hb⟩
  exact pure_of_own hb ho
set_option maxHeartbeats 1000000 in
set_option maxRecDepth 100000 in
theorem grow_nil (k : Nat) (w : World) (hk : k ≤ 1000000) :
    Calls Try.prog 111 #[.slice none 0 0, .int .i64 k] w fun e w' => ∃ A n c, e = .returned (.slice A 0 c) ∧ n = 0 ∧ Own w' w.heap.size 5 A n c [] ∧ Below w.heap.size w w' := by
  obtain ⟨i0, hi0, hz0, hz1, hz2⟩ := info_parts info8
  have mixed : Try.prog.follows .mixedOrders = true := by kernel_rfl
  by_cases h0 : k = 0
  · subst h0
    clear hi0 hz0 hz1 hz2
    go_enter Try.func111, Try.ntmps111
    go_wp2
    go_ret
    exact ⟨none, 0, 0, rfl, rfl, Own.nil _ _, Below.refl _ _⟩
  · have hrz : ∀ ty, (Builtin.append_ #[22, 3] ty #[.slice none 0 0, .int .i64 (k : Int)]).run Try.prog w = _ := fun ty =>
      Lib.run_append_nil_zeros w 22 3 ty 5 i0 _ .i64 .i64 Try.underlying22 Try.underlying3 hi0 hz0 k (by omega) (by omega) (by omega) (by rw [hz2]; omega)
    have hG1 : k ≤ grownCap w k 0 5 := grownCap_ge w _ _ _
    have hG2 := grownCap_le_maxLen w k 0 5 (by unfold maxLen; omega)
    generalize grownCap w k 0 5 = G at hrz hG1 hG2
    have hG63 : G ≤ 9223372036854775807 := by unfold maxLen at hG2; omega
    have h1 : ¬ ((k : Int) < 0) := by omega
    have h4 : (k : Int) > 0 := by omega
    have h5 : k ≤ 9223372036854775807 := by omega
    have HI := Lib.hid (And.intro hi0 (And.intro hz0 (And.intro hz1 hz2)))
    have HK := Lib.hid (And.intro hk (And.intro h0 hG2))
    clear hi0 hz0 hz1 hz2 hk h0 hG2
    go_enter Try.func111, Try.ntmps111
    go_wp2_with (at_builtin; refine Lib.wpList_append_run _ rfl _ _ _ _ rfl _ _ rfl rfl _ _ (hrz _) ?_)
    all_goals (go_ret)
    all_goals (
      refine ⟨some ⟨w.heap.size, 0, none⟩, 0, G, rfl, rfl, ⟨rfl, .inr ⟨w.heap.size, G, _, rfl, Nat.le_refl _, heap_alloc_new w _, by omega, HK.out.2.2, ?_, by simp⟩⟩, ((Below.refl _ _).alloc (Nat.le_refl _) _).drew⟩
      simp [Array.size_append, size_zeroCells]
      omega)
theorem flatten_take_le (ls : List (List UInt8)) (k : Nat) : (ls.take k).flatten.length ≤ ls.flatten.length := by
  conv => rhs; rw [← List.take_append_drop k ls]
  rw [List.flatten_append, List.length_append]
  omega
theorem flatten_take_succ (ls : List (List UInt8)) (k : Nat) (h : k < ls.length) : (ls.take (k + 1)).flatten = (ls.take k).flatten ++ ls[k] := by
  rw [List.take_succ_eq_append_getElem h, List.flatten_append]; simp
set_option maxHeartbeats 1000000 in
set_option maxRecDepth 100000 in
theorem concat_any (A : Option Addr) (n c : Nat) (ls : List (List UInt8)) (w : World) (h : IsBB w A n c ls) (hn : ls.flatten.length ≤ 1000000) :
    Calls Try.prog 94 #[.slice A n c] w fun e w' => ∃ A' n' c', e = .returned (.slice A' n' c') ∧ Own w' w.heap.size 5 A' n' c' (ls.flatten.map u8) ∧ Below w.heap.size w w' := by
  obtain ⟨i0, hi0, hz0, hz1, hz2⟩ := info_parts info8
  have hcap : n ≤ 9223372036854775807 := by have h1 := h.cap; have h2 := h.max; unfold maxLen at h2; omega
  have H := Lib.hid h
  have HI := Lib.hid (And.intro hi0 (And.intro hz0 (And.intro hz1 hz2)))
  clear h hi0 hz0 hz1 hz2
  go_enter Try.func94, Try.ntmps94
  go_wp2
  go_loopg [3, 11] n (fun g v i wr => ∃ k : Nat, k ≤ n ∧ g = n - k ∧ i = .int .i64 (k : Int) ∧ v = .int .i64 (((ls.take k).flatten.length : Nat) : Int) ∧ wr = w)
  case atStart => exact ⟨0, by omega, rfl, rfl, by simp, rfl⟩
  case round =>
    obtain ⟨k, hk, hg, rfl, rfl, hww⟩ := hrel
    obtain rfl : w = wr := hww.symm
    by_cases hlt : k < n
    · have hl : k < ls.length := by have := H.out.len; omega
      obtain ⟨A2, n2, c2, ⟨b, off, rfl, hc⟩, hr⟩ := H.out.at_ k _ (List.getElem?_eq_getElem hl)
      have hle := flatten_take_le ls (k + 1)
      have hsucc := flatten_take_succ ls k hl
      have hn2 : n2 = ls[k].length := (IsB.len hr).symm
      have hsum : (ls.take k).flatten.length + n2 ≤ 1000000 := by rw [hsucc, List.length_append] at hle; omega
      have Hs := Lib.hid (And.intro hsucc hn2)
      generalize hm : (ls.take k).flatten.length = m at hsum
      have Hm := Lib.hid hm
      have h7 : ¬ ((m : Int) + (n2 : Int) < 0) := by omega
      clear hsucc hle hn2 hm
      go_wp2
      go_roundg (n - (k + 1))
      case measure => omega
      case rel =>
        refine ⟨k + 1, by omega, rfl, by go_num, ?_, rfl⟩
        rw [Hs.out.1, List.length_append, Hm.out, ← Hs.out.2]
        go_num
    · have hkn : (ls.take k).flatten = ls.flatten := by
        have : k = ls.length := by have := H.out.len; omega
        rw [this, List.take_length]
      rw [hkn]
      generalize hm : ls.flatten.length = m at hn
      have Hm := Lib.hid hm
      clear hkn hm
      go_wp2_with fail
      refine (grow_nil m _ hn).mono ?_
      rintro e w1 ⟨A1, n1, c1, rfl, rfl, ho1, hb1⟩
      go_wp2_with fail
      have H1 := Lib.hid (And.intro ho1 hb1)
      clear ho1 hb1
      go_loopg [6, 27] n (fun g v i wr => ∃ k A' n' c', k ≤ n ∧ g = n - k ∧ i = .int .i64 (k : Int) ∧ v = .slice A' n' c' ∧ Own wr w.heap.size 5 A' n' c' ((ls.take k).flatten.map u8) ∧ Below w.heap.size w wr)
      case atStart => exact ⟨0, A1, 0, c1, by omega, rfl, rfl, rfl, by simpa using H1.out.1, H1.out.2⟩
      case round =>
        obtain ⟨k, A', n', c', hk, hg, rfl, rfl, hown, hb⟩ := hrel
        by_cases hlt : k < n
        · have hl : k < ls.length := by have := H.out.len; omega
          obtain ⟨A2, n2, c2, ⟨b, off, rfl, hc⟩, hr⟩ := H.out.at_ k _ (List.getElem?_eq_getElem hl)
          have hc2 : wr.cell? ⟨b, off + k, none⟩ = some (.slice A2 n2 c2) := by
            rw [hb.cell (p := ⟨b, off + k, none⟩) (World.block_lt_of_cell? w _ hc)]; exact hc
          have hr2 : Rd wr A2 n2 c2 (ls[k].map Go.Proofs.Ytllnklkjkjmjbaa.u8) := hr.below hb
          have hle := flatten_take_le ls (k + 1)
          have hsucc := flatten_take_succ ls k hl
          have hn' : n' = (ls.take k).flatten.length := by have := hown.1; rw [List.length_map] at this; omega
          have hn2 : n2 = ls[k].length := by have := hr2.len; rw [List.length_map] at this; omega
          have hsum : n' + n2 ≤ 1000000 := by rw [hsucc, List.length_append, Hm.out] at hle; omega
          have Hs := Lib.hid hsucc
          have Hn := Lib.hid (And.intro hn' hn2)
          clear hsucc hle hn' hn2
          go_wp2_with (at_builtin; refine wpList_append_rd _ rfl (.tmp 31) (.tmp 32) 22 rfl w.heap.size 5 i0 _ 1 Try.underlying22 HI.out.1 HI.out.2.1 HI.out.2.2.1 HI.out.2.2.2 rfl A' n' c' _ rfl hown A2 n2 c2 _ rfl hr2 (u8_one _) ?_ (by omega) hb.size ?_)
          case _ => omega
          intro A3 c3 w3 hown3 hg3 _
          have hb3 := hb.grown hg3 hb.size (hown.block)
          go_wp2
          go_roundg (n - (k + 1))
          case measure => omega
          case rel =>
            refine ⟨k + 1, A3, n' + n2, c3, by omega, rfl, by go_num, rfl, ?_, hb3⟩
            rw [Hs.out]; simpa using hown3
        · go_wp2
          go_ret
          refine ⟨A', n', c', rfl, ?_, hb⟩
          have : k = ls.length := by have := H.out.len; omega
          rw [this, List.take_length] at hown
          exact hown
/-- The bytes of a list of strings of bytes. -/
def flatB : List V → Option (List UInt8)
  | [] => some []
  | .bytes l :: r => (match flatB r with | some m => some (l ++ m) | none => none)
  | _ :: _ => none
theorem flatB_some : ∀ (vs : List V) (l : List UInt8), flatB vs = some l → ∃ ls : List (List UInt8), vs = ls.map V.bytes ∧ l = ls.flatten
  | [], l, h => ⟨[], rfl, by simpa [flatB] using h.symm⟩
  | .bytes x :: r, l, h => by
    unfold flatB at h
    cases hm : flatB r with
    | none => rw [hm] at h; cases h
    | some m =>
      rw [hm] at h
      injection h with h
      obtain ⟨ls, h1, h2⟩ := flatB_some r m hm
      exact ⟨x :: ls, by rw [h1]; rfl, by rw [← h, h2]; rfl⟩
  | .bool _ :: _, l, h => by cases h
  | .int _ _ :: _, l, h => by cases h
  | .str _ :: _, l, h => by cases h
  | .sl _ _ :: _, l, h => by cases h
  | .agg _ :: _, l, h => by cases h
  | .iface _ _ :: _, l, h => by cases h
  | .nilI :: _, l, h => by cases h
theorem flatMap_bytes (ls : List (List UInt8)) : (ls.map V.bytes).flatMap V.cells = ls.map V.bytes := by
  induction ls with
  | nil => rfl
  | cons l ls ih => simp only [List.map_cons, List.flatMap_cons, ih]; rfl
theorem isBB_of_rep {g : G} {w : World} {e : TypeId} {ls : List (List UInt8)} {u : Value} (h : RepV g w (.sl e (ls.map V.bytes)) u) : ∃ A n c, u = .slice A n c ∧ IsBB w A n c ls := by
  cases h with
  | sl e xs A n c us hn hc hm hs h hr =>
    rw [flatMap_bytes] at h hr
    refine ⟨A, n, c, rfl, ⟨by simpa using hn, hc, hm, fun k l hl => ?_⟩⟩
    have hk : (ls.map V.bytes)[k]? = some (.bytes l) := by simp [hl]
    obtain ⟨b, off, e1, _, e2⟩ := h k _ hk
    obtain ⟨A', n', c', e3, h4⟩ := isB_of_rep (hr k _ hk)
    exact ⟨A', n', c', ⟨b, off, e1, by rw [e2, e3]⟩, h4⟩
noncomputable def s_concat (N : Nat) (vs : List V) : Option (List UInt8) := (flatB vs).bind fun l => br (decide (l.length ≤ 1000000)) (some l) none
theorem p_concat (N : Nat) (x0 : List V) (r0 : List UInt8) (h : s_concat N x0 = some r0) : PureRet Try.prog T 94 [.v (.sl 22 x0) .no] [.v (.bytes r0) .no] := by
  unfold s_concat at h
  obtain ⟨l, h1, h2⟩ := Option.bind_eq_some_iff.1 h
  have hn : l.length ≤ 1000000 ∧ r0 = l := by
    unfold br at h2
    by_cases hx : l.length ≤ 1000000
    · simp [hx] at h2; exact ⟨hx, h2.symm⟩
    · simp [hx] at h2
  obtain ⟨hn, rfl⟩ := hn
  obtain ⟨ls, rfl, rfl⟩ := flatB_some x0 _ h1
  intro E g w us hsz hus
  obtain ⟨hl, hr⟩ := hus
  match us, hl with
  | [u], _ =>
  have hu := hr 0 _ rfl
  simp only [List.getD_cons_zero] at hu
  cases hu with
  | v x a v hv ha =>
  obtain ⟨A, n, c, rfl, hB⟩ := isBB_of_rep hv
  refine (concat_any A n c ls w hB hn).mono ?_
  rintro e w' ⟨A', n', c', rfl, ho, hb⟩
  exact pure_of_own hb ho
end Go.Proofs.Ytllnklkjkjmjbaa.En

/- The engine, part 2l: several entries of one function, told apart by the closure that it is given. -/
namespace Go.Proofs.Ytllnklkjkjmjbaa.En
open Go
set_option linter.unusedVariables false
def hasClos (g : Nat) : List D → Bool
  | [] => false
  | d :: r => match d with
    | .clos f _ => cond (Nat.beq f g) true (hasClos g r)
    | _ => hasClos g r
def selM (g : Nat) (a b : MEnt) : MEnt := ⟨a.f, fun dst ds m K => cond (hasClos g ds) (a.k dst ds m K) (b.k dst ds m K)⟩
section
variable {P : Program} {T : TypeId → Option Ty}
theorem selM_ok {g : Nat} {a b : MEnt} (h : a.f = b.f) (ha : MEntOK P T a) (hb : MEntOK P T b) : MEntOK P T (selM g a b) := by
  refine ⟨ha.goes, fun R dst ds m K r e => ?_⟩
  change cond (hasClos g ds) (a.k dst ds m K) (b.k dst ds m K) = some r at e
  cases hc : hasClos g ds with
  | true => rw [hc] at e; exact ha.ret R dst ds m K r e
  | false =>
    rw [hc] at e
    obtain ⟨rs, m', h1, h2⟩ := hb.ret R dst ds m K r e
    exact ⟨rs, m', h1, by rw [← h] at h2; exact h2⟩
end
end Go.Proofs.Ytllnklkjkjmjbaa.En

/- octets.Put of two bytes: the walk; as an entry of the engine. -/
namespace Go.Proofs.Ytllnklkjkjmjbaa.En
open Go Go.RowKit
set_option linter.unusedVariables false
theorem make2 (w : World) : (Instr.makeSlice 22 (.int .i64 2) (.int .i64 2)).run Try.prog w = .ok (.slice (some ⟨w.heap.size, 0, none⟩) 2 2) (w.alloc (.cells #[.int .u8 0, .int .u8 0] 5)) := by
  obtain ⟨i0, hi0, hz0, hz1, hz2⟩ := info_parts info8
  have := run_makeSlice (P := Try.prog) (w := w) 22 5 i0 (.int .u8 0) Try.underlying22 hi0 hz0 .i64 .i64 2 2 (by decide) (by decide) (by rw [hz1]; decide) (by rw [hz2]; decide) (by decide)
  rw [hz1] at this
  rw [this]
  have e : madeCells (Value.int IntKind.u8 0).cells (Int.toNat 2 * 1) = #[.int .u8 0, .int .u8 0] := by
    apply Array.ext
    · rw [size_madeCells]; rfl
    · intro i h1 h2
      simp at h2
      rcases (by omega : i = 0 ∨ i = 1) with rfl | rfl <;> simp [madeCells, Value.cells]
  rw [e]; rfl
attribute [local go_sem] make2
def putCs (n : Int) : Nat → Array Value
  | 0 => #[.int .u8 0, .int .u8 0]
  | 1 => #[.int .u8 0, .int .u8 (n % 256)]
  | _ => #[.int .u8 (n / 256), .int .u8 (n % 256)]
set_option maxHeartbeats 400000 in
theorem put_any (n : Int) (w : World) (h1 : -9223372036854775808 ≤ n) (h2 : n ≤ 9223372036854775807) (h3 : ¬ n < 0) (h4 : ¬ 65535 < n) :
    Calls Try.prog 86 #[.int .i64 n, .int .i64 2] w fun e w' => e = .returned (.tuple #[.slice (some ⟨w.heap.size, 0, none⟩) 2 2, .int .i64 0]) ∧ w'.heap[w.heap.size]? = some (.cells (putCs n 2) 5 (0, 0)) ∧ Below w.heap.size w w' := by
  go_enter Try.func86, Try.ntmps86
  have hq : (n / 65536 != 0) = false := by
    have : n / 65536 = 0 := by omega
    rw [this]; rfl
  go_wp2
  go_loopg [7, 31] 2 (fun g x i wr => ∃ k : Nat, k ≤ 2 ∧ g = 2 - k ∧ i = .int .i64 (k : Int) ∧ wr.heap[w.heap.size]? = some (.cells (putCs n k) 5 (0, 0)) ∧ Below w.heap.size w wr)
  case atStart => exact ⟨0, by omega, rfl, rfl, heap_alloc_new w _, (Below.refl _ _).alloc (Nat.le_refl _) _⟩
  case round =>
    obtain ⟨k, hk, hg, rfl, hh, hb⟩ := hrel
    have hc : ∀ j, wr.cell? ⟨w.heap.size, j, none⟩ = (putCs n k)[j]? := fun j => cell_of_row wr _ j _ _ _ hh
    have hf : ∀ j, wr.frozen? ⟨w.heap.size, j, none⟩ = false := fun j => frozen_of_row wr _ j _ _ hh
    rcases (by omega : k = 0 ∨ k = 1 ∨ k = 2) with rfl | rfl | rfl
    · have hc1 : wr.cell? ⟨w.heap.size, 1, none⟩ = some (.int .u8 0) := hc 1
      have hf1 := hf 1
      have H := Lib.hid (And.intro hh hb)
      clear hc hf hh hb
      go_wp2
      go_roundg (2 - (0 + 1))
      case measure => omega
      case rel =>
        refine ⟨1, by omega, rfl, by go_num, ?_, H.out.2.setCell (Nat.le_refl _) _⟩
        exact heap_setCell_same wr _ _ _ _ _ H.out.1
    · have hc1 : wr.cell? ⟨w.heap.size, 0, none⟩ = some (.int .u8 0) := hc 0
      have hf1 := hf 0
      have H := Lib.hid (And.intro hh hb)
      clear hc hf hh hb
      go_wp2
      go_roundg (2 - (1 + 1))
      case measure => omega
      case rel =>
        refine ⟨2, by omega, rfl, by go_num, ?_, H.out.2.setCell (Nat.le_refl _) _⟩
        have e : n / 256 % 256 = n / 256 := by omega
        have := heap_setCell_same wr w.heap.size 0 _ _ (.int .u8 (n / 256 % 256)) H.out.1
        rw [e] at this
        first | exact this | (rw [e]; exact this)
    · have H := Lib.hid (And.intro hh hb)
      clear hc hf hh hb
      go_wp2
      refine bodyPost_ret (v := .tuple #[.slice (some ⟨w.heap.size, 0, none⟩) 2 2, .int .i64 0]) (by simp [results, Try.results86, go_sem]) rfl ⟨rfl, H.out.1, H.out.2⟩
/-- The error. -/
theorem put_big (n : Int) (w : World) (h1 : -9223372036854775808 ≤ n) (h2 : n ≤ 9223372036854775807) (h3 : n < 0 ∨ 65535 < n) :
    Calls Try.prog 86 #[.int .i64 n, .int .i64 2] w fun e w' => e = .returned (.tuple #[.slice none 0 0, .int .i64 2]) ∧ w' = w := by
  go_enter Try.func86, Try.ntmps86
  rcases h3 with h3 | h3
  · go_wp2
    refine bodyPost_ret (v := .tuple #[.slice none 0 0, .int .i64 2]) (by simp [results, Try.results86, go_sem]) rfl ⟨rfl, rfl⟩
  · have h4 : ¬ n < 0 := by omega
    have hq : (n / 65536 != 0) = true := by
      have : n / 65536 ≠ 0 := by omega
      simpa using this
    go_wp2
    refine bodyPost_ret (v := .tuple #[.slice none 0 0, .int .i64 2]) (by simp [results, Try.results86, go_sem]) rfl ⟨rfl, rfl⟩
noncomputable def s_Put (N : Nat) (x0 : Int) (x1 : Int) : Option (List UInt8 × Int) := if x1 = 2 then (if x0 < 0 ∨ 65535 < x0 then some ([], 2) else some ([UInt8.ofNat (x0 / 256).toNat, UInt8.ofNat (x0 % 256).toNat], 0)) else none
theorem p_Put (N : Nat) (x0 x1 : Int) (r0 : List UInt8) (r1 : Int) (h : s_Put N x0 x1 = some (r0, r1)) : PureRet Try.prog T 86 [.v (.int .i64 x0) .no, .v (.int .i64 x1) .no] [.v (.bytes r0) .no, .v (.int .i64 r1) .no] := by
  unfold s_Put at h
  split at h
  · rename_i h2
    subst h2
    intro E g w us hsz hus
    obtain ⟨hl, hr⟩ := hus
    match us, hl with
    | [u, v], _ =>
    have hu := hr 0 _ rfl
    have hv := hr 1 _ rfl
    simp only [List.getD_cons_zero, List.getD_cons_succ] at hu hv
    cases hu with
    | v x a u hu ha =>
    cases hv with
    | v x a v hv ha' =>
    cases hu with
    | int k n hk =>
    cases hv with
    | int k n hk' =>
    have hk0 : (-9223372036854775808 : Int) ≤ x0 ∧ x0 ≤ 9223372036854775807 := hk
    by_cases hx : x0 < 0 ∨ 65535 < x0
    · rw [if_pos hx] at h
      injection h with h; injection h with e1 e2; subst e1; subst e2
      refine (put_big x0 w hk0.1 hk0.2 hx).mono ?_
      rintro e w' ⟨rfl, rfl⟩
      refine ⟨[.slice none 0 0, .int .i64 2], { g with Γ := fun b => if b < w'.heap.size then g.Γ b else .imm }, rfl, fun E' => ⟨rfl, fun k y hk => ?_⟩, ⟨⟨rfl, rfl, rfl, Nat.le_refl _, fun b _ => rfl⟩, fun b hlt => if_pos hlt, fun b hge => by
        show Perm.still (if b < w'.heap.size then g.Γ b else .imm) = true
        rw [if_neg (by omega)]; rfl, rfl, rfl⟩⟩
      rcases k with _ | _ | k
      · simp at hk; subst hk
        exact .v _ _ _ (.bytes [] none 0 0 rfl (Nat.le_refl _) (Nat.zero_le _) (fun k x hx => by simp at hx)) trivial
      · simp at hk; subst hk
        exact .v _ _ _ (.int .i64 2 (by decide)) trivial
      · simp at hk
    · rw [if_neg hx] at h
      injection h with h; injection h with e1 e2; subst e1; subst e2
      refine (put_any x0 w hk0.1 hk0.2 (fun h => hx (.inl h)) (fun h => hx (.inr h))).mono ?_
      rintro e w' ⟨rfl, hh, hb⟩
      have hge : ∀ o, Stable { g with Γ := fun b => if b < w.heap.size then g.Γ b else .imm } w.heap.size o := by
        intro o
        unfold Stable
        show (match (if w.heap.size < w.heap.size then g.Γ w.heap.size else .imm) with | .imm => True | .low n => o < n | .own _ n => o < n | .box _ _ => False)
        rw [if_neg (by omega)]; trivial
      have hn : ∀ z : Int, 0 ≤ z → z < 256 → (Value.int IntKind.u8 z) = .int .u8 ((UInt8.ofNat z.toNat).toNat : Int) := by
        intro z h0 h1
        rw [UInt8.toNat_ofNat', Nat.mod_eq_of_lt (by omega), Int.toNat_of_nonneg h0]
      refine ⟨[.slice (some ⟨w.heap.size, 0, none⟩) 2 2, .int .i64 0], { g with Γ := fun b => if b < w.heap.size then g.Γ b else .imm }, rfl, fun E' => ⟨rfl, fun k y hk => ?_⟩, ⟨⟨hb.os, hb.tape, hb.output, hb.size, hb.block⟩, fun b hlt => if_pos hlt, fun b hge => by
        show Perm.still (if b < w.heap.size then g.Γ b else .imm) = true
        rw [if_neg (by omega)]; rfl, rfl, rfl⟩⟩
      rcases k with _ | _ | k
      · simp at hk; subst hk
        refine .v _ _ _ (.bytes _ _ 2 2 rfl (Nat.le_refl _) (by unfold maxLen; omega) (fun k x hx => ⟨_, _, rfl, hge _, ?_⟩)) trivial
        have hc := cell_of_row w' w.heap.size (0 + k) _ _ _ hh
        rw [hc]
        rcases k with _ | _ | k
        · simp at hx; subst hx
          rw [← hn _ (by omega) (by omega)]; rfl
        · simp at hx; subst hx
          rw [← hn _ (by omega) (by omega)]; rfl
        · simp at hx
      · simp at hk; subst hk
        exact .v _ _ _ (.int .i64 0 (by decide)) trivial
      · simp at hk
  · cases h
end Go.Proofs.Ytllnklkjkjmjbaa.En

/- (*writer).put of package filehead: the walk; as an entry of the engine. -/
namespace Go.Proofs.Ytllnklkjkjmjbaa.En
open Go Go.RowKit
set_option linter.unusedVariables false
/-- append as one step of a region that draws, by what its run gives. -/
theorem step_append_any {P : Program} {ops : Array Oper} {o : Oper} {a : Act} {w : World} {K : Act → World → Prop} {Q : Exit → Act → World → Prop} {E : Prop}
    (hg : o.guard = none) (s x : Operand) (t : TypeId) (hop : o.op = Op.call { callee := Callee.builtin Builtin.append, args := #[s, x], argTypes := #[t, t] })
    (v1 v2 : Value) (hs : a.eval s = v1) (hx : a.eval x = v2) (N : Nat) (R : Nat → Nat → World → Prop)
    (hrun : ∃ G c w', (Builtin.append_ #[t, t] o.type #[v1, v2]).run P w = .ok (.slice (some ⟨G, 0, none⟩) N c) w' ∧ R G c w')
    (hK : ∀ G c w', R G c w' → K (a.put o.dst (.slice (some ⟨G, 0, none⟩) N c)) w') :
    if Region.wanted o (yielded ops a.tmps) = true then Oper.wp P o a w K Q else E := by
  have hw : Region.wanted o (yielded ops a.tmps) = true := by simp [Region.wanted, hg]
  rw [if_pos hw]
  obtain ⟨G, c, w', hrun, hR⟩ := hrun
  unfold Oper.wp
  simp [execOp, hop, resolve, invoke, builtin, hs, hx, hrun, Result.andThen]
  exact hK G c w' hR
/-- The world at the append. -/
structure LitW (w wl : World) : Prop where
  below : Below w.heap.size w wl
  lit : wl.heap[w.heap.size]? = some (.cells #[.int .i64 0, .slice none 0 0, .slice none 0 0] 62 (0, 0))
theorem LitW.of (w : World) : LitW w (w.alloc (.cells #[.int .i64 0, .slice none 0 0, .slice none 0 0] 62)) := ⟨(Below.refl _ _).alloc (Nat.le_refl _) _, heap_alloc_new w _⟩
theorem LitW.drew {w wl : World} (h : LitW w wl) : LitW w wl.drew := ⟨⟨h.below.os, h.below.tape, h.below.output, h.below.size, h.below.block⟩, h.lit⟩
theorem LitW.drew0 {w wl : World} (h : LitW w.drew wl) : LitW w wl := ⟨⟨h.below.os, h.below.tape, h.below.output, h.below.size, h.below.block⟩, h.lit⟩
/-- What the append leaves: the row's last cells. -/
structure AppR (b0 n : Nat) (F : Nat → Nat → World → Prop) (u0 : Value) (G c : Nat) (w' : World) : Prop where
  ne : G ≠ b0
  row : ∃ cur : Array Value, w'.heap[G]? = some (.cells cur 62 (0, 0)) ∧ (n + 1) * 3 ≤ cur.size
  box : w'.heap[b0]? = some (.cells #[u0] 56 (0, 0))
  rest : F G c w'
/-- What the two stores leave. -/
structure PutFin (b0 G n c : Nat) (x0 x1 : Value) (w2 w' : World) : Prop where
  box : w'.heap[b0]? = some (.cells #[.slice (some ⟨G, 0, none⟩) (n + 1) c] 56 (0, 0))
  row : ∃ cur cur' : Array Value, w2.heap[G]? = some (.cells cur 62 (0, 0)) ∧ w'.heap[G]? = some (.cells cur' 62 (0, 0)) ∧ cur'.size = cur.size ∧ (∀ o, o < n * 3 → cur'[o]? = cur[o]?) ∧ cur'[n * 3]? = some x0 ∧ cur'[n * 3 + 1]? = some x1 ∧ cur'[n * 3 + 2]? = some (.slice none 0 0)
  rest : ∀ b, b ≠ b0 → b ≠ G → w'.heap[b]? = w2.heap[b]?
  os : w'.os = w2.os
  tape : w'.tape = w2.tape
  output : w'.output = w2.output
  size : w'.heap.size = w2.heap.size
theorem putFin_cells {b0 G n c : Nat} {x0 x1 u0 : Value} {cur : Array Value} {w2 w' : World} (hsz : (n + 1) * 3 ≤ cur.size) (hcur : w2.heap[G]? = some (.cells cur 62 (0, 0)))
    (h1 : w'.heap[G]? = some (.cells (((cur.setIfInBounds (n * 3) x0).setIfInBounds (n * 3 + 1) x1).setIfInBounds (n * 3 + 2) (.slice none 0 0)) 62 (0, 0)))
    (h2 : w'.heap[b0]? = some (.cells #[.slice (some ⟨G, 0, none⟩) (n + 1) c] 56 (0, 0))) (h3 : ∀ b, b ≠ b0 → b ≠ G → w'.heap[b]? = w2.heap[b]?)
    (h4 : w'.os = w2.os) (h5 : w'.tape = w2.tape) (h6 : w'.output = w2.output) (h7 : w'.heap.size = w2.heap.size) : PutFin b0 G n c x0 x1 w2 w' := by
  refine ⟨h2, ⟨cur, _, hcur, h1, by simp, fun o ho => ?_, ?_, ?_, ?_⟩, h3, h4, h5, h6, h7⟩
  · rw [Array.getElem?_setIfInBounds_ne (by omega), Array.getElem?_setIfInBounds_ne (by omega), Array.getElem?_setIfInBounds_ne (by omega)]
  · rw [Array.getElem?_setIfInBounds_ne (by omega), Array.getElem?_setIfInBounds_ne (by omega), Array.getElem?_setIfInBounds_self_of_lt (by omega)]
  · rw [Array.getElem?_setIfInBounds_ne (by omega), Array.getElem?_setIfInBounds_self_of_lt (by simp; omega)]
  · rw [Array.getElem?_setIfInBounds_self_of_lt (by simp; omega)]
theorem putFin_a {b0 G n c : Nat} {x0 x1 u0 : Value} {cur : Array Value} {w2 : World} (ne : G ≠ b0) (hsz : (n + 1) * 3 ≤ cur.size) (hcur : w2.heap[G]? = some (.cells cur 62 (0, 0))) (hbox : w2.heap[b0]? = some (.cells #[u0] 56 (0, 0))) :
    PutFin b0 G n c x0 x1 w2 ((((w2.setCell ⟨G, n * 3, none⟩ x0).setCell ⟨G, n * 3 + 1, none⟩ x1).setCell ⟨G, n * 3 + 2, none⟩ (.slice none 0 0)).setCell ⟨b0, 0, none⟩ (.slice (some ⟨G, 0, none⟩) (n + 1) c)) := by
  refine putFin_cells (u0 := u0) hsz hcur ?_ ?_ (fun b hb hG => ?_) rfl rfl rfl (by simp [World.setCell])
  · rw [heap_setCell_other _ _ _ _ ne]
    exact heap_setCell_same _ _ _ _ _ _ (heap_setCell_same _ _ _ _ _ _ (heap_setCell_same _ _ _ _ _ _ hcur))
  · refine (heap_setCell_same _ b0 0 #[u0] _ _ ?_)
    rw [heap_setCell_other _ _ _ _ (Ne.symm ne), heap_setCell_other _ _ _ _ (Ne.symm ne), heap_setCell_other _ _ _ _ (Ne.symm ne)]; exact hbox
  · rw [heap_setCell_other _ _ _ _ hb, heap_setCell_other _ _ _ _ hG, heap_setCell_other _ _ _ _ hG, heap_setCell_other _ _ _ _ hG]
theorem putFin_b {b0 G n c : Nat} {x0 x1 u0 : Value} {cur : Array Value} {w2 : World} (ne : G ≠ b0) (hsz : (n + 1) * 3 ≤ cur.size) (hcur : w2.heap[G]? = some (.cells cur 62 (0, 0))) (hbox : w2.heap[b0]? = some (.cells #[u0] 56 (0, 0))) :
    PutFin b0 G n c x0 x1 w2 ((((w2.setCell ⟨b0, 0, none⟩ (.slice (some ⟨G, 0, none⟩) (n + 1) c)).setCell ⟨G, n * 3, none⟩ x0).setCell ⟨G, n * 3 + 1, none⟩ x1).setCell ⟨G, n * 3 + 2, none⟩ (.slice none 0 0)) := by
  refine putFin_cells (u0 := u0) hsz hcur ?_ ?_ (fun b hb hG => ?_) rfl rfl rfl (by simp [World.setCell])
  · exact heap_setCell_same _ _ _ _ _ _ (heap_setCell_same _ _ _ _ _ _ (heap_setCell_same _ _ _ _ _ _ (by rw [heap_setCell_other _ _ _ _ ne]; exact hcur)))
  · rw [heap_setCell_other _ _ _ _ (Ne.symm ne), heap_setCell_other _ _ _ _ (Ne.symm ne), heap_setCell_other _ _ _ _ (Ne.symm ne)]
    exact heap_setCell_same _ b0 0 #[u0] _ _ hbox
  · rw [heap_setCell_other _ _ _ _ hG, heap_setCell_other _ _ _ _ hG, heap_setCell_other _ _ _ _ hG, heap_setCell_other _ _ _ _ hb]
set_option maxHeartbeats 1000000 in
theorem fput_walk (b0 : Nat) (w : World) (S : Option Addr) (n cap : Nat) (tag : Int) (A : Option Addr) (m c : Nat) (h0 : w.heap[b0]? = some (.cells #[.slice S n cap] 56 (0, 0))) (F : Nat → Nat → World → Prop)
    (hrun : ∀ wl, LitW w wl → ∃ G c w', (Builtin.append_ #[54, 54] 54 #[.slice S n cap, .slice (some ⟨w.heap.size, 0, none⟩) 1 1]).run Try.prog wl = .ok (.slice (some ⟨G, 0, none⟩) (n + 1) c) w' ∧ AppR b0 n F (.slice S n cap) G c w') :
    Calls Try.prog 59 #[.pointer (some ⟨b0, 0, none⟩), .int .i64 tag, .slice A m c] w fun e w' => e = .returned (.tuple #[]) ∧ ∃ G c2 w2, AppR b0 n F (.slice S n cap) G c2 w2 ∧ PutFin b0 G n c2 (.int .i64 tag) (.slice A m c) w2 w' := by
  have hc : w.cell? ⟨b0, 0, none⟩ = some (.slice S n cap) := by rw [cell_of_row w b0 0 _ _ _ h0]; rfl
  have hf : w.frozen? ⟨b0, 0, none⟩ = false := frozen_of_row w b0 0 _ _ h0
  have hA : (w.alloc (.cells #[.int .i64 0, .slice none 0 0, .slice none 0 0] 62)).cell? ⟨b0, 0, none⟩ = some (.slice S n cap) := by
    rw [World.cell?_alloc_lt w _ ⟨b0, 0, none⟩ (heap_lt h0)]; exact hc
  have hlt : (n : Int) < (n : Int) + 1 := by omega
  go_enter Try.func59, Try.ntmps59
  go_region_law (
    refine step_append_any rfl (.tmp 9) (.tmp 14) 54 rfl (.slice S n cap) (.slice (some ⟨w.heap.size, 0, none⟩) 1 1) (by simp [Act.eval, Act.put]) (by simp [Act.eval, Act.put]) (n + 1) _ (hrun _ (by first | exact (LitW.of w).drew | exact LitW.drew0 (LitW.of w.drew))) ?_
    intro G c2 w2 hR
    obtain ⟨cur, hcur, hsz⟩ := hR.row
    have k0 : w2.cell? ⟨G, n * 3, none⟩ = some (cur[n * 3]'(by omega)) := by rw [cell_of_row w2 G (n * 3) _ _ _ hcur, Array.getElem?_eq_getElem]
    have k1 : w2.cell? ⟨G, n * 3 + 1, none⟩ = some (cur[n * 3 + 1]'(by omega)) := by rw [cell_of_row w2 G (n * 3 + 1) _ _ _ hcur, Array.getElem?_eq_getElem]
    have k2 : w2.cell? ⟨G, n * 3 + 2, none⟩ = some (cur[n * 3 + 2]'(by omega)) := by rw [cell_of_row w2 G (n * 3 + 2) _ _ _ hcur, Array.getElem?_eq_getElem]
    have f0 : w2.frozen? ⟨G, n * 3, none⟩ = false := frozen_of_row w2 G _ _ _ hcur
    have f1 : w2.frozen? ⟨G, n * 3 + 1, none⟩ = false := frozen_of_row w2 G _ _ _ hcur
    have f2 : w2.frozen? ⟨G, n * 3 + 2, none⟩ = false := frozen_of_row w2 G _ _ _ hcur
    have kb : w2.cell? ⟨b0, 0, none⟩ = some (.slice S n cap) := by rw [cell_of_row w2 b0 0 _ _ _ hR.box]; rfl
    have fb : w2.frozen? ⟨b0, 0, none⟩ = false := frozen_of_row w2 b0 _ _ _ hR.box
    have ne1 := hR.ne
    have ne2 : ¬ b0 = G := fun e => ne1 e.symm)
  all_goals
    go_end0
    exact ⟨rfl, G, c2, w2, hR, by first | exact putFin_a hR.ne hsz hcur hR.box | exact putFin_b hR.ne hsz hcur hR.box⟩
/-! As an entry -/
theorem infoTlv : (Try.prog.info? 62).map (fun i => (i.zero, i.size, i.bytes)) = some (some (.agg #[.int .i64 0, .slice none 0 0, .slice none 0 0]), 3, 56) := by kernel_rfl
theorem szTlv : sizes T 62 = 3 := by kernel_rfl
theorem rowOf_own {g : G} {w : World} {q : APos} {A : Option Addr} {n c : Nat} (hs : g.sz 62 = 3) (h : OwnAt g w q 62 (.slice A n c)) : ∃ xs, w.ownsRow 0 62 3 (.slice A n c) n xs := by
  rcases h with h | ⟨b, n', cap, cur, h1, h2, h3, h4, h5, h6⟩
  · injection h with e1 e2 e3
    subst e1; subst e2; subst e3
    exact ⟨[], rfl, .inl ⟨rfl, rfl⟩⟩
  · injection h1 with e1 e2 e3
    subst e1; subst e2; subst e3
    rw [hs] at h6
    refine ⟨cur.toList.take (n * 3), ?_, .inr ⟨b, c, cur, rfl, Nat.zero_le _, h3, h4, h5, h6, rfl⟩⟩
    have : n * 3 ≤ c * 3 := Nat.mul_le_mul_right 3 h4
    simp; omega
def litV (k : Nat) : Value := if k = 0 then .int .i64 0 else .slice none 0 0
/-- What the append in the middle is. -/
def PutF (g : G) (w : World) (q : APos) (A : Option Addr) (n c : Nat) (us : Nat → Value) (G c' : Nat) (w' : World) : Prop :=
  ∃ wl g', LitW w wl ∧ RowOut (g.at_ w.heap.size .imm) wl g' w' q A.isNone ∧ OwnAt g' w' q 62 (.slice (some ⟨G, 0, none⟩) (n + 1) c') ∧ n + 1 ≤ c' ∧ c' ≤ maxLen ∧
    RowAt g' w' (some ⟨G, 0, none⟩) ((n + 1) * 3) (fun j => if j < n * 3 then us j else litV (j - n * 3)) ∧ ((Value.slice A n c).ownBlock = some G ∨ G = wl.heap.size)
theorem lit_grows {w wl : World} (h : LitW w wl) : Grows w wl := ⟨h.below.os, h.below.tape, h.below.output, h.below.size, h.below.block⟩
theorem put_app {g : G} {w : World} {q : APos} {A : Option Addr} {n c : Nat} {us : Nat → Value} {b0 : Nat} {u0 : Value} (hs : g.sz 62 = 3) (ho : OwnAt g w q 62 (.slice A n c)) (hr : RowAt g w A (n * 3) us) (hb : (n + 1) * 56 ≤ 140737488355328)
    (h0 : w.heap[b0]? = some (.cells #[u0] 56 (0, 0))) (hp : ∀ m, g.Γ b0 ≠ .own q m) (wl : World) (hwl : LitW w wl) :
    ∃ G c' w', (Builtin.append_ #[54, 54] 54 #[.slice A n c, .slice (some ⟨w.heap.size, 0, none⟩) 1 1]).run Try.prog wl = .ok (.slice (some ⟨G, 0, none⟩) (n + 1) c') w' ∧ AppR b0 n (PutF g w q A n c us) u0 G c' w' := by
  obtain ⟨i0, hi0, hz0, hz1, hz2⟩ := info_parts infoTlv
  have hgr := lit_grows hwl
  have hge : w.heap.size ≤ w.heap.size := Nat.le_refl _
  have ho' : OwnAt (g.at_ w.heap.size .imm) wl q 62 (.slice A n c) := own_grow hgr hge _ ho
  have hl' := later_grow (g := g) hgr hge .imm
  have hr' : RowAt (g.at_ w.heap.size .imm) wl A (n * i0.size) us := by
    rw [hz1]
    intro k hk
    obtain ⟨b, off, e, h1, h2⟩ := hr k hk
    obtain ⟨h3, h4⟩ := hl'.st _ _ _ h1 h2
    exact ⟨b, off, e, h3, h4⟩
  have hlit : RowAt (g.at_ w.heap.size .imm) wl (some ⟨w.heap.size, 0, none⟩) (1 * i0.size) litV := by
    rw [hz1]
    intro k hk
    refine ⟨_, _, rfl, ?_, ?_⟩
    · unfold Stable; rw [G.at_eq]; trivial
    · rw [cell_of_row wl _ _ _ _ _ hwl.lit]
      rcases (by omega : k = 0 ∨ k = 1 ∨ k = 2) with rfl | rfl | rfl <;> rfl
  have hone : ∀ k, k < 1 * i0.size → (litV k).oneCell' = true := by
    intro k _; unfold litV; split <;> rfl
  obtain ⟨A2, c2, w', g', hrun, hro, hown, hle, hmx, hrow⟩ := append_core (P := Try.prog) 54 62 54 i0 _ Try.underlying54 hi0 hz0 (by rw [hz1]; rfl) (by rw [hz1]; decide) (by rw [hz1]; exact hs) q q A n c us ho' hr' (some ⟨w.heap.size, 0, none⟩) 1 1 litV hlit hone (by rw [hz2]; exact hb) (by rw [hz2]; decide)
  obtain ⟨xs, hrow0⟩ := rowOf_own (g := g.at_ w.heap.size .imm) hs ho'
  have hN : n + 1 ≤ maxLen := by omega
  obtain ⟨Gb, cap, w2, hrun2, _, _, hG, _⟩ := run_append_lies (P := Try.prog) wl 54 54 0 62 i0 _ 3 56 Try.underlying54 hi0 hz0 hz1 hz2 rfl (by decide) (.slice A n c) n xs hrow0 ⟨w.heap.size, 0, none⟩ 1 1 [.int .i64 0, .slice none 0 0, .slice none 0 0] rfl
    (fun j u hu => by
      have := World.news_of_block hwl.lit j u hu
      exact this) (by intro u hu; simp at hu; rcases hu with rfl | rfl <;> rfl) (by decide) hN hb (Nat.zero_le _) _ rfl
  rw [hrun] at hrun2
  injection hrun2 with e1 e2
  injection e1 with e1 _ e3
  subst e1; subst e2; subst e3
  have hne : Gb ≠ b0 := by
    intro e
    subst e
    obtain ⟨h1, _⟩ := hro.hid Gb (Nat.lt_of_lt_of_le (heap_lt h0) hgr.size) (fun m => by rw [G.at_ne _ _ _ (by have := heap_lt h0; omega)]; exact hp m)
    rcases hown with h2 | ⟨x, n', cap', cur, h2, h3, _⟩
    · cases h2
    · injection h2 with h2
      injection h2 with h2
      injection h2 with h2
      subst h2
      rw [h1, G.at_ne _ _ _ (by have := heap_lt h0; omega)] at h3
      exact hp _ h3
  refine ⟨Gb, c2, w', hrun, hne, ?_, ?_, wl, g', hwl, hro, hown, hle, hmx, by rw [hz1] at hrow; exact hrow, hG⟩
  · rcases hown with h2 | ⟨x, n', cap', cur, h2, h3, h4, h5, h6, h7⟩
    · cases h2
    · injection h2 with h2 h8 h9
      injection h2 with h2
      injection h2 with h2
      subst h2; subst h8; subst h9
      refine ⟨cur, h4, ?_⟩
      have hsz' : g'.sz 62 = 3 := by rw [hro.later.sz]; exact hs
      rw [hsz'] at h7
      have : (n + 1) * 3 ≤ c2 * 3 := Nat.mul_le_mul_right 3 hle
      omega
  · obtain ⟨_, h1⟩ := hro.hid b0 (Nat.lt_of_lt_of_le (heap_lt h0) hgr.size) (fun m => by rw [G.at_ne _ _ _ (by have := heap_lt h0; omega)]; exact hp m)
    rw [h1, hgr.old _ (heap_lt h0)]; exact h0
noncomputable def s_fput (N : Nat) (x0 : Int) (x1 : List UInt8) (y0 : List V) : Option (List V) := if (y0.length + 1) * 56 ≤ 140737488355328 then some (y0 ++ [.agg [.int .i64 x0, .bytes x1, .sl 62 []]]) else none
theorem nil_rep (g : G) (w : World) : RepV g w (.sl 62 []) (.slice none 0 0) :=
  .sl 62 [] none 0 0 (fun _ => undef) rfl (Nat.le_refl _) (Nat.zero_le _) (fun x hx => by simp at hx) (fun k y hy => by simp at hy) (fun k y hy => by simp at hy)
theorem p_fput (N : Nat) (x0 : Int) (x1 : List UInt8) (y0 : List V) (z0 : List V) (h : s_fput N x0 x1 y0 = some z0) :
    ViewRet Try.prog T 59 [.ptr 1 0 0, .v (.int .i64 x0) .no, .v (.bytes x1) .no] [⟨56, [.v (.sl 62 y0) (.own (.slot 0) 62)]⟩] [] [⟨56, [.v (.sl 62 z0) (.own (.slot 0) 62)]⟩] := by
  unfold s_fput at h
  split at h
  case isFalse => cases h
  rename_i hbig
  injection h with h; subst h
  intro ps ds m dst hone hget hlen har E g w us hh hus
  match ps, hlen with
  | [(k, s)], _ =>
  match ds, har with
  | [y, z1, z2], ⟨h1, h2, h3, _⟩ =>
  generalize hy : D.ptr 1 0 0 = y₁ at h1
  cases h1 <;> cases hy
  rename_i k0 s0 hq
  obtain ⟨k', rfl, _, hk'⟩ := hq
  simp at hk'
  obtain ⟨rfl, rfl⟩ := hk'
  generalize hz1 : D.v (.int .i64 x0) .no = z₁ at h2
  cases h2 <;> cases hz1
  generalize hz2 : D.v (.bytes x1) .no = z₂ at h3
  cases h3 <;> cases hz2
  obtain ⟨hl, hr⟩ := hus
  match us, hl with
  | [u, u1, u2], _ =>
  have hu := hr 0 _ rfl
  have hu1 := hr 1 _ rfl
  have hu2 := hr 2 _ rfl
  simp only [List.getD_cons_zero, List.getD_cons_succ] at hu hu1 hu2
  cases hu with
  | ptr k' s' o a1 a2 =>
  have eJ : (inner E m).d - (k + 1) = E.d - k := by show E.d + 1 - (k + 1) = _; omega
  rw [eJ]
  obtain ⟨B, hB, hB'⟩ := hget 0 (k, s) rfl
  simp at hB'
  subst hB'
  simp only at hB
  have hbr := hh.mem k s _ hB
  obtain ⟨cs, b1, b2, b3⟩ := hbr.heap
  have c0 := (b3 0 _ rfl).2.2.2
  obtain ⟨v, rfl⟩ : ∃ v, cs = #[v] := by
    match cs, b2 with
    | ⟨[v]⟩, _ => exact ⟨v, rfl⟩
  have c0' : RepD E g w [] (.v (.sl 62 y0) (.own (.cell k s 0) 62)) v := c0
  clear c0
  cases c0' with
  | v x a v hv ha =>
  rcases ha with ha | ⟨hok, ha⟩
  · cases ha
  have hvv := hv
  cases hv with
  | sl e xs A n c usl hn hc hm hs hcell hrep =>
  cases hu1 with
  | v _ _ _ hv1 _ =>
  cases hv1 with
  | int _ _ hint =>
  cases hu2 with
  | v _ _ _ hv2 _ =>
  have hv2' := hv2
  cases hv2 with
  | bytes _ A2 n2 c2 _ _ _ _ =>
  have hsz : g.sz 62 = 3 := by rw [hh.sz]; exact szTlv
  have ha' : OwnAt g w (.cell (E.d - k) s 0) 62 (.slice A n c) := ha
  have hflat : (y0.flatMap V.cells).length = n * 3 := by
    rw [← hn]
    refine flat_len fun x hx => ?_
    have := hs x hx
    rw [hsz] at this
    unfold okEl at this
    simp only [Bool.and_eq_true, beq_iff_eq] at this
    exact this.1
  have hrow : RowAt g w A (n * 3) usl := by
    intro j hj
    have hj' : j < (y0.flatMap V.cells).length := by omega
    exact hcell j _ (List.getElem?_eq_getElem hj')
  have hp0 : ∀ m', g.Γ (g.J (E.d - k) s) ≠ .own (.cell (E.d - k) s 0) m' := fun m' e => by rw [hbr.perm] at e; cases e
  refine (fput_walk (g.J (E.d - k) s) w A n c x0 A2 n2 c2 b1 (PutF g w (.cell (E.d - k) s 0) A n c usl) fun wl hwl => put_app hsz ha' hrow (by rw [← hn]; exact hbig) b1 hp0 wl hwl).mono ?_
  rintro e w' ⟨rfl, Gb, c', w2, hR, hfin⟩
  obtain ⟨wl, g', hwl, hro, hown, hle, hmx, hrow2, hG⟩ := hR.rest
  have hgr := lit_grows hwl
  have hb0 := heap_lt b1
  have hsz' : g'.sz 62 = 3 := by rw [hro.later.sz]; exact hsz
  have hJ : g'.J = g.J := hro.J
  -- the new row's block
  have hGp : g'.Γ Gb = .own (.cell (E.d - k) s 0) ((n + 1) * 3) := by
    rcases hown with h2 | ⟨x, n', cap', cur, h2, h3, _⟩
    · cases h2
    · injection h2 with h2 h8
      injection h2 with h2
      injection h2 with h2
      subst h2; subst h8
      rw [hsz'] at h3; exact h3
  have hGold : Gb < w.heap.size → g.Γ Gb = .own (.cell (E.d - k) s 0) (n * 3) := by
    intro hlt
    rcases hG with hG | hG
    · rcases ha' with h2 | ⟨x, n', cap', cur, h2, h3, _⟩
      · injection h2 with h2; subst h2; cases hG
      · injection h2 with h2 h8
        subst h2; subst h8
        simp [Value.ownBlock] at hG
        subst hG
        rw [hsz] at h3; exact h3
    · have := hgr.size; omega
  -- blocks that are left alone
  have hkeep : ∀ b, b < w.heap.size → (∀ m', g.Γ b ≠ .own (.cell (E.d - k) s 0) m') → b ≠ g.J (E.d - k) s → g'.Γ b = g.Γ b ∧ w'.heap[b]? = w.heap[b]? := by
    intro b hb hno hne
    have hbG : b ≠ Gb := fun e => by subst e; exact hno _ (hGold hb)
    obtain ⟨h4, h5⟩ := hro.hid b (Nat.lt_of_lt_of_le hb hgr.size) (fun m' => by rw [G.at_ne _ _ _ (by omega)]; exact hno m')
    refine ⟨by rw [h4, G.at_ne _ _ _ (by omega)], ?_⟩
    rw [hfin.rest b hne hbG, h5, hgr.old b hb]
  have hlater : Later g w g' w' := by
    refine ⟨by rw [hro.later.sz]; rfl, fun b o u hst hcl => ?_⟩
    have hlt := cell_lt hcl
    have hne : b ≠ g.J (E.d - k) s := fun e => by subst e; unfold Stable at hst; rw [hbr.perm] at hst; exact hst
    obtain ⟨h4, h5⟩ := (later_grow (g := g) hgr (Nat.le_refl _) .imm).st b o u hst hcl
    obtain ⟨h6, h7⟩ := hro.later.st b o u h4 h5
    refine ⟨h6, ?_⟩
    by_cases hbG : b = Gb
    · subst hbG
      have hst' := hst
      unfold Stable at hst'
      rw [hGold hlt] at hst'
      obtain ⟨cur, cur', r1, r2, _, r4, _⟩ := hfin.row
      rw [cell_of_row w' b o _ _ _ r2, r4 o hst']
      rw [cell_of_row w2 b o _ _ _ r1] at h7
      exact h7
    · rw [cell_of_heap (hfin.rest b hne hbG)]; exact h7
  have hownk : ∀ (p : APos) (e : TypeId) (v : Value), p ≠ .cell (E.d - k) s 0 → OwnAt g w p e v → OwnAt g' w' p e v := by
    intro p e v hp ho
    rcases ho with h0 | ⟨x, n', cap', cur, h2, h3, h4, h5⟩
    · exact .inl h0
    · have hx := heap_lt h4
      obtain ⟨h6, h7⟩ := hkeep x hx (fun m' e => by rw [h3] at e; injection e with e; exact hp e) (fun e => by subst e; rw [hbr.perm] at h3; cases h3)
      refine .inr ⟨x, n', cap', cur, h2, by rw [h6, hlater.sz]; exact h3, by rw [h7]; exact h4, ?_⟩
      rw [hlater.sz]; exact h5
  have hK : Keeps E g w [] E g' w' [.cell k s 0] := by
    refine ⟨hlater, rfl, fun _ _ h => h, fun _ _ _ _ => by rw [hJ], fun p hp => (by cases hp), fun p e v hp hn ho => hownk _ e v ?_ ho⟩
    cases p with
    | slot q => exact fun e => (by cases e)
    | cell k2 s2 i2 =>
      intro e
      have hk2 : k2 ≤ E.d := hp
      have hk1 : k ≤ E.d := hbr.le
      simp only [absP, APos.cell.injEq] at e
      obtain ⟨e1, e2, e3⟩ := e
      subst e2; subst e3
      obtain rfl : k2 = k := by omega
      exact hn (by simp)
  have hown' : OwnAt g' w' (.cell (E.d - k) s 0) 62 (.slice (some ⟨Gb, 0, none⟩) (n + 1) c') := by
    rcases hown with h2 | ⟨x, n', cap', cur, h2, h3, h4, h5, h6, h7⟩
    · cases h2
    · injection h2 with h2 h8 h9
      injection h2 with h2
      injection h2 with h2
      subst h2; subst h8; subst h9
      obtain ⟨cur1, cur', r1, r2, r3, _⟩ := hfin.row
      rw [r1] at h4
      injection h4 with h4
      injection h4 with h4
      subst h4
      exact .inr ⟨Gb, n + 1, c', cur', rfl, h3, r2, h5, h6, by rw [r3]; exact h7⟩
  -- the new list
  have hnew : RepV g' w' (.sl 62 (y0 ++ [.agg [.int .i64 x0, .bytes x1, .sl 62 []]])) (.slice (some ⟨Gb, 0, none⟩) (n + 1) c') := by
    obtain ⟨cur1, cur', r1, r2, r3, r4, r5, r6, r7⟩ := hfin.row
    have hfl : ((y0 ++ [V.agg [.int .i64 x0, .bytes x1, .sl 62 []]]).flatMap V.cells) = y0.flatMap V.cells ++ [.int .i64 x0, .bytes x1, .sl 62 []] := by simp [V.cells]
    have hst : ∀ j, j < (n + 1) * 3 → Stable g' Gb (0 + j) := fun j hj => by unfold Stable; rw [hGp]; simpa using hj
    refine .sl 62 _ (some ⟨Gb, 0, none⟩) (n + 1) c' (fun j => if j < n * 3 then usl j else if j = n * 3 then .int .i64 x0 else if j = n * 3 + 1 then .slice A2 n2 c2 else .slice none 0 0) (by simp [hn]) hle hmx (fun x hx => ?_) (fun j y hy => ?_) (fun j y hy => ?_)
    · rcases List.mem_append.1 hx with hx | hx
      · rw [hlater.sz]; exact hs x hx
      · simp at hx; subst hx; rw [hlater.sz, hsz]; rfl
    · rw [hfl] at hy
      have hj : j < (n + 1) * 3 := by
        have := (List.getElem?_eq_some_iff.1 hy).1
        simp only [List.length_append, List.length_cons, List.length_nil] at this
        omega
      refine ⟨Gb, 0, rfl, hst j hj, ?_⟩
      rw [cell_of_row w' Gb (0 + j) _ _ _ r2, Nat.zero_add]
      by_cases hjn : j < n * 3
      · rw [if_pos hjn, r4 j hjn]
        obtain ⟨b, off, e1, _, h8⟩ := hrow2 j hj
        injection e1 with e1
        injection e1 with e1 e2
        subst e1; subst e2
        rw [cell_of_row w2 Gb (0 + j) _ _ _ r1, Nat.zero_add] at h8
        rw [h8]
        exact congrArg some (if_pos hjn)
      · rw [if_neg hjn]
        rcases (by omega : j = n * 3 ∨ j = n * 3 + 1 ∨ j = n * 3 + 2) with rfl | rfl | rfl
        · rw [if_pos rfl]; exact r5
        · rw [if_neg (by omega), if_pos rfl]; exact r6
        · rw [if_neg (by omega), if_neg (by omega)]; exact r7
    · rw [hfl] at hy
      by_cases hjn : j < n * 3
      · rw [List.getElem?_append_left (by omega)] at hy
        simp only [if_pos hjn]
        exact (hrep j y hy).later hlater
      · rw [List.getElem?_append_right (by omega), hflat] at hy
        simp only [if_neg hjn]
        have hj3 : j - n * 3 < 3 := by
          have := (List.getElem?_eq_some_iff.1 hy).1
          simpa using this
        rcases (by omega : j = n * 3 ∨ j = n * 3 + 1 ∨ j = n * 3 + 2) with rfl | rfl | rfl
        · simp at hy; subst hy
          rw [if_pos rfl]; exact .int .i64 x0 hint
        · rw [show n * 3 + 1 - n * 3 = 1 by omega] at hy
          simp at hy; subst hy
          rw [if_neg (by omega), if_pos rfl]; exact hv2'.later hlater
        · rw [show n * 3 + 2 - n * 3 = 2 by omega] at hy
          simp at hy; subst hy
          rw [if_neg (by omega), if_neg (by omega)]; exact nil_rep g' w'
  have hm0 : (setAll [(k, s)] [⟨56, [.v (.sl 62 (y0 ++ [.agg [.int .i64 x0, .bytes x1, .sl 62 []]])) (.own (.slot 0) 62)]⟩] m) = m.setBox k s ⟨56, [.v (.sl 62 (y0 ++ [.agg [.int .i64 x0, .bytes x1, .sl 62 []]])) (.own (.slot 0) 62)]⟩ := rfl
  have hdomE : memDom (m.setBox k s ⟨56, [.v (.sl 62 (y0 ++ [.agg [.int .i64 x0, .bytes x1, .sl 62 []]])) (.own (.slot 0) 62)]⟩) = memDom m := by
    funext k2 s2
    unfold memDom
    rw [box_set]
    apply propext
    constructor
    · rintro ⟨b, hb⟩
      split at hb
      · rename_i hc2; obtain ⟨rfl, rfl, _⟩ := hc2; exact ⟨_, hB⟩
      · exact ⟨b, hb⟩
    · rintro ⟨b, hb⟩
      split
      · exact ⟨_, rfl⟩
      · exact ⟨b, hb⟩
  have hperm0 : g'.Γ (g.J (E.d - k) s) = .box (E.d - k) s := by
    obtain ⟨h4, _⟩ := hro.hid (g.J (E.d - k) s) (Nat.lt_of_lt_of_le hb0 hgr.size) (fun m' => by rw [G.at_ne _ _ _ (by omega)]; exact hp0 m')
    rw [h4, G.at_ne _ _ _ (by omega)]; exact hbr.perm
  refine ⟨[], g', E, rfl, ⟨hlater, rfl, fun _ _ h => h, fun _ _ _ _ => by rw [hJ], fun s' e v ho => hownk _ e v (fun e => by cases e) ho⟩, ?_, ⟨rfl, fun k y hk => by simp at hk⟩, ?_⟩
  · rw [hm0]
    refine ⟨fun k2 s2 bx hbx => ?_, by rw [hdomE]; exact hh.dom, by rw [hlater.sz]; exact hh.sz, by rw [setBox_length]; exact hh.len⟩
    rw [box_set] at hbx
    split at hbx
    · rename_i hc2
      obtain ⟨rfl, rfl, _⟩ := hc2
      injection hbx with hbx
      subst hbx
      refine ⟨hbr.le, by rw [hJ]; exact hperm0, _, by rw [hJ]; exact hfin.box, rfl, fun i c hc => ?_⟩
      have hi : i = 0 := by have := (List.getElem?_eq_some_iff.1 hc).1; simpa using this
      subst hi
      simp at hc
      subst hc
      exact ⟨rfl, rfl, fun h => (by cases h), .v _ _ _ hnew (.inr ⟨hbr.le, hown'⟩)⟩
    · rename_i hc2
      have hr2 := hh.mem k2 s2 bx hbx
      obtain ⟨us2, d1, d2, d3⟩ := hr2.heap
      have hk1 := hbr.le
      have hk2 := hr2.le
      have hne2 : ¬ (k2 = k ∧ s2 = s) := by
        rintro ⟨rfl, rfl⟩
        refine hc2 ⟨rfl, rfl, ?_⟩
        have := hh.len
        omega
      obtain ⟨e1, e2⟩ := hkeep _ (heap_lt d1) (fun m' e => by rw [hr2.perm] at e; cases e) (fun e => by
        have h8 := hr2.perm
        rw [e, hbr.perm] at h8
        injection h8 with h8 h9
        exact hne2 ⟨by omega, h9.symm⟩)
      refine ⟨hr2.le, by rw [hJ, e1]; exact hr2.perm, us2, by rw [hJ, e2]; exact d1, d2, fun i c hc => ?_⟩
      obtain ⟨f1, f2, f3, f4⟩ := d3 i c hc
      exact ⟨f1, f2, by rw [hJ]; exact f3, loadCell_clear f2 (f4.keep hK) (fun hmem => by simp at hmem; exact hne2 ⟨hmem.1, hmem.2.1⟩)⟩
  · refine ⟨by rw [hfin.os, hro.os, hgr.os], by rw [hfin.tape, hro.tape, hgr.tape], by rw [hfin.output, hro.output, hgr.output], by rw [hfin.size]; exact Nat.le_trans hgr.size hro.size, hlater, fun b hb hi => ?_, fun _ _ _ => by rw [hJ]⟩
    refine hkeep b hb (fun m' e => ?_) (fun e => ?_)
    · rw [e] at hi; rcases hi with hi | ⟨_, hi⟩ <;> cases hi
    · subst e; rw [hbr.perm] at hi; rcases hi with hi | ⟨_, hi⟩ <;> cases hi
end Go.Proofs.Ytllnklkjkjmjbaa.En

/- The hand-made entries of the engine, together. -/

/- Functions of the program in plain Lean, joined to the program by evaluation; printed by a program. -/
namespace Go.Proofs.Ytllnklkjkjmjbaa.En
open Go Go.Proofs
set_option maxRecDepth 100000
set_option linter.unusedVariables false
noncomputable def e_Valid {R : Type} (s : Int → Option (Bool)) (ds : List D) (K : List D → Option R) : Option R :=
  match ds with
  | [.v (.int .i64 x0) .no] => bnd1 (s x0) fun r0 => K [.v (.bool r0) .no]
  | _ => none
noncomputable def r_Valid (rs : List D) (_ : Mem) : Option (Bool) :=
  match rs with
  | [.v (.bool r0) _] => some (r0)
  | _ => none
noncomputable def s_Valid (N : Nat) (x0 : Int) : Option (Bool) := br (decide (x0 < 256)) (br (decide (0 < x0)) (some !decide (bitsI BinOp.and IntKind.i64 x0 31 = 31)) (some false)) (br (decide (shrI IntKind.i64 x0 8 ≤ 255)) (br (decide (bitsI BinOp.and IntKind.i64 (shrI IntKind.i64 x0 8) 31 = 31)) (br (decide (31 ≤ bitsI BinOp.and IntKind.i64 x0 255)) (some (decide (bitsI BinOp.and IntKind.i64 x0 255 ≤ 127))) (some false)) (some false)) (some false))
noncomputable def cx_Valid (N : Nat) : Cx := { T := T, isPure := tabP [], pureK := fun g ds K => tabK [] g ds K, memK := fun g dst ds m K => tabMK [] g dst ds m K, meth := tabM [], keep := fun _ => [], keepX := fun _ => [], loopT := fun _ _ _ _ => none, jumps := 9 }
theorem s_Valid_ok (N : Nat) (x0 : Int) : bodyK (cx_Valid N) Try.f90 [.v (.int .i64 x0) .no] [] r_Valid = s_Valid N x0 := by
  kernel_rfl
theorem go_Valid : Goes Try.prog 90 := goes_of Try.func90 (by kernel_rfl) (c := bodyOf Try.f90) (by kernel_rfl)
theorem eo_Valid (s : Int → Option (Bool)) (hs : ∀ (x0 : Int) (r0 : Bool), s x0 = some r0 → PureRet Try.prog T 90 [.v (.int .i64 x0) .no] [.v (.bool r0) .no]) : EntOK Try.prog T ⟨90, e_Valid s⟩ := by
  refine ⟨go_Valid, fun R ds K r h => ?_, fun R ds K => ?_⟩
  · simp only [e_Valid] at h
    split at h
    · obtain ⟨r0, h1, h2⟩ := bnd1_some h
      exact ⟨_, h2, hs _ _ h1⟩
    · cases h
  · simp only [e_Valid]
    split
    · rw [bnd1_b]; rfl
    · rfl
theorem co_Valid (N : Nat) : CxOK Try.prog (cx_Valid N) :=
  cxOK_of2 (es := []) (me := []) (ms := []) T_ok trivial trivial trivial rfl (fun _ _ _ _ => rfl) (fun _ _ _ _ _ _ => rfl) rfl
theorem lo_Valid (N : Nat) : LoopsOK (cx_Valid N) Try.f90.ntmps (bodyOf Try.f90) :=
  loopsOK_of (k := 0) (by kernel_rfl) trivial
theorem p_Valid (N : Nat) (x0 : Int) (r0 : Bool) (h : s_Valid N x0 = some r0) : PureRet Try.prog T 90 [.v (.int .i64 x0) .no] [.v (.bool r0) .no] :=
  pure_of (cx := cx_Valid N) (by kernel_rfl) (co_Valid N) Try.func90 (by kernel_rfl) (by kernel_rfl) (lo_Valid N) rfl rfl rfl (rf := r_Valid) ((s_Valid_ok N x0).trans h) (fun rs' m h => by
    unfold r_Valid at h
    split at h
    · cases h; exact ⟨rfl, rfl⟩
    · cases h)
noncomputable def e_rValid {R : Type} (s : Int → Option (Bool)) (ds : List D) (K : List D → Option R) : Option R :=
  match ds with
  | [.v (.int .i64 x0) .no] => bnd1 (s x0) fun r0 => K [.v (.bool r0) .no]
  | _ => none
noncomputable def r_rValid (rs : List D) (_ : Mem) : Option (Bool) :=
  match rs with
  | [.v (.bool r0) _] => some (r0)
  | _ => none
noncomputable def s_rValid (N : Nat) (x0 : Int) : Option (Bool) := br (decide (1 ≤ x0)) (br (decide (x0 ≤ 255)) (some !decide (x0.tmod 32 = 31)) (br (decide (256 ≤ x0)) (br (decide (x0 ≤ 65535)) (br (decide ((IntKind.i64.wrap (x0.tdiv 256)).tmod 32 = 31)) (br (decide (31 ≤ x0.tmod 256)) (some (decide (x0.tmod 256 ≤ 127))) (some false)) (some false)) (some false)) (some false))) (br (decide (256 ≤ x0)) (br (decide (x0 ≤ 65535)) (br (decide ((IntKind.i64.wrap (x0.tdiv 256)).tmod 32 = 31)) (br (decide (31 ≤ x0.tmod 256)) (some (decide (x0.tmod 256 ≤ 127))) (some false)) (some false)) (some false)) (some false))
noncomputable def cx_rValid (N : Nat) : Cx := { T := T, isPure := tabP [], pureK := fun g ds K => tabK [] g ds K, memK := fun g dst ds m K => tabMK [] g dst ds m K, meth := tabM [], keep := fun _ => [], keepX := fun _ => [], loopT := fun _ _ _ _ => none, jumps := 9 }
theorem s_rValid_ok (N : Nat) (x0 : Int) : bodyK (cx_rValid N) Try.f112 [.v (.int .i64 x0) .no] [] r_rValid = s_rValid N x0 := by
  kernel_rfl
theorem go_rValid : Goes Try.prog 112 := goes_of Try.func112 (by kernel_rfl) (c := bodyOf Try.f112) (by kernel_rfl)
theorem eo_rValid (s : Int → Option (Bool)) (hs : ∀ (x0 : Int) (r0 : Bool), s x0 = some r0 → PureRet Try.prog T 112 [.v (.int .i64 x0) .no] [.v (.bool r0) .no]) : EntOK Try.prog T ⟨112, e_rValid s⟩ := by
  refine ⟨go_rValid, fun R ds K r h => ?_, fun R ds K => ?_⟩
  · simp only [e_rValid] at h
    split at h
    · obtain ⟨r0, h1, h2⟩ := bnd1_some h
      exact ⟨_, h2, hs _ _ h1⟩
    · cases h
  · simp only [e_rValid]
    split
    · rw [bnd1_b]; rfl
    · rfl
theorem co_rValid (N : Nat) : CxOK Try.prog (cx_rValid N) :=
  cxOK_of2 (es := []) (me := []) (ms := []) T_ok trivial trivial trivial rfl (fun _ _ _ _ => rfl) (fun _ _ _ _ _ _ => rfl) rfl
theorem lo_rValid (N : Nat) : LoopsOK (cx_rValid N) Try.f112.ntmps (bodyOf Try.f112) :=
  loopsOK_of (k := 0) (by kernel_rfl) trivial
theorem p_rValid (N : Nat) (x0 : Int) (r0 : Bool) (h : s_rValid N x0 = some r0) : PureRet Try.prog T 112 [.v (.int .i64 x0) .no] [.v (.bool r0) .no] :=
  pure_of (cx := cx_rValid N) (by kernel_rfl) (co_rValid N) Try.func112 (by kernel_rfl) (by kernel_rfl) (lo_rValid N) rfl rfl rfl (rf := r_rValid) ((s_rValid_ok N x0).trans h) (fun rs' m h => by
    unfold r_rValid at h
    split at h
    · cases h; exact ⟨rfl, rfl⟩
    · cases h)
noncomputable def e_Constructed {R : Type} (s : Int → Option (Bool)) (ds : List D) (K : List D → Option R) : Option R :=
  match ds with
  | [.v (.int .i64 x0) .no] => bnd1 (s x0) fun r0 => K [.v (.bool r0) .no]
  | _ => none
noncomputable def r_Constructed (rs : List D) (_ : Mem) : Option (Bool) :=
  match rs with
  | [.v (.bool r0) _] => some (r0)
  | _ => none
noncomputable def s_Constructed (N : Nat) (x0 : Int) : Option (Bool) := br (decide (255 < x0)) (bnd1 (s_Valid N x0) fun b0 => br b0 (some !decide (bitsI BinOp.and IntKind.i64 (shrI IntKind.i64 x0 8) 32 = 0)) (some false)) (bnd1 (s_Valid N x0) fun b1 => br b1 (some !decide (bitsI BinOp.and IntKind.i64 x0 32 = 0)) (some false))
noncomputable def cx_Constructed (N : Nat) : Cx := { T := T, isPure := tabP [⟨90, e_Valid (s_Valid N)⟩], pureK := fun g ds K => tabK [⟨90, e_Valid (s_Valid N)⟩] g ds K, memK := fun g dst ds m K => tabMK [] g dst ds m K, meth := tabM [], keep := fun _ => [], keepX := fun _ => [], loopT := fun _ _ _ _ => none, jumps := 9 }
theorem s_Constructed_ok (N : Nat) (x0 : Int) : bodyK (cx_Constructed N) Try.f91 [.v (.int .i64 x0) .no] [] r_Constructed = s_Constructed N x0 := by
  kernel_rfl
theorem go_Constructed : Goes Try.prog 91 := goes_of Try.func91 (by kernel_rfl) (c := bodyOf Try.f91) (by kernel_rfl)
theorem eo_Constructed (s : Int → Option (Bool)) (hs : ∀ (x0 : Int) (r0 : Bool), s x0 = some r0 → PureRet Try.prog T 91 [.v (.int .i64 x0) .no] [.v (.bool r0) .no]) : EntOK Try.prog T ⟨91, e_Constructed s⟩ := by
  refine ⟨go_Constructed, fun R ds K r h => ?_, fun R ds K => ?_⟩
  · simp only [e_Constructed] at h
    split at h
    · obtain ⟨r0, h1, h2⟩ := bnd1_some h
      exact ⟨_, h2, hs _ _ h1⟩
    · cases h
  · simp only [e_Constructed]
    split
    · rw [bnd1_b]; rfl
    · rfl
theorem co_Constructed (N : Nat) : CxOK Try.prog (cx_Constructed N) :=
  cxOK_of2 (es := [⟨90, e_Valid (s_Valid N)⟩]) (me := []) (ms := []) T_ok ⟨eo_Valid _ (p_Valid N), trivial⟩ trivial trivial rfl (fun _ _ _ _ => rfl) (fun _ _ _ _ _ _ => rfl) rfl
theorem lo_Constructed (N : Nat) : LoopsOK (cx_Constructed N) Try.f91.ntmps (bodyOf Try.f91) :=
  loopsOK_of (k := 0) (by kernel_rfl) trivial
theorem p_Constructed (N : Nat) (x0 : Int) (r0 : Bool) (h : s_Constructed N x0 = some r0) : PureRet Try.prog T 91 [.v (.int .i64 x0) .no] [.v (.bool r0) .no] :=
  pure_of (cx := cx_Constructed N) (by kernel_rfl) (co_Constructed N) Try.func91 (by kernel_rfl) (by kernel_rfl) (lo_Constructed N) rfl rfl rfl (rf := r_Constructed) ((s_Constructed_ok N x0).trans h) (fun rs' m h => by
    unfold r_Constructed at h
    split at h
    · cases h; exact ⟨rfl, rfl⟩
    · cases h)
noncomputable def e_tag {R : Type} (s : List UInt8 → Option (Int × List UInt8 × Int)) (ds : List D) (K : List D → Option R) : Option R :=
  match ds with
  | [.v (.bytes x0) .no] => bnd3 (s x0) fun r0 r1 r2 => K [.v (.int .i64 r0) .no, .v (.bytes r1) .no, .v (.int .i64 r2) .no]
  | _ => none
noncomputable def r_tag (rs : List D) (_ : Mem) : Option (Int × List UInt8 × Int) :=
  match rs with
  | [.v (.int .i64 r0) _, .v (.bytes r1) _, .v (.int .i64 r2) _] => some (r0, r1, r2)
  | _ => none
noncomputable def s_tag (N : Nat) (x0 : List UInt8) : Option (Int × List UInt8 × Int) := br (decide (0 < (↑x0.length : Int))) (at? x0 0 fun u0 => br (decide (IntKind.i64.wrap (↑u0.toNat : Int) = 0)) (some (0, [], 4)) (br (!decide (bitsI BinOp.and IntKind.i64 (IntKind.i64.wrap (↑u0.toNat : Int)) 31 = 31)) (br (decide (1 ≤ (↑x0.length : Int))) (some (IntKind.i64.wrap (↑u0.toNat : Int), List.drop 1 x0, 0)) none) (br (decide ((↑x0.length : Int) < 2)) (some (0, [], 5)) (br (decide (1 < (↑x0.length : Int))) (at? x0 1 fun u1 => bnd1 (s_Valid N (bitsI BinOp.or IntKind.i64 (shlI IntKind.i64 (IntKind.i64.wrap (↑u0.toNat : Int)) 8) (IntKind.i64.wrap (↑u1.toNat : Int)))) fun b2 => br (!b2) (some (0, [], 4)) (br (decide (2 ≤ (↑x0.length : Int))) (some (bitsI BinOp.or IntKind.i64 (shlI IntKind.i64 (IntKind.i64.wrap (↑u0.toNat : Int)) 8) (IntKind.i64.wrap (↑u1.toNat : Int)), List.drop 2 x0, 0)) none)) none)))) none
noncomputable def cx_tag (N : Nat) : Cx := { T := T, isPure := tabP [⟨90, e_Valid (s_Valid N)⟩], pureK := fun g ds K => tabK [⟨90, e_Valid (s_Valid N)⟩] g ds K, memK := fun g dst ds m K => tabMK [] g dst ds m K, meth := tabM [], keep := fun _ => [], keepX := fun _ => [], loopT := fun _ _ _ _ => none, jumps := 9 }
theorem s_tag_ok (N : Nat) (x0 : List UInt8) : bodyK (cx_tag N) Try.f101 [.v (.bytes x0) .no] [] r_tag = s_tag N x0 := by
  kernel_rfl
theorem go_tag : Goes Try.prog 101 := goes_of Try.func101 (by kernel_rfl) (c := bodyOf Try.f101) (by kernel_rfl)
theorem eo_tag (s : List UInt8 → Option (Int × List UInt8 × Int)) (hs : ∀ (x0 : List UInt8) (r0 : Int) (r1 : List UInt8) (r2 : Int), s x0 = some (r0, r1, r2) → PureRet Try.prog T 101 [.v (.bytes x0) .no] [.v (.int .i64 r0) .no, .v (.bytes r1) .no, .v (.int .i64 r2) .no]) : EntOK Try.prog T ⟨101, e_tag s⟩ := by
  refine ⟨go_tag, fun R ds K r h => ?_, fun R ds K => ?_⟩
  · simp only [e_tag] at h
    split at h
    · obtain ⟨r0, r1, r2, h1, h2⟩ := bnd3_some h
      exact ⟨_, h2, hs _ _ _ _ h1⟩
    · cases h
  · simp only [e_tag]
    split
    · rw [bnd3_b]; rfl
    · rfl
theorem co_tag (N : Nat) : CxOK Try.prog (cx_tag N) :=
  cxOK_of2 (es := [⟨90, e_Valid (s_Valid N)⟩]) (me := []) (ms := []) T_ok ⟨eo_Valid _ (p_Valid N), trivial⟩ trivial trivial rfl (fun _ _ _ _ => rfl) (fun _ _ _ _ _ _ => rfl) rfl
theorem lo_tag (N : Nat) : LoopsOK (cx_tag N) Try.f101.ntmps (bodyOf Try.f101) :=
  loopsOK_of (k := 0) (by kernel_rfl) trivial
theorem p_tag (N : Nat) (x0 : List UInt8) (r0 : Int) (r1 : List UInt8) (r2 : Int) (h : s_tag N x0 = some (r0, r1, r2)) : PureRet Try.prog T 101 [.v (.bytes x0) .no] [.v (.int .i64 r0) .no, .v (.bytes r1) .no, .v (.int .i64 r2) .no] :=
  pure_of (cx := cx_tag N) (by kernel_rfl) (co_tag N) Try.func101 (by kernel_rfl) (by kernel_rfl) (lo_tag N) rfl rfl rfl (rf := r_tag) ((s_tag_ok N x0).trans h) (fun rs' m h => by
    unfold r_tag at h
    split at h
    · cases h; exact ⟨rfl, rfl⟩
    · cases h)
noncomputable def e_length {R : Type} (s : List UInt8 → Option (Int × List UInt8 × Int)) (ds : List D) (K : List D → Option R) : Option R :=
  match ds with
  | [.v (.bytes x0) .no] => bnd3 (s x0) fun r0 r1 r2 => K [.v (.int .i64 r0) .no, .v (.bytes r1) .no, .v (.int .i64 r2) .no]
  | _ => none
noncomputable def r_length (rs : List D) (_ : Mem) : Option (Int × List UInt8 × Int) :=
  match rs with
  | [.v (.int .i64 r0) _, .v (.bytes r1) _, .v (.int .i64 r2) _] => some (r0, r1, r2)
  | _ => none
noncomputable def s_length (N : Nat) (x0 : List UInt8) : Option (Int × List UInt8 × Int) := br (decide ((↑x0.length : Int) = 0)) (some (0, [], 5)) (br (decide (0 < (↑x0.length : Int))) (at? x0 0 fun u0 => br (decide (1 ≤ (↑x0.length : Int))) (br (decide (IntKind.i64.wrap (↑u0.toNat : Int) < 128)) (some (IntKind.i64.wrap (↑u0.toNat : Int), List.drop 1 x0, 0)) (br (decide (IntKind.i64.wrap (↑u0.toNat : Int) = 129)) (br (decide ((↑(List.drop 1 x0).length : Int) < 1)) (some (0, [], 5)) (br (decide (0 < (↑(List.drop 1 x0).length : Int))) (at? (List.drop 1 x0) 0 fun u1 => br (decide (1 ≤ (↑(List.drop 1 x0).length : Int))) (br (decide (bitsI BinOp.or IntKind.i64 0 (IntKind.i64.wrap (↑u1.toNat : Int)) < 128)) (some (0, [], 4)) (some (bitsI BinOp.or IntKind.i64 0 (IntKind.i64.wrap (↑u1.toNat : Int)), List.drop 1 (List.drop 1 x0), 0))) none) none)) (br (decide (IntKind.i64.wrap (↑u0.toNat : Int) = 130)) (br (decide ((↑(List.drop 1 x0).length : Int) < 2)) (some (0, [], 5)) (br (decide (0 < (↑(List.drop 1 x0).length : Int))) (at? (List.drop 1 x0) 0 fun u2 => br (decide (1 ≤ (↑(List.drop 1 x0).length : Int))) (br (decide (0 < (↑(List.drop 1 (List.drop 1 x0)).length : Int))) (at? (List.drop 1 (List.drop 1 x0)) 0 fun u3 => br (decide (1 ≤ (↑(List.drop 1 (List.drop 1 x0)).length : Int))) (br (decide (bitsI BinOp.or IntKind.i64 (shlI IntKind.i64 (bitsI BinOp.or IntKind.i64 0 (IntKind.i64.wrap (↑u2.toNat : Int))) 8) (IntKind.i64.wrap (↑u3.toNat : Int)) < 256)) (some (0, [], 4)) (some (bitsI BinOp.or IntKind.i64 (shlI IntKind.i64 (bitsI BinOp.or IntKind.i64 0 (IntKind.i64.wrap (↑u2.toNat : Int))) 8) (IntKind.i64.wrap (↑u3.toNat : Int)), List.drop 1 (List.drop 1 (List.drop 1 x0)), 0))) none) none) none) none)) (some (0, [], 4))))) none) none)
noncomputable def cx_length (N : Nat) : Cx := { T := T, isPure := tabP [], pureK := fun g ds K => tabK [] g ds K, memK := fun g dst ds m K => tabMK [] g dst ds m K, meth := tabM [], keep := fun _ => [], keepX := fun _ => [], loopT := fun _ _ _ _ => none, jumps := 9 }
theorem s_length_ok (N : Nat) (x0 : List UInt8) : bodyK (cx_length N) Try.f102 [.v (.bytes x0) .no] [] r_length = s_length N x0 := by
  kernel_rfl
theorem go_length : Goes Try.prog 102 := goes_of Try.func102 (by kernel_rfl) (c := bodyOf Try.f102) (by kernel_rfl)
theorem eo_length (s : List UInt8 → Option (Int × List UInt8 × Int)) (hs : ∀ (x0 : List UInt8) (r0 : Int) (r1 : List UInt8) (r2 : Int), s x0 = some (r0, r1, r2) → PureRet Try.prog T 102 [.v (.bytes x0) .no] [.v (.int .i64 r0) .no, .v (.bytes r1) .no, .v (.int .i64 r2) .no]) : EntOK Try.prog T ⟨102, e_length s⟩ := by
  refine ⟨go_length, fun R ds K r h => ?_, fun R ds K => ?_⟩
  · simp only [e_length] at h
    split at h
    · obtain ⟨r0, r1, r2, h1, h2⟩ := bnd3_some h
      exact ⟨_, h2, hs _ _ _ _ h1⟩
    · cases h
  · simp only [e_length]
    split
    · rw [bnd3_b]; rfl
    · rfl
theorem co_length (N : Nat) : CxOK Try.prog (cx_length N) :=
  cxOK_of2 (es := []) (me := []) (ms := []) T_ok trivial trivial trivial rfl (fun _ _ _ _ => rfl) (fun _ _ _ _ _ _ => rfl) rfl
theorem lo_length (N : Nat) : LoopsOK (cx_length N) Try.f102.ntmps (bodyOf Try.f102) :=
  loopsOK_of (k := 0) (by kernel_rfl) trivial
theorem p_length (N : Nat) (x0 : List UInt8) (r0 : Int) (r1 : List UInt8) (r2 : Int) (h : s_length N x0 = some (r0, r1, r2)) : PureRet Try.prog T 102 [.v (.bytes x0) .no] [.v (.int .i64 r0) .no, .v (.bytes r1) .no, .v (.int .i64 r2) .no] :=
  pure_of (cx := cx_length N) (by kernel_rfl) (co_length N) Try.func102 (by kernel_rfl) (by kernel_rfl) (lo_length N) rfl rfl rfl (rf := r_length) ((s_length_ok N x0).trans h) (fun rs' m h => by
    unfold r_length at h
    split at h
    · cases h; exact ⟨rfl, rfl⟩
    · cases h)
noncomputable def e_tagBytes {R : Type} (s : Int → Option (List UInt8)) (ds : List D) (K : List D → Option R) : Option R :=
  match ds with
  | [.v (.int .i64 x0) .no] => bnd1 (s x0) fun r0 => K [.v (.bytes r0) .no]
  | _ => none
noncomputable def r_tagBytes (rs : List D) (_ : Mem) : Option (List UInt8) :=
  match rs with
  | [.v (.bytes r0) _] => some (r0)
  | _ => none
noncomputable def s_tagBytes (N : Nat) (x0 : Int) : Option (List UInt8) := br (decide (255 < x0)) (some [UInt8.ofNat (IntKind.u8.wrap (shrI IntKind.i64 x0 8)).toNat, UInt8.ofNat (IntKind.u8.wrap x0).toNat]) (some [UInt8.ofNat (IntKind.u8.wrap x0).toNat])
noncomputable def cx_tagBytes (N : Nat) : Cx := { T := T, isPure := tabP [], pureK := fun g ds K => tabK [] g ds K, memK := fun g dst ds m K => tabMK [] g dst ds m K, meth := tabM [], keep := fun _ => [], keepX := fun _ => [], loopT := fun _ _ _ _ => none, jumps := 9 }
theorem s_tagBytes_ok (N : Nat) (x0 : Int) : bodyK (cx_tagBytes N) Try.f92 [.v (.int .i64 x0) .no] [] r_tagBytes = s_tagBytes N x0 := by
  kernel_rfl
theorem go_tagBytes : Goes Try.prog 92 := goes_of Try.func92 (by kernel_rfl) (c := bodyOf Try.f92) (by kernel_rfl)
theorem eo_tagBytes (s : Int → Option (List UInt8)) (hs : ∀ (x0 : Int) (r0 : List UInt8), s x0 = some r0 → PureRet Try.prog T 92 [.v (.int .i64 x0) .no] [.v (.bytes r0) .no]) : EntOK Try.prog T ⟨92, e_tagBytes s⟩ := by
  refine ⟨go_tagBytes, fun R ds K r h => ?_, fun R ds K => ?_⟩
  · simp only [e_tagBytes] at h
    split at h
    · obtain ⟨r0, h1, h2⟩ := bnd1_some h
      exact ⟨_, h2, hs _ _ h1⟩
    · cases h
  · simp only [e_tagBytes]
    split
    · rw [bnd1_b]; rfl
    · rfl
theorem co_tagBytes (N : Nat) : CxOK Try.prog (cx_tagBytes N) :=
  cxOK_of2 (es := []) (me := []) (ms := []) T_ok trivial trivial trivial rfl (fun _ _ _ _ => rfl) (fun _ _ _ _ _ _ => rfl) rfl
theorem lo_tagBytes (N : Nat) : LoopsOK (cx_tagBytes N) Try.f92.ntmps (bodyOf Try.f92) :=
  loopsOK_of (k := 0) (by kernel_rfl) trivial
theorem p_tagBytes (N : Nat) (x0 : Int) (r0 : List UInt8) (h : s_tagBytes N x0 = some r0) : PureRet Try.prog T 92 [.v (.int .i64 x0) .no] [.v (.bytes r0) .no] :=
  pure_of (cx := cx_tagBytes N) (by kernel_rfl) (co_tagBytes N) Try.func92 (by kernel_rfl) (by kernel_rfl) (lo_tagBytes N) rfl rfl rfl (rf := r_tagBytes) ((s_tagBytes_ok N x0).trans h) (fun rs' m h => by
    unfold r_tagBytes at h
    split at h
    · cases h; exact ⟨rfl, rfl⟩
    · cases h)
noncomputable def e_lengthBytes {R : Type} (s : Int → Option (List UInt8)) (ds : List D) (K : List D → Option R) : Option R :=
  match ds with
  | [.v (.int .i64 x0) .no] => bnd1 (s x0) fun r0 => K [.v (.bytes r0) .no]
  | _ => none
noncomputable def r_lengthBytes (rs : List D) (_ : Mem) : Option (List UInt8) :=
  match rs with
  | [.v (.bytes r0) _] => some (r0)
  | _ => none
noncomputable def s_lengthBytes (N : Nat) (x0 : Int) : Option (List UInt8) := br (decide (x0 < 128)) (some [UInt8.ofNat (IntKind.u8.wrap x0).toNat]) (br (decide (x0 < 256)) (some [UInt8.ofNat (Int.toNat 129), UInt8.ofNat (IntKind.u8.wrap x0).toNat]) (some [UInt8.ofNat (Int.toNat 130), UInt8.ofNat (IntKind.u8.wrap (shrI IntKind.i64 x0 8)).toNat, UInt8.ofNat (IntKind.u8.wrap x0).toNat]))
noncomputable def cx_lengthBytes (N : Nat) : Cx := { T := T, isPure := tabP [], pureK := fun g ds K => tabK [] g ds K, memK := fun g dst ds m K => tabMK [] g dst ds m K, meth := tabM [], keep := fun _ => [], keepX := fun _ => [], loopT := fun _ _ _ _ => none, jumps := 9 }
theorem s_lengthBytes_ok (N : Nat) (x0 : Int) : bodyK (cx_lengthBytes N) Try.f93 [.v (.int .i64 x0) .no] [] r_lengthBytes = s_lengthBytes N x0 := by
  kernel_rfl
theorem go_lengthBytes : Goes Try.prog 93 := goes_of Try.func93 (by kernel_rfl) (c := bodyOf Try.f93) (by kernel_rfl)
theorem eo_lengthBytes (s : Int → Option (List UInt8)) (hs : ∀ (x0 : Int) (r0 : List UInt8), s x0 = some r0 → PureRet Try.prog T 93 [.v (.int .i64 x0) .no] [.v (.bytes r0) .no]) : EntOK Try.prog T ⟨93, e_lengthBytes s⟩ := by
  refine ⟨go_lengthBytes, fun R ds K r h => ?_, fun R ds K => ?_⟩
  · simp only [e_lengthBytes] at h
    split at h
    · obtain ⟨r0, h1, h2⟩ := bnd1_some h
      exact ⟨_, h2, hs _ _ h1⟩
    · cases h
  · simp only [e_lengthBytes]
    split
    · rw [bnd1_b]; rfl
    · rfl
theorem co_lengthBytes (N : Nat) : CxOK Try.prog (cx_lengthBytes N) :=
  cxOK_of2 (es := []) (me := []) (ms := []) T_ok trivial trivial trivial rfl (fun _ _ _ _ => rfl) (fun _ _ _ _ _ _ => rfl) rfl
theorem lo_lengthBytes (N : Nat) : LoopsOK (cx_lengthBytes N) Try.f93.ntmps (bodyOf Try.f93) :=
  loopsOK_of (k := 0) (by kernel_rfl) trivial
theorem p_lengthBytes (N : Nat) (x0 : Int) (r0 : List UInt8) (h : s_lengthBytes N x0 = some r0) : PureRet Try.prog T 93 [.v (.int .i64 x0) .no] [.v (.bytes r0) .no] :=
  pure_of (cx := cx_lengthBytes N) (by kernel_rfl) (co_lengthBytes N) Try.func93 (by kernel_rfl) (by kernel_rfl) (lo_lengthBytes N) rfl rfl rfl (rf := r_lengthBytes) ((s_lengthBytes_ok N x0).trans h) (fun rs' m h => by
    unfold r_lengthBytes at h
    split at h
    · cases h; exact ⟨rfl, rfl⟩
    · cases h)
noncomputable def e_rfirst {R : Type} (s : Int → Option (Int)) (ds : List D) (K : List D → Option R) : Option R :=
  match ds with
  | [.v (.int .i64 x0) .no] => bnd1 (s x0) fun r0 => K [.v (.int .i64 r0) .no]
  | _ => none
noncomputable def r_rfirst (rs : List D) (_ : Mem) : Option (Int) :=
  match rs with
  | [.v (.int .i64 r0) _] => some (r0)
  | _ => none
noncomputable def s_rfirst (N : Nat) (x0 : Int) : Option (Int) := br (decide (255 < x0)) (some (IntKind.i64.wrap (x0.tdiv 256))) (some x0)
noncomputable def cx_rfirst (N : Nat) : Cx := { T := T, isPure := tabP [], pureK := fun g ds K => tabK [] g ds K, memK := fun g dst ds m K => tabMK [] g dst ds m K, meth := tabM [], keep := fun _ => [], keepX := fun _ => [], loopT := fun _ _ _ _ => none, jumps := 9 }
theorem s_rfirst_ok (N : Nat) (x0 : Int) : bodyK (cx_rfirst N) Try.f113 [.v (.int .i64 x0) .no] [] r_rfirst = s_rfirst N x0 := by
  kernel_rfl
theorem go_rfirst : Goes Try.prog 113 := goes_of Try.func113 (by kernel_rfl) (c := bodyOf Try.f113) (by kernel_rfl)
theorem eo_rfirst (s : Int → Option (Int)) (hs : ∀ (x0 : Int) (r0 : Int), s x0 = some r0 → PureRet Try.prog T 113 [.v (.int .i64 x0) .no] [.v (.int .i64 r0) .no]) : EntOK Try.prog T ⟨113, e_rfirst s⟩ := by
  refine ⟨go_rfirst, fun R ds K r h => ?_, fun R ds K => ?_⟩
  · simp only [e_rfirst] at h
    split at h
    · obtain ⟨r0, h1, h2⟩ := bnd1_some h
      exact ⟨_, h2, hs _ _ h1⟩
    · cases h
  · simp only [e_rfirst]
    split
    · rw [bnd1_b]; rfl
    · rfl
theorem co_rfirst (N : Nat) : CxOK Try.prog (cx_rfirst N) :=
  cxOK_of2 (es := []) (me := []) (ms := []) T_ok trivial trivial trivial rfl (fun _ _ _ _ => rfl) (fun _ _ _ _ _ _ => rfl) rfl
theorem lo_rfirst (N : Nat) : LoopsOK (cx_rfirst N) Try.f113.ntmps (bodyOf Try.f113) :=
  loopsOK_of (k := 0) (by kernel_rfl) trivial
theorem p_rfirst (N : Nat) (x0 : Int) (r0 : Int) (h : s_rfirst N x0 = some r0) : PureRet Try.prog T 113 [.v (.int .i64 x0) .no] [.v (.int .i64 r0) .no] :=
  pure_of (cx := cx_rfirst N) (by kernel_rfl) (co_rfirst N) Try.func113 (by kernel_rfl) (by kernel_rfl) (lo_rfirst N) rfl rfl rfl (rf := r_rfirst) ((s_rfirst_ok N x0).trans h) (fun rs' m h => by
    unfold r_rfirst at h
    split at h
    · cases h; exact ⟨rfl, rfl⟩
    · cases h)
noncomputable def e_rConstructed {R : Type} (s : Int → Option (Bool)) (ds : List D) (K : List D → Option R) : Option R :=
  match ds with
  | [.v (.int .i64 x0) .no] => bnd1 (s x0) fun r0 => K [.v (.bool r0) .no]
  | _ => none
noncomputable def r_rConstructed (rs : List D) (_ : Mem) : Option (Bool) :=
  match rs with
  | [.v (.bool r0) _] => some (r0)
  | _ => none
noncomputable def s_rConstructed (N : Nat) (x0 : Int) : Option (Bool) := bnd1 (s_rValid N x0) fun b0 => br b0 (bnd1 (s_rfirst N x0) fun n1 => some (decide ((IntKind.i64.wrap (n1.tdiv 32)).tmod 2 = 1))) (some false)
noncomputable def cx_rConstructed (N : Nat) : Cx := { T := T, isPure := tabP [⟨112, e_rValid (s_rValid N)⟩, ⟨113, e_rfirst (s_rfirst N)⟩], pureK := fun g ds K => tabK [⟨112, e_rValid (s_rValid N)⟩, ⟨113, e_rfirst (s_rfirst N)⟩] g ds K, memK := fun g dst ds m K => tabMK [] g dst ds m K, meth := tabM [], keep := fun _ => [], keepX := fun _ => [], loopT := fun _ _ _ _ => none, jumps := 9 }
theorem s_rConstructed_ok (N : Nat) (x0 : Int) : bodyK (cx_rConstructed N) Try.f96 [.v (.int .i64 x0) .no] [] r_rConstructed = s_rConstructed N x0 := by
  kernel_rfl
theorem go_rConstructed : Goes Try.prog 96 := goes_of Try.func96 (by kernel_rfl) (c := bodyOf Try.f96) (by kernel_rfl)
theorem eo_rConstructed (s : Int → Option (Bool)) (hs : ∀ (x0 : Int) (r0 : Bool), s x0 = some r0 → PureRet Try.prog T 96 [.v (.int .i64 x0) .no] [.v (.bool r0) .no]) : EntOK Try.prog T ⟨96, e_rConstructed s⟩ := by
  refine ⟨go_rConstructed, fun R ds K r h => ?_, fun R ds K => ?_⟩
  · simp only [e_rConstructed] at h
    split at h
    · obtain ⟨r0, h1, h2⟩ := bnd1_some h
      exact ⟨_, h2, hs _ _ h1⟩
    · cases h
  · simp only [e_rConstructed]
    split
    · rw [bnd1_b]; rfl
    · rfl
theorem co_rConstructed (N : Nat) : CxOK Try.prog (cx_rConstructed N) :=
  cxOK_of2 (es := [⟨112, e_rValid (s_rValid N)⟩, ⟨113, e_rfirst (s_rfirst N)⟩]) (me := []) (ms := []) T_ok ⟨eo_rValid _ (p_rValid N), eo_rfirst _ (p_rfirst N), trivial⟩ trivial trivial rfl (fun _ _ _ _ => rfl) (fun _ _ _ _ _ _ => rfl) rfl
theorem lo_rConstructed (N : Nat) : LoopsOK (cx_rConstructed N) Try.f96.ntmps (bodyOf Try.f96) :=
  loopsOK_of (k := 0) (by kernel_rfl) trivial
theorem p_rConstructed (N : Nat) (x0 : Int) (r0 : Bool) (h : s_rConstructed N x0 = some r0) : PureRet Try.prog T 96 [.v (.int .i64 x0) .no] [.v (.bool r0) .no] :=
  pure_of (cx := cx_rConstructed N) (by kernel_rfl) (co_rConstructed N) Try.func96 (by kernel_rfl) (by kernel_rfl) (lo_rConstructed N) rfl rfl rfl (rf := r_rConstructed) ((s_rConstructed_ok N x0).trans h) (fun rs' m h => by
    unfold r_rConstructed at h
    split at h
    · cases h; exact ⟨rfl, rfl⟩
    · cases h)
noncomputable def e_valid {R : Type} (s : List V → Int → Option (Bool)) (ds : List D) (K : List D → Option R) : Option R :=
  match ds with
  | [.v (.sl 62 x0) .no, .v (.int .i64 x1) .no] => bnd1 (s x0 x1) fun r0 => K [.v (.bool r0) .no]
  | _ => none
noncomputable def e_valid1 {R : Type} (s : Int → List UInt8 → List V → Int → Option (Bool)) (dst : Nat) (ds : List D) (m : Mem) (K : List D → Mem → Option R) : Option R :=
  match ds with
  | [.agg [.v (.int .i64 x0) .no, .v (.bytes x1) .no, .v (.sl 62 x2) .no], .ptr (kv0 + 1) sv0 0] => viewK [(kv0, sv0)] m fun Bs => (match Bs with
    | [⟨3, [.v (.int .i64 y0) .no]⟩] => bnd1 (s x0 x1 x2 y0) fun r0 => putAllK [(kv0, sv0)] [⟨3, [.v (.int .i64 y0) .no]⟩] m fun m' => K [.v (.bool r0) .no] m'
    | _ => none)
  | _ => none
noncomputable def r_valid1 {α : Type} (K : Bool → Int → Option α) (rs : List D) (m : Mem) : Option α :=
  match rs, m with
  | [.v (.bool r0) _], [_, [(0, ⟨3, [.v (.int .i64 z0) .no]⟩)]] => K r0 z0
  | _, _ => none
noncomputable def C_valid1 {R : Type} (N : Nat) (f : List V → Int → Option (Bool)) (x0 : Int) (x1 : List UInt8) (x2 : List V) (y0 : Int) (K0 : Bool → Option R) : Option R := br (decide (8 < y0)) (K0 true) (bnd1 (s_Valid N x0) fun b0 => br (!b0) (K0 true) (bnd1 (s_Constructed N x0) fun b1 => br b1 (br (decide (0 < (↑x1.length : Int))) (K0 true) (bnd1 (f x2 (IntKind.i64.wrap (y0 + 1))) fun b2 => K0 !b2)) (K0 (decide (0 < (↑x2.length : Int))))))
noncomputable def s_valid1 (N : Nat) (f : List V → Int → Option (Bool)) (x0 : Int) (x1 : List UInt8) (x2 : List V) (y0 : Int) : Option (Bool) := C_valid1 N f x0 x1 x2 y0 (fun r0 => some r0)
noncomputable def cx_valid1 (N : Nat) (f : List V → Int → Option (Bool)) : Cx := { T := T, isPure := tabP [⟨90, e_Valid (s_Valid N)⟩, ⟨91, e_Constructed (s_Constructed N)⟩, ⟨63, e_valid f⟩], pureK := fun g ds K => tabK [⟨90, e_Valid (s_Valid N)⟩, ⟨91, e_Constructed (s_Constructed N)⟩, ⟨63, e_valid f⟩] g ds K, memK := fun g dst ds m K => tabMK [] g dst ds m K, meth := tabM [], keep := fun _ => [], keepX := fun _ => [], loopT := fun _ _ _ _ => none, jumps := 9 }
theorem C_valid1_ok {R : Type} (N : Nat) (f : List V → Int → Option (Bool)) (x0 : Int) (x1 : List UInt8) (x2 : List V) (y0 : Int) (K : Bool → Int → Option R) : bodyK (cx_valid1 N f) Try.f89 [.agg [.v (.int .i64 x0) .no, .v (.bytes x1) .no, .v (.sl 62 x2) .no], .ptr 1 0 0] [frOf 0 [⟨3, [.v (.int .i64 y0) .no]⟩]] (r_valid1 K) = C_valid1 N f x0 x1 x2 y0 (fun r0 => K r0 y0) := by
  kernel_rfl
theorem go_valid : Goes Try.prog 63 := goes_of Try.func63 (by kernel_rfl) (c := bodyOf Try.f63) (by kernel_rfl)
theorem eo_valid (s : List V → Int → Option (Bool)) (hs : ∀ (x0 : List V) (x1 : Int) (r0 : Bool), s x0 x1 = some r0 → PureRet Try.prog T 63 [.v (.sl 62 x0) .no, .v (.int .i64 x1) .no] [.v (.bool r0) .no]) : EntOK Try.prog T ⟨63, e_valid s⟩ := by
  refine ⟨go_valid, fun R ds K r h => ?_, fun R ds K => ?_⟩
  · simp only [e_valid] at h
    split at h
    · obtain ⟨r0, h1, h2⟩ := bnd1_some h
      exact ⟨_, h2, hs _ _ _ h1⟩
    · cases h
  · simp only [e_valid]
    split
    · rw [bnd1_b]; rfl
    · rfl
theorem go_valid1 : Goes Try.prog 89 := goes_of Try.func89 (by kernel_rfl) (c := bodyOf Try.f89) (by kernel_rfl)
theorem eo_valid1 (s : Int → List UInt8 → List V → Int → Option (Bool)) (hs : ∀ (x0 : Int) (x1 : List UInt8) (x2 : List V) (y0 : Int) (r0 : Bool), s x0 x1 x2 y0 = some r0 → ViewRet Try.prog T 89 [.agg [.v (.int .i64 x0) .no, .v (.bytes x1) .no, .v (.sl 62 x2) .no], .ptr 1 0 0] [⟨3, [.v (.int .i64 y0) .no]⟩] [.v (.bool r0) .no] [⟨3, [.v (.int .i64 y0) .no]⟩]) : MEntOK Try.prog T ⟨89, e_valid1 s⟩ := by
  refine ⟨go_valid1, fun R dst ds m K r h => ?_⟩
  simp only [e_valid1] at h
  split at h
  · obtain ⟨Bs, a1, a2, a3, h⟩ := viewK_some h
    split at h
    · obtain ⟨r0, h1, h2⟩ := bnd1_some h
      rw [putAllK_eq] at h2
      exact ⟨_, _, h2, hs _ _ _ _ _ h1 _ _ m dst a1 a2 a3 ⟨aren_agg ⟨aren_v _, aren_v _, aren_v _, trivial⟩, aren_ptr _ rfl, trivial⟩⟩
    · cases h
  · cases h
theorem co_valid1 (N : Nat) (f : List V → Int → Option (Bool)) (hf : ∀ (x0 : List V) (x1 : Int) (r0 : Bool), f x0 x1 = some r0 → PureRet Try.prog T 63 [.v (.sl 62 x0) .no, .v (.int .i64 x1) .no] [.v (.bool r0) .no]) : CxOK Try.prog (cx_valid1 N f) :=
  cxOK_of2 (es := [⟨90, e_Valid (s_Valid N)⟩, ⟨91, e_Constructed (s_Constructed N)⟩, ⟨63, e_valid f⟩]) (me := []) (ms := []) T_ok ⟨eo_Valid _ (p_Valid N), eo_Constructed _ (p_Constructed N), eo_valid f hf, trivial⟩ trivial trivial rfl (fun _ _ _ _ => rfl) (fun _ _ _ _ _ _ => rfl) rfl
theorem lo_valid1 (N : Nat) (f : List V → Int → Option (Bool)) : LoopsOK (cx_valid1 N f) Try.f89.ntmps (bodyOf Try.f89) :=
  loopsOK_of (k := 0) (by kernel_rfl) trivial
open Classical in
theorem p_valid1 (N : Nat) (f : List V → Int → Option (Bool)) (hf : ∀ (x0 : List V) (x1 : Int) (r0 : Bool), f x0 x1 = some r0 → PureRet Try.prog T 63 [.v (.sl 62 x0) .no, .v (.int .i64 x1) .no] [.v (.bool r0) .no]) (x0 : Int) (x1 : List UInt8) (x2 : List V) (y0 : Int) (r0 : Bool) (h : s_valid1 N f x0 x1 x2 y0 = some r0) : ViewRet Try.prog T 89 [.agg [.v (.int .i64 x0) .no, .v (.bytes x1) .no, .v (.sl 62 x2) .no], .ptr 1 0 0] [⟨3, [.v (.int .i64 y0) .no]⟩] [.v (.bool r0) .no] [⟨3, [.v (.int .i64 y0) .no]⟩] := by
  refine view_of (Bs := [⟨3, [.v (.int .i64 y0) .no]⟩]) (Bs' := [⟨3, [.v (.int .i64 y0) .no]⟩]) (cx := cx_valid1 N f) (by kernel_rfl) (co_valid1 N f hf) Try.func89 (by kernel_rfl) (by kernel_rfl) (lo_valid1 N f) rfl rfl rfl rfl (rf := r_valid1 (fun r0' z'0 => if z'0 = y0 then some r0' else none)) (r := r0) ?_ ?_
  · exact (C_valid1_ok N f x0 x1 x2 y0 _).trans ((congrArg (fun K => C_valid1 N f x0 x1 x2 y0 K) (funext fun r0' => if_pos rfl)).trans h)
  · intro rs' m' hx
    unfold r_valid1 at hx
    split at hx
    · dsimp only at hx
      split at hx
      · rename_i hk
        subst hk
        cases hx; exact ⟨rfl, rfl, _, rfl⟩
      · cases hx
    · cases hx
noncomputable def e_IndexFuncV {R : Type} (s : List V → Int → Option (Int)) (dst : Nat) (ds : List D) (m : Mem) (K : List D → Mem → Option R) : Option R :=
  match ds with
  | [.v (.sl 62 x0) .no, .clos 89 [.ptr (kv0 + 1) sv0 0]] => viewK [(kv0, sv0)] m fun Bs => (match Bs with
    | [⟨3, [.v (.int .i64 y0) .no]⟩] => bnd1 (s x0 y0) fun r0 => putAllK [(kv0, sv0)] [⟨3, [.v (.int .i64 y0) .no]⟩] m fun m' => K [.v (.int .i64 r0) .no] m'
    | _ => none)
  | _ => none
noncomputable def r_IndexFuncV {α : Type} (K : Int → Int → Option α) (rs : List D) (m : Mem) : Option α :=
  match rs, m with
  | [.v (.int .i64 r0) _], [_, [(0, ⟨3, [.v (.int .i64 z0) .no]⟩)]] => K r0 z0
  | _, _ => none
noncomputable def F_IndexFuncV_2 {R : Type} (N : Nat) (f : List V → Int → Option (Bool)) (vs0 : List V) (n1 : Int) (n3 : Int) (Lq : Int → Option R) (K0 : Int → Option R) (K1 : Option R) (n2 : Int) : Option R := br (decide (n2 < n1)) (br (decide (0 ≤ n2) && decide (n2 < (↑vs0.length : Int))) (at? vs0 n2.toNat fun x0 => x0.unAgg fun l1 => unCons l1 fun x2 l3 => V.unInt IntKind.i64 x2 fun n4 => unCons l3 fun x5 l6 => x5.unBytes fun l7 => unCons l6 fun x8 l9 => V.unSl 62 x8 fun l10 => unNil l9 (bnd1 (s_valid1 N f n4 l7 l10 n3) fun b11 => br b11 (K0 n2) (Lq (IntKind.i64.wrap (n2 + 1))))) none) K1
noncomputable def S_IndexFuncV_2 {R : Type} (N : Nat) (f : List V → Int → Option (Bool)) (vs0 : List V) (n1 : Int) (n3 : Int) : Nat → Int → (Int → Option R) → (Option R) → Option R | 0, _, _, _ => none | t + 1, n2, K0, K1 => F_IndexFuncV_2 N f vs0 n1 n3 (fun n2 => S_IndexFuncV_2 N f vs0 n1 n3 t n2 K0 K1) K0 K1 n2
noncomputable def l_IndexFuncV_2 {R : Type} (N : Nat) (f : List V → Int → Option (Bool)) (ds : List D) (m : Mem) (K : Ex → List D → Mem → Option R) : Option R :=
  match ds, m with
  | [(.v (.sl 62 vs0) .no), (.clos 89 [(.ptr 1 0 0)]), (.v (.int .i64 n1) .no), (.v (.int .i64 n2) .no)], [[], [(0, ⟨3, [(.v (.int .i64 n3) .no)]⟩)]] => S_IndexFuncV_2 N f vs0 n1 n3 N n2 (fun a0 => K .ret [(.v (.int .i64 a0) .no)] [[], [(0, ⟨3, [(.v (.int .i64 n3) .no)]⟩)]]) (K (.exit 0) [.any] [[], [(0, ⟨3, [(.v (.int .i64 n3) .no)]⟩)]])
  | _, _ => none
noncomputable def C_IndexFuncV {R : Type} (N : Nat) (f : List V → Int → Option (Bool)) (x0 : List V) (y0 : Int) (K0 : Int → Option R) : Option R := S_IndexFuncV_2 N f x0 (↑x0.length : Int) y0 N 0 (fun n0 => K0 n0) (K0 (-1))
noncomputable def s_IndexFuncV (N : Nat) (f : List V → Int → Option (Bool)) (x0 : List V) (y0 : Int) : Option (Int) := C_IndexFuncV N f x0 y0 (fun r0 => some r0)
noncomputable def cx_IndexFuncV (N : Nat) (f : List V → Int → Option (Bool)) : Cx := { T := T, isPure := tabP [], pureK := fun g ds K => tabK [] g ds K, memK := fun g dst ds m K => tabMK [⟨89, e_valid1 (s_valid1 N f)⟩] g dst ds m K, meth := tabM [], keep := fun r => match r with | 2 => [0, 1, 7, 8] | _ => [], keepX := fun r => match r with | 2 => [4] | _ => [], loopT := fun r ds m K => match r with | 2 => l_IndexFuncV_2 N f ds m K | _ => none, jumps := 9 }
theorem F_IndexFuncV_2_ok {R : Type} (N : Nat) (f : List V → Int → Option (Bool)) (vs0 : List V) (n1 : Int) (n3 : Int) (n2 : Int) (L : List D → Mem → Option R) (K : Ex → List D → Mem → Option R) :
    roundK (fun st K => codeK (cx_IndexFuncV N f) (loopN Try.f110 0) st K) 19 [0, 1, 7, 8] [4] L [(.v (.sl 62 vs0) .no), (.clos 89 [(.ptr 1 0 0)]), (.v (.int .i64 n1) .no), (.v (.int .i64 n2) .no)] [[], [(0, ⟨3, [(.v (.int .i64 n3) .no)]⟩)]] K = F_IndexFuncV_2 N f vs0 n1 n3 (fun n2 => L [(.v (.sl 62 vs0) .no), (.clos 89 [(.ptr 1 0 0)]), (.v (.int .i64 n1) .no), (.v (.int .i64 n2) .no)] [[], [(0, ⟨3, [(.v (.int .i64 n3) .no)]⟩)]]) (fun a0 => K .ret [(.v (.int .i64 a0) .no)] [[], [(0, ⟨3, [(.v (.int .i64 n3) .no)]⟩)]]) (K (.exit 0) [.any] [[], [(0, ⟨3, [(.v (.int .i64 n3) .no)]⟩)]]) n2 := by
  kernel_rfl
theorem S_IndexFuncV_2_ok {R : Type} (N : Nat) (f : List V → Int → Option (Bool)) (vs0 : List V) (n1 : Int) (n3 : Int) (K : Ex → List D → Mem → Option R) : ∀ (t : Nat) (n2 : Int),
    loopK (fun st K => codeK (cx_IndexFuncV N f) (loopN Try.f110 0) st K) 19 [0, 1, 7, 8] [4] t [(.v (.sl 62 vs0) .no), (.clos 89 [(.ptr 1 0 0)]), (.v (.int .i64 n1) .no), (.v (.int .i64 n2) .no)] [[], [(0, ⟨3, [(.v (.int .i64 n3) .no)]⟩)]] K = S_IndexFuncV_2 N f vs0 n1 n3 t n2 (fun a0 => K .ret [(.v (.int .i64 a0) .no)] [[], [(0, ⟨3, [(.v (.int .i64 n3) .no)]⟩)]]) (K (.exit 0) [.any] [[], [(0, ⟨3, [(.v (.int .i64 n3) .no)]⟩)]])
  | 0, n2 => rfl
  | t + 1, n2 => (F_IndexFuncV_2_ok N f vs0 n1 n3 n2 _ K).trans (congrArg (fun L => F_IndexFuncV_2 N f vs0 n1 n3 L (fun a0 => K .ret [(.v (.int .i64 a0) .no)] [[], [(0, ⟨3, [(.v (.int .i64 n3) .no)]⟩)]]) (K (.exit 0) [.any] [[], [(0, ⟨3, [(.v (.int .i64 n3) .no)]⟩)]]) n2) (funext fun n2 => S_IndexFuncV_2_ok N f vs0 n1 n3 K t n2))
theorem C_IndexFuncV_ok {R : Type} (N : Nat) (f : List V → Int → Option (Bool)) (x0 : List V) (y0 : Int) (K : Int → Int → Option R) : bodyK (cx_IndexFuncV N f) Try.f110 [.v (.sl 62 x0) .no, .clos 89 [.ptr 1 0 0]] [frOf 0 [⟨3, [.v (.int .i64 y0) .no]⟩]] (r_IndexFuncV K) = C_IndexFuncV N f x0 y0 (fun r0 => K r0 y0) := by
  kernel_rfl
theorem go_IndexFuncV : Goes Try.prog 110 := goes_of Try.func110 (by kernel_rfl) (c := bodyOf Try.f110) (by kernel_rfl)
theorem eo_IndexFuncV (s : List V → Int → Option (Int)) (hs : ∀ (x0 : List V) (y0 : Int) (r0 : Int), s x0 y0 = some r0 → ViewRet Try.prog T 110 [.v (.sl 62 x0) .no, .clos 89 [.ptr 1 0 0]] [⟨3, [.v (.int .i64 y0) .no]⟩] [.v (.int .i64 r0) .no] [⟨3, [.v (.int .i64 y0) .no]⟩]) : MEntOK Try.prog T ⟨110, e_IndexFuncV s⟩ := by
  refine ⟨go_IndexFuncV, fun R dst ds m K r h => ?_⟩
  simp only [e_IndexFuncV] at h
  split at h
  · obtain ⟨Bs, a1, a2, a3, h⟩ := viewK_some h
    split at h
    · obtain ⟨r0, h1, h2⟩ := bnd1_some h
      rw [putAllK_eq] at h2
      exact ⟨_, _, h2, hs _ _ _ h1 _ _ m dst a1 a2 a3 ⟨aren_v _, aren_clos ⟨aren_ptr _ rfl, trivial⟩, trivial⟩⟩
    · cases h
  · cases h
theorem co_IndexFuncV (N : Nat) (f : List V → Int → Option (Bool)) (hf : ∀ (x0 : List V) (x1 : Int) (r0 : Bool), f x0 x1 = some r0 → PureRet Try.prog T 63 [.v (.sl 62 x0) .no, .v (.int .i64 x1) .no] [.v (.bool r0) .no]) : CxOK Try.prog (cx_IndexFuncV N f) :=
  cxOK_of2 (es := []) (me := [⟨89, e_valid1 (s_valid1 N f)⟩]) (ms := []) T_ok trivial ⟨eo_valid1 _ (p_valid1 N f hf), trivial⟩ trivial rfl (fun _ _ _ _ => rfl) (fun _ _ _ _ _ _ => rfl) rfl
theorem lk_IndexFuncV_2 (N : Nat) (f : List V → Int → Option (Bool)) : LoopOK (cx_IndexFuncV N f) 19 (loopN Try.f110 0) := by
  refine loopOK_of (rid := 2) (by kernel_rfl) rfl rfl fun R ds m K r h => ?_
  have h : l_IndexFuncV_2 N f ds m K = some r := h
  unfold l_IndexFuncV_2 at h
  split at h
  · exact ⟨N, Eq.trans (S_IndexFuncV_2_ok ..) h⟩
  · cases h
theorem lo_IndexFuncV (N : Nat) (f : List V → Int → Option (Bool)) : LoopsOK (cx_IndexFuncV N f) Try.f110.ntmps (bodyOf Try.f110) :=
  loopsOK_of (k := 1) (by kernel_rfl) ⟨trivial, lk_IndexFuncV_2 N f⟩
open Classical in
theorem p_IndexFuncV (N : Nat) (f : List V → Int → Option (Bool)) (hf : ∀ (x0 : List V) (x1 : Int) (r0 : Bool), f x0 x1 = some r0 → PureRet Try.prog T 63 [.v (.sl 62 x0) .no, .v (.int .i64 x1) .no] [.v (.bool r0) .no]) (x0 : List V) (y0 : Int) (r0 : Int) (h : s_IndexFuncV N f x0 y0 = some r0) : ViewRet Try.prog T 110 [.v (.sl 62 x0) .no, .clos 89 [.ptr 1 0 0]] [⟨3, [.v (.int .i64 y0) .no]⟩] [.v (.int .i64 r0) .no] [⟨3, [.v (.int .i64 y0) .no]⟩] := by
  refine view_of (Bs := [⟨3, [.v (.int .i64 y0) .no]⟩]) (Bs' := [⟨3, [.v (.int .i64 y0) .no]⟩]) (cx := cx_IndexFuncV N f) (by kernel_rfl) (co_IndexFuncV N f hf) Try.func110 (by kernel_rfl) (by kernel_rfl) (lo_IndexFuncV N f) rfl rfl rfl rfl (rf := r_IndexFuncV (fun r0' z'0 => if z'0 = y0 then some r0' else none)) (r := r0) ?_ ?_
  · exact (C_IndexFuncV_ok N f x0 y0 _).trans ((congrArg (fun K => C_IndexFuncV N f x0 y0 K) (funext fun r0' => if_pos rfl)).trans h)
  · intro rs' m' hx
    unfold r_IndexFuncV at hx
    split at hx
    · dsimp only at hx
      split at hx
      · rename_i hk
        subst hk
        cases hx; exact ⟨rfl, rfl, _, rfl⟩
      · cases hx
    · cases hx
noncomputable def e_ContainsFuncV {R : Type} (s : List V → Int → Option (Bool)) (dst : Nat) (ds : List D) (m : Mem) (K : List D → Mem → Option R) : Option R :=
  match ds with
  | [.v (.sl 62 x0) .no, .clos 89 [.ptr (kv0 + 1) sv0 0]] => viewK [(kv0, sv0)] m fun Bs => (match Bs with
    | [⟨3, [.v (.int .i64 y0) .no]⟩] => bnd1 (s x0 y0) fun r0 => putAllK [(kv0, sv0)] [⟨3, [.v (.int .i64 y0) .no]⟩] m fun m' => K [.v (.bool r0) .no] m'
    | _ => none)
  | _ => none
noncomputable def r_ContainsFuncV {α : Type} (K : Bool → Int → Option α) (rs : List D) (m : Mem) : Option α :=
  match rs, m with
  | [.v (.bool r0) _], [_, [(0, ⟨3, [.v (.int .i64 z0) .no]⟩)]] => K r0 z0
  | _, _ => none
noncomputable def C_ContainsFuncV {R : Type} (N : Nat) (f : List V → Int → Option (Bool)) (x0 : List V) (y0 : Int) (K0 : Bool → Option R) : Option R := bnd1 (s_IndexFuncV N f x0 y0) fun n0 => K0 (decide (0 ≤ n0))
noncomputable def s_ContainsFuncV (N : Nat) (f : List V → Int → Option (Bool)) (x0 : List V) (y0 : Int) : Option (Bool) := C_ContainsFuncV N f x0 y0 (fun r0 => some r0)
noncomputable def cx_ContainsFuncV (N : Nat) (f : List V → Int → Option (Bool)) : Cx := { T := T, isPure := tabP [], pureK := fun g ds K => tabK [] g ds K, memK := fun g dst ds m K => tabMK [⟨110, e_IndexFuncV (s_IndexFuncV N f)⟩] g dst ds m K, meth := tabM [], keep := fun _ => [], keepX := fun _ => [], loopT := fun _ _ _ _ => none, jumps := 9 }
theorem C_ContainsFuncV_ok {R : Type} (N : Nat) (f : List V → Int → Option (Bool)) (x0 : List V) (y0 : Int) (K : Bool → Int → Option R) : bodyK (cx_ContainsFuncV N f) Try.f88 [.v (.sl 62 x0) .no, .clos 89 [.ptr 1 0 0]] [frOf 0 [⟨3, [.v (.int .i64 y0) .no]⟩]] (r_ContainsFuncV K) = C_ContainsFuncV N f x0 y0 (fun r0 => K r0 y0) := by
  kernel_rfl
theorem go_ContainsFuncV : Goes Try.prog 88 := goes_of Try.func88 (by kernel_rfl) (c := bodyOf Try.f88) (by kernel_rfl)
theorem eo_ContainsFuncV (s : List V → Int → Option (Bool)) (hs : ∀ (x0 : List V) (y0 : Int) (r0 : Bool), s x0 y0 = some r0 → ViewRet Try.prog T 88 [.v (.sl 62 x0) .no, .clos 89 [.ptr 1 0 0]] [⟨3, [.v (.int .i64 y0) .no]⟩] [.v (.bool r0) .no] [⟨3, [.v (.int .i64 y0) .no]⟩]) : MEntOK Try.prog T ⟨88, e_ContainsFuncV s⟩ := by
  refine ⟨go_ContainsFuncV, fun R dst ds m K r h => ?_⟩
  simp only [e_ContainsFuncV] at h
  split at h
  · obtain ⟨Bs, a1, a2, a3, h⟩ := viewK_some h
    split at h
    · obtain ⟨r0, h1, h2⟩ := bnd1_some h
      rw [putAllK_eq] at h2
      exact ⟨_, _, h2, hs _ _ _ h1 _ _ m dst a1 a2 a3 ⟨aren_v _, aren_clos ⟨aren_ptr _ rfl, trivial⟩, trivial⟩⟩
    · cases h
  · cases h
theorem co_ContainsFuncV (N : Nat) (f : List V → Int → Option (Bool)) (hf : ∀ (x0 : List V) (x1 : Int) (r0 : Bool), f x0 x1 = some r0 → PureRet Try.prog T 63 [.v (.sl 62 x0) .no, .v (.int .i64 x1) .no] [.v (.bool r0) .no]) : CxOK Try.prog (cx_ContainsFuncV N f) :=
  cxOK_of2 (es := []) (me := [⟨110, e_IndexFuncV (s_IndexFuncV N f)⟩]) (ms := []) T_ok trivial ⟨eo_IndexFuncV _ (p_IndexFuncV N f hf), trivial⟩ trivial rfl (fun _ _ _ _ => rfl) (fun _ _ _ _ _ _ => rfl) rfl
theorem lo_ContainsFuncV (N : Nat) (f : List V → Int → Option (Bool)) : LoopsOK (cx_ContainsFuncV N f) Try.f88.ntmps (bodyOf Try.f88) :=
  loopsOK_of (k := 0) (by kernel_rfl) trivial
open Classical in
theorem p_ContainsFuncV (N : Nat) (f : List V → Int → Option (Bool)) (hf : ∀ (x0 : List V) (x1 : Int) (r0 : Bool), f x0 x1 = some r0 → PureRet Try.prog T 63 [.v (.sl 62 x0) .no, .v (.int .i64 x1) .no] [.v (.bool r0) .no]) (x0 : List V) (y0 : Int) (r0 : Bool) (h : s_ContainsFuncV N f x0 y0 = some r0) : ViewRet Try.prog T 88 [.v (.sl 62 x0) .no, .clos 89 [.ptr 1 0 0]] [⟨3, [.v (.int .i64 y0) .no]⟩] [.v (.bool r0) .no] [⟨3, [.v (.int .i64 y0) .no]⟩] := by
  refine view_of (Bs := [⟨3, [.v (.int .i64 y0) .no]⟩]) (Bs' := [⟨3, [.v (.int .i64 y0) .no]⟩]) (cx := cx_ContainsFuncV N f) (by kernel_rfl) (co_ContainsFuncV N f hf) Try.func88 (by kernel_rfl) (by kernel_rfl) (lo_ContainsFuncV N f) rfl rfl rfl rfl (rf := r_ContainsFuncV (fun r0' z'0 => if z'0 = y0 then some r0' else none)) (r := r0) ?_ ?_
  · exact (C_ContainsFuncV_ok N f x0 y0 _).trans ((congrArg (fun K => C_ContainsFuncV N f x0 y0 K) (funext fun r0' => if_pos rfl)).trans h)
  · intro rs' m' hx
    unfold r_ContainsFuncV at hx
    split at hx
    · dsimp only at hx
      split at hx
      · rename_i hk
        subst hk
        cases hx; exact ⟨rfl, rfl, _, rfl⟩
      · cases hx
    · cases hx
noncomputable def r_valid (rs : List D) (_ : Mem) : Option (Bool) :=
  match rs with
  | [.v (.bool r0) _] => some (r0)
  | _ => none
noncomputable def B_valid (N : Nat) (f : List V → Int → Option (Bool)) (x0 : List V) (x1 : Int) : Option (Bool) := bnd1 (s_ContainsFuncV N f x0 x1) fun b0 => some !b0
noncomputable def s_valid (N : Nat) : Nat → List V → Int → Option (Bool) | 0, _, _ => none | n + 1, x0, x1 => B_valid N (s_valid N n) x0 x1
noncomputable def cx_valid (N : Nat) (f : List V → Int → Option (Bool)) : Cx := { T := T, isPure := tabP [⟨63, e_valid f⟩], pureK := fun g ds K => tabK [⟨63, e_valid f⟩] g ds K, memK := fun g dst ds m K => tabMK [⟨88, e_ContainsFuncV (s_ContainsFuncV N f)⟩, ⟨89, e_valid1 (s_valid1 N f)⟩] g dst ds m K, meth := tabM [], keep := fun _ => [], keepX := fun _ => [], loopT := fun _ _ _ _ => none, jumps := 9 }
theorem B_valid_ok (N : Nat) (f : List V → Int → Option (Bool)) (x0 : List V) (x1 : Int) : bodyK (cx_valid N f) Try.f63 [.v (.sl 62 x0) .no, .v (.int .i64 x1) .no] [] r_valid = B_valid N f x0 x1 := by
  kernel_rfl
theorem co_valid (N : Nat) (f : List V → Int → Option (Bool)) (hf : ∀ (x0 : List V) (x1 : Int) (r0 : Bool), f x0 x1 = some r0 → PureRet Try.prog T 63 [.v (.sl 62 x0) .no, .v (.int .i64 x1) .no] [.v (.bool r0) .no]) : CxOK Try.prog (cx_valid N f) :=
  cxOK_of2 (es := [⟨63, e_valid f⟩]) (me := [⟨88, e_ContainsFuncV (s_ContainsFuncV N f)⟩, ⟨89, e_valid1 (s_valid1 N f)⟩]) (ms := []) T_ok ⟨eo_valid f hf, trivial⟩ ⟨eo_ContainsFuncV _ (p_ContainsFuncV N f hf), eo_valid1 _ (p_valid1 N f hf), trivial⟩ trivial rfl (fun _ _ _ _ => rfl) (fun _ _ _ _ _ _ => rfl) rfl
theorem lo_valid (N : Nat) (f : List V → Int → Option (Bool)) : LoopsOK (cx_valid N f) Try.f63.ntmps (bodyOf Try.f63) :=
  loopsOK_of (k := 0) (by kernel_rfl) trivial
theorem p_valid (N : Nat) : ∀ (M : Nat) (x0 : List V) (x1 : Int) (r0 : Bool), s_valid N M x0 x1 = some r0 → PureRet Try.prog T 63 [.v (.sl 62 x0) .no, .v (.int .i64 x1) .no] [.v (.bool r0) .no]
  | 0, _, _, _, h => by cases h
  | M + 1, x0, x1, r0, h => pure_of (cx := cx_valid N (s_valid N M)) (by kernel_rfl) (co_valid N (s_valid N M) (p_valid N M)) Try.func63 (by kernel_rfl) (by kernel_rfl) (lo_valid N (s_valid N M)) rfl rfl rfl (rf := r_valid) ((B_valid_ok N (s_valid N M) x0 x1).trans h) (fun rs' m h => by
    unfold r_valid at h
    split at h
    · cases h; exact ⟨rfl, rfl⟩
    · cases h)
noncomputable def e_size {R : Type} (s : List V → Option (Int)) (ds : List D) (K : List D → Option R) : Option R :=
  match ds with
  | [.v (.sl 62 x0) .no] => bnd1 (s x0) fun r0 => K [.v (.int .i64 r0) .no]
  | _ => none
noncomputable def r_size (rs : List D) (_ : Mem) : Option (Int) :=
  match rs with
  | [.v (.int .i64 r0) _] => some (r0)
  | _ => none
noncomputable def F_size_3 {R : Type} (N : Nat) (f : List V → Option (Int)) (vs1 : List V) (n2 : Int) (Lq : Int → Int → Option R) (K0 : Int → Option R) (n0 : Int) (n3 : Int) : Option R := br (decide (n3 < n2)) (br (decide (0 ≤ n3) && decide (n3 < (↑vs1.length : Int))) (at? vs1 n3.toNat fun x0 => x0.unAgg fun l1 => unCons l1 fun x2 l3 => V.unInt IntKind.i64 x2 fun n4 => unCons l3 fun x5 l6 => x5.unBytes fun l7 => unCons l6 fun x8 l9 => V.unSl 62 x8 fun l10 => unNil l9 (bnd1 (f l10) fun n11 => bnd1 (s_tagBytes N n4) fun l12 => bnd1 (s_lengthBytes N (IntKind.i64.wrap ((↑l7.length : Int) + n11))) fun l13 => br (decide (4096 < IntKind.i64.wrap (n0 + IntKind.i64.wrap (IntKind.i64.wrap ((↑l12.length : Int) + (↑l13.length : Int)) + IntKind.i64.wrap ((↑l7.length : Int) + n11))))) (K0 (IntKind.i64.wrap (n0 + IntKind.i64.wrap (IntKind.i64.wrap ((↑l12.length : Int) + (↑l13.length : Int)) + IntKind.i64.wrap ((↑l7.length : Int) + n11))))) (Lq (IntKind.i64.wrap (n0 + IntKind.i64.wrap (IntKind.i64.wrap ((↑l12.length : Int) + (↑l13.length : Int)) + IntKind.i64.wrap ((↑l7.length : Int) + n11)))) (IntKind.i64.wrap (n3 + 1))))) none) (K0 n0)
noncomputable def S_size_3 {R : Type} (N : Nat) (f : List V → Option (Int)) (vs1 : List V) (n2 : Int) : Nat → Int → Int → (Int → Option R) → Option R | 0, _, _, _ => none | t + 1, n0, n3, K0 => F_size_3 N f vs1 n2 (fun n0 n3 => S_size_3 N f vs1 n2 t n0 n3 K0) K0 n0 n3
noncomputable def l_size_3 {R : Type} (N : Nat) (f : List V → Option (Int)) (ds : List D) (m : Mem) (K : Ex → List D → Mem → Option R) : Option R :=
  match ds, m with
  | [(.v (.int .i64 n0) .no), (.v (.sl 62 vs1) .no), (.v (.int .i64 n2) .no), (.v (.int .i64 n3) .no)], [[]] => S_size_3 N f vs1 n2 N n0 n3 (fun a0 => K (.exit 0) [(.v (.int .i64 a0) .no)] [[]])
  | _, _ => none
noncomputable def B_size (N : Nat) (f : List V → Option (Int)) (x0 : List V) : Option (Int) := S_size_3 N f x0 (↑x0.length : Int) N 0 0 fun n0 => some n0
noncomputable def s_size (N : Nat) : Nat → List V → Option (Int) | 0, _ => none | n + 1, x0 => B_size N (s_size N n) x0
noncomputable def cx_size (N : Nat) (f : List V → Option (Int)) : Cx := { T := T, isPure := tabP [⟨64, e_size f⟩, ⟨92, e_tagBytes (s_tagBytes N)⟩, ⟨93, e_lengthBytes (s_lengthBytes N)⟩], pureK := fun g ds K => tabK [⟨64, e_size f⟩, ⟨92, e_tagBytes (s_tagBytes N)⟩, ⟨93, e_lengthBytes (s_lengthBytes N)⟩] g ds K, memK := fun g dst ds m K => tabMK [] g dst ds m K, meth := tabM [], keep := fun r => match r with | 3 => [3, 7, 8, 9] | _ => [], keepX := fun r => match r with | 3 => [3] | _ => [], loopT := fun r ds m K => match r with | 3 => l_size_3 N f ds m K | _ => none, jumps := 9 }
theorem F_size_3_ok {R : Type} (N : Nat) (f : List V → Option (Int)) (vs1 : List V) (n2 : Int) (n0 : Int) (n3 : Int) (L : List D → Mem → Option R) (K : Ex → List D → Mem → Option R) :
    roundK (fun st K => codeK (cx_size N f) (loopN Try.f64 0) st K) 36 [3, 7, 8, 9] [3] L [(.v (.int .i64 n0) .no), (.v (.sl 62 vs1) .no), (.v (.int .i64 n2) .no), (.v (.int .i64 n3) .no)] [[]] K = F_size_3 N f vs1 n2 (fun n0 n3 => L [(.v (.int .i64 n0) .no), (.v (.sl 62 vs1) .no), (.v (.int .i64 n2) .no), (.v (.int .i64 n3) .no)] [[]]) (fun a0 => K (.exit 0) [(.v (.int .i64 a0) .no)] [[]]) n0 n3 := by
  kernel_rfl
theorem S_size_3_ok {R : Type} (N : Nat) (f : List V → Option (Int)) (vs1 : List V) (n2 : Int) (K : Ex → List D → Mem → Option R) : ∀ (t : Nat) (n0 : Int) (n3 : Int),
    loopK (fun st K => codeK (cx_size N f) (loopN Try.f64 0) st K) 36 [3, 7, 8, 9] [3] t [(.v (.int .i64 n0) .no), (.v (.sl 62 vs1) .no), (.v (.int .i64 n2) .no), (.v (.int .i64 n3) .no)] [[]] K = S_size_3 N f vs1 n2 t n0 n3 (fun a0 => K (.exit 0) [(.v (.int .i64 a0) .no)] [[]])
  | 0, n0, n3 => rfl
  | t + 1, n0, n3 => (F_size_3_ok N f vs1 n2 n0 n3 _ K).trans (congrArg (fun L => F_size_3 N f vs1 n2 L (fun a0 => K (.exit 0) [(.v (.int .i64 a0) .no)] [[]]) n0 n3) (funext fun n0 => funext fun n3 => S_size_3_ok N f vs1 n2 K t n0 n3))
theorem B_size_ok (N : Nat) (f : List V → Option (Int)) (x0 : List V) : bodyK (cx_size N f) Try.f64 [.v (.sl 62 x0) .no] [] r_size = B_size N f x0 := by
  kernel_rfl
theorem go_size : Goes Try.prog 64 := goes_of Try.func64 (by kernel_rfl) (c := bodyOf Try.f64) (by kernel_rfl)
theorem eo_size (s : List V → Option (Int)) (hs : ∀ (x0 : List V) (r0 : Int), s x0 = some r0 → PureRet Try.prog T 64 [.v (.sl 62 x0) .no] [.v (.int .i64 r0) .no]) : EntOK Try.prog T ⟨64, e_size s⟩ := by
  refine ⟨go_size, fun R ds K r h => ?_, fun R ds K => ?_⟩
  · simp only [e_size] at h
    split at h
    · obtain ⟨r0, h1, h2⟩ := bnd1_some h
      exact ⟨_, h2, hs _ _ h1⟩
    · cases h
  · simp only [e_size]
    split
    · rw [bnd1_b]; rfl
    · rfl
theorem co_size (N : Nat) (f : List V → Option (Int)) (hf : ∀ (x0 : List V) (r0 : Int), f x0 = some r0 → PureRet Try.prog T 64 [.v (.sl 62 x0) .no] [.v (.int .i64 r0) .no]) : CxOK Try.prog (cx_size N f) :=
  cxOK_of2 (es := [⟨64, e_size f⟩, ⟨92, e_tagBytes (s_tagBytes N)⟩, ⟨93, e_lengthBytes (s_lengthBytes N)⟩]) (me := []) (ms := []) T_ok ⟨eo_size f hf, eo_tagBytes _ (p_tagBytes N), eo_lengthBytes _ (p_lengthBytes N), trivial⟩ trivial trivial rfl (fun _ _ _ _ => rfl) (fun _ _ _ _ _ _ => rfl) rfl
theorem lk_size_3 (N : Nat) (f : List V → Option (Int)) : LoopOK (cx_size N f) 36 (loopN Try.f64 0) := by
  refine loopOK_of (rid := 3) (by kernel_rfl) rfl rfl fun R ds m K r h => ?_
  have h : l_size_3 N f ds m K = some r := h
  unfold l_size_3 at h
  split at h
  · exact ⟨N, Eq.trans (S_size_3_ok ..) h⟩
  · cases h
theorem lo_size (N : Nat) (f : List V → Option (Int)) : LoopsOK (cx_size N f) Try.f64.ntmps (bodyOf Try.f64) :=
  loopsOK_of (k := 1) (by kernel_rfl) ⟨trivial, lk_size_3 N f⟩
theorem p_size (N : Nat) : ∀ (M : Nat) (x0 : List V) (r0 : Int), s_size N M x0 = some r0 → PureRet Try.prog T 64 [.v (.sl 62 x0) .no] [.v (.int .i64 r0) .no]
  | 0, _, _, h => by cases h
  | M + 1, x0, r0, h => pure_of (cx := cx_size N (s_size N M)) (by kernel_rfl) (co_size N (s_size N M) (p_size N M)) Try.func64 (by kernel_rfl) (by kernel_rfl) (lo_size N (s_size N M)) rfl rfl rfl (rf := r_size) ((B_size_ok N (s_size N M) x0).trans h) (fun rs' m h => by
    unfold r_size at h
    split at h
    · cases h; exact ⟨rfl, rfl⟩
    · cases h)
noncomputable def e_rright {R : Type} (s : List V → Int → Option (Bool)) (ds : List D) (K : List D → Option R) : Option R :=
  match ds with
  | [.v (.sl 62 x0) .no, .v (.int .i64 x1) .no] => bnd1 (s x0 x1) fun r0 => K [.v (.bool r0) .no]
  | _ => none
noncomputable def r_rright (rs : List D) (_ : Mem) : Option (Bool) :=
  match rs with
  | [.v (.bool r0) _] => some (r0)
  | _ => none
noncomputable def F_rright_2 {R : Type} (N : Nat) (f : List V → Int → Option (Bool)) (vs0 : List V) (n1 : Int) (Lq : Int → Option R) (K0 : Bool → Option R) (K1 : Option R) (n2 : Int) : Option R := br (decide (n2 < (↑vs0.length : Int))) (br (decide (0 ≤ n2) && decide (n2 < (↑vs0.length : Int))) (at? vs0 n2.toNat fun x0 => x0.unAgg fun l1 => unCons l1 fun x2 l3 => V.unInt IntKind.i64 x2 fun n4 => unCons l3 fun x5 l6 => x5.unBytes fun l7 => unCons l6 fun x8 l9 => V.unSl 62 x8 fun l10 => unNil l9 (br (decide (8 < n1)) (K0 false) (bnd1 (s_rValid N n4) fun b11 => br (!b11) (K0 false) (bnd1 (s_rConstructed N n4) fun b12 => br b12 (br (decide (0 < (↑l7.length : Int))) (K0 false) (bnd1 (f l10 (IntKind.i64.wrap (n1 + 1))) fun b13 => br (!b13) (K0 false) (Lq (IntKind.i64.wrap (n2 + 1))))) (br (decide (0 < (↑l10.length : Int))) (K0 false) (Lq (IntKind.i64.wrap (n2 + 1)))))))) none) K1
noncomputable def S_rright_2 {R : Type} (N : Nat) (f : List V → Int → Option (Bool)) (vs0 : List V) (n1 : Int) : Nat → Int → (Bool → Option R) → (Option R) → Option R | 0, _, _, _ => none | t + 1, n2, K0, K1 => F_rright_2 N f vs0 n1 (fun n2 => S_rright_2 N f vs0 n1 t n2 K0 K1) K0 K1 n2
noncomputable def l_rright_2 {R : Type} (N : Nat) (f : List V → Int → Option (Bool)) (ds : List D) (m : Mem) (K : Ex → List D → Mem → Option R) : Option R :=
  match ds, m with
  | [(.v (.sl 62 vs0) .no), (.v (.int .i64 n1) .no), (.v (.int .i64 n2) .no)], [[]] => S_rright_2 N f vs0 n1 N n2 (fun a0 => K .ret [(.v (.bool a0) .no)] [[]]) (K (.exit 0) [.any] [[]])
  | _, _ => none
noncomputable def B_rright (N : Nat) (f : List V → Int → Option (Bool)) (x0 : List V) (x1 : Int) : Option (Bool) := S_rright_2 N f x0 x1 N 0 (fun b0 => some b0) (some true)
noncomputable def s_rright (N : Nat) : Nat → List V → Int → Option (Bool) | 0, _, _ => none | n + 1, x0, x1 => B_rright N (s_rright N n) x0 x1
noncomputable def cx_rright (N : Nat) (f : List V → Int → Option (Bool)) : Cx := { T := T, isPure := tabP [⟨95, e_rright f⟩, ⟨112, e_rValid (s_rValid N)⟩, ⟨96, e_rConstructed (s_rConstructed N)⟩], pureK := fun g ds K => tabK [⟨95, e_rright f⟩, ⟨112, e_rValid (s_rValid N)⟩, ⟨96, e_rConstructed (s_rConstructed N)⟩] g ds K, memK := fun g dst ds m K => tabMK [] g dst ds m K, meth := tabM [], keep := fun r => match r with | 2 => [0, 1, 5] | _ => [], keepX := fun r => match r with | 2 => [4] | _ => [], loopT := fun r ds m K => match r with | 2 => l_rright_2 N f ds m K | _ => none, jumps := 9 }
theorem F_rright_2_ok {R : Type} (N : Nat) (f : List V → Int → Option (Bool)) (vs0 : List V) (n1 : Int) (n2 : Int) (L : List D → Mem → Option R) (K : Ex → List D → Mem → Option R) :
    roundK (fun st K => codeK (cx_rright N f) (loopN Try.f95 0) st K) 44 [0, 1, 5] [4] L [(.v (.sl 62 vs0) .no), (.v (.int .i64 n1) .no), (.v (.int .i64 n2) .no)] [[]] K = F_rright_2 N f vs0 n1 (fun n2 => L [(.v (.sl 62 vs0) .no), (.v (.int .i64 n1) .no), (.v (.int .i64 n2) .no)] [[]]) (fun a0 => K .ret [(.v (.bool a0) .no)] [[]]) (K (.exit 0) [.any] [[]]) n2 := by
  kernel_rfl
theorem S_rright_2_ok {R : Type} (N : Nat) (f : List V → Int → Option (Bool)) (vs0 : List V) (n1 : Int) (K : Ex → List D → Mem → Option R) : ∀ (t : Nat) (n2 : Int),
    loopK (fun st K => codeK (cx_rright N f) (loopN Try.f95 0) st K) 44 [0, 1, 5] [4] t [(.v (.sl 62 vs0) .no), (.v (.int .i64 n1) .no), (.v (.int .i64 n2) .no)] [[]] K = S_rright_2 N f vs0 n1 t n2 (fun a0 => K .ret [(.v (.bool a0) .no)] [[]]) (K (.exit 0) [.any] [[]])
  | 0, n2 => rfl
  | t + 1, n2 => (F_rright_2_ok N f vs0 n1 n2 _ K).trans (congrArg (fun L => F_rright_2 N f vs0 n1 L (fun a0 => K .ret [(.v (.bool a0) .no)] [[]]) (K (.exit 0) [.any] [[]]) n2) (funext fun n2 => S_rright_2_ok N f vs0 n1 K t n2))
theorem B_rright_ok (N : Nat) (f : List V → Int → Option (Bool)) (x0 : List V) (x1 : Int) : bodyK (cx_rright N f) Try.f95 [.v (.sl 62 x0) .no, .v (.int .i64 x1) .no] [] r_rright = B_rright N f x0 x1 := by
  kernel_rfl
theorem go_rright : Goes Try.prog 95 := goes_of Try.func95 (by kernel_rfl) (c := bodyOf Try.f95) (by kernel_rfl)
theorem eo_rright (s : List V → Int → Option (Bool)) (hs : ∀ (x0 : List V) (x1 : Int) (r0 : Bool), s x0 x1 = some r0 → PureRet Try.prog T 95 [.v (.sl 62 x0) .no, .v (.int .i64 x1) .no] [.v (.bool r0) .no]) : EntOK Try.prog T ⟨95, e_rright s⟩ := by
  refine ⟨go_rright, fun R ds K r h => ?_, fun R ds K => ?_⟩
  · simp only [e_rright] at h
    split at h
    · obtain ⟨r0, h1, h2⟩ := bnd1_some h
      exact ⟨_, h2, hs _ _ _ h1⟩
    · cases h
  · simp only [e_rright]
    split
    · rw [bnd1_b]; rfl
    · rfl
theorem co_rright (N : Nat) (f : List V → Int → Option (Bool)) (hf : ∀ (x0 : List V) (x1 : Int) (r0 : Bool), f x0 x1 = some r0 → PureRet Try.prog T 95 [.v (.sl 62 x0) .no, .v (.int .i64 x1) .no] [.v (.bool r0) .no]) : CxOK Try.prog (cx_rright N f) :=
  cxOK_of2 (es := [⟨95, e_rright f⟩, ⟨112, e_rValid (s_rValid N)⟩, ⟨96, e_rConstructed (s_rConstructed N)⟩]) (me := []) (ms := []) T_ok ⟨eo_rright f hf, eo_rValid _ (p_rValid N), eo_rConstructed _ (p_rConstructed N), trivial⟩ trivial trivial rfl (fun _ _ _ _ => rfl) (fun _ _ _ _ _ _ => rfl) rfl
theorem lk_rright_2 (N : Nat) (f : List V → Int → Option (Bool)) : LoopOK (cx_rright N f) 44 (loopN Try.f95 0) := by
  refine loopOK_of (rid := 2) (by kernel_rfl) rfl rfl fun R ds m K r h => ?_
  have h : l_rright_2 N f ds m K = some r := h
  unfold l_rright_2 at h
  split at h
  · exact ⟨N, Eq.trans (S_rright_2_ok ..) h⟩
  · cases h
theorem lo_rright (N : Nat) (f : List V → Int → Option (Bool)) : LoopsOK (cx_rright N f) Try.f95.ntmps (bodyOf Try.f95) :=
  loopsOK_of (k := 1) (by kernel_rfl) ⟨trivial, lk_rright_2 N f⟩
theorem p_rright (N : Nat) : ∀ (M : Nat) (x0 : List V) (x1 : Int) (r0 : Bool), s_rright N M x0 x1 = some r0 → PureRet Try.prog T 95 [.v (.sl 62 x0) .no, .v (.int .i64 x1) .no] [.v (.bool r0) .no]
  | 0, _, _, _, h => by cases h
  | M + 1, x0, x1, r0, h => pure_of (cx := cx_rright N (s_rright N M)) (by kernel_rfl) (co_rright N (s_rright N M) (p_rright N M)) Try.func95 (by kernel_rfl) (by kernel_rfl) (lo_rright N (s_rright N M)) rfl rfl rfl (rf := r_rright) ((B_rright_ok N (s_rright N M) x0 x1).trans h) (fun rs' m h => by
    unfold r_rright at h
    split at h
    · cases h; exact ⟨rfl, rfl⟩
    · cases h)
noncomputable def e_rRight {R : Type} (s : List V → Option (Bool)) (ds : List D) (K : List D → Option R) : Option R :=
  match ds with
  | [.v (.sl 62 x0) .no] => bnd1 (s x0) fun r0 => K [.v (.bool r0) .no]
  | _ => none
noncomputable def r_rRight (rs : List D) (_ : Mem) : Option (Bool) :=
  match rs with
  | [.v (.bool r0) _] => some (r0)
  | _ => none
noncomputable def s_rRight (N : Nat) (x0 : List V) : Option (Bool) := bnd1 (s_rright N N x0 1) fun b0 => some b0
noncomputable def cx_rRight (N : Nat) : Cx := { T := T, isPure := tabP [⟨95, e_rright (s_rright N N)⟩], pureK := fun g ds K => tabK [⟨95, e_rright (s_rright N N)⟩] g ds K, memK := fun g dst ds m K => tabMK [] g dst ds m K, meth := tabM [], keep := fun _ => [], keepX := fun _ => [], loopT := fun _ _ _ _ => none, jumps := 9 }
theorem s_rRight_ok (N : Nat) (x0 : List V) : bodyK (cx_rRight N) Try.f66 [.v (.sl 62 x0) .no] [] r_rRight = s_rRight N x0 := by
  kernel_rfl
theorem go_rRight : Goes Try.prog 66 := goes_of Try.func66 (by kernel_rfl) (c := bodyOf Try.f66) (by kernel_rfl)
theorem eo_rRight (s : List V → Option (Bool)) (hs : ∀ (x0 : List V) (r0 : Bool), s x0 = some r0 → PureRet Try.prog T 66 [.v (.sl 62 x0) .no] [.v (.bool r0) .no]) : EntOK Try.prog T ⟨66, e_rRight s⟩ := by
  refine ⟨go_rRight, fun R ds K r h => ?_, fun R ds K => ?_⟩
  · simp only [e_rRight] at h
    split at h
    · obtain ⟨r0, h1, h2⟩ := bnd1_some h
      exact ⟨_, h2, hs _ _ h1⟩
    · cases h
  · simp only [e_rRight]
    split
    · rw [bnd1_b]; rfl
    · rfl
theorem co_rRight (N : Nat) : CxOK Try.prog (cx_rRight N) :=
  cxOK_of2 (es := [⟨95, e_rright (s_rright N N)⟩]) (me := []) (ms := []) T_ok ⟨eo_rright _ (p_rright N N), trivial⟩ trivial trivial rfl (fun _ _ _ _ => rfl) (fun _ _ _ _ _ _ => rfl) rfl
theorem lo_rRight (N : Nat) : LoopsOK (cx_rRight N) Try.f66.ntmps (bodyOf Try.f66) :=
  loopsOK_of (k := 0) (by kernel_rfl) trivial
theorem p_rRight (N : Nat) (x0 : List V) (r0 : Bool) (h : s_rRight N x0 = some r0) : PureRet Try.prog T 66 [.v (.sl 62 x0) .no] [.v (.bool r0) .no] :=
  pure_of (cx := cx_rRight N) (by kernel_rfl) (co_rRight N) Try.func66 (by kernel_rfl) (by kernel_rfl) (lo_rRight N) rfl rfl rfl (rf := r_rRight) ((s_rRight_ok N x0).trans h) (fun rs' m h => by
    unfold r_rRight at h
    split at h
    · cases h; exact ⟨rfl, rfl⟩
    · cases h)
noncomputable def e_rhead {R : Type} (s : Int → Int → Option (List UInt8)) (ds : List D) (K : List D → Option R) : Option R :=
  match ds with
  | [.v (.int .i64 x0) .no, .v (.int .i64 x1) .no] => bnd1 (s x0 x1) fun r0 => K [.v (.bytes r0) .no]
  | _ => none
noncomputable def r_rhead (rs : List D) (_ : Mem) : Option (List UInt8) :=
  match rs with
  | [.v (.bytes r0) _] => some (r0)
  | _ => none
noncomputable def s_rhead (N : Nat) (x0 : Int) (x1 : Int) : Option (List UInt8) := br (decide (255 < x0)) (br (decide (256 ≤ x1)) (some [UInt8.ofNat (IntKind.u8.wrap (IntKind.i64.wrap (x0.tdiv 256))).toNat, UInt8.ofNat (IntKind.u8.wrap (x0.tmod 256)).toNat, UInt8.ofNat (Int.toNat 130), UInt8.ofNat (IntKind.u8.wrap (IntKind.i64.wrap (x1.tdiv 256))).toNat, UInt8.ofNat (IntKind.u8.wrap (x1.tmod 256)).toNat]) (br (decide (128 ≤ x1)) (some [UInt8.ofNat (IntKind.u8.wrap (IntKind.i64.wrap (x0.tdiv 256))).toNat, UInt8.ofNat (IntKind.u8.wrap (x0.tmod 256)).toNat, UInt8.ofNat (Int.toNat 129), UInt8.ofNat (IntKind.u8.wrap x1).toNat]) (some [UInt8.ofNat (IntKind.u8.wrap (IntKind.i64.wrap (x0.tdiv 256))).toNat, UInt8.ofNat (IntKind.u8.wrap (x0.tmod 256)).toNat, UInt8.ofNat (IntKind.u8.wrap x1).toNat]))) (br (decide (256 ≤ x1)) (some [UInt8.ofNat (IntKind.u8.wrap (x0.tmod 256)).toNat, UInt8.ofNat (Int.toNat 130), UInt8.ofNat (IntKind.u8.wrap (IntKind.i64.wrap (x1.tdiv 256))).toNat, UInt8.ofNat (IntKind.u8.wrap (x1.tmod 256)).toNat]) (br (decide (128 ≤ x1)) (some [UInt8.ofNat (IntKind.u8.wrap (x0.tmod 256)).toNat, UInt8.ofNat (Int.toNat 129), UInt8.ofNat (IntKind.u8.wrap x1).toNat]) (some [UInt8.ofNat (IntKind.u8.wrap (x0.tmod 256)).toNat, UInt8.ofNat (IntKind.u8.wrap x1).toNat])))
noncomputable def cx_rhead (N : Nat) : Cx := { T := T, isPure := tabP [], pureK := fun g ds K => tabK [] g ds K, memK := fun g dst ds m K => tabMK [] g dst ds m K, meth := tabM [], keep := fun _ => [], keepX := fun _ => [], loopT := fun _ _ _ _ => none, jumps := 9 }
theorem s_rhead_ok (N : Nat) (x0 : Int) (x1 : Int) : bodyK (cx_rhead N) Try.f97 [.v (.int .i64 x0) .no, .v (.int .i64 x1) .no] [] r_rhead = s_rhead N x0 x1 := by
  kernel_rfl
theorem go_rhead : Goes Try.prog 97 := goes_of Try.func97 (by kernel_rfl) (c := bodyOf Try.f97) (by kernel_rfl)
theorem eo_rhead (s : Int → Int → Option (List UInt8)) (hs : ∀ (x0 : Int) (x1 : Int) (r0 : List UInt8), s x0 x1 = some r0 → PureRet Try.prog T 97 [.v (.int .i64 x0) .no, .v (.int .i64 x1) .no] [.v (.bytes r0) .no]) : EntOK Try.prog T ⟨97, e_rhead s⟩ := by
  refine ⟨go_rhead, fun R ds K r h => ?_, fun R ds K => ?_⟩
  · simp only [e_rhead] at h
    split at h
    · obtain ⟨r0, h1, h2⟩ := bnd1_some h
      exact ⟨_, h2, hs _ _ _ h1⟩
    · cases h
  · simp only [e_rhead]
    split
    · rw [bnd1_b]; rfl
    · rfl
theorem co_rhead (N : Nat) : CxOK Try.prog (cx_rhead N) :=
  cxOK_of2 (es := []) (me := []) (ms := []) T_ok trivial trivial trivial rfl (fun _ _ _ _ => rfl) (fun _ _ _ _ _ _ => rfl) rfl
theorem lo_rhead (N : Nat) : LoopsOK (cx_rhead N) Try.f97.ntmps (bodyOf Try.f97) :=
  loopsOK_of (k := 0) (by kernel_rfl) trivial
theorem p_rhead (N : Nat) (x0 : Int) (x1 : Int) (r0 : List UInt8) (h : s_rhead N x0 x1 = some r0) : PureRet Try.prog T 97 [.v (.int .i64 x0) .no, .v (.int .i64 x1) .no] [.v (.bytes r0) .no] :=
  pure_of (cx := cx_rhead N) (by kernel_rfl) (co_rhead N) Try.func97 (by kernel_rfl) (by kernel_rfl) (lo_rhead N) rfl rfl rfl (rf := r_rhead) ((s_rhead_ok N x0 x1).trans h) (fun rs' m h => by
    unfold r_rhead at h
    split at h
    · cases h; exact ⟨rfl, rfl⟩
    · cases h)
noncomputable def e_rall {R : Type} (s : List V → Option (List UInt8 × Bool)) (ds : List D) (K : List D → Option R) : Option R :=
  match ds with
  | [.v (.sl 62 x0) .no] => bnd2 (s x0) fun r0 r1 => K [.v (.bytes r0) .no, .v (.bool r1) .no]
  | _ => none
noncomputable def r_rall (rs : List D) (_ : Mem) : Option (List UInt8 × Bool) :=
  match rs with
  | [.v (.bytes r0) _, .v (.bool r1) _] => some (r0, r1)
  | _ => none
noncomputable def F_rall_3 {R : Type} (N : Nat) (f : List V → Option (List UInt8 × Bool)) (vs0 : List V) (Lq : List UInt8 → Int → Option R) (K0 : List UInt8 → Bool → List UInt8 → Option R) (K1 : List UInt8 → Option R) (l1 : List UInt8) (n2 : Int) : Option R := br (decide (n2 < (↑vs0.length : Int))) (br (decide (0 ≤ n2) && decide (n2 < (↑vs0.length : Int))) (at? vs0 n2.toNat fun x0 => x0.unAgg fun l1_1 => unCons l1_1 fun x2 l3 => V.unInt IntKind.i64 x2 fun n4 => unCons l3 fun x5 l6 => x5.unBytes fun l7 => unCons l6 fun x8 l9 => V.unSl 62 x8 fun l10 => unNil l9 (br (decide (0 ≤ n2) && decide (n2 < (↑vs0.length : Int))) (at? vs0 n2.toNat fun x11 => x11.unAgg fun l12 => unCons l12 fun x13 l14 => V.unInt IntKind.i64 x13 fun n15 => unCons l14 fun x16 l17 => x16.unBytes fun l18 => unCons l17 fun x19 l20 => V.unSl 62 x19 fun l21 => unNil l20 (bnd1 (s_rConstructed N n15) fun b22 => br b22 (br (decide (0 ≤ n2) && decide (n2 < (↑vs0.length : Int))) (at? vs0 n2.toNat fun x23 => x23.unAgg fun l24 => unCons l24 fun x25 l26 => V.unInt IntKind.i64 x25 fun n27 => unCons l26 fun x28 l29 => x28.unBytes fun l30 => unCons l29 fun x31 l32 => V.unSl 62 x31 fun l33 => unNil l32 (bnd2 (f l33) fun l34 b35 => br (!b35) (K0 [] false l1) (br (decide (4096 < (↑l34.length : Int))) (K0 [] false l1) (br (decide (0 ≤ n2) && decide (n2 < (↑vs0.length : Int))) (at? vs0 n2.toNat fun x36 => x36.unAgg fun l37 => unCons l37 fun x38 l39 => V.unInt IntKind.i64 x38 fun n40 => unCons l39 fun x41 l42 => x41.unBytes fun l43 => unCons l42 fun x44 l45 => V.unSl 62 x44 fun l46 => unNil l45 (bnd1 (s_rhead N n40 (↑l34.length : Int)) fun l47 => br (decide ((l1.length + l47.length) * 1 ≤ 140737488355328)) (br (decide (((l1 ++ l47).length + l34.length) * 1 ≤ 140737488355328)) (br (decide (4096 < (↑(l1 ++ l47 ++ l34).length : Int))) (K0 [] false (l1 ++ l47 ++ l34)) (Lq (l1 ++ l47 ++ l34) (IntKind.i64.wrap (n2 + 1)))) none) none)) none)))) none) (br (decide (4096 < (↑l7.length : Int))) (K0 [] false l1) (br (decide (0 ≤ n2) && decide (n2 < (↑vs0.length : Int))) (at? vs0 n2.toNat fun x48 => x48.unAgg fun l49 => unCons l49 fun x50 l51 => V.unInt IntKind.i64 x50 fun n52 => unCons l51 fun x53 l54 => x53.unBytes fun l55 => unCons l54 fun x56 l57 => V.unSl 62 x56 fun l58 => unNil l57 (bnd1 (s_rhead N n52 (↑l7.length : Int)) fun l59 => br (decide ((l1.length + l59.length) * 1 ≤ 140737488355328)) (br (decide (((l1 ++ l59).length + l7.length) * 1 ≤ 140737488355328)) (br (decide (4096 < (↑(l1 ++ l59 ++ l7).length : Int))) (K0 [] false (l1 ++ l59 ++ l7)) (Lq (l1 ++ l59 ++ l7) (IntKind.i64.wrap (n2 + 1)))) none) none)) none)))) none)) none) (K1 l1)
noncomputable def S_rall_3 {R : Type} (N : Nat) (f : List V → Option (List UInt8 × Bool)) (vs0 : List V) : Nat → List UInt8 → Int → (List UInt8 → Bool → List UInt8 → Option R) → (List UInt8 → Option R) → Option R | 0, _, _, _, _ => none | t + 1, l1, n2, K0, K1 => F_rall_3 N f vs0 (fun l1 n2 => S_rall_3 N f vs0 t l1 n2 K0 K1) K0 K1 l1 n2
noncomputable def l_rall_3 {R : Type} (N : Nat) (f : List V → Option (List UInt8 × Bool)) (ds : List D) (m : Mem) (K : Ex → List D → Mem → Option R) : Option R :=
  match ds, m with
  | [(.v (.sl 62 vs0) .no), (.v (.bytes l1) (.own (.slot 4) 5)), (.v (.int .i64 n2) .no)], [[]] => S_rall_3 N f vs0 N l1 n2 (fun a0 a1 a2 => K .ret [(.v (.bytes a0) (.own (.slot 2) 5)), (.v (.bool a1) .no), (.v (.bytes a2) (.own (.slot 4) 5))] [[]]) (fun a0 => K (.exit 0) [.any, .any, (.v (.bytes a0) (.own (.slot 4) 5))] [[]])
  | _, _ => none
noncomputable def B_rall (N : Nat) (f : List V → Option (List UInt8 × Bool)) (x0 : List V) : Option (List UInt8 × Bool) := S_rall_3 N f x0 N [] 0 (fun l0 b1 l2 => some (l0, b1)) fun l3 => some (l3, true)
noncomputable def s_rall (N : Nat) : Nat → List V → Option (List UInt8 × Bool) | 0, _ => none | n + 1, x0 => B_rall N (s_rall N n) x0
noncomputable def cx_rall (N : Nat) (f : List V → Option (List UInt8 × Bool)) : Cx := { T := T, isPure := tabP [⟨67, e_rall f⟩, ⟨96, e_rConstructed (s_rConstructed N)⟩, ⟨97, e_rhead (s_rhead N)⟩], pureK := fun g ds K => tabK [⟨67, e_rall f⟩, ⟨96, e_rConstructed (s_rConstructed N)⟩, ⟨97, e_rhead (s_rhead N)⟩] g ds K, memK := fun g dst ds m K => tabMK [] g dst ds m K, meth := tabM [], keep := fun r => match r with | 3 => [0, 4, 5] | _ => [], keepX := fun r => match r with | 3 => [2, 3, 4] | _ => [], loopT := fun r ds m K => match r with | 3 => l_rall_3 N f ds m K | _ => none, jumps := 9 }
theorem F_rall_3_ok {R : Type} (N : Nat) (f : List V → Option (List UInt8 × Bool)) (vs0 : List V) (l1 : List UInt8) (n2 : Int) (L : List D → Mem → Option R) (K : Ex → List D → Mem → Option R) :
    roundK (fun st K => codeK (cx_rall N f) (loopN Try.f67 0) st K) 58 [0, 4, 5] [2, 3, 4] L [(.v (.sl 62 vs0) .no), (.v (.bytes l1) (.own (.slot 4) 5)), (.v (.int .i64 n2) .no)] [[]] K = F_rall_3 N f vs0 (fun l1 n2 => L [(.v (.sl 62 vs0) .no), (.v (.bytes l1) (.own (.slot 4) 5)), (.v (.int .i64 n2) .no)] [[]]) (fun a0 a1 a2 => K .ret [(.v (.bytes a0) (.own (.slot 2) 5)), (.v (.bool a1) .no), (.v (.bytes a2) (.own (.slot 4) 5))] [[]]) (fun a0 => K (.exit 0) [.any, .any, (.v (.bytes a0) (.own (.slot 4) 5))] [[]]) l1 n2 := by
  kernel_rfl
theorem S_rall_3_ok {R : Type} (N : Nat) (f : List V → Option (List UInt8 × Bool)) (vs0 : List V) (K : Ex → List D → Mem → Option R) : ∀ (t : Nat) (l1 : List UInt8) (n2 : Int),
    loopK (fun st K => codeK (cx_rall N f) (loopN Try.f67 0) st K) 58 [0, 4, 5] [2, 3, 4] t [(.v (.sl 62 vs0) .no), (.v (.bytes l1) (.own (.slot 4) 5)), (.v (.int .i64 n2) .no)] [[]] K = S_rall_3 N f vs0 t l1 n2 (fun a0 a1 a2 => K .ret [(.v (.bytes a0) (.own (.slot 2) 5)), (.v (.bool a1) .no), (.v (.bytes a2) (.own (.slot 4) 5))] [[]]) (fun a0 => K (.exit 0) [.any, .any, (.v (.bytes a0) (.own (.slot 4) 5))] [[]])
  | 0, l1, n2 => rfl
  | t + 1, l1, n2 => (F_rall_3_ok N f vs0 l1 n2 _ K).trans (congrArg (fun L => F_rall_3 N f vs0 L (fun a0 a1 a2 => K .ret [(.v (.bytes a0) (.own (.slot 2) 5)), (.v (.bool a1) .no), (.v (.bytes a2) (.own (.slot 4) 5))] [[]]) (fun a0 => K (.exit 0) [.any, .any, (.v (.bytes a0) (.own (.slot 4) 5))] [[]]) l1 n2) (funext fun l1 => funext fun n2 => S_rall_3_ok N f vs0 K t l1 n2))
theorem B_rall_ok (N : Nat) (f : List V → Option (List UInt8 × Bool)) (x0 : List V) : bodyK (cx_rall N f) Try.f67 [.v (.sl 62 x0) .no] [] r_rall = B_rall N f x0 := by
  kernel_rfl
theorem go_rall : Goes Try.prog 67 := goes_of Try.func67 (by kernel_rfl) (c := bodyOf Try.f67) (by kernel_rfl)
theorem eo_rall (s : List V → Option (List UInt8 × Bool)) (hs : ∀ (x0 : List V) (r0 : List UInt8) (r1 : Bool), s x0 = some (r0, r1) → PureRet Try.prog T 67 [.v (.sl 62 x0) .no] [.v (.bytes r0) .no, .v (.bool r1) .no]) : EntOK Try.prog T ⟨67, e_rall s⟩ := by
  refine ⟨go_rall, fun R ds K r h => ?_, fun R ds K => ?_⟩
  · simp only [e_rall] at h
    split at h
    · obtain ⟨r0, r1, h1, h2⟩ := bnd2_some h
      exact ⟨_, h2, hs _ _ _ h1⟩
    · cases h
  · simp only [e_rall]
    split
    · rw [bnd2_b]; rfl
    · rfl
theorem co_rall (N : Nat) (f : List V → Option (List UInt8 × Bool)) (hf : ∀ (x0 : List V) (r0 : List UInt8) (r1 : Bool), f x0 = some (r0, r1) → PureRet Try.prog T 67 [.v (.sl 62 x0) .no] [.v (.bytes r0) .no, .v (.bool r1) .no]) : CxOK Try.prog (cx_rall N f) :=
  cxOK_of2 (es := [⟨67, e_rall f⟩, ⟨96, e_rConstructed (s_rConstructed N)⟩, ⟨97, e_rhead (s_rhead N)⟩]) (me := []) (ms := []) T_ok ⟨eo_rall f hf, eo_rConstructed _ (p_rConstructed N), eo_rhead _ (p_rhead N), trivial⟩ trivial trivial rfl (fun _ _ _ _ => rfl) (fun _ _ _ _ _ _ => rfl) rfl
theorem lk_rall_3 (N : Nat) (f : List V → Option (List UInt8 × Bool)) : LoopOK (cx_rall N f) 58 (loopN Try.f67 0) := by
  refine loopOK_of (rid := 3) (by kernel_rfl) rfl rfl fun R ds m K r h => ?_
  have h : l_rall_3 N f ds m K = some r := h
  unfold l_rall_3 at h
  split at h
  · exact ⟨N, Eq.trans (S_rall_3_ok ..) h⟩
  · cases h
theorem lo_rall (N : Nat) (f : List V → Option (List UInt8 × Bool)) : LoopsOK (cx_rall N f) Try.f67.ntmps (bodyOf Try.f67) :=
  loopsOK_of (k := 1) (by kernel_rfl) ⟨trivial, lk_rall_3 N f⟩
theorem p_rall (N : Nat) : ∀ (M : Nat) (x0 : List V) (r0 : List UInt8) (r1 : Bool), s_rall N M x0 = some (r0, r1) → PureRet Try.prog T 67 [.v (.sl 62 x0) .no] [.v (.bytes r0) .no, .v (.bool r1) .no]
  | 0, _, _, _, h => by cases h
  | M + 1, x0, r0, r1, h => pure_of (cx := cx_rall N (s_rall N M)) (by kernel_rfl) (co_rall N (s_rall N M) (p_rall N M)) Try.func67 (by kernel_rfl) (by kernel_rfl) (lo_rall N (s_rall N M)) rfl rfl rfl (rf := r_rall) ((B_rall_ok N (s_rall N M) x0).trans h) (fun rs' m h => by
    unfold r_rall at h
    split at h
    · cases h; exact ⟨rfl, rfl⟩
    · cases h)
noncomputable def e_rEncode {R : Type} (s : List V → Option (List UInt8 × Int)) (ds : List D) (K : List D → Option R) : Option R :=
  match ds with
  | [.v (.sl 62 x0) .no] => bnd2 (s x0) fun r0 r1 => K [.v (.bytes r0) .no, .v (.int .i64 r1) .no]
  | _ => none
noncomputable def r_rEncode (rs : List D) (_ : Mem) : Option (List UInt8 × Int) :=
  match rs with
  | [.v (.bytes r0) _, .v (.int .i64 r1) _] => some (r0, r1)
  | _ => none
noncomputable def s_rEncode (N : Nat) (x0 : List V) : Option (List UInt8 × Int) := bnd1 (s_rRight N x0) fun b0 => br (!b0) (some ([], 1)) (bnd2 (s_rall N N x0) fun l1 b2 => br (!b2) (some ([], 3)) (some (l1, 0)))
noncomputable def cx_rEncode (N : Nat) : Cx := { T := T, isPure := tabP [⟨66, e_rRight (s_rRight N)⟩, ⟨67, e_rall (s_rall N N)⟩], pureK := fun g ds K => tabK [⟨66, e_rRight (s_rRight N)⟩, ⟨67, e_rall (s_rall N N)⟩] g ds K, memK := fun g dst ds m K => tabMK [] g dst ds m K, meth := tabM [], keep := fun _ => [], keepX := fun _ => [], loopT := fun _ _ _ _ => none, jumps := 9 }
theorem s_rEncode_ok (N : Nat) (x0 : List V) : bodyK (cx_rEncode N) Try.f42 [.v (.sl 62 x0) .no] [] r_rEncode = s_rEncode N x0 := by
  kernel_rfl
theorem go_rEncode : Goes Try.prog 42 := goes_of Try.func42 (by kernel_rfl) (c := bodyOf Try.f42) (by kernel_rfl)
theorem eo_rEncode (s : List V → Option (List UInt8 × Int)) (hs : ∀ (x0 : List V) (r0 : List UInt8) (r1 : Int), s x0 = some (r0, r1) → PureRet Try.prog T 42 [.v (.sl 62 x0) .no] [.v (.bytes r0) .no, .v (.int .i64 r1) .no]) : EntOK Try.prog T ⟨42, e_rEncode s⟩ := by
  refine ⟨go_rEncode, fun R ds K r h => ?_, fun R ds K => ?_⟩
  · simp only [e_rEncode] at h
    split at h
    · obtain ⟨r0, r1, h1, h2⟩ := bnd2_some h
      exact ⟨_, h2, hs _ _ _ h1⟩
    · cases h
  · simp only [e_rEncode]
    split
    · rw [bnd2_b]; rfl
    · rfl
theorem co_rEncode (N : Nat) : CxOK Try.prog (cx_rEncode N) :=
  cxOK_of2 (es := [⟨66, e_rRight (s_rRight N)⟩, ⟨67, e_rall (s_rall N N)⟩]) (me := []) (ms := []) T_ok ⟨eo_rRight _ (p_rRight N), eo_rall _ (p_rall N N), trivial⟩ trivial trivial rfl (fun _ _ _ _ => rfl) (fun _ _ _ _ _ _ => rfl) rfl
theorem lo_rEncode (N : Nat) : LoopsOK (cx_rEncode N) Try.f42.ntmps (bodyOf Try.f42) :=
  loopsOK_of (k := 0) (by kernel_rfl) trivial
theorem p_rEncode (N : Nat) (x0 : List V) (r0 : List UInt8) (r1 : Int) (h : s_rEncode N x0 = some (r0, r1)) : PureRet Try.prog T 42 [.v (.sl 62 x0) .no] [.v (.bytes r0) .no, .v (.int .i64 r1) .no] :=
  pure_of (cx := cx_rEncode N) (by kernel_rfl) (co_rEncode N) Try.func42 (by kernel_rfl) (by kernel_rfl) (lo_rEncode N) rfl rfl rfl (rf := r_rEncode) ((s_rEncode_ok N x0).trans h) (fun rs' m h => by
    unfold r_rEncode at h
    split at h
    · cases h; exact ⟨rfl, rfl⟩
    · cases h)
noncomputable def e_rtag {R : Type} (s : List UInt8 → Option (Int × Int × Int)) (ds : List D) (K : List D → Option R) : Option R :=
  match ds with
  | [.v (.bytes x0) .no] => bnd3 (s x0) fun r0 r1 r2 => K [.v (.int .i64 r0) .no, .v (.int .i64 r1) .no, .v (.int .i64 r2) .no]
  | _ => none
noncomputable def r_rtag (rs : List D) (_ : Mem) : Option (Int × Int × Int) :=
  match rs with
  | [.v (.int .i64 r0) _, .v (.int .i64 r1) _, .v (.int .i64 r2) _] => some (r0, r1, r2)
  | _ => none
noncomputable def s_rtag (N : Nat) (x0 : List UInt8) : Option (Int × Int × Int) := br (decide (0 < (↑x0.length : Int))) (at? x0 0 fun u0 => br (decide ((↑u0.toNat : Int) = 0)) (some (0, 0, 4)) (br (decide (0 < (↑x0.length : Int))) (at? x0 0 fun u1 => br (!decide ((↑u1.toNat : Int).tmod 32 = 31)) (br (decide (0 < (↑x0.length : Int))) (at? x0 0 fun u2 => some (IntKind.i64.wrap (↑u2.toNat : Int), 1, 0)) none) (br (decide ((↑x0.length : Int) < 2)) (some (0, 0, 5)) (br (decide (1 < (↑x0.length : Int))) (at? x0 1 fun u3 => br (decide ((↑u3.toNat : Int) < 31)) (some (0, 0, 4)) (br (decide (1 < (↑x0.length : Int))) (at? x0 1 fun u4 => br (decide (127 < (↑u4.toNat : Int))) (some (0, 0, 4)) (br (decide (0 < (↑x0.length : Int))) (at? x0 0 fun u5 => br (decide (1 < (↑x0.length : Int))) (at? x0 1 fun u6 => some (IntKind.i64.wrap (IntKind.i64.wrap (256 * IntKind.i64.wrap (↑u5.toNat : Int)) + IntKind.i64.wrap (↑u6.toNat : Int)), 2, 0)) none) none)) none)) none))) none)) none
noncomputable def cx_rtag (N : Nat) : Cx := { T := T, isPure := tabP [], pureK := fun g ds K => tabK [] g ds K, memK := fun g dst ds m K => tabMK [] g dst ds m K, meth := tabM [], keep := fun _ => [], keepX := fun _ => [], loopT := fun _ _ _ _ => none, jumps := 9 }
theorem s_rtag_ok (N : Nat) (x0 : List UInt8) : bodyK (cx_rtag N) Try.f104 [.v (.bytes x0) .no] [] r_rtag = s_rtag N x0 := by
  kernel_rfl
theorem go_rtag : Goes Try.prog 104 := goes_of Try.func104 (by kernel_rfl) (c := bodyOf Try.f104) (by kernel_rfl)
theorem eo_rtag (s : List UInt8 → Option (Int × Int × Int)) (hs : ∀ (x0 : List UInt8) (r0 : Int) (r1 : Int) (r2 : Int), s x0 = some (r0, r1, r2) → PureRet Try.prog T 104 [.v (.bytes x0) .no] [.v (.int .i64 r0) .no, .v (.int .i64 r1) .no, .v (.int .i64 r2) .no]) : EntOK Try.prog T ⟨104, e_rtag s⟩ := by
  refine ⟨go_rtag, fun R ds K r h => ?_, fun R ds K => ?_⟩
  · simp only [e_rtag] at h
    split at h
    · obtain ⟨r0, r1, r2, h1, h2⟩ := bnd3_some h
      exact ⟨_, h2, hs _ _ _ _ h1⟩
    · cases h
  · simp only [e_rtag]
    split
    · rw [bnd3_b]; rfl
    · rfl
theorem co_rtag (N : Nat) : CxOK Try.prog (cx_rtag N) :=
  cxOK_of2 (es := []) (me := []) (ms := []) T_ok trivial trivial trivial rfl (fun _ _ _ _ => rfl) (fun _ _ _ _ _ _ => rfl) rfl
theorem lo_rtag (N : Nat) : LoopsOK (cx_rtag N) Try.f104.ntmps (bodyOf Try.f104) :=
  loopsOK_of (k := 0) (by kernel_rfl) trivial
theorem p_rtag (N : Nat) (x0 : List UInt8) (r0 : Int) (r1 : Int) (r2 : Int) (h : s_rtag N x0 = some (r0, r1, r2)) : PureRet Try.prog T 104 [.v (.bytes x0) .no] [.v (.int .i64 r0) .no, .v (.int .i64 r1) .no, .v (.int .i64 r2) .no] :=
  pure_of (cx := cx_rtag N) (by kernel_rfl) (co_rtag N) Try.func104 (by kernel_rfl) (by kernel_rfl) (lo_rtag N) rfl rfl rfl (rf := r_rtag) ((s_rtag_ok N x0).trans h) (fun rs' m h => by
    unfold r_rtag at h
    split at h
    · cases h; exact ⟨rfl, rfl⟩
    · cases h)
noncomputable def e_rlength {R : Type} (s : List UInt8 → Option (Int × Int × Int)) (ds : List D) (K : List D → Option R) : Option R :=
  match ds with
  | [.v (.bytes x0) .no] => bnd3 (s x0) fun r0 r1 r2 => K [.v (.int .i64 r0) .no, .v (.int .i64 r1) .no, .v (.int .i64 r2) .no]
  | _ => none
noncomputable def r_rlength (rs : List D) (_ : Mem) : Option (Int × Int × Int) :=
  match rs with
  | [.v (.int .i64 r0) _, .v (.int .i64 r1) _, .v (.int .i64 r2) _] => some (r0, r1, r2)
  | _ => none
noncomputable def s_rlength (N : Nat) (x0 : List UInt8) : Option (Int × Int × Int) := br (decide ((↑x0.length : Int) < 1)) (some (0, 0, 5)) (br (decide (0 < (↑x0.length : Int))) (at? x0 0 fun u0 => br (decide ((↑u0.toNat : Int) < 128)) (br (decide (0 < (↑x0.length : Int))) (at? x0 0 fun u1 => some (IntKind.i64.wrap (↑u1.toNat : Int), 1, 0)) none) (br (decide (0 < (↑x0.length : Int))) (at? x0 0 fun u2 => br (decide ((↑u2.toNat : Int) = 129)) (br (decide ((↑x0.length : Int) < 2)) (some (0, 0, 5)) (br (decide (1 < (↑x0.length : Int))) (at? x0 1 fun u3 => br (decide ((↑u3.toNat : Int) < 128)) (some (0, 0, 4)) (br (decide (1 < (↑x0.length : Int))) (at? x0 1 fun u4 => some (IntKind.i64.wrap (↑u4.toNat : Int), 2, 0)) none)) none)) (br (decide (0 < (↑x0.length : Int))) (at? x0 0 fun u5 => br (!decide ((↑u5.toNat : Int) = 130)) (some (0, 0, 4)) (br (decide ((↑x0.length : Int) < 3)) (some (0, 0, 5)) (br (decide (1 < (↑x0.length : Int))) (at? x0 1 fun u6 => br (decide (2 < (↑x0.length : Int))) (at? x0 2 fun u7 => br (decide (IntKind.i64.wrap (IntKind.i64.wrap (256 * IntKind.i64.wrap (↑u6.toNat : Int)) + IntKind.i64.wrap (↑u7.toNat : Int)) < 256)) (some (0, 0, 4)) (some (IntKind.i64.wrap (IntKind.i64.wrap (256 * IntKind.i64.wrap (↑u6.toNat : Int)) + IntKind.i64.wrap (↑u7.toNat : Int)), 3, 0))) none) none))) none)) none)) none)
noncomputable def cx_rlength (N : Nat) : Cx := { T := T, isPure := tabP [], pureK := fun g ds K => tabK [] g ds K, memK := fun g dst ds m K => tabMK [] g dst ds m K, meth := tabM [], keep := fun _ => [], keepX := fun _ => [], loopT := fun _ _ _ _ => none, jumps := 9 }
theorem s_rlength_ok (N : Nat) (x0 : List UInt8) : bodyK (cx_rlength N) Try.f105 [.v (.bytes x0) .no] [] r_rlength = s_rlength N x0 := by
  kernel_rfl
theorem go_rlength : Goes Try.prog 105 := goes_of Try.func105 (by kernel_rfl) (c := bodyOf Try.f105) (by kernel_rfl)
theorem eo_rlength (s : List UInt8 → Option (Int × Int × Int)) (hs : ∀ (x0 : List UInt8) (r0 : Int) (r1 : Int) (r2 : Int), s x0 = some (r0, r1, r2) → PureRet Try.prog T 105 [.v (.bytes x0) .no] [.v (.int .i64 r0) .no, .v (.int .i64 r1) .no, .v (.int .i64 r2) .no]) : EntOK Try.prog T ⟨105, e_rlength s⟩ := by
  refine ⟨go_rlength, fun R ds K r h => ?_, fun R ds K => ?_⟩
  · simp only [e_rlength] at h
    split at h
    · obtain ⟨r0, r1, r2, h1, h2⟩ := bnd3_some h
      exact ⟨_, h2, hs _ _ _ _ h1⟩
    · cases h
  · simp only [e_rlength]
    split
    · rw [bnd3_b]; rfl
    · rfl
theorem co_rlength (N : Nat) : CxOK Try.prog (cx_rlength N) :=
  cxOK_of2 (es := []) (me := []) (ms := []) T_ok trivial trivial trivial rfl (fun _ _ _ _ => rfl) (fun _ _ _ _ _ _ => rfl) rfl
theorem lo_rlength (N : Nat) : LoopsOK (cx_rlength N) Try.f105.ntmps (bodyOf Try.f105) :=
  loopsOK_of (k := 0) (by kernel_rfl) trivial
theorem p_rlength (N : Nat) (x0 : List UInt8) (r0 : Int) (r1 : Int) (r2 : Int) (h : s_rlength N x0 = some (r0, r1, r2)) : PureRet Try.prog T 105 [.v (.bytes x0) .no] [.v (.int .i64 r0) .no, .v (.int .i64 r1) .no, .v (.int .i64 r2) .no] :=
  pure_of (cx := cx_rlength N) (by kernel_rfl) (co_rlength N) Try.func105 (by kernel_rfl) (by kernel_rfl) (lo_rlength N) rfl rfl rfl (rf := r_rlength) ((s_rlength_ok N x0).trans h) (fun rs' m h => by
    unfold r_rlength at h
    split at h
    · cases h; exact ⟨rfl, rfl⟩
    · cases h)
noncomputable def e_rread {R : Type} (s : List UInt8 → Int → Option (List V × Int)) (ds : List D) (K : List D → Option R) : Option R :=
  match ds with
  | [.v (.bytes x0) .no, .v (.int .i64 x1) .no] => bnd2 (s x0 x1) fun r0 r1 => K [.v (.sl 62 r0) .no, .v (.int .i64 r1) .no]
  | _ => none
noncomputable def r_rread (rs : List D) (_ : Mem) : Option (List V × Int) :=
  match rs with
  | [.v (.sl 62 r0) _, .v (.int .i64 r1) _] => some (r0, r1)
  | _ => none
noncomputable def F_rread_2 {R : Type} (N : Nat) (f : List UInt8 → Int → Option (List V × Int)) (n1 : Int) (Lq : List UInt8 → List V → Option R) (K0 : List V → Int → List V → Option R) (K1 : List V → Option R) (l0 : List UInt8) (vs2 : List V) : Option R := br (decide (0 < (↑l0.length : Int))) (br (decide (8 < n1)) (K0 [] 4 vs2) (bnd3 (s_rtag N l0) fun n0 n1_1 n2 => br (!decide (n2 = 0)) (K0 [] n2 vs2) (br (decide (0 ≤ n1_1) && decide (n1_1 ≤ (↑l0.length : Int))) (bnd3 (s_rlength N (List.drop n1_1.toNat l0)) fun n3 n4 n5 => br (!decide (n5 = 0)) (K0 [] n5 vs2) (br (decide (0 ≤ n4) && decide (n4 ≤ (↑(List.drop n1_1.toNat l0).length : Int))) (br (decide ((↑(List.drop n4.toNat (List.drop n1_1.toNat l0)).length : Int) < n3)) (K0 [] 5 vs2) (bnd1 (s_rConstructed N n0) fun b6 => br b6 (br (decide (0 ≤ n3) && decide (n3 ≤ (↑(List.drop n4.toNat (List.drop n1_1.toNat l0)).length : Int))) (bnd2 (f (List.take n3.toNat (List.drop n4.toNat (List.drop n1_1.toNat l0))) (IntKind.i64.wrap (n1 + 1))) fun l7 n8 => br (!decide (n8 = 0)) (K0 [] n8 vs2) (br (decide ((vs2.length + [V.agg [V.int IntKind.i64 n0, V.bytes [], V.sl 62 l7]].length) * 56 ≤ 140737488355328)) (br (decide (0 ≤ n3) && decide (n3 ≤ (↑(List.drop n4.toNat (List.drop n1_1.toNat l0)).length : Int))) (Lq (List.drop n3.toNat (List.drop n4.toNat (List.drop n1_1.toNat l0))) (vs2 ++ [V.agg [V.int IntKind.i64 n0, V.bytes [], V.sl 62 l7]])) none) none)) none) (br (decide (0 ≤ n3) && decide (n3 ≤ (↑(List.drop n4.toNat (List.drop n1_1.toNat l0)).length : Int))) (br (decide ((0 + (List.take n3.toNat (List.drop n4.toNat (List.drop n1_1.toNat l0))).length) * 1 ≤ 140737488355328)) (br (decide ((vs2.length + [V.agg [V.int IntKind.i64 n0, V.bytes ([] ++ List.take n3.toNat (List.drop n4.toNat (List.drop n1_1.toNat l0))), V.sl 62 []]].length) * 56 ≤ 140737488355328)) (br (decide (0 ≤ n3) && decide (n3 ≤ (↑(List.drop n4.toNat (List.drop n1_1.toNat l0)).length : Int))) (Lq (List.drop n3.toNat (List.drop n4.toNat (List.drop n1_1.toNat l0))) (vs2 ++ [V.agg [V.int IntKind.i64 n0, V.bytes ([] ++ List.take n3.toNat (List.drop n4.toNat (List.drop n1_1.toNat l0))), V.sl 62 []]])) none) none) none) none))) none)) none))) (K1 vs2)
noncomputable def S_rread_2 {R : Type} (N : Nat) (f : List UInt8 → Int → Option (List V × Int)) (n1 : Int) : Nat → List UInt8 → List V → (List V → Int → List V → Option R) → (List V → Option R) → Option R | 0, _, _, _, _ => none | t + 1, l0, vs2, K0, K1 => F_rread_2 N f n1 (fun l0 vs2 => S_rread_2 N f n1 t l0 vs2 K0 K1) K0 K1 l0 vs2
noncomputable def l_rread_2 {R : Type} (N : Nat) (f : List UInt8 → Int → Option (List V × Int)) (ds : List D) (m : Mem) (K : Ex → List D → Mem → Option R) : Option R :=
  match ds, m with
  | [(.v (.bytes l0) .no), (.v (.int .i64 n1) .no), (.v (.sl 62 vs2) (.own (.slot 6) 62))], [[]] => S_rread_2 N f n1 N l0 vs2 (fun a0 a1 a2 => K .ret [(.v (.sl 62 a0) (.own (.slot 4) 62)), (.v (.int .i64 a1) .no), (.v (.sl 62 a2) (.own (.slot 6) 62))] [[]]) (fun a0 => K (.exit 0) [.any, .any, (.v (.sl 62 a0) (.own (.slot 6) 62))] [[]])
  | _, _ => none
noncomputable def B_rread (N : Nat) (f : List UInt8 → Int → Option (List V × Int)) (x0 : List UInt8) (x1 : Int) : Option (List V × Int) := S_rread_2 N f x1 N x0 [] (fun l0 n1 l2 => some (l0, n1)) fun l3 => some (l3, 0)
noncomputable def s_rread (N : Nat) : Nat → List UInt8 → Int → Option (List V × Int) | 0, _, _ => none | n + 1, x0, x1 => B_rread N (s_rread N n) x0 x1
noncomputable def cx_rread (N : Nat) (f : List UInt8 → Int → Option (List V × Int)) : Cx := { T := T, isPure := tabP [⟨78, e_rread f⟩, ⟨104, e_rtag (s_rtag N)⟩, ⟨105, e_rlength (s_rlength N)⟩, ⟨96, e_rConstructed (s_rConstructed N)⟩], pureK := fun g ds K => tabK [⟨78, e_rread f⟩, ⟨104, e_rtag (s_rtag N)⟩, ⟨105, e_rlength (s_rlength N)⟩, ⟨96, e_rConstructed (s_rConstructed N)⟩] g ds K, memK := fun g dst ds m K => tabMK [] g dst ds m K, meth := tabM [], keep := fun r => match r with | 2 => [0, 1, 6] | _ => [], keepX := fun r => match r with | 2 => [4, 5, 6] | _ => [], loopT := fun r ds m K => match r with | 2 => l_rread_2 N f ds m K | _ => none, jumps := 9 }
theorem F_rread_2_ok {R : Type} (N : Nat) (f : List UInt8 → Int → Option (List V × Int)) (n1 : Int) (l0 : List UInt8) (vs2 : List V) (L : List D → Mem → Option R) (K : Ex → List D → Mem → Option R) :
    roundK (fun st K => codeK (cx_rread N f) (loopN Try.f78 0) st K) 77 [0, 1, 6] [4, 5, 6] L [(.v (.bytes l0) .no), (.v (.int .i64 n1) .no), (.v (.sl 62 vs2) (.own (.slot 6) 62))] [[]] K = F_rread_2 N f n1 (fun l0 vs2 => L [(.v (.bytes l0) .no), (.v (.int .i64 n1) .no), (.v (.sl 62 vs2) (.own (.slot 6) 62))] [[]]) (fun a0 a1 a2 => K .ret [(.v (.sl 62 a0) (.own (.slot 4) 62)), (.v (.int .i64 a1) .no), (.v (.sl 62 a2) (.own (.slot 6) 62))] [[]]) (fun a0 => K (.exit 0) [.any, .any, (.v (.sl 62 a0) (.own (.slot 6) 62))] [[]]) l0 vs2 := by
  kernel_rfl
theorem S_rread_2_ok {R : Type} (N : Nat) (f : List UInt8 → Int → Option (List V × Int)) (n1 : Int) (K : Ex → List D → Mem → Option R) : ∀ (t : Nat) (l0 : List UInt8) (vs2 : List V),
    loopK (fun st K => codeK (cx_rread N f) (loopN Try.f78 0) st K) 77 [0, 1, 6] [4, 5, 6] t [(.v (.bytes l0) .no), (.v (.int .i64 n1) .no), (.v (.sl 62 vs2) (.own (.slot 6) 62))] [[]] K = S_rread_2 N f n1 t l0 vs2 (fun a0 a1 a2 => K .ret [(.v (.sl 62 a0) (.own (.slot 4) 62)), (.v (.int .i64 a1) .no), (.v (.sl 62 a2) (.own (.slot 6) 62))] [[]]) (fun a0 => K (.exit 0) [.any, .any, (.v (.sl 62 a0) (.own (.slot 6) 62))] [[]])
  | 0, l0, vs2 => rfl
  | t + 1, l0, vs2 => (F_rread_2_ok N f n1 l0 vs2 _ K).trans (congrArg (fun L => F_rread_2 N f n1 L (fun a0 a1 a2 => K .ret [(.v (.sl 62 a0) (.own (.slot 4) 62)), (.v (.int .i64 a1) .no), (.v (.sl 62 a2) (.own (.slot 6) 62))] [[]]) (fun a0 => K (.exit 0) [.any, .any, (.v (.sl 62 a0) (.own (.slot 6) 62))] [[]]) l0 vs2) (funext fun l0 => funext fun vs2 => S_rread_2_ok N f n1 K t l0 vs2))
theorem B_rread_ok (N : Nat) (f : List UInt8 → Int → Option (List V × Int)) (x0 : List UInt8) (x1 : Int) : bodyK (cx_rread N f) Try.f78 [.v (.bytes x0) .no, .v (.int .i64 x1) .no] [] r_rread = B_rread N f x0 x1 := by
  kernel_rfl
theorem go_rread : Goes Try.prog 78 := goes_of Try.func78 (by kernel_rfl) (c := bodyOf Try.f78) (by kernel_rfl)
theorem eo_rread (s : List UInt8 → Int → Option (List V × Int)) (hs : ∀ (x0 : List UInt8) (x1 : Int) (r0 : List V) (r1 : Int), s x0 x1 = some (r0, r1) → PureRet Try.prog T 78 [.v (.bytes x0) .no, .v (.int .i64 x1) .no] [.v (.sl 62 r0) .no, .v (.int .i64 r1) .no]) : EntOK Try.prog T ⟨78, e_rread s⟩ := by
  refine ⟨go_rread, fun R ds K r h => ?_, fun R ds K => ?_⟩
  · simp only [e_rread] at h
    split at h
    · obtain ⟨r0, r1, h1, h2⟩ := bnd2_some h
      exact ⟨_, h2, hs _ _ _ _ h1⟩
    · cases h
  · simp only [e_rread]
    split
    · rw [bnd2_b]; rfl
    · rfl
theorem co_rread (N : Nat) (f : List UInt8 → Int → Option (List V × Int)) (hf : ∀ (x0 : List UInt8) (x1 : Int) (r0 : List V) (r1 : Int), f x0 x1 = some (r0, r1) → PureRet Try.prog T 78 [.v (.bytes x0) .no, .v (.int .i64 x1) .no] [.v (.sl 62 r0) .no, .v (.int .i64 r1) .no]) : CxOK Try.prog (cx_rread N f) :=
  cxOK_of2 (es := [⟨78, e_rread f⟩, ⟨104, e_rtag (s_rtag N)⟩, ⟨105, e_rlength (s_rlength N)⟩, ⟨96, e_rConstructed (s_rConstructed N)⟩]) (me := []) (ms := []) T_ok ⟨eo_rread f hf, eo_rtag _ (p_rtag N), eo_rlength _ (p_rlength N), eo_rConstructed _ (p_rConstructed N), trivial⟩ trivial trivial rfl (fun _ _ _ _ => rfl) (fun _ _ _ _ _ _ => rfl) rfl
theorem lk_rread_2 (N : Nat) (f : List UInt8 → Int → Option (List V × Int)) : LoopOK (cx_rread N f) 77 (loopN Try.f78 0) := by
  refine loopOK_of (rid := 2) (by kernel_rfl) rfl rfl fun R ds m K r h => ?_
  have h : l_rread_2 N f ds m K = some r := h
  unfold l_rread_2 at h
  split at h
  · exact ⟨N, Eq.trans (S_rread_2_ok ..) h⟩
  · cases h
theorem lo_rread (N : Nat) (f : List UInt8 → Int → Option (List V × Int)) : LoopsOK (cx_rread N f) Try.f78.ntmps (bodyOf Try.f78) :=
  loopsOK_of (k := 1) (by kernel_rfl) ⟨trivial, lk_rread_2 N f⟩
theorem p_rread (N : Nat) : ∀ (M : Nat) (x0 : List UInt8) (x1 : Int) (r0 : List V) (r1 : Int), s_rread N M x0 x1 = some (r0, r1) → PureRet Try.prog T 78 [.v (.bytes x0) .no, .v (.int .i64 x1) .no] [.v (.sl 62 r0) .no, .v (.int .i64 r1) .no]
  | 0, _, _, _, _, h => by cases h
  | M + 1, x0, x1, r0, r1, h => pure_of (cx := cx_rread N (s_rread N M)) (by kernel_rfl) (co_rread N (s_rread N M) (p_rread N M)) Try.func78 (by kernel_rfl) (by kernel_rfl) (lo_rread N (s_rread N M)) rfl rfl rfl (rf := r_rread) ((B_rread_ok N (s_rread N M) x0 x1).trans h) (fun rs' m h => by
    unfold r_rread at h
    split at h
    · cases h; exact ⟨rfl, rfl⟩
    · cases h)
noncomputable def e_rDecode {R : Type} (s : List UInt8 → Option (List V × Int)) (ds : List D) (K : List D → Option R) : Option R :=
  match ds with
  | [.v (.bytes x0) .no] => bnd2 (s x0) fun r0 r1 => K [.v (.sl 62 r0) .no, .v (.int .i64 r1) .no]
  | _ => none
noncomputable def r_rDecode (rs : List D) (_ : Mem) : Option (List V × Int) :=
  match rs with
  | [.v (.sl 62 r0) _, .v (.int .i64 r1) _] => some (r0, r1)
  | _ => none
noncomputable def s_rDecode (N : Nat) (x0 : List UInt8) : Option (List V × Int) := br (decide (4096 < (↑x0.length : Int))) (some ([], 3)) (bnd2 (s_rread N N x0 1) fun l0 n1 => some (l0, n1))
noncomputable def cx_rDecode (N : Nat) : Cx := { T := T, isPure := tabP [⟨78, e_rread (s_rread N N)⟩], pureK := fun g ds K => tabK [⟨78, e_rread (s_rread N N)⟩] g ds K, memK := fun g dst ds m K => tabMK [] g dst ds m K, meth := tabM [], keep := fun _ => [], keepX := fun _ => [], loopT := fun _ _ _ _ => none, jumps := 9 }
theorem s_rDecode_ok (N : Nat) (x0 : List UInt8) : bodyK (cx_rDecode N) Try.f52 [.v (.bytes x0) .no] [] r_rDecode = s_rDecode N x0 := by
  kernel_rfl
theorem go_rDecode : Goes Try.prog 52 := goes_of Try.func52 (by kernel_rfl) (c := bodyOf Try.f52) (by kernel_rfl)
theorem eo_rDecode (s : List UInt8 → Option (List V × Int)) (hs : ∀ (x0 : List UInt8) (r0 : List V) (r1 : Int), s x0 = some (r0, r1) → PureRet Try.prog T 52 [.v (.bytes x0) .no] [.v (.sl 62 r0) .no, .v (.int .i64 r1) .no]) : EntOK Try.prog T ⟨52, e_rDecode s⟩ := by
  refine ⟨go_rDecode, fun R ds K r h => ?_, fun R ds K => ?_⟩
  · simp only [e_rDecode] at h
    split at h
    · obtain ⟨r0, r1, h1, h2⟩ := bnd2_some h
      exact ⟨_, h2, hs _ _ _ h1⟩
    · cases h
  · simp only [e_rDecode]
    split
    · rw [bnd2_b]; rfl
    · rfl
theorem co_rDecode (N : Nat) : CxOK Try.prog (cx_rDecode N) :=
  cxOK_of2 (es := [⟨78, e_rread (s_rread N N)⟩]) (me := []) (ms := []) T_ok ⟨eo_rread _ (p_rread N N), trivial⟩ trivial trivial rfl (fun _ _ _ _ => rfl) (fun _ _ _ _ _ _ => rfl) rfl
theorem lo_rDecode (N : Nat) : LoopsOK (cx_rDecode N) Try.f52.ntmps (bodyOf Try.f52) :=
  loopsOK_of (k := 0) (by kernel_rfl) trivial
theorem p_rDecode (N : Nat) (x0 : List UInt8) (r0 : List V) (r1 : Int) (h : s_rDecode N x0 = some (r0, r1)) : PureRet Try.prog T 52 [.v (.bytes x0) .no] [.v (.sl 62 r0) .no, .v (.int .i64 r1) .no] :=
  pure_of (cx := cx_rDecode N) (by kernel_rfl) (co_rDecode N) Try.func52 (by kernel_rfl) (by kernel_rfl) (lo_rDecode N) rfl rfl rfl (rf := r_rDecode) ((s_rDecode_ok N x0).trans h) (fun rs' m h => by
    unfold r_rDecode at h
    split at h
    · cases h; exact ⟨rfl, rfl⟩
    · cases h)
noncomputable def e_Equal {R : Type} (s : List UInt8 → List UInt8 → Option (Bool)) (ds : List D) (K : List D → Option R) : Option R :=
  match ds with
  | [.v (.bytes x0) .no, .v (.bytes x1) .no] => bnd1 (s x0 x1) fun r0 => K [.v (.bool r0) .no]
  | _ => none
noncomputable def r_Equal (rs : List D) (_ : Mem) : Option (Bool) :=
  match rs with
  | [.v (.bool r0) _] => some (r0)
  | _ => none
noncomputable def s_Equal (N : Nat) (x0 : List UInt8) (x1 : List UInt8) : Option (Bool) := br (decide (x0.length ≤ 9223372036854775807)) (br (decide (x1.length ≤ 9223372036854775807)) (some (decide (x0 = x1))) none) none
noncomputable def cx_Equal (N : Nat) : Cx := { T := T, isPure := tabP [], pureK := fun g ds K => tabK [] g ds K, memK := fun g dst ds m K => tabMK [] g dst ds m K, meth := tabM [], keep := fun _ => [], keepX := fun _ => [], loopT := fun _ _ _ _ => none, jumps := 9 }
theorem s_Equal_ok (N : Nat) (x0 : List UInt8) (x1 : List UInt8) : bodyK (cx_Equal N) Try.f46 [.v (.bytes x0) .no, .v (.bytes x1) .no] [] r_Equal = s_Equal N x0 x1 := by
  kernel_rfl
theorem go_Equal : Goes Try.prog 46 := goes_of Try.func46 (by kernel_rfl) (c := bodyOf Try.f46) (by kernel_rfl)
theorem eo_Equal (s : List UInt8 → List UInt8 → Option (Bool)) (hs : ∀ (x0 : List UInt8) (x1 : List UInt8) (r0 : Bool), s x0 x1 = some r0 → PureRet Try.prog T 46 [.v (.bytes x0) .no, .v (.bytes x1) .no] [.v (.bool r0) .no]) : EntOK Try.prog T ⟨46, e_Equal s⟩ := by
  refine ⟨go_Equal, fun R ds K r h => ?_, fun R ds K => ?_⟩
  · simp only [e_Equal] at h
    split at h
    · obtain ⟨r0, h1, h2⟩ := bnd1_some h
      exact ⟨_, h2, hs _ _ _ h1⟩
    · cases h
  · simp only [e_Equal]
    split
    · rw [bnd1_b]; rfl
    · rfl
theorem co_Equal (N : Nat) : CxOK Try.prog (cx_Equal N) :=
  cxOK_of2 (es := []) (me := []) (ms := []) T_ok trivial trivial trivial rfl (fun _ _ _ _ => rfl) (fun _ _ _ _ _ _ => rfl) rfl
theorem lo_Equal (N : Nat) : LoopsOK (cx_Equal N) Try.f46.ntmps (bodyOf Try.f46) :=
  loopsOK_of (k := 0) (by kernel_rfl) trivial
theorem p_Equal (N : Nat) (x0 : List UInt8) (x1 : List UInt8) (r0 : Bool) (h : s_Equal N x0 x1 = some r0) : PureRet Try.prog T 46 [.v (.bytes x0) .no, .v (.bytes x1) .no] [.v (.bool r0) .no] :=
  pure_of (cx := cx_Equal N) (by kernel_rfl) (co_Equal N) Try.func46 (by kernel_rfl) (by kernel_rfl) (lo_Equal N) rfl rfl rfl (rf := r_Equal) ((s_Equal_ok N x0 x1).trans h) (fun rs' m h => by
    unfold r_Equal at h
    split at h
    · cases h; exact ⟨rfl, rfl⟩
    · cases h)
noncomputable def e_clone {R : Type} (s : List UInt8 → Option (List UInt8)) (ds : List D) (K : List D → Option R) : Option R :=
  match ds with
  | [.v (.bytes x0) .no] => bnd1 (s x0) fun r0 => K [.v (.bytes r0) .no]
  | _ => none
theorem go_clone : Goes Try.prog 61 := goes_of Try.func61 (by kernel_rfl) (c := bodyOf Try.f61) (by kernel_rfl)
theorem eo_clone (s : List UInt8 → Option (List UInt8)) (hs : ∀ (x0 : List UInt8) (r0 : List UInt8), s x0 = some r0 → PureRet Try.prog T 61 [.v (.bytes x0) .no] [.v (.bytes r0) .no]) : EntOK Try.prog T ⟨61, e_clone s⟩ := by
  refine ⟨go_clone, fun R ds K r h => ?_, fun R ds K => ?_⟩
  · simp only [e_clone] at h
    split at h
    · obtain ⟨r0, h1, h2⟩ := bnd1_some h
      exact ⟨_, h2, hs _ _ h1⟩
    · cases h
  · simp only [e_clone]
    split
    · rw [bnd1_b]; rfl
    · rfl
noncomputable def e_concat {R : Type} (s : List V → Option (List UInt8)) (ds : List D) (K : List D → Option R) : Option R :=
  match ds with
  | [.v (.sl 22 x0) .no] => bnd1 (s x0) fun r0 => K [.v (.bytes r0) .no]
  | _ => none
theorem go_concat : Goes Try.prog 94 := goes_of Try.func94 (by kernel_rfl) (c := bodyOf Try.f94) (by kernel_rfl)
theorem eo_concat (s : List V → Option (List UInt8)) (hs : ∀ (x0 : List V) (r0 : List UInt8), s x0 = some r0 → PureRet Try.prog T 94 [.v (.sl 22 x0) .no] [.v (.bytes r0) .no]) : EntOK Try.prog T ⟨94, e_concat s⟩ := by
  refine ⟨go_concat, fun R ds K r h => ?_, fun R ds K => ?_⟩
  · simp only [e_concat] at h
    split at h
    · obtain ⟨r0, h1, h2⟩ := bnd1_some h
      exact ⟨_, h2, hs _ _ h1⟩
    · cases h
  · simp only [e_concat]
    split
    · rw [bnd1_b]; rfl
    · rfl
noncomputable def e_encode {R : Type} (s : List V → Option (List UInt8)) (ds : List D) (K : List D → Option R) : Option R :=
  match ds with
  | [.v (.sl 62 x0) .no] => bnd1 (s x0) fun r0 => K [.v (.bytes r0) .no]
  | _ => none
noncomputable def r_encode (rs : List D) (_ : Mem) : Option (List UInt8) :=
  match rs with
  | [.v (.bytes r0) _] => some (r0)
  | _ => none
noncomputable def F_encode_3 {R : Type} (N : Nat) (f : List V → Option (List UInt8)) (vs1 : List V) (n2 : Int) (Lq : List UInt8 → Int → Option R) (K0 : List UInt8 → Option R) (l0 : List UInt8) (n3 : Int) : Option R := br (decide (n3 < n2)) (br (decide (0 ≤ n3) && decide (n3 < (↑vs1.length : Int))) (at? vs1 n3.toNat fun x0 => x0.unAgg fun l1 => unCons l1 fun x2 l3 => V.unInt IntKind.i64 x2 fun n4 => unCons l3 fun x5 l6 => x5.unBytes fun l7 => unCons l6 fun x8 l9 => V.unSl 62 x8 fun l10 => unNil l9 (bnd1 (s_Constructed N n4) fun b11 => br b11 (bnd1 (f l10) fun l12 => bnd1 (s_tagBytes N n4) fun l13 => bnd1 (s_lengthBytes N (↑l12.length : Int)) fun l14 => bnd1 (s_concat N [V.bytes l0, V.bytes l13, V.bytes l14, V.bytes l12]) fun l15 => Lq l15 (IntKind.i64.wrap (n3 + 1))) (bnd1 (s_tagBytes N n4) fun l16 => bnd1 (s_lengthBytes N (↑l7.length : Int)) fun l17 => bnd1 (s_concat N [V.bytes l0, V.bytes l16, V.bytes l17, V.bytes l7]) fun l18 => Lq l18 (IntKind.i64.wrap (n3 + 1))))) none) (K0 l0)
noncomputable def S_encode_3 {R : Type} (N : Nat) (f : List V → Option (List UInt8)) (vs1 : List V) (n2 : Int) : Nat → List UInt8 → Int → (List UInt8 → Option R) → Option R | 0, _, _, _ => none | t + 1, l0, n3, K0 => F_encode_3 N f vs1 n2 (fun l0 n3 => S_encode_3 N f vs1 n2 t l0 n3 K0) K0 l0 n3
noncomputable def l_encode_3 {R : Type} (N : Nat) (f : List V → Option (List UInt8)) (ds : List D) (m : Mem) (K : Ex → List D → Mem → Option R) : Option R :=
  match ds, m with
  | [(.v (.bytes l0) .no), (.v (.sl 62 vs1) .no), (.v (.int .i64 n2) .no), (.v (.int .i64 n3) .no), .any], [[]] => S_encode_3 N f vs1 n2 N l0 n3 (fun a0 => K (.exit 0) [(.v (.bytes a0) .no)] [[]])
  | _, _ => none
noncomputable def B_encode (N : Nat) (f : List V → Option (List UInt8)) (x0 : List V) : Option (List UInt8) := S_encode_3 N f x0 (↑x0.length : Int) N [] 0 fun l0 => some l0
noncomputable def s_encode (N : Nat) : Nat → List V → Option (List UInt8) | 0, _ => none | n + 1, x0 => B_encode N (s_encode N n) x0
noncomputable def cx_encode (N : Nat) (f : List V → Option (List UInt8)) : Cx := { T := T, isPure := tabP [⟨65, e_encode f⟩, ⟨91, e_Constructed (s_Constructed N)⟩, ⟨92, e_tagBytes (s_tagBytes N)⟩, ⟨93, e_lengthBytes (s_lengthBytes N)⟩, ⟨94, e_concat (s_concat N)⟩], pureK := fun g ds K => tabK [⟨65, e_encode f⟩, ⟨91, e_Constructed (s_Constructed N)⟩, ⟨92, e_tagBytes (s_tagBytes N)⟩, ⟨93, e_lengthBytes (s_lengthBytes N)⟩, ⟨94, e_concat (s_concat N)⟩] g ds K, memK := fun g dst ds m K => tabMK [] g dst ds m K, meth := tabM [], keep := fun r => match r with | 3 => [3, 7, 8, 9, 200003] | _ => [], keepX := fun r => match r with | 3 => [3] | _ => [], loopT := fun r ds m K => match r with | 3 => l_encode_3 N f ds m K | _ => none, jumps := 9 }
theorem F_encode_3_ok {R : Type} (N : Nat) (f : List V → Option (List UInt8)) (vs1 : List V) (n2 : Int) (l0 : List UInt8) (n3 : Int) (L : List D → Mem → Option R) (K : Ex → List D → Mem → Option R) :
    roundK (fun st K => codeK (cx_encode N f) (loopN Try.f65 0) st K) 33 [3, 7, 8, 9, 200003] [3] L [(.v (.bytes l0) .no), (.v (.sl 62 vs1) .no), (.v (.int .i64 n2) .no), (.v (.int .i64 n3) .no), .any] [[]] K = F_encode_3 N f vs1 n2 (fun l0 n3 => L [(.v (.bytes l0) .no), (.v (.sl 62 vs1) .no), (.v (.int .i64 n2) .no), (.v (.int .i64 n3) .no), .any] [[]]) (fun a0 => K (.exit 0) [(.v (.bytes a0) .no)] [[]]) l0 n3 := by
  kernel_rfl
theorem S_encode_3_ok {R : Type} (N : Nat) (f : List V → Option (List UInt8)) (vs1 : List V) (n2 : Int) (K : Ex → List D → Mem → Option R) : ∀ (t : Nat) (l0 : List UInt8) (n3 : Int),
    loopK (fun st K => codeK (cx_encode N f) (loopN Try.f65 0) st K) 33 [3, 7, 8, 9, 200003] [3] t [(.v (.bytes l0) .no), (.v (.sl 62 vs1) .no), (.v (.int .i64 n2) .no), (.v (.int .i64 n3) .no), .any] [[]] K = S_encode_3 N f vs1 n2 t l0 n3 (fun a0 => K (.exit 0) [(.v (.bytes a0) .no)] [[]])
  | 0, l0, n3 => rfl
  | t + 1, l0, n3 => (F_encode_3_ok N f vs1 n2 l0 n3 _ K).trans (congrArg (fun L => F_encode_3 N f vs1 n2 L (fun a0 => K (.exit 0) [(.v (.bytes a0) .no)] [[]]) l0 n3) (funext fun l0 => funext fun n3 => S_encode_3_ok N f vs1 n2 K t l0 n3))
theorem B_encode_ok (N : Nat) (f : List V → Option (List UInt8)) (x0 : List V) : bodyK (cx_encode N f) Try.f65 [.v (.sl 62 x0) .no] [] r_encode = B_encode N f x0 := by
  kernel_rfl
theorem go_encode : Goes Try.prog 65 := goes_of Try.func65 (by kernel_rfl) (c := bodyOf Try.f65) (by kernel_rfl)
theorem eo_encode (s : List V → Option (List UInt8)) (hs : ∀ (x0 : List V) (r0 : List UInt8), s x0 = some r0 → PureRet Try.prog T 65 [.v (.sl 62 x0) .no] [.v (.bytes r0) .no]) : EntOK Try.prog T ⟨65, e_encode s⟩ := by
  refine ⟨go_encode, fun R ds K r h => ?_, fun R ds K => ?_⟩
  · simp only [e_encode] at h
    split at h
    · obtain ⟨r0, h1, h2⟩ := bnd1_some h
      exact ⟨_, h2, hs _ _ h1⟩
    · cases h
  · simp only [e_encode]
    split
    · rw [bnd1_b]; rfl
    · rfl
theorem co_encode (N : Nat) (f : List V → Option (List UInt8)) (hf : ∀ (x0 : List V) (r0 : List UInt8), f x0 = some r0 → PureRet Try.prog T 65 [.v (.sl 62 x0) .no] [.v (.bytes r0) .no]) : CxOK Try.prog (cx_encode N f) :=
  cxOK_of2 (es := [⟨65, e_encode f⟩, ⟨91, e_Constructed (s_Constructed N)⟩, ⟨92, e_tagBytes (s_tagBytes N)⟩, ⟨93, e_lengthBytes (s_lengthBytes N)⟩, ⟨94, e_concat (s_concat N)⟩]) (me := []) (ms := []) T_ok ⟨eo_encode f hf, eo_Constructed _ (p_Constructed N), eo_tagBytes _ (p_tagBytes N), eo_lengthBytes _ (p_lengthBytes N), eo_concat _ (p_concat N), trivial⟩ trivial trivial rfl (fun _ _ _ _ => rfl) (fun _ _ _ _ _ _ => rfl) rfl
theorem lk_encode_3 (N : Nat) (f : List V → Option (List UInt8)) : LoopOK (cx_encode N f) 33 (loopN Try.f65 0) := by
  refine loopOK_of (rid := 3) (by kernel_rfl) rfl rfl fun R ds m K r h => ?_
  have h : l_encode_3 N f ds m K = some r := h
  unfold l_encode_3 at h
  split at h
  · exact ⟨N, Eq.trans (S_encode_3_ok ..) h⟩
  · cases h
theorem lo_encode (N : Nat) (f : List V → Option (List UInt8)) : LoopsOK (cx_encode N f) Try.f65.ntmps (bodyOf Try.f65) :=
  loopsOK_of (k := 1) (by kernel_rfl) ⟨trivial, lk_encode_3 N f⟩
theorem p_encode (N : Nat) : ∀ (M : Nat) (x0 : List V) (r0 : List UInt8), s_encode N M x0 = some r0 → PureRet Try.prog T 65 [.v (.sl 62 x0) .no] [.v (.bytes r0) .no]
  | 0, _, _, h => by cases h
  | M + 1, x0, r0, h => pure_of (cx := cx_encode N (s_encode N M)) (by kernel_rfl) (co_encode N (s_encode N M) (p_encode N M)) Try.func65 (by kernel_rfl) (by kernel_rfl) (lo_encode N (s_encode N M)) rfl rfl rfl (rf := r_encode) ((B_encode_ok N (s_encode N M) x0).trans h) (fun rs' m h => by
    unfold r_encode at h
    split at h
    · cases h; exact ⟨rfl, rfl⟩
    · cases h)
noncomputable def e_Encode {R : Type} (s : List V → Option (List UInt8 × Int)) (ds : List D) (K : List D → Option R) : Option R :=
  match ds with
  | [.v (.sl 62 x0) .no] => bnd2 (s x0) fun r0 r1 => K [.v (.bytes r0) .no, .v (.int .i64 r1) .no]
  | _ => none
noncomputable def r_Encode (rs : List D) (_ : Mem) : Option (List UInt8 × Int) :=
  match rs with
  | [.v (.bytes r0) _, .v (.int .i64 r1) _] => some (r0, r1)
  | _ => none
noncomputable def s_Encode (N : Nat) (x0 : List V) : Option (List UInt8 × Int) := bnd1 (s_valid N N x0 1) fun b0 => br (!b0) (some ([], 1)) (bnd1 (s_size N N x0) fun n1 => br (decide (4096 < n1)) (some ([], 3)) (bnd1 (s_encode N N x0) fun l2 => some (l2, 0)))
noncomputable def cx_Encode (N : Nat) : Cx := { T := T, isPure := tabP [⟨63, e_valid (s_valid N N)⟩, ⟨64, e_size (s_size N N)⟩, ⟨65, e_encode (s_encode N N)⟩], pureK := fun g ds K => tabK [⟨63, e_valid (s_valid N N)⟩, ⟨64, e_size (s_size N N)⟩, ⟨65, e_encode (s_encode N N)⟩] g ds K, memK := fun g dst ds m K => tabMK [] g dst ds m K, meth := tabM [], keep := fun _ => [], keepX := fun _ => [], loopT := fun _ _ _ _ => none, jumps := 9 }
theorem s_Encode_ok (N : Nat) (x0 : List V) : bodyK (cx_Encode N) Try.f41 [.v (.sl 62 x0) .no] [] r_Encode = s_Encode N x0 := by
  kernel_rfl
theorem go_Encode : Goes Try.prog 41 := goes_of Try.func41 (by kernel_rfl) (c := bodyOf Try.f41) (by kernel_rfl)
theorem eo_Encode (s : List V → Option (List UInt8 × Int)) (hs : ∀ (x0 : List V) (r0 : List UInt8) (r1 : Int), s x0 = some (r0, r1) → PureRet Try.prog T 41 [.v (.sl 62 x0) .no] [.v (.bytes r0) .no, .v (.int .i64 r1) .no]) : EntOK Try.prog T ⟨41, e_Encode s⟩ := by
  refine ⟨go_Encode, fun R ds K r h => ?_, fun R ds K => ?_⟩
  · simp only [e_Encode] at h
    split at h
    · obtain ⟨r0, r1, h1, h2⟩ := bnd2_some h
      exact ⟨_, h2, hs _ _ _ h1⟩
    · cases h
  · simp only [e_Encode]
    split
    · rw [bnd2_b]; rfl
    · rfl
theorem co_Encode (N : Nat) : CxOK Try.prog (cx_Encode N) :=
  cxOK_of2 (es := [⟨63, e_valid (s_valid N N)⟩, ⟨64, e_size (s_size N N)⟩, ⟨65, e_encode (s_encode N N)⟩]) (me := []) (ms := []) T_ok ⟨eo_valid _ (p_valid N N), eo_size _ (p_size N N), eo_encode _ (p_encode N N), trivial⟩ trivial trivial rfl (fun _ _ _ _ => rfl) (fun _ _ _ _ _ _ => rfl) rfl
theorem lo_Encode (N : Nat) : LoopsOK (cx_Encode N) Try.f41.ntmps (bodyOf Try.f41) :=
  loopsOK_of (k := 0) (by kernel_rfl) trivial
theorem p_Encode (N : Nat) (x0 : List V) (r0 : List UInt8) (r1 : Int) (h : s_Encode N x0 = some (r0, r1)) : PureRet Try.prog T 41 [.v (.sl 62 x0) .no] [.v (.bytes r0) .no, .v (.int .i64 r1) .no] :=
  pure_of (cx := cx_Encode N) (by kernel_rfl) (co_Encode N) Try.func41 (by kernel_rfl) (by kernel_rfl) (lo_Encode N) rfl rfl rfl (rf := r_Encode) ((s_Encode_ok N x0).trans h) (fun rs' m h => by
    unfold r_Encode at h
    split at h
    · cases h; exact ⟨rfl, rfl⟩
    · cases h)
noncomputable def e_decode {R : Type} (s : List UInt8 → Int → Option (List V × Int)) (ds : List D) (K : List D → Option R) : Option R :=
  match ds with
  | [.v (.bytes x0) .no, .v (.int .i64 x1) .no] => bnd2 (s x0 x1) fun r0 r1 => K [.v (.sl 62 r0) .no, .v (.int .i64 r1) .no]
  | _ => none
noncomputable def r_decode (rs : List D) (_ : Mem) : Option (List V × Int) :=
  match rs with
  | [.v (.sl 62 r0) _, .v (.int .i64 r1) _] => some (r0, r1)
  | _ => none
noncomputable def F_decode_2 {R : Type} (N : Nat) (f : List UInt8 → Int → Option (List V × Int)) (n1 : Int) (Lq : List UInt8 → List V → Option R) (K0 : List V → Int → List V → Option R) (K1 : List V → Option R) (l0 : List UInt8) (vs2 : List V) : Option R := br (decide (0 < (↑l0.length : Int))) (br (decide (8 < n1)) (K0 [] 4 vs2) (bnd3 (s_tag N l0) fun n0 l1 n2 => br (!decide (n2 = 0)) (K0 [] n2 vs2) (bnd3 (s_length N l1) fun n3 l4 n5 => br (!decide (n5 = 0)) (K0 [] n5 vs2) (br (decide ((↑l4.length : Int) < n3)) (K0 [] 5 vs2) (bnd1 (s_Constructed N n0) fun b6 => br b6 (br (decide (0 ≤ n3) && decide (n3 ≤ (↑l4.length : Int))) (bnd2 (f (List.take n3.toNat l4) (IntKind.i64.wrap (n1 + 1))) fun l7 n8 => br (!decide (n8 = 0)) (K0 [] n8 vs2) (br (decide ((vs2.length + [V.agg [V.int IntKind.i64 n0, V.bytes [], V.sl 62 l7]].length) * 56 ≤ 140737488355328)) (br (decide (0 ≤ n3) && decide (n3 ≤ (↑l4.length : Int))) (Lq (List.drop n3.toNat l4) (vs2 ++ [V.agg [V.int IntKind.i64 n0, V.bytes [], V.sl 62 l7]])) none) none)) none) (br (decide (0 ≤ n3) && decide (n3 ≤ (↑l4.length : Int))) (bnd1 (s_clone N (List.take n3.toNat l4)) fun l9 => br (decide ((vs2.length + [V.agg [V.int IntKind.i64 n0, V.bytes l9, V.sl 62 []]].length) * 56 ≤ 140737488355328)) (br (decide (0 ≤ n3) && decide (n3 ≤ (↑l4.length : Int))) (Lq (List.drop n3.toNat l4) (vs2 ++ [V.agg [V.int IntKind.i64 n0, V.bytes l9, V.sl 62 []]])) none) none) none)))))) (K1 vs2)
noncomputable def S_decode_2 {R : Type} (N : Nat) (f : List UInt8 → Int → Option (List V × Int)) (n1 : Int) : Nat → List UInt8 → List V → (List V → Int → List V → Option R) → (List V → Option R) → Option R | 0, _, _, _, _ => none | t + 1, l0, vs2, K0, K1 => F_decode_2 N f n1 (fun l0 vs2 => S_decode_2 N f n1 t l0 vs2 K0 K1) K0 K1 l0 vs2
noncomputable def l_decode_2 {R : Type} (N : Nat) (f : List UInt8 → Int → Option (List V × Int)) (ds : List D) (m : Mem) (K : Ex → List D → Mem → Option R) : Option R :=
  match ds, m with
  | [(.v (.bytes l0) .no), (.v (.int .i64 n1) .no), (.v (.sl 62 vs2) (.own (.slot 6) 62))], [[]] => S_decode_2 N f n1 N l0 vs2 (fun a0 a1 a2 => K .ret [(.v (.sl 62 a0) (.own (.slot 4) 62)), (.v (.int .i64 a1) .no), (.v (.sl 62 a2) (.own (.slot 6) 62))] [[]]) (fun a0 => K (.exit 0) [.any, .any, (.v (.sl 62 a0) (.own (.slot 6) 62))] [[]])
  | _, _ => none
noncomputable def B_decode (N : Nat) (f : List UInt8 → Int → Option (List V × Int)) (x0 : List UInt8) (x1 : Int) : Option (List V × Int) := S_decode_2 N f x1 N x0 [] (fun l0 n1 l2 => some (l0, n1)) fun l3 => some (l3, 0)
noncomputable def s_decode (N : Nat) : Nat → List UInt8 → Int → Option (List V × Int) | 0, _, _ => none | n + 1, x0, x1 => B_decode N (s_decode N n) x0 x1
noncomputable def cx_decode (N : Nat) (f : List UInt8 → Int → Option (List V × Int)) : Cx := { T := T, isPure := tabP [⟨73, e_decode f⟩, ⟨101, e_tag (s_tag N)⟩, ⟨102, e_length (s_length N)⟩, ⟨91, e_Constructed (s_Constructed N)⟩, ⟨61, e_clone (s_clone N)⟩], pureK := fun g ds K => tabK [⟨73, e_decode f⟩, ⟨101, e_tag (s_tag N)⟩, ⟨102, e_length (s_length N)⟩, ⟨91, e_Constructed (s_Constructed N)⟩, ⟨61, e_clone (s_clone N)⟩] g ds K, memK := fun g dst ds m K => tabMK [] g dst ds m K, meth := tabM [], keep := fun r => match r with | 2 => [0, 1, 6] | _ => [], keepX := fun r => match r with | 2 => [4, 5, 6] | _ => [], loopT := fun r ds m K => match r with | 2 => l_decode_2 N f ds m K | _ => none, jumps := 9 }
theorem F_decode_2_ok {R : Type} (N : Nat) (f : List UInt8 → Int → Option (List V × Int)) (n1 : Int) (l0 : List UInt8) (vs2 : List V) (L : List D → Mem → Option R) (K : Ex → List D → Mem → Option R) :
    roundK (fun st K => codeK (cx_decode N f) (loopN Try.f73 0) st K) 69 [0, 1, 6] [4, 5, 6] L [(.v (.bytes l0) .no), (.v (.int .i64 n1) .no), (.v (.sl 62 vs2) (.own (.slot 6) 62))] [[]] K = F_decode_2 N f n1 (fun l0 vs2 => L [(.v (.bytes l0) .no), (.v (.int .i64 n1) .no), (.v (.sl 62 vs2) (.own (.slot 6) 62))] [[]]) (fun a0 a1 a2 => K .ret [(.v (.sl 62 a0) (.own (.slot 4) 62)), (.v (.int .i64 a1) .no), (.v (.sl 62 a2) (.own (.slot 6) 62))] [[]]) (fun a0 => K (.exit 0) [.any, .any, (.v (.sl 62 a0) (.own (.slot 6) 62))] [[]]) l0 vs2 := by
  kernel_rfl
theorem S_decode_2_ok {R : Type} (N : Nat) (f : List UInt8 → Int → Option (List V × Int)) (n1 : Int) (K : Ex → List D → Mem → Option R) : ∀ (t : Nat) (l0 : List UInt8) (vs2 : List V),
    loopK (fun st K => codeK (cx_decode N f) (loopN Try.f73 0) st K) 69 [0, 1, 6] [4, 5, 6] t [(.v (.bytes l0) .no), (.v (.int .i64 n1) .no), (.v (.sl 62 vs2) (.own (.slot 6) 62))] [[]] K = S_decode_2 N f n1 t l0 vs2 (fun a0 a1 a2 => K .ret [(.v (.sl 62 a0) (.own (.slot 4) 62)), (.v (.int .i64 a1) .no), (.v (.sl 62 a2) (.own (.slot 6) 62))] [[]]) (fun a0 => K (.exit 0) [.any, .any, (.v (.sl 62 a0) (.own (.slot 6) 62))] [[]])
  | 0, l0, vs2 => rfl
  | t + 1, l0, vs2 => (F_decode_2_ok N f n1 l0 vs2 _ K).trans (congrArg (fun L => F_decode_2 N f n1 L (fun a0 a1 a2 => K .ret [(.v (.sl 62 a0) (.own (.slot 4) 62)), (.v (.int .i64 a1) .no), (.v (.sl 62 a2) (.own (.slot 6) 62))] [[]]) (fun a0 => K (.exit 0) [.any, .any, (.v (.sl 62 a0) (.own (.slot 6) 62))] [[]]) l0 vs2) (funext fun l0 => funext fun vs2 => S_decode_2_ok N f n1 K t l0 vs2))
theorem B_decode_ok (N : Nat) (f : List UInt8 → Int → Option (List V × Int)) (x0 : List UInt8) (x1 : Int) : bodyK (cx_decode N f) Try.f73 [.v (.bytes x0) .no, .v (.int .i64 x1) .no] [] r_decode = B_decode N f x0 x1 := by
  kernel_rfl
theorem go_decode : Goes Try.prog 73 := goes_of Try.func73 (by kernel_rfl) (c := bodyOf Try.f73) (by kernel_rfl)
theorem eo_decode (s : List UInt8 → Int → Option (List V × Int)) (hs : ∀ (x0 : List UInt8) (x1 : Int) (r0 : List V) (r1 : Int), s x0 x1 = some (r0, r1) → PureRet Try.prog T 73 [.v (.bytes x0) .no, .v (.int .i64 x1) .no] [.v (.sl 62 r0) .no, .v (.int .i64 r1) .no]) : EntOK Try.prog T ⟨73, e_decode s⟩ := by
  refine ⟨go_decode, fun R ds K r h => ?_, fun R ds K => ?_⟩
  · simp only [e_decode] at h
    split at h
    · obtain ⟨r0, r1, h1, h2⟩ := bnd2_some h
      exact ⟨_, h2, hs _ _ _ _ h1⟩
    · cases h
  · simp only [e_decode]
    split
    · rw [bnd2_b]; rfl
    · rfl
theorem co_decode (N : Nat) (f : List UInt8 → Int → Option (List V × Int)) (hf : ∀ (x0 : List UInt8) (x1 : Int) (r0 : List V) (r1 : Int), f x0 x1 = some (r0, r1) → PureRet Try.prog T 73 [.v (.bytes x0) .no, .v (.int .i64 x1) .no] [.v (.sl 62 r0) .no, .v (.int .i64 r1) .no]) : CxOK Try.prog (cx_decode N f) :=
  cxOK_of2 (es := [⟨73, e_decode f⟩, ⟨101, e_tag (s_tag N)⟩, ⟨102, e_length (s_length N)⟩, ⟨91, e_Constructed (s_Constructed N)⟩, ⟨61, e_clone (s_clone N)⟩]) (me := []) (ms := []) T_ok ⟨eo_decode f hf, eo_tag _ (p_tag N), eo_length _ (p_length N), eo_Constructed _ (p_Constructed N), eo_clone _ (p_clone N), trivial⟩ trivial trivial rfl (fun _ _ _ _ => rfl) (fun _ _ _ _ _ _ => rfl) rfl
theorem lk_decode_2 (N : Nat) (f : List UInt8 → Int → Option (List V × Int)) : LoopOK (cx_decode N f) 69 (loopN Try.f73 0) := by
  refine loopOK_of (rid := 2) (by kernel_rfl) rfl rfl fun R ds m K r h => ?_
  have h : l_decode_2 N f ds m K = some r := h
  unfold l_decode_2 at h
  split at h
  · exact ⟨N, Eq.trans (S_decode_2_ok ..) h⟩
  · cases h
theorem lo_decode (N : Nat) (f : List UInt8 → Int → Option (List V × Int)) : LoopsOK (cx_decode N f) Try.f73.ntmps (bodyOf Try.f73) :=
  loopsOK_of (k := 1) (by kernel_rfl) ⟨trivial, lk_decode_2 N f⟩
theorem p_decode (N : Nat) : ∀ (M : Nat) (x0 : List UInt8) (x1 : Int) (r0 : List V) (r1 : Int), s_decode N M x0 x1 = some (r0, r1) → PureRet Try.prog T 73 [.v (.bytes x0) .no, .v (.int .i64 x1) .no] [.v (.sl 62 r0) .no, .v (.int .i64 r1) .no]
  | 0, _, _, _, _, h => by cases h
  | M + 1, x0, x1, r0, r1, h => pure_of (cx := cx_decode N (s_decode N M)) (by kernel_rfl) (co_decode N (s_decode N M) (p_decode N M)) Try.func73 (by kernel_rfl) (by kernel_rfl) (lo_decode N (s_decode N M)) rfl rfl rfl (rf := r_decode) ((B_decode_ok N (s_decode N M) x0 x1).trans h) (fun rs' m h => by
    unfold r_decode at h
    split at h
    · cases h; exact ⟨rfl, rfl⟩
    · cases h)
noncomputable def e_Decode {R : Type} (s : List UInt8 → Option (List V × Int)) (ds : List D) (K : List D → Option R) : Option R :=
  match ds with
  | [.v (.bytes x0) .no] => bnd2 (s x0) fun r0 r1 => K [.v (.sl 62 r0) .no, .v (.int .i64 r1) .no]
  | _ => none
noncomputable def r_Decode (rs : List D) (_ : Mem) : Option (List V × Int) :=
  match rs with
  | [.v (.sl 62 r0) _, .v (.int .i64 r1) _] => some (r0, r1)
  | _ => none
noncomputable def s_Decode (N : Nat) (x0 : List UInt8) : Option (List V × Int) := br (decide (4096 < (↑x0.length : Int))) (some ([], 3)) (bnd2 (s_decode N N x0 1) fun l0 n1 => some (l0, n1))
noncomputable def cx_Decode (N : Nat) : Cx := { T := T, isPure := tabP [⟨73, e_decode (s_decode N N)⟩], pureK := fun g ds K => tabK [⟨73, e_decode (s_decode N N)⟩] g ds K, memK := fun g dst ds m K => tabMK [] g dst ds m K, meth := tabM [], keep := fun _ => [], keepX := fun _ => [], loopT := fun _ _ _ _ => none, jumps := 9 }
theorem s_Decode_ok (N : Nat) (x0 : List UInt8) : bodyK (cx_Decode N) Try.f48 [.v (.bytes x0) .no] [] r_Decode = s_Decode N x0 := by
  kernel_rfl
theorem go_Decode : Goes Try.prog 48 := goes_of Try.func48 (by kernel_rfl) (c := bodyOf Try.f48) (by kernel_rfl)
theorem eo_Decode (s : List UInt8 → Option (List V × Int)) (hs : ∀ (x0 : List UInt8) (r0 : List V) (r1 : Int), s x0 = some (r0, r1) → PureRet Try.prog T 48 [.v (.bytes x0) .no] [.v (.sl 62 r0) .no, .v (.int .i64 r1) .no]) : EntOK Try.prog T ⟨48, e_Decode s⟩ := by
  refine ⟨go_Decode, fun R ds K r h => ?_, fun R ds K => ?_⟩
  · simp only [e_Decode] at h
    split at h
    · obtain ⟨r0, r1, h1, h2⟩ := bnd2_some h
      exact ⟨_, h2, hs _ _ _ h1⟩
    · cases h
  · simp only [e_Decode]
    split
    · rw [bnd2_b]; rfl
    · rfl
theorem co_Decode (N : Nat) : CxOK Try.prog (cx_Decode N) :=
  cxOK_of2 (es := [⟨73, e_decode (s_decode N N)⟩]) (me := []) (ms := []) T_ok ⟨eo_decode _ (p_decode N N), trivial⟩ trivial trivial rfl (fun _ _ _ _ => rfl) (fun _ _ _ _ _ _ => rfl) rfl
theorem lo_Decode (N : Nat) : LoopsOK (cx_Decode N) Try.f48.ntmps (bodyOf Try.f48) :=
  loopsOK_of (k := 0) (by kernel_rfl) trivial
theorem p_Decode (N : Nat) (x0 : List UInt8) (r0 : List V) (r1 : Int) (h : s_Decode N x0 = some (r0, r1)) : PureRet Try.prog T 48 [.v (.bytes x0) .no] [.v (.sl 62 r0) .no, .v (.int .i64 r1) .no] :=
  pure_of (cx := cx_Decode N) (by kernel_rfl) (co_Decode N) Try.func48 (by kernel_rfl) (by kernel_rfl) (lo_Decode N) rfl rfl rfl (rf := r_Decode) ((s_Decode_ok N x0).trans h) (fun rs' m h => by
    unfold r_Decode at h
    split at h
    · cases h; exact ⟨rfl, rfl⟩
    · cases h)
noncomputable def e_forms {R : Type} (s : Option Unit) (ds : List D) (K : List D → Option R) : Option R :=
  match ds with
  | [] => bnd1 s fun _ => K [D.agg
    [D.v (V.str ([110, 101, 118, 101, 114] : List UInt8)) Att.no, D.v (V.bool false) Att.no, D.v (V.bool false) Att.no, D.v (V.int IntKind.i64 0) Att.no, D.v (V.int IntKind.i64 0) Att.no, D.v (V.str ([97, 108, 119, 97, 121, 115] : List UInt8)) Att.no,
      D.v (V.bool false) Att.no, D.v (V.bool false) Att.no, D.v (V.int IntKind.i64 0) Att.no, D.v (V.int IntKind.i64 0) Att.no, D.v (V.str ([112, 105, 110] : List UInt8)) Att.no, D.v (V.bool true) Att.no, D.v (V.bool false) Att.no,
      D.v (V.int IntKind.i64 1) Att.no, D.v (V.int IntKind.i64 8) Att.no, D.v (V.str ([107, 101, 121] : List UInt8)) Att.no, D.v (V.bool true) Att.no, D.v (V.bool false) Att.no, D.v (V.int IntKind.i64 1) Att.no, D.v (V.int IntKind.i64 8) Att.no,
      D.v (V.str ([115, 116, 97, 116, 101] : List UInt8)) Att.no, D.v (V.bool true) Att.no, D.v (V.bool false) Att.no, D.v (V.int IntKind.i64 1) Att.no, D.v (V.int IntKind.i64 5) Att.no, D.v (V.str ([108, 101, 118, 101, 108] : List UInt8)) Att.no,
      D.v (V.bool true) Att.no, D.v (V.bool false) Att.no, D.v (V.int IntKind.i64 1) Att.no, D.v (V.int IntKind.i64 51) Att.no, D.v (V.str ([97, 110, 100] : List UInt8)) Att.no, D.v (V.bool false) Att.no, D.v (V.bool true) Att.no,
      D.v (V.int IntKind.i64 0) Att.no, D.v (V.int IntKind.i64 0) Att.no, D.v (V.str ([111, 114] : List UInt8)) Att.no, D.v (V.bool false) Att.no, D.v (V.bool true) Att.no, D.v (V.int IntKind.i64 0) Att.no, D.v (V.int IntKind.i64 0) Att.no]]
  | _ => none
noncomputable def s_forms (N : Nat) : Option Unit := some ()
noncomputable def cx_forms (N : Nat) : Cx := { T := T, isPure := tabP [], pureK := fun g ds K => tabK [] g ds K, memK := fun g dst ds m K => tabMK [] g dst ds m K, meth := tabM [], keep := fun _ => [], keepX := fun _ => [], loopT := fun _ _ _ _ => none, jumps := 9 }
theorem b_forms_ok {R : Type} (N : Nat) (K : List D → Mem → Option R) : bodyK (cx_forms N) Try.f103 [] [] K = K [D.agg
    [D.v (V.str ([110, 101, 118, 101, 114] : List UInt8)) Att.no, D.v (V.bool false) Att.no, D.v (V.bool false) Att.no, D.v (V.int IntKind.i64 0) Att.no, D.v (V.int IntKind.i64 0) Att.no, D.v (V.str ([97, 108, 119, 97, 121, 115] : List UInt8)) Att.no,
      D.v (V.bool false) Att.no, D.v (V.bool false) Att.no, D.v (V.int IntKind.i64 0) Att.no, D.v (V.int IntKind.i64 0) Att.no, D.v (V.str ([112, 105, 110] : List UInt8)) Att.no, D.v (V.bool true) Att.no, D.v (V.bool false) Att.no,
      D.v (V.int IntKind.i64 1) Att.no, D.v (V.int IntKind.i64 8) Att.no, D.v (V.str ([107, 101, 121] : List UInt8)) Att.no, D.v (V.bool true) Att.no, D.v (V.bool false) Att.no, D.v (V.int IntKind.i64 1) Att.no, D.v (V.int IntKind.i64 8) Att.no,
      D.v (V.str ([115, 116, 97, 116, 101] : List UInt8)) Att.no, D.v (V.bool true) Att.no, D.v (V.bool false) Att.no, D.v (V.int IntKind.i64 1) Att.no, D.v (V.int IntKind.i64 5) Att.no, D.v (V.str ([108, 101, 118, 101, 108] : List UInt8)) Att.no,
      D.v (V.bool true) Att.no, D.v (V.bool false) Att.no, D.v (V.int IntKind.i64 1) Att.no, D.v (V.int IntKind.i64 51) Att.no, D.v (V.str ([97, 110, 100] : List UInt8)) Att.no, D.v (V.bool false) Att.no, D.v (V.bool true) Att.no,
      D.v (V.int IntKind.i64 0) Att.no, D.v (V.int IntKind.i64 0) Att.no, D.v (V.str ([111, 114] : List UInt8)) Att.no, D.v (V.bool false) Att.no, D.v (V.bool true) Att.no, D.v (V.int IntKind.i64 0) Att.no, D.v (V.int IntKind.i64 0) Att.no]] [[(0,
      { ty := 114,
        cells :=
          [D.v (V.str ([110, 101, 118, 101, 114] : List UInt8)) Att.no, D.v (V.bool false) Att.no, D.v (V.bool false) Att.no, D.v (V.int IntKind.i64 0) Att.no, D.v (V.int IntKind.i64 0) Att.no, D.v (V.str ([97, 108, 119, 97, 121, 115] : List UInt8)) Att.no,
            D.v (V.bool false) Att.no, D.v (V.bool false) Att.no, D.v (V.int IntKind.i64 0) Att.no, D.v (V.int IntKind.i64 0) Att.no, D.v (V.str ([112, 105, 110] : List UInt8)) Att.no, D.v (V.bool true) Att.no, D.v (V.bool false) Att.no,
            D.v (V.int IntKind.i64 1) Att.no, D.v (V.int IntKind.i64 8) Att.no, D.v (V.str ([107, 101, 121] : List UInt8)) Att.no, D.v (V.bool true) Att.no, D.v (V.bool false) Att.no, D.v (V.int IntKind.i64 1) Att.no, D.v (V.int IntKind.i64 8) Att.no,
            D.v (V.str ([115, 116, 97, 116, 101] : List UInt8)) Att.no, D.v (V.bool true) Att.no, D.v (V.bool false) Att.no, D.v (V.int IntKind.i64 1) Att.no, D.v (V.int IntKind.i64 5) Att.no, D.v (V.str ([108, 101, 118, 101, 108] : List UInt8)) Att.no,
            D.v (V.bool true) Att.no, D.v (V.bool false) Att.no, D.v (V.int IntKind.i64 1) Att.no, D.v (V.int IntKind.i64 51) Att.no, D.v (V.str ([97, 110, 100] : List UInt8)) Att.no, D.v (V.bool false) Att.no, D.v (V.bool true) Att.no,
            D.v (V.int IntKind.i64 0) Att.no, D.v (V.int IntKind.i64 0) Att.no, D.v (V.str ([111, 114] : List UInt8)) Att.no, D.v (V.bool false) Att.no, D.v (V.bool true) Att.no, D.v (V.int IntKind.i64 0) Att.no, D.v (V.int IntKind.i64 0) Att.no] })]] := by
  kernel_rfl
theorem go_forms : Goes Try.prog 103 := goes_of Try.func103 (by kernel_rfl) (c := bodyOf Try.f103) (by kernel_rfl)
theorem co_forms (N : Nat) : CxOK Try.prog (cx_forms N) :=
  cxOK_of2 (es := []) (me := []) (ms := []) T_ok trivial trivial trivial rfl (fun _ _ _ _ => rfl) (fun _ _ _ _ _ _ => rfl) rfl
theorem lo_forms (N : Nat) : LoopsOK (cx_forms N) Try.f103.ntmps (bodyOf Try.f103) :=
  loopsOK_of (k := 0) (by kernel_rfl) trivial
open Classical in
theorem p_forms (N : Nat) : PureRet Try.prog T 103 [] [D.agg
    [D.v (V.str ([110, 101, 118, 101, 114] : List UInt8)) Att.no, D.v (V.bool false) Att.no, D.v (V.bool false) Att.no, D.v (V.int IntKind.i64 0) Att.no, D.v (V.int IntKind.i64 0) Att.no, D.v (V.str ([97, 108, 119, 97, 121, 115] : List UInt8)) Att.no,
      D.v (V.bool false) Att.no, D.v (V.bool false) Att.no, D.v (V.int IntKind.i64 0) Att.no, D.v (V.int IntKind.i64 0) Att.no, D.v (V.str ([112, 105, 110] : List UInt8)) Att.no, D.v (V.bool true) Att.no, D.v (V.bool false) Att.no,
      D.v (V.int IntKind.i64 1) Att.no, D.v (V.int IntKind.i64 8) Att.no, D.v (V.str ([107, 101, 121] : List UInt8)) Att.no, D.v (V.bool true) Att.no, D.v (V.bool false) Att.no, D.v (V.int IntKind.i64 1) Att.no, D.v (V.int IntKind.i64 8) Att.no,
      D.v (V.str ([115, 116, 97, 116, 101] : List UInt8)) Att.no, D.v (V.bool true) Att.no, D.v (V.bool false) Att.no, D.v (V.int IntKind.i64 1) Att.no, D.v (V.int IntKind.i64 5) Att.no, D.v (V.str ([108, 101, 118, 101, 108] : List UInt8)) Att.no,
      D.v (V.bool true) Att.no, D.v (V.bool false) Att.no, D.v (V.int IntKind.i64 1) Att.no, D.v (V.int IntKind.i64 51) Att.no, D.v (V.str ([97, 110, 100] : List UInt8)) Att.no, D.v (V.bool false) Att.no, D.v (V.bool true) Att.no,
      D.v (V.int IntKind.i64 0) Att.no, D.v (V.int IntKind.i64 0) Att.no, D.v (V.str ([111, 114] : List UInt8)) Att.no, D.v (V.bool false) Att.no, D.v (V.bool true) Att.no, D.v (V.int IntKind.i64 0) Att.no, D.v (V.int IntKind.i64 0) Att.no]] :=
  pure_of (cx := cx_forms N) (by kernel_rfl) (co_forms N) Try.func103 (by kernel_rfl) (by kernel_rfl) (lo_forms N) rfl rfl rfl (rf := fun rs _ => if rs = [D.agg
    [D.v (V.str ([110, 101, 118, 101, 114] : List UInt8)) Att.no, D.v (V.bool false) Att.no, D.v (V.bool false) Att.no, D.v (V.int IntKind.i64 0) Att.no, D.v (V.int IntKind.i64 0) Att.no, D.v (V.str ([97, 108, 119, 97, 121, 115] : List UInt8)) Att.no,
      D.v (V.bool false) Att.no, D.v (V.bool false) Att.no, D.v (V.int IntKind.i64 0) Att.no, D.v (V.int IntKind.i64 0) Att.no, D.v (V.str ([112, 105, 110] : List UInt8)) Att.no, D.v (V.bool true) Att.no, D.v (V.bool false) Att.no,
      D.v (V.int IntKind.i64 1) Att.no, D.v (V.int IntKind.i64 8) Att.no, D.v (V.str ([107, 101, 121] : List UInt8)) Att.no, D.v (V.bool true) Att.no, D.v (V.bool false) Att.no, D.v (V.int IntKind.i64 1) Att.no, D.v (V.int IntKind.i64 8) Att.no,
      D.v (V.str ([115, 116, 97, 116, 101] : List UInt8)) Att.no, D.v (V.bool true) Att.no, D.v (V.bool false) Att.no, D.v (V.int IntKind.i64 1) Att.no, D.v (V.int IntKind.i64 5) Att.no, D.v (V.str ([108, 101, 118, 101, 108] : List UInt8)) Att.no,
      D.v (V.bool true) Att.no, D.v (V.bool false) Att.no, D.v (V.int IntKind.i64 1) Att.no, D.v (V.int IntKind.i64 51) Att.no, D.v (V.str ([97, 110, 100] : List UInt8)) Att.no, D.v (V.bool false) Att.no, D.v (V.bool true) Att.no,
      D.v (V.int IntKind.i64 0) Att.no, D.v (V.int IntKind.i64 0) Att.no, D.v (V.str ([111, 114] : List UInt8)) Att.no, D.v (V.bool false) Att.no, D.v (V.bool true) Att.no, D.v (V.int IntKind.i64 0) Att.no, D.v (V.int IntKind.i64 0) Att.no]] then some () else none) (r := ()) ((b_forms_ok N _).trans (if_pos rfl)) (fun rs' m h => by
    split at h
    · rename_i e; subst e; exact ⟨by kernel_rfl, by kernel_rfl⟩
    · cases h)
theorem eo_forms (s : Option Unit) (hs : PureRet Try.prog T 103 [] [D.agg
    [D.v (V.str ([110, 101, 118, 101, 114] : List UInt8)) Att.no, D.v (V.bool false) Att.no, D.v (V.bool false) Att.no, D.v (V.int IntKind.i64 0) Att.no, D.v (V.int IntKind.i64 0) Att.no, D.v (V.str ([97, 108, 119, 97, 121, 115] : List UInt8)) Att.no,
      D.v (V.bool false) Att.no, D.v (V.bool false) Att.no, D.v (V.int IntKind.i64 0) Att.no, D.v (V.int IntKind.i64 0) Att.no, D.v (V.str ([112, 105, 110] : List UInt8)) Att.no, D.v (V.bool true) Att.no, D.v (V.bool false) Att.no,
      D.v (V.int IntKind.i64 1) Att.no, D.v (V.int IntKind.i64 8) Att.no, D.v (V.str ([107, 101, 121] : List UInt8)) Att.no, D.v (V.bool true) Att.no, D.v (V.bool false) Att.no, D.v (V.int IntKind.i64 1) Att.no, D.v (V.int IntKind.i64 8) Att.no,
      D.v (V.str ([115, 116, 97, 116, 101] : List UInt8)) Att.no, D.v (V.bool true) Att.no, D.v (V.bool false) Att.no, D.v (V.int IntKind.i64 1) Att.no, D.v (V.int IntKind.i64 5) Att.no, D.v (V.str ([108, 101, 118, 101, 108] : List UInt8)) Att.no,
      D.v (V.bool true) Att.no, D.v (V.bool false) Att.no, D.v (V.int IntKind.i64 1) Att.no, D.v (V.int IntKind.i64 51) Att.no, D.v (V.str ([97, 110, 100] : List UInt8)) Att.no, D.v (V.bool false) Att.no, D.v (V.bool true) Att.no,
      D.v (V.int IntKind.i64 0) Att.no, D.v (V.int IntKind.i64 0) Att.no, D.v (V.str ([111, 114] : List UInt8)) Att.no, D.v (V.bool false) Att.no, D.v (V.bool true) Att.no, D.v (V.int IntKind.i64 0) Att.no, D.v (V.int IntKind.i64 0) Att.no]]) : EntOK Try.prog T ⟨103, e_forms s⟩ := by
  refine ⟨go_forms, fun R ds K r h => ?_, fun R ds K => ?_⟩
  · simp only [e_forms] at h
    split at h
    · obtain ⟨_, h1, h2⟩ := bnd1_some h
      exact ⟨_, h2, hs⟩
    · cases h
  · simp only [e_forms]
    split
    · rw [bnd1_b]; rfl
    · rfl
noncomputable def e_avalid {R : Type} (s : Int → Int → List V → Int → Option (Bool)) (ds : List D) (K : List D → Option R) : Option R :=
  match ds with
  | [.agg [.v (.int .i64 x0) .no, .v (.int .i64 x1) .no, .v (.sl 46 x2) .no], .v (.int .i64 x3) .no] => bnd1 (s x0 x1 x2 x3) fun r0 => K [.v (.bool r0) .no]
  | _ => none
noncomputable def e_avalid1 {R : Type} (s : Int → Int → List V → Int → Option (Bool)) (dst : Nat) (ds : List D) (m : Mem) (K : List D → Mem → Option R) : Option R :=
  match ds with
  | [.agg [.v (.int .i64 x0) .no, .v (.int .i64 x1) .no, .v (.sl 46 x2) .no], .ptr (kv0 + 1) sv0 0] => viewK [(kv0, sv0)] m fun Bs => (match Bs with
    | [⟨3, [.v (.int .i64 y0) .no]⟩] => bnd1 (s x0 x1 x2 y0) fun r0 => putAllK [(kv0, sv0)] [⟨3, [.v (.int .i64 y0) .no]⟩] m fun m' => K [.v (.bool r0) .no] m'
    | _ => none)
  | _ => none
noncomputable def r_avalid1 {α : Type} (K : Bool → Int → Option α) (rs : List D) (m : Mem) : Option α :=
  match rs, m with
  | [.v (.bool r0) _], [_, [(0, ⟨3, [.v (.int .i64 z0) .no]⟩)]] => K r0 z0
  | _, _ => none
noncomputable def C_avalid1 {R : Type} (N : Nat) (f : Int → Int → List V → Int → Option (Bool)) (x0 : Int) (x1 : Int) (x2 : List V) (y0 : Int) (K0 : Bool → Option R) : Option R := bnd1 (f x0 x1 x2 (IntKind.i64.wrap (y0 + 1))) fun b0 => K0 !b0
noncomputable def s_avalid1 (N : Nat) (f : Int → Int → List V → Int → Option (Bool)) (x0 : Int) (x1 : Int) (x2 : List V) (y0 : Int) : Option (Bool) := C_avalid1 N f x0 x1 x2 y0 (fun r0 => some r0)
noncomputable def cx_avalid1 (N : Nat) (f : Int → Int → List V → Int → Option (Bool)) : Cx := { T := T, isPure := tabP [⟨81, e_avalid f⟩], pureK := fun g ds K => tabK [⟨81, e_avalid f⟩] g ds K, memK := fun g dst ds m K => tabMK [] g dst ds m K, meth := tabM [], keep := fun _ => [], keepX := fun _ => [], loopT := fun _ _ _ _ => none, jumps := 9 }
theorem C_avalid1_ok {R : Type} (N : Nat) (f : Int → Int → List V → Int → Option (Bool)) (x0 : Int) (x1 : Int) (x2 : List V) (y0 : Int) (K : Bool → Int → Option R) : bodyK (cx_avalid1 N f) Try.f108 [.agg [.v (.int .i64 x0) .no, .v (.int .i64 x1) .no, .v (.sl 46 x2) .no], .ptr 1 0 0] [frOf 0 [⟨3, [.v (.int .i64 y0) .no]⟩]] (r_avalid1 K) = C_avalid1 N f x0 x1 x2 y0 (fun r0 => K r0 y0) := by
  kernel_rfl
theorem go_avalid : Goes Try.prog 81 := goes_of Try.func81 (by kernel_rfl) (c := bodyOf Try.f81) (by kernel_rfl)
theorem eo_avalid (s : Int → Int → List V → Int → Option (Bool)) (hs : ∀ (x0 : Int) (x1 : Int) (x2 : List V) (x3 : Int) (r0 : Bool), s x0 x1 x2 x3 = some r0 → PureRet Try.prog T 81 [.agg [.v (.int .i64 x0) .no, .v (.int .i64 x1) .no, .v (.sl 46 x2) .no], .v (.int .i64 x3) .no] [.v (.bool r0) .no]) : EntOK Try.prog T ⟨81, e_avalid s⟩ := by
  refine ⟨go_avalid, fun R ds K r h => ?_, fun R ds K => ?_⟩
  · simp only [e_avalid] at h
    split at h
    · obtain ⟨r0, h1, h2⟩ := bnd1_some h
      exact ⟨_, h2, hs _ _ _ _ _ h1⟩
    · cases h
  · simp only [e_avalid]
    split
    · rw [bnd1_b]; rfl
    · rfl
theorem go_avalid1 : Goes Try.prog 108 := goes_of Try.func108 (by kernel_rfl) (c := bodyOf Try.f108) (by kernel_rfl)
theorem eo_avalid1 (s : Int → Int → List V → Int → Option (Bool)) (hs : ∀ (x0 : Int) (x1 : Int) (x2 : List V) (y0 : Int) (r0 : Bool), s x0 x1 x2 y0 = some r0 → ViewRet Try.prog T 108 [.agg [.v (.int .i64 x0) .no, .v (.int .i64 x1) .no, .v (.sl 46 x2) .no], .ptr 1 0 0] [⟨3, [.v (.int .i64 y0) .no]⟩] [.v (.bool r0) .no] [⟨3, [.v (.int .i64 y0) .no]⟩]) : MEntOK Try.prog T ⟨108, e_avalid1 s⟩ := by
  refine ⟨go_avalid1, fun R dst ds m K r h => ?_⟩
  simp only [e_avalid1] at h
  split at h
  · obtain ⟨Bs, a1, a2, a3, h⟩ := viewK_some h
    split at h
    · obtain ⟨r0, h1, h2⟩ := bnd1_some h
      rw [putAllK_eq] at h2
      exact ⟨_, _, h2, hs _ _ _ _ _ h1 _ _ m dst a1 a2 a3 ⟨aren_agg ⟨aren_v _, aren_v _, aren_v _, trivial⟩, aren_ptr _ rfl, trivial⟩⟩
    · cases h
  · cases h
theorem co_avalid1 (N : Nat) (f : Int → Int → List V → Int → Option (Bool)) (hf : ∀ (x0 : Int) (x1 : Int) (x2 : List V) (x3 : Int) (r0 : Bool), f x0 x1 x2 x3 = some r0 → PureRet Try.prog T 81 [.agg [.v (.int .i64 x0) .no, .v (.int .i64 x1) .no, .v (.sl 46 x2) .no], .v (.int .i64 x3) .no] [.v (.bool r0) .no]) : CxOK Try.prog (cx_avalid1 N f) :=
  cxOK_of2 (es := [⟨81, e_avalid f⟩]) (me := []) (ms := []) T_ok ⟨eo_avalid f hf, trivial⟩ trivial trivial rfl (fun _ _ _ _ => rfl) (fun _ _ _ _ _ _ => rfl) rfl
theorem lo_avalid1 (N : Nat) (f : Int → Int → List V → Int → Option (Bool)) : LoopsOK (cx_avalid1 N f) Try.f108.ntmps (bodyOf Try.f108) :=
  loopsOK_of (k := 0) (by kernel_rfl) trivial
open Classical in
theorem p_avalid1 (N : Nat) (f : Int → Int → List V → Int → Option (Bool)) (hf : ∀ (x0 : Int) (x1 : Int) (x2 : List V) (x3 : Int) (r0 : Bool), f x0 x1 x2 x3 = some r0 → PureRet Try.prog T 81 [.agg [.v (.int .i64 x0) .no, .v (.int .i64 x1) .no, .v (.sl 46 x2) .no], .v (.int .i64 x3) .no] [.v (.bool r0) .no]) (x0 : Int) (x1 : Int) (x2 : List V) (y0 : Int) (r0 : Bool) (h : s_avalid1 N f x0 x1 x2 y0 = some r0) : ViewRet Try.prog T 108 [.agg [.v (.int .i64 x0) .no, .v (.int .i64 x1) .no, .v (.sl 46 x2) .no], .ptr 1 0 0] [⟨3, [.v (.int .i64 y0) .no]⟩] [.v (.bool r0) .no] [⟨3, [.v (.int .i64 y0) .no]⟩] := by
  refine view_of (Bs := [⟨3, [.v (.int .i64 y0) .no]⟩]) (Bs' := [⟨3, [.v (.int .i64 y0) .no]⟩]) (cx := cx_avalid1 N f) (by kernel_rfl) (co_avalid1 N f hf) Try.func108 (by kernel_rfl) (by kernel_rfl) (lo_avalid1 N f) rfl rfl rfl rfl (rf := r_avalid1 (fun r0' z'0 => if z'0 = y0 then some r0' else none)) (r := r0) ?_ ?_
  · exact (C_avalid1_ok N f x0 x1 x2 y0 _).trans ((congrArg (fun K => C_avalid1 N f x0 x1 x2 y0 K) (funext fun r0' => if_pos rfl)).trans h)
  · intro rs' m' hx
    unfold r_avalid1 at hx
    split at hx
    · dsimp only at hx
      split at hx
      · rename_i hk
        subst hk
        cases hx; exact ⟨rfl, rfl, _, rfl⟩
      · cases hx
    · cases hx
noncomputable def e_IndexFuncA {R : Type} (s : List V → Int → Option (Int)) (dst : Nat) (ds : List D) (m : Mem) (K : List D → Mem → Option R) : Option R :=
  match ds with
  | [.v (.sl 46 x0) .no, .clos 108 [.ptr (kv0 + 1) sv0 0]] => viewK [(kv0, sv0)] m fun Bs => (match Bs with
    | [⟨3, [.v (.int .i64 y0) .no]⟩] => bnd1 (s x0 y0) fun r0 => putAllK [(kv0, sv0)] [⟨3, [.v (.int .i64 y0) .no]⟩] m fun m' => K [.v (.int .i64 r0) .no] m'
    | _ => none)
  | _ => none
noncomputable def r_IndexFuncA {α : Type} (K : Int → Int → Option α) (rs : List D) (m : Mem) : Option α :=
  match rs, m with
  | [.v (.int .i64 r0) _], [_, [(0, ⟨3, [.v (.int .i64 z0) .no]⟩)]] => K r0 z0
  | _, _ => none
noncomputable def F_IndexFuncA_2 {R : Type} (N : Nat) (f : Int → Int → List V → Int → Option (Bool)) (vs0 : List V) (n1 : Int) (n3 : Int) (Lq : Int → Option R) (K0 : Int → Option R) (K1 : Option R) (n2 : Int) : Option R := br (decide (n2 < n1)) (br (decide (0 ≤ n2) && decide (n2 < (↑vs0.length : Int))) (at? vs0 n2.toNat fun x0 => x0.unAgg fun l1 => unCons l1 fun x2 l3 => V.unInt IntKind.i64 x2 fun n4 => unCons l3 fun x5 l6 => V.unInt IntKind.i64 x5 fun n7 => unCons l6 fun x8 l9 => V.unSl 46 x8 fun l10 => unNil l9 (bnd1 (s_avalid1 N f n4 n7 l10 n3) fun b11 => br b11 (K0 n2) (Lq (IntKind.i64.wrap (n2 + 1))))) none) K1
noncomputable def S_IndexFuncA_2 {R : Type} (N : Nat) (f : Int → Int → List V → Int → Option (Bool)) (vs0 : List V) (n1 : Int) (n3 : Int) : Nat → Int → (Int → Option R) → (Option R) → Option R | 0, _, _, _ => none | t + 1, n2, K0, K1 => F_IndexFuncA_2 N f vs0 n1 n3 (fun n2 => S_IndexFuncA_2 N f vs0 n1 n3 t n2 K0 K1) K0 K1 n2
noncomputable def l_IndexFuncA_2 {R : Type} (N : Nat) (f : Int → Int → List V → Int → Option (Bool)) (ds : List D) (m : Mem) (K : Ex → List D → Mem → Option R) : Option R :=
  match ds, m with
  | [(.v (.sl 46 vs0) .no), (.clos 108 [(.ptr 1 0 0)]), (.v (.int .i64 n1) .no), (.v (.int .i64 n2) .no)], [[], [(0, ⟨3, [(.v (.int .i64 n3) .no)]⟩)]] => S_IndexFuncA_2 N f vs0 n1 n3 N n2 (fun a0 => K .ret [(.v (.int .i64 a0) .no)] [[], [(0, ⟨3, [(.v (.int .i64 n3) .no)]⟩)]]) (K (.exit 0) [.any] [[], [(0, ⟨3, [(.v (.int .i64 n3) .no)]⟩)]])
  | _, _ => none
noncomputable def C_IndexFuncA {R : Type} (N : Nat) (f : Int → Int → List V → Int → Option (Bool)) (x0 : List V) (y0 : Int) (K0 : Int → Option R) : Option R := S_IndexFuncA_2 N f x0 (↑x0.length : Int) y0 N 0 (fun n0 => K0 n0) (K0 (-1))
noncomputable def s_IndexFuncA (N : Nat) (f : Int → Int → List V → Int → Option (Bool)) (x0 : List V) (y0 : Int) : Option (Int) := C_IndexFuncA N f x0 y0 (fun r0 => some r0)
noncomputable def cx_IndexFuncA (N : Nat) (f : Int → Int → List V → Int → Option (Bool)) : Cx := { T := T, isPure := tabP [], pureK := fun g ds K => tabK [] g ds K, memK := fun g dst ds m K => tabMK [⟨108, e_avalid1 (s_avalid1 N f)⟩] g dst ds m K, meth := tabM [], keep := fun r => match r with | 2 => [0, 1, 7, 8] | _ => [], keepX := fun r => match r with | 2 => [4] | _ => [], loopT := fun r ds m K => match r with | 2 => l_IndexFuncA_2 N f ds m K | _ => none, jumps := 9 }
theorem F_IndexFuncA_2_ok {R : Type} (N : Nat) (f : Int → Int → List V → Int → Option (Bool)) (vs0 : List V) (n1 : Int) (n3 : Int) (n2 : Int) (L : List D → Mem → Option R) (K : Ex → List D → Mem → Option R) :
    roundK (fun st K => codeK (cx_IndexFuncA N f) (loopN Try.f114 0) st K) 19 [0, 1, 7, 8] [4] L [(.v (.sl 46 vs0) .no), (.clos 108 [(.ptr 1 0 0)]), (.v (.int .i64 n1) .no), (.v (.int .i64 n2) .no)] [[], [(0, ⟨3, [(.v (.int .i64 n3) .no)]⟩)]] K = F_IndexFuncA_2 N f vs0 n1 n3 (fun n2 => L [(.v (.sl 46 vs0) .no), (.clos 108 [(.ptr 1 0 0)]), (.v (.int .i64 n1) .no), (.v (.int .i64 n2) .no)] [[], [(0, ⟨3, [(.v (.int .i64 n3) .no)]⟩)]]) (fun a0 => K .ret [(.v (.int .i64 a0) .no)] [[], [(0, ⟨3, [(.v (.int .i64 n3) .no)]⟩)]]) (K (.exit 0) [.any] [[], [(0, ⟨3, [(.v (.int .i64 n3) .no)]⟩)]]) n2 := by
  kernel_rfl
theorem S_IndexFuncA_2_ok {R : Type} (N : Nat) (f : Int → Int → List V → Int → Option (Bool)) (vs0 : List V) (n1 : Int) (n3 : Int) (K : Ex → List D → Mem → Option R) : ∀ (t : Nat) (n2 : Int),
    loopK (fun st K => codeK (cx_IndexFuncA N f) (loopN Try.f114 0) st K) 19 [0, 1, 7, 8] [4] t [(.v (.sl 46 vs0) .no), (.clos 108 [(.ptr 1 0 0)]), (.v (.int .i64 n1) .no), (.v (.int .i64 n2) .no)] [[], [(0, ⟨3, [(.v (.int .i64 n3) .no)]⟩)]] K = S_IndexFuncA_2 N f vs0 n1 n3 t n2 (fun a0 => K .ret [(.v (.int .i64 a0) .no)] [[], [(0, ⟨3, [(.v (.int .i64 n3) .no)]⟩)]]) (K (.exit 0) [.any] [[], [(0, ⟨3, [(.v (.int .i64 n3) .no)]⟩)]])
  | 0, n2 => rfl
  | t + 1, n2 => (F_IndexFuncA_2_ok N f vs0 n1 n3 n2 _ K).trans (congrArg (fun L => F_IndexFuncA_2 N f vs0 n1 n3 L (fun a0 => K .ret [(.v (.int .i64 a0) .no)] [[], [(0, ⟨3, [(.v (.int .i64 n3) .no)]⟩)]]) (K (.exit 0) [.any] [[], [(0, ⟨3, [(.v (.int .i64 n3) .no)]⟩)]]) n2) (funext fun n2 => S_IndexFuncA_2_ok N f vs0 n1 n3 K t n2))
theorem C_IndexFuncA_ok {R : Type} (N : Nat) (f : Int → Int → List V → Int → Option (Bool)) (x0 : List V) (y0 : Int) (K : Int → Int → Option R) : bodyK (cx_IndexFuncA N f) Try.f114 [.v (.sl 46 x0) .no, .clos 108 [.ptr 1 0 0]] [frOf 0 [⟨3, [.v (.int .i64 y0) .no]⟩]] (r_IndexFuncA K) = C_IndexFuncA N f x0 y0 (fun r0 => K r0 y0) := by
  kernel_rfl
theorem go_IndexFuncA : Goes Try.prog 114 := goes_of Try.func114 (by kernel_rfl) (c := bodyOf Try.f114) (by kernel_rfl)
theorem eo_IndexFuncA (s : List V → Int → Option (Int)) (hs : ∀ (x0 : List V) (y0 : Int) (r0 : Int), s x0 y0 = some r0 → ViewRet Try.prog T 114 [.v (.sl 46 x0) .no, .clos 108 [.ptr 1 0 0]] [⟨3, [.v (.int .i64 y0) .no]⟩] [.v (.int .i64 r0) .no] [⟨3, [.v (.int .i64 y0) .no]⟩]) : MEntOK Try.prog T ⟨114, e_IndexFuncA s⟩ := by
  refine ⟨go_IndexFuncA, fun R dst ds m K r h => ?_⟩
  simp only [e_IndexFuncA] at h
  split at h
  · obtain ⟨Bs, a1, a2, a3, h⟩ := viewK_some h
    split at h
    · obtain ⟨r0, h1, h2⟩ := bnd1_some h
      rw [putAllK_eq] at h2
      exact ⟨_, _, h2, hs _ _ _ h1 _ _ m dst a1 a2 a3 ⟨aren_v _, aren_clos ⟨aren_ptr _ rfl, trivial⟩, trivial⟩⟩
    · cases h
  · cases h
theorem co_IndexFuncA (N : Nat) (f : Int → Int → List V → Int → Option (Bool)) (hf : ∀ (x0 : Int) (x1 : Int) (x2 : List V) (x3 : Int) (r0 : Bool), f x0 x1 x2 x3 = some r0 → PureRet Try.prog T 81 [.agg [.v (.int .i64 x0) .no, .v (.int .i64 x1) .no, .v (.sl 46 x2) .no], .v (.int .i64 x3) .no] [.v (.bool r0) .no]) : CxOK Try.prog (cx_IndexFuncA N f) :=
  cxOK_of2 (es := []) (me := [⟨108, e_avalid1 (s_avalid1 N f)⟩]) (ms := []) T_ok trivial ⟨eo_avalid1 _ (p_avalid1 N f hf), trivial⟩ trivial rfl (fun _ _ _ _ => rfl) (fun _ _ _ _ _ _ => rfl) rfl
theorem lk_IndexFuncA_2 (N : Nat) (f : Int → Int → List V → Int → Option (Bool)) : LoopOK (cx_IndexFuncA N f) 19 (loopN Try.f114 0) := by
  refine loopOK_of (rid := 2) (by kernel_rfl) rfl rfl fun R ds m K r h => ?_
  have h : l_IndexFuncA_2 N f ds m K = some r := h
  unfold l_IndexFuncA_2 at h
  split at h
  · exact ⟨N, Eq.trans (S_IndexFuncA_2_ok ..) h⟩
  · cases h
theorem lo_IndexFuncA (N : Nat) (f : Int → Int → List V → Int → Option (Bool)) : LoopsOK (cx_IndexFuncA N f) Try.f114.ntmps (bodyOf Try.f114) :=
  loopsOK_of (k := 1) (by kernel_rfl) ⟨trivial, lk_IndexFuncA_2 N f⟩
open Classical in
theorem p_IndexFuncA (N : Nat) (f : Int → Int → List V → Int → Option (Bool)) (hf : ∀ (x0 : Int) (x1 : Int) (x2 : List V) (x3 : Int) (r0 : Bool), f x0 x1 x2 x3 = some r0 → PureRet Try.prog T 81 [.agg [.v (.int .i64 x0) .no, .v (.int .i64 x1) .no, .v (.sl 46 x2) .no], .v (.int .i64 x3) .no] [.v (.bool r0) .no]) (x0 : List V) (y0 : Int) (r0 : Int) (h : s_IndexFuncA N f x0 y0 = some r0) : ViewRet Try.prog T 114 [.v (.sl 46 x0) .no, .clos 108 [.ptr 1 0 0]] [⟨3, [.v (.int .i64 y0) .no]⟩] [.v (.int .i64 r0) .no] [⟨3, [.v (.int .i64 y0) .no]⟩] := by
  refine view_of (Bs := [⟨3, [.v (.int .i64 y0) .no]⟩]) (Bs' := [⟨3, [.v (.int .i64 y0) .no]⟩]) (cx := cx_IndexFuncA N f) (by kernel_rfl) (co_IndexFuncA N f hf) Try.func114 (by kernel_rfl) (by kernel_rfl) (lo_IndexFuncA N f) rfl rfl rfl rfl (rf := r_IndexFuncA (fun r0' z'0 => if z'0 = y0 then some r0' else none)) (r := r0) ?_ ?_
  · exact (C_IndexFuncA_ok N f x0 y0 _).trans ((congrArg (fun K => C_IndexFuncA N f x0 y0 K) (funext fun r0' => if_pos rfl)).trans h)
  · intro rs' m' hx
    unfold r_IndexFuncA at hx
    split at hx
    · dsimp only at hx
      split at hx
      · rename_i hk
        subst hk
        cases hx; exact ⟨rfl, rfl, _, rfl⟩
      · cases hx
    · cases hx
noncomputable def e_ContainsFuncA {R : Type} (s : List V → Int → Option (Bool)) (dst : Nat) (ds : List D) (m : Mem) (K : List D → Mem → Option R) : Option R :=
  match ds with
  | [.v (.sl 46 x0) .no, .clos 108 [.ptr (kv0 + 1) sv0 0]] => viewK [(kv0, sv0)] m fun Bs => (match Bs with
    | [⟨3, [.v (.int .i64 y0) .no]⟩] => bnd1 (s x0 y0) fun r0 => putAllK [(kv0, sv0)] [⟨3, [.v (.int .i64 y0) .no]⟩] m fun m' => K [.v (.bool r0) .no] m'
    | _ => none)
  | _ => none
noncomputable def r_ContainsFuncA {α : Type} (K : Bool → Int → Option α) (rs : List D) (m : Mem) : Option α :=
  match rs, m with
  | [.v (.bool r0) _], [_, [(0, ⟨3, [.v (.int .i64 z0) .no]⟩)]] => K r0 z0
  | _, _ => none
noncomputable def C_ContainsFuncA {R : Type} (N : Nat) (f : Int → Int → List V → Int → Option (Bool)) (x0 : List V) (y0 : Int) (K0 : Bool → Option R) : Option R := bnd1 (s_IndexFuncA N f x0 y0) fun n0 => K0 (decide (0 ≤ n0))
noncomputable def s_ContainsFuncA (N : Nat) (f : Int → Int → List V → Int → Option (Bool)) (x0 : List V) (y0 : Int) : Option (Bool) := C_ContainsFuncA N f x0 y0 (fun r0 => some r0)
noncomputable def cx_ContainsFuncA (N : Nat) (f : Int → Int → List V → Int → Option (Bool)) : Cx := { T := T, isPure := tabP [], pureK := fun g ds K => tabK [] g ds K, memK := fun g dst ds m K => tabMK [⟨114, e_IndexFuncA (s_IndexFuncA N f)⟩] g dst ds m K, meth := tabM [], keep := fun _ => [], keepX := fun _ => [], loopT := fun _ _ _ _ => none, jumps := 9 }
theorem C_ContainsFuncA_ok {R : Type} (N : Nat) (f : Int → Int → List V → Int → Option (Bool)) (x0 : List V) (y0 : Int) (K : Bool → Int → Option R) : bodyK (cx_ContainsFuncA N f) Try.f107 [.v (.sl 46 x0) .no, .clos 108 [.ptr 1 0 0]] [frOf 0 [⟨3, [.v (.int .i64 y0) .no]⟩]] (r_ContainsFuncA K) = C_ContainsFuncA N f x0 y0 (fun r0 => K r0 y0) := by
  kernel_rfl
theorem go_ContainsFuncA : Goes Try.prog 107 := goes_of Try.func107 (by kernel_rfl) (c := bodyOf Try.f107) (by kernel_rfl)
theorem eo_ContainsFuncA (s : List V → Int → Option (Bool)) (hs : ∀ (x0 : List V) (y0 : Int) (r0 : Bool), s x0 y0 = some r0 → ViewRet Try.prog T 107 [.v (.sl 46 x0) .no, .clos 108 [.ptr 1 0 0]] [⟨3, [.v (.int .i64 y0) .no]⟩] [.v (.bool r0) .no] [⟨3, [.v (.int .i64 y0) .no]⟩]) : MEntOK Try.prog T ⟨107, e_ContainsFuncA s⟩ := by
  refine ⟨go_ContainsFuncA, fun R dst ds m K r h => ?_⟩
  simp only [e_ContainsFuncA] at h
  split at h
  · obtain ⟨Bs, a1, a2, a3, h⟩ := viewK_some h
    split at h
    · obtain ⟨r0, h1, h2⟩ := bnd1_some h
      rw [putAllK_eq] at h2
      exact ⟨_, _, h2, hs _ _ _ h1 _ _ m dst a1 a2 a3 ⟨aren_v _, aren_clos ⟨aren_ptr _ rfl, trivial⟩, trivial⟩⟩
    · cases h
  · cases h
theorem co_ContainsFuncA (N : Nat) (f : Int → Int → List V → Int → Option (Bool)) (hf : ∀ (x0 : Int) (x1 : Int) (x2 : List V) (x3 : Int) (r0 : Bool), f x0 x1 x2 x3 = some r0 → PureRet Try.prog T 81 [.agg [.v (.int .i64 x0) .no, .v (.int .i64 x1) .no, .v (.sl 46 x2) .no], .v (.int .i64 x3) .no] [.v (.bool r0) .no]) : CxOK Try.prog (cx_ContainsFuncA N f) :=
  cxOK_of2 (es := []) (me := [⟨114, e_IndexFuncA (s_IndexFuncA N f)⟩]) (ms := []) T_ok trivial ⟨eo_IndexFuncA _ (p_IndexFuncA N f hf), trivial⟩ trivial rfl (fun _ _ _ _ => rfl) (fun _ _ _ _ _ _ => rfl) rfl
theorem lo_ContainsFuncA (N : Nat) (f : Int → Int → List V → Int → Option (Bool)) : LoopsOK (cx_ContainsFuncA N f) Try.f107.ntmps (bodyOf Try.f107) :=
  loopsOK_of (k := 0) (by kernel_rfl) trivial
open Classical in
theorem p_ContainsFuncA (N : Nat) (f : Int → Int → List V → Int → Option (Bool)) (hf : ∀ (x0 : Int) (x1 : Int) (x2 : List V) (x3 : Int) (r0 : Bool), f x0 x1 x2 x3 = some r0 → PureRet Try.prog T 81 [.agg [.v (.int .i64 x0) .no, .v (.int .i64 x1) .no, .v (.sl 46 x2) .no], .v (.int .i64 x3) .no] [.v (.bool r0) .no]) (x0 : List V) (y0 : Int) (r0 : Bool) (h : s_ContainsFuncA N f x0 y0 = some r0) : ViewRet Try.prog T 107 [.v (.sl 46 x0) .no, .clos 108 [.ptr 1 0 0]] [⟨3, [.v (.int .i64 y0) .no]⟩] [.v (.bool r0) .no] [⟨3, [.v (.int .i64 y0) .no]⟩] := by
  refine view_of (Bs := [⟨3, [.v (.int .i64 y0) .no]⟩]) (Bs' := [⟨3, [.v (.int .i64 y0) .no]⟩]) (cx := cx_ContainsFuncA N f) (by kernel_rfl) (co_ContainsFuncA N f hf) Try.func107 (by kernel_rfl) (by kernel_rfl) (lo_ContainsFuncA N f) rfl rfl rfl rfl (rf := r_ContainsFuncA (fun r0' z'0 => if z'0 = y0 then some r0' else none)) (r := r0) ?_ ?_
  · exact (C_ContainsFuncA_ok N f x0 y0 _).trans ((congrArg (fun K => C_ContainsFuncA N f x0 y0 K) (funext fun r0' => if_pos rfl)).trans h)
  · intro rs' m' hx
    unfold r_ContainsFuncA at hx
    split at hx
    · dsimp only at hx
      split at hx
      · rename_i hk
        subst hk
        cases hx; exact ⟨rfl, rfl, _, rfl⟩
      · cases hx
    · cases hx
noncomputable def r_avalid (rs : List D) (_ : Mem) : Option (Bool) :=
  match rs with
  | [.v (.bool r0) _] => some (r0)
  | _ => none
noncomputable def B_avalid (N : Nat) (f : Int → Int → List V → Int → Option (Bool)) (x0 : Int) (x1 : Int) (x2 : List V) (x3 : Int) : Option (Bool) := br (decide (x0 < 0)) (some false) (br (decide (7 < x0)) (some false) (bnd1 (s_forms N) fun x0_1 => br (decide (x0 = 0)) (br (!decide (x1 = 0)) (some false) (br (decide (0 < (↑x2.length : Int))) (some false) (br (decide (x0 = 5)) (br (!decide (bitsI BinOp.andNot IntKind.i64 x1 51 = 0)) (some false) (bnd1 (s_ContainsFuncA N f x2 x3) fun b1 => some !b1)) (bnd1 (s_ContainsFuncA N f x2 x3) fun b2 => some !b2)))) (br (decide (x0 = 1)) (br (!decide (x1 = 0)) (some false) (br (decide (0 < (↑x2.length : Int))) (some false) (br (decide (x0 = 5)) (br (!decide (bitsI BinOp.andNot IntKind.i64 x1 51 = 0)) (some false) (bnd1 (s_ContainsFuncA N f x2 x3) fun b3 => some !b3)) (bnd1 (s_ContainsFuncA N f x2 x3) fun b4 => some !b4)))) (br (decide (x0 = 2)) (br (decide (x1 < 1)) (some false) (br (decide (8 < x1)) (some false) (br (decide (0 < (↑x2.length : Int))) (some false) (br (decide (x0 = 5)) (br (!decide (bitsI BinOp.andNot IntKind.i64 x1 51 = 0)) (some false) (bnd1 (s_ContainsFuncA N f x2 x3) fun b5 => some !b5)) (bnd1 (s_ContainsFuncA N f x2 x3) fun b6 => some !b6))))) (br (decide (x0 = 3)) (br (decide (x1 < 1)) (some false) (br (decide (8 < x1)) (some false) (br (decide (0 < (↑x2.length : Int))) (some false) (br (decide (x0 = 5)) (br (!decide (bitsI BinOp.andNot IntKind.i64 x1 51 = 0)) (some false) (bnd1 (s_ContainsFuncA N f x2 x3) fun b7 => some !b7)) (bnd1 (s_ContainsFuncA N f x2 x3) fun b8 => some !b8))))) (br (decide (x0 = 4)) (br (decide (x1 < 1)) (some false) (br (decide (5 < x1)) (some false) (br (decide (0 < (↑x2.length : Int))) (some false) (br (decide (x0 = 5)) (br (!decide (bitsI BinOp.andNot IntKind.i64 x1 51 = 0)) (some false) (bnd1 (s_ContainsFuncA N f x2 x3) fun b9 => some !b9)) (bnd1 (s_ContainsFuncA N f x2 x3) fun b10 => some !b10))))) (br (decide (x0 = 5)) (br (decide (x1 < 1)) (some false) (br (decide (51 < x1)) (some false) (br (decide (0 < (↑x2.length : Int))) (some false) (br (decide (x0 = 5)) (br (!decide (bitsI BinOp.andNot IntKind.i64 x1 51 = 0)) (some false) (bnd1 (s_ContainsFuncA N f x2 x3) fun b11 => some !b11)) (bnd1 (s_ContainsFuncA N f x2 x3) fun b12 => some !b12))))) (br (decide (x0 = 6)) (br (!decide (x1 = 0)) (some false) (br (decide ((↑x2.length : Int) = 0)) (some false) (br (decide (x0 = 5)) (br (!decide (bitsI BinOp.andNot IntKind.i64 x1 51 = 0)) (some false) (bnd1 (s_ContainsFuncA N f x2 x3) fun b13 => some !b13)) (bnd1 (s_ContainsFuncA N f x2 x3) fun b14 => some !b14)))) (br (decide (x0 = 7)) (br (!decide (x1 = 0)) (some false) (br (decide ((↑x2.length : Int) = 0)) (some false) (br (decide (x0 = 5)) (br (!decide (bitsI BinOp.andNot IntKind.i64 x1 51 = 0)) (some false) (bnd1 (s_ContainsFuncA N f x2 x3) fun b15 => some !b15)) (bnd1 (s_ContainsFuncA N f x2 x3) fun b16 => some !b16)))) none)))))))))
noncomputable def s_avalid (N : Nat) : Nat → Int → Int → List V → Int → Option (Bool) | 0, _, _, _, _ => none | n + 1, x0, x1, x2, x3 => B_avalid N (s_avalid N n) x0 x1 x2 x3
noncomputable def cx_avalid (N : Nat) (f : Int → Int → List V → Int → Option (Bool)) : Cx := { T := T, isPure := tabP [⟨81, e_avalid f⟩, ⟨103, e_forms (s_forms N)⟩], pureK := fun g ds K => tabK [⟨81, e_avalid f⟩, ⟨103, e_forms (s_forms N)⟩] g ds K, memK := fun g dst ds m K => tabMK [⟨107, e_ContainsFuncA (s_ContainsFuncA N f)⟩, ⟨108, e_avalid1 (s_avalid1 N f)⟩] g dst ds m K, meth := tabM [], keep := fun _ => [], keepX := fun _ => [], loopT := fun _ _ _ _ => none, jumps := 9 }
theorem B_avalid_ok (N : Nat) (f : Int → Int → List V → Int → Option (Bool)) (x0 : Int) (x1 : Int) (x2 : List V) (x3 : Int) : bodyK (cx_avalid N f) Try.f81 [.agg [.v (.int .i64 x0) .no, .v (.int .i64 x1) .no, .v (.sl 46 x2) .no], .v (.int .i64 x3) .no] [] r_avalid = B_avalid N f x0 x1 x2 x3 := by
  kernel_rfl
theorem co_avalid (N : Nat) (f : Int → Int → List V → Int → Option (Bool)) (hf : ∀ (x0 : Int) (x1 : Int) (x2 : List V) (x3 : Int) (r0 : Bool), f x0 x1 x2 x3 = some r0 → PureRet Try.prog T 81 [.agg [.v (.int .i64 x0) .no, .v (.int .i64 x1) .no, .v (.sl 46 x2) .no], .v (.int .i64 x3) .no] [.v (.bool r0) .no]) : CxOK Try.prog (cx_avalid N f) :=
  cxOK_of2 (es := [⟨81, e_avalid f⟩, ⟨103, e_forms (s_forms N)⟩]) (me := [⟨107, e_ContainsFuncA (s_ContainsFuncA N f)⟩, ⟨108, e_avalid1 (s_avalid1 N f)⟩]) (ms := []) T_ok ⟨eo_avalid f hf, eo_forms _ (p_forms N), trivial⟩ ⟨eo_ContainsFuncA _ (p_ContainsFuncA N f hf), eo_avalid1 _ (p_avalid1 N f hf), trivial⟩ trivial rfl (fun _ _ _ _ => rfl) (fun _ _ _ _ _ _ => rfl) rfl
theorem lo_avalid (N : Nat) (f : Int → Int → List V → Int → Option (Bool)) : LoopsOK (cx_avalid N f) Try.f81.ntmps (bodyOf Try.f81) :=
  loopsOK_of (k := 0) (by kernel_rfl) trivial
theorem p_avalid (N : Nat) : ∀ (M : Nat) (x0 : Int) (x1 : Int) (x2 : List V) (x3 : Int) (r0 : Bool), s_avalid N M x0 x1 x2 x3 = some r0 → PureRet Try.prog T 81 [.agg [.v (.int .i64 x0) .no, .v (.int .i64 x1) .no, .v (.sl 46 x2) .no], .v (.int .i64 x3) .no] [.v (.bool r0) .no]
  | 0, _, _, _, _, _, h => by cases h
  | M + 1, x0, x1, x2, x3, r0, h => pure_of (cx := cx_avalid N (s_avalid N M)) (by kernel_rfl) (co_avalid N (s_avalid N M) (p_avalid N M)) Try.func81 (by kernel_rfl) (by kernel_rfl) (lo_avalid N (s_avalid N M)) rfl rfl rfl (rf := r_avalid) ((B_avalid_ok N (s_avalid N M) x0 x1 x2 x3).trans h) (fun rs' m h => by
    unfold r_avalid at h
    split at h
    · cases h; exact ⟨rfl, rfl⟩
    · cases h)
noncomputable def e_measure {R : Type} (s : Int → Int → List V → Option (Int × Int)) (ds : List D) (K : List D → Option R) : Option R :=
  match ds with
  | [.agg [.v (.int .i64 x0) .no, .v (.int .i64 x1) .no, .v (.sl 46 x2) .no]] => bnd2 (s x0 x1 x2) fun r0 r1 => K [.v (.int .i64 r0) .no, .v (.int .i64 r1) .no]
  | _ => none
noncomputable def r_measure (rs : List D) (_ : Mem) : Option (Int × Int) :=
  match rs with
  | [.v (.int .i64 r0) _, .v (.int .i64 r1) _] => some (r0, r1)
  | _ => none
noncomputable def F_measure_3 {R : Type} (N : Nat) (f : Int → Int → List V → Option (Int × Int)) (vs2 : List V) (n3 : Int) (n5 : Int) (n6 : Int) (vs7 : List V) (Lq : Int → Int → Int → Option R) (K0 : Int → Int → Option R) (n0 : Int) (n1 : Int) (n4 : Int) : Option R := br (decide (n4 < n3)) (br (decide (0 ≤ n4) && decide (n4 < (↑vs2.length : Int))) (at? vs2 n4.toNat fun x0 => x0.unAgg fun l1 => unCons l1 fun x2 l3 => V.unInt IntKind.i64 x2 fun n4_1 => unCons l3 fun x5 l6 => V.unInt IntKind.i64 x5 fun n7 => unCons l6 fun x8 l9 => V.unSl 46 x8 fun l10 => unNil l9 (bnd2 (f n4_1 n7 l10) fun n11 n12 => Lq (IntKind.i64.wrap (n0 + n11)) (match true with | true => max n1 n12 | false => min n1 n12) (IntKind.i64.wrap (n4 + 1)))) none) (K0 n0 n1)
noncomputable def S_measure_3 {R : Type} (N : Nat) (f : Int → Int → List V → Option (Int × Int)) (vs2 : List V) (n3 : Int) (n5 : Int) (n6 : Int) (vs7 : List V) : Nat → Int → Int → Int → (Int → Int → Option R) → Option R | 0, _, _, _, _ => none | t + 1, n0, n1, n4, K0 => F_measure_3 N f vs2 n3 n5 n6 vs7 (fun n0 n1 n4 => S_measure_3 N f vs2 n3 n5 n6 vs7 t n0 n1 n4 K0) K0 n0 n1 n4
noncomputable def l_measure_3 {R : Type} (N : Nat) (f : Int → Int → List V → Option (Int × Int)) (ds : List D) (m : Mem) (K : Ex → List D → Mem → Option R) : Option R :=
  match ds, m with
  | [(.ptr 0 1 0), (.v (.int .i64 n0) .no), (.v (.int .i64 n1) .no), (.v (.sl 46 vs2) .no), (.v (.int .i64 n3) .no), (.v (.int .i64 n4) .no)], [[(1, ⟨46, [(.v (.int .i64 n5) .no), (.v (.int .i64 n6) .no), (.v (.sl 46 vs7) .no)]⟩)]] => S_measure_3 N f vs2 n3 n5 n6 vs7 N n0 n1 n4 (fun a0 a1 => K (.exit 0) [(.ptr 0 1 0), (.v (.int .i64 a0) .no), (.v (.int .i64 a1) .no)] [[(1, ⟨46, [(.v (.int .i64 n5) .no), (.v (.int .i64 n6) .no), (.v (.sl 46 vs7) .no)]⟩)]])
  | _, _ => none
noncomputable def B_measure (N : Nat) (f : Int → Int → List V → Option (Int × Int)) (x0 : Int) (x1 : Int) (x2 : List V) : Option (Int × Int) := S_measure_3 N f x2 (↑x2.length : Int) x0 x1 x2 N 1 0 0 fun n0 n1 => some (n0, IntKind.i64.wrap (n1 + 1))
noncomputable def s_measure (N : Nat) : Nat → Int → Int → List V → Option (Int × Int) | 0, _, _, _ => none | n + 1, x0, x1, x2 => B_measure N (s_measure N n) x0 x1 x2
noncomputable def cx_measure (N : Nat) (f : Int → Int → List V → Option (Int × Int)) : Cx := { T := T, isPure := tabP [⟨82, e_measure f⟩], pureK := fun g ds K => tabK [⟨82, e_measure f⟩] g ds K, memK := fun g dst ds m K => tabMK [] g dst ds m K, meth := tabM [], keep := fun r => match r with | 3 => [1, 4, 5, 11, 12, 13] | _ => [], keepX := fun r => match r with | 3 => [1, 4, 5] | _ => [], loopT := fun r ds m K => match r with | 3 => l_measure_3 N f ds m K | _ => none, jumps := 9 }
theorem F_measure_3_ok {R : Type} (N : Nat) (f : Int → Int → List V → Option (Int × Int)) (vs2 : List V) (n3 : Int) (n5 : Int) (n6 : Int) (vs7 : List V) (n0 : Int) (n1 : Int) (n4 : Int) (L : List D → Mem → Option R) (K : Ex → List D → Mem → Option R) :
    roundK (fun st K => codeK (cx_measure N f) (loopN Try.f82 0) st K) 32 [1, 4, 5, 11, 12, 13] [1, 4, 5] L [(.ptr 0 1 0), (.v (.int .i64 n0) .no), (.v (.int .i64 n1) .no), (.v (.sl 46 vs2) .no), (.v (.int .i64 n3) .no), (.v (.int .i64 n4) .no)] [[(1, ⟨46, [(.v (.int .i64 n5) .no), (.v (.int .i64 n6) .no), (.v (.sl 46 vs7) .no)]⟩)]] K = F_measure_3 N f vs2 n3 n5 n6 vs7 (fun n0 n1 n4 => L [(.ptr 0 1 0), (.v (.int .i64 n0) .no), (.v (.int .i64 n1) .no), (.v (.sl 46 vs2) .no), (.v (.int .i64 n3) .no), (.v (.int .i64 n4) .no)] [[(1, ⟨46, [(.v (.int .i64 n5) .no), (.v (.int .i64 n6) .no), (.v (.sl 46 vs7) .no)]⟩)]]) (fun a0 a1 => K (.exit 0) [(.ptr 0 1 0), (.v (.int .i64 a0) .no), (.v (.int .i64 a1) .no)] [[(1, ⟨46, [(.v (.int .i64 n5) .no), (.v (.int .i64 n6) .no), (.v (.sl 46 vs7) .no)]⟩)]]) n0 n1 n4 := by
  kernel_rfl
theorem S_measure_3_ok {R : Type} (N : Nat) (f : Int → Int → List V → Option (Int × Int)) (vs2 : List V) (n3 : Int) (n5 : Int) (n6 : Int) (vs7 : List V) (K : Ex → List D → Mem → Option R) : ∀ (t : Nat) (n0 : Int) (n1 : Int) (n4 : Int),
    loopK (fun st K => codeK (cx_measure N f) (loopN Try.f82 0) st K) 32 [1, 4, 5, 11, 12, 13] [1, 4, 5] t [(.ptr 0 1 0), (.v (.int .i64 n0) .no), (.v (.int .i64 n1) .no), (.v (.sl 46 vs2) .no), (.v (.int .i64 n3) .no), (.v (.int .i64 n4) .no)] [[(1, ⟨46, [(.v (.int .i64 n5) .no), (.v (.int .i64 n6) .no), (.v (.sl 46 vs7) .no)]⟩)]] K = S_measure_3 N f vs2 n3 n5 n6 vs7 t n0 n1 n4 (fun a0 a1 => K (.exit 0) [(.ptr 0 1 0), (.v (.int .i64 a0) .no), (.v (.int .i64 a1) .no)] [[(1, ⟨46, [(.v (.int .i64 n5) .no), (.v (.int .i64 n6) .no), (.v (.sl 46 vs7) .no)]⟩)]])
  | 0, n0, n1, n4 => rfl
  | t + 1, n0, n1, n4 => (F_measure_3_ok N f vs2 n3 n5 n6 vs7 n0 n1 n4 _ K).trans (congrArg (fun L => F_measure_3 N f vs2 n3 n5 n6 vs7 L (fun a0 a1 => K (.exit 0) [(.ptr 0 1 0), (.v (.int .i64 a0) .no), (.v (.int .i64 a1) .no)] [[(1, ⟨46, [(.v (.int .i64 n5) .no), (.v (.int .i64 n6) .no), (.v (.sl 46 vs7) .no)]⟩)]]) n0 n1 n4) (funext fun n0 => funext fun n1 => funext fun n4 => S_measure_3_ok N f vs2 n3 n5 n6 vs7 K t n0 n1 n4))
theorem B_measure_ok (N : Nat) (f : Int → Int → List V → Option (Int × Int)) (x0 : Int) (x1 : Int) (x2 : List V) : bodyK (cx_measure N f) Try.f82 [.agg [.v (.int .i64 x0) .no, .v (.int .i64 x1) .no, .v (.sl 46 x2) .no]] [] r_measure = B_measure N f x0 x1 x2 := by
  kernel_rfl
theorem go_measure : Goes Try.prog 82 := goes_of Try.func82 (by kernel_rfl) (c := bodyOf Try.f82) (by kernel_rfl)
theorem eo_measure (s : Int → Int → List V → Option (Int × Int)) (hs : ∀ (x0 : Int) (x1 : Int) (x2 : List V) (r0 : Int) (r1 : Int), s x0 x1 x2 = some (r0, r1) → PureRet Try.prog T 82 [.agg [.v (.int .i64 x0) .no, .v (.int .i64 x1) .no, .v (.sl 46 x2) .no]] [.v (.int .i64 r0) .no, .v (.int .i64 r1) .no]) : EntOK Try.prog T ⟨82, e_measure s⟩ := by
  refine ⟨go_measure, fun R ds K r h => ?_, fun R ds K => ?_⟩
  · simp only [e_measure] at h
    split at h
    · obtain ⟨r0, r1, h1, h2⟩ := bnd2_some h
      exact ⟨_, h2, hs _ _ _ _ _ h1⟩
    · cases h
  · simp only [e_measure]
    split
    · rw [bnd2_b]; rfl
    · rfl
theorem co_measure (N : Nat) (f : Int → Int → List V → Option (Int × Int)) (hf : ∀ (x0 : Int) (x1 : Int) (x2 : List V) (r0 : Int) (r1 : Int), f x0 x1 x2 = some (r0, r1) → PureRet Try.prog T 82 [.agg [.v (.int .i64 x0) .no, .v (.int .i64 x1) .no, .v (.sl 46 x2) .no]] [.v (.int .i64 r0) .no, .v (.int .i64 r1) .no]) : CxOK Try.prog (cx_measure N f) :=
  cxOK_of2 (es := [⟨82, e_measure f⟩]) (me := []) (ms := []) T_ok ⟨eo_measure f hf, trivial⟩ trivial trivial rfl (fun _ _ _ _ => rfl) (fun _ _ _ _ _ _ => rfl) rfl
theorem lk_measure_3 (N : Nat) (f : Int → Int → List V → Option (Int × Int)) : LoopOK (cx_measure N f) 32 (loopN Try.f82 0) := by
  refine loopOK_of (rid := 3) (by kernel_rfl) rfl rfl fun R ds m K r h => ?_
  have h : l_measure_3 N f ds m K = some r := h
  unfold l_measure_3 at h
  split at h
  · exact ⟨N, Eq.trans (S_measure_3_ok ..) h⟩
  · cases h
theorem lo_measure (N : Nat) (f : Int → Int → List V → Option (Int × Int)) : LoopsOK (cx_measure N f) Try.f82.ntmps (bodyOf Try.f82) :=
  loopsOK_of (k := 1) (by kernel_rfl) ⟨trivial, lk_measure_3 N f⟩
theorem p_measure (N : Nat) : ∀ (M : Nat) (x0 : Int) (x1 : Int) (x2 : List V) (r0 : Int) (r1 : Int), s_measure N M x0 x1 x2 = some (r0, r1) → PureRet Try.prog T 82 [.agg [.v (.int .i64 x0) .no, .v (.int .i64 x1) .no, .v (.sl 46 x2) .no]] [.v (.int .i64 r0) .no, .v (.int .i64 r1) .no]
  | 0, _, _, _, _, _, h => by cases h
  | M + 1, x0, x1, x2, r0, r1, h => pure_of (cx := cx_measure N (s_measure N M)) (by kernel_rfl) (co_measure N (s_measure N M) (p_measure N M)) Try.func82 (by kernel_rfl) (by kernel_rfl) (lo_measure N (s_measure N M)) rfl rfl rfl (rf := r_measure) ((B_measure_ok N (s_measure N M) x0 x1 x2).trans h) (fun rs' m h => by
    unfold r_measure at h
    split at h
    · cases h; exact ⟨rfl, rfl⟩
    · cases h)
noncomputable def e_aCheck {R : Type} (s : Int → Int → List V → Option (Int)) (ds : List D) (K : List D → Option R) : Option R :=
  match ds with
  | [.agg [.v (.int .i64 x0) .no, .v (.int .i64 x1) .no, .v (.sl 46 x2) .no]] => bnd1 (s x0 x1 x2) fun r0 => K [.v (.int .i64 r0) .no]
  | _ => none
noncomputable def r_aCheck (rs : List D) (_ : Mem) : Option (Int) :=
  match rs with
  | [.v (.int .i64 r0) _] => some (r0)
  | _ => none
noncomputable def s_aCheck (N : Nat) (x0 : Int) (x1 : Int) (x2 : List V) : Option (Int) := bnd1 (s_avalid N N x0 x1 x2 1) fun b0 => br (!b0) (some 1) (bnd2 (s_measure N N x0 x1 x2) fun n1 n2 => br (decide (16 < n1)) (some 3) (br (decide (8 < n2)) (some 3) (some 0)))
noncomputable def cx_aCheck (N : Nat) : Cx := { T := T, isPure := tabP [⟨81, e_avalid (s_avalid N N)⟩, ⟨82, e_measure (s_measure N N)⟩], pureK := fun g ds K => tabK [⟨81, e_avalid (s_avalid N N)⟩, ⟨82, e_measure (s_measure N N)⟩] g ds K, memK := fun g dst ds m K => tabMK [] g dst ds m K, meth := tabM [], keep := fun _ => [], keepX := fun _ => [], loopT := fun _ _ _ _ => none, jumps := 9 }
theorem s_aCheck_ok (N : Nat) (x0 : Int) (x1 : Int) (x2 : List V) : bodyK (cx_aCheck N) Try.f55 [.agg [.v (.int .i64 x0) .no, .v (.int .i64 x1) .no, .v (.sl 46 x2) .no]] [] r_aCheck = s_aCheck N x0 x1 x2 := by
  kernel_rfl
theorem go_aCheck : Goes Try.prog 55 := goes_of Try.func55 (by kernel_rfl) (c := bodyOf Try.f55) (by kernel_rfl)
theorem eo_aCheck (s : Int → Int → List V → Option (Int)) (hs : ∀ (x0 : Int) (x1 : Int) (x2 : List V) (r0 : Int), s x0 x1 x2 = some r0 → PureRet Try.prog T 55 [.agg [.v (.int .i64 x0) .no, .v (.int .i64 x1) .no, .v (.sl 46 x2) .no]] [.v (.int .i64 r0) .no]) : EntOK Try.prog T ⟨55, e_aCheck s⟩ := by
  refine ⟨go_aCheck, fun R ds K r h => ?_, fun R ds K => ?_⟩
  · simp only [e_aCheck] at h
    split at h
    · obtain ⟨r0, h1, h2⟩ := bnd1_some h
      exact ⟨_, h2, hs _ _ _ _ h1⟩
    · cases h
  · simp only [e_aCheck]
    split
    · rw [bnd1_b]; rfl
    · rfl
theorem co_aCheck (N : Nat) : CxOK Try.prog (cx_aCheck N) :=
  cxOK_of2 (es := [⟨81, e_avalid (s_avalid N N)⟩, ⟨82, e_measure (s_measure N N)⟩]) (me := []) (ms := []) T_ok ⟨eo_avalid _ (p_avalid N N), eo_measure _ (p_measure N N), trivial⟩ trivial trivial rfl (fun _ _ _ _ => rfl) (fun _ _ _ _ _ _ => rfl) rfl
theorem lo_aCheck (N : Nat) : LoopsOK (cx_aCheck N) Try.f55.ntmps (bodyOf Try.f55) :=
  loopsOK_of (k := 0) (by kernel_rfl) trivial
theorem p_aCheck (N : Nat) (x0 : Int) (x1 : Int) (x2 : List V) (r0 : Int) (h : s_aCheck N x0 x1 x2 = some r0) : PureRet Try.prog T 55 [.agg [.v (.int .i64 x0) .no, .v (.int .i64 x1) .no, .v (.sl 46 x2) .no]] [.v (.int .i64 r0) .no] :=
  pure_of (cx := cx_aCheck N) (by kernel_rfl) (co_aCheck N) Try.func55 (by kernel_rfl) (by kernel_rfl) (lo_aCheck N) rfl rfl rfl (rf := r_aCheck) ((s_aCheck_ok N x0 x1 x2).trans h) (fun rs' m h => by
    unfold r_aCheck at h
    split at h
    · cases h; exact ⟨rfl, rfl⟩
    · cases h)
noncomputable def e_aCheckRules {R : Type} (s : List V → Option (Int)) (ds : List D) (K : List D → Option R) : Option R :=
  match ds with
  | [.v (.sl 48 x0) .no] => bnd1 (s x0) fun r0 => K [.v (.int .i64 r0) .no]
  | _ => none
noncomputable def r_aCheckRules (rs : List D) (_ : Mem) : Option (Int) :=
  match rs with
  | [.v (.int .i64 r0) _] => some (r0)
  | _ => none
noncomputable def F_aCheckRules_4 {R : Type} (N : Nat) (vs0 : List V) (n1 : Int) (Lq : Int → Option R) (K0 : Int → Option R) (K1 : Option R) (n2 : Int) : Option R := br (decide (n2 < n1)) (br (decide (0 ≤ n2) && decide (n2 < (↑vs0.length : Int))) (at? vs0 n2.toNat fun x0 => x0.unAgg fun l1 => unCons l1 fun x2 l3 => V.unInt IntKind.i64 x2 fun n4 => unCons l3 fun x5 l6 => V.unInt IntKind.i64 x5 fun n7 => unCons l6 fun x8 l9 => V.unInt IntKind.i64 x8 fun n10 => unCons l9 fun x11 l12 => V.unSl 46 x11 fun l13 => unNil l12 (br (decide (n4 < 1)) (K0 1) (br (decide (255 < n4)) (K0 1) (bnd1 (s_aCheck N n7 n10 l13) fun n14 => br (!decide (n14 = 0)) (K0 n14) (Lq (IntKind.i64.wrap (n2 + 1))))))) none) K1
noncomputable def S_aCheckRules_4 {R : Type} (N : Nat) (vs0 : List V) (n1 : Int) : Nat → Int → (Int → Option R) → (Option R) → Option R | 0, _, _, _ => none | t + 1, n2, K0, K1 => F_aCheckRules_4 N vs0 n1 (fun n2 => S_aCheckRules_4 N vs0 n1 t n2 K0 K1) K0 K1 n2
noncomputable def l_aCheckRules_4 {R : Type} (N : Nat) (ds : List D) (m : Mem) (K : Ex → List D → Mem → Option R) : Option R :=
  match ds, m with
  | [(.v (.sl 48 vs0) .no), (.v (.int .i64 n1) .no), (.v (.int .i64 n2) .no)], [[]] => S_aCheckRules_4 N vs0 n1 N n2 (fun a0 => K .ret [(.v (.int .i64 a0) .no)] [[]]) (K (.exit 0) [.any] [[]])
  | _, _ => none
noncomputable def s_aCheckRules (N : Nat) (x0 : List V) : Option (Int) := br (decide (8 < (↑x0.length : Int))) (some 3) (S_aCheckRules_4 N x0 (↑x0.length : Int) N 0 (fun n0 => some n0) (some 0))
noncomputable def cx_aCheckRules (N : Nat) : Cx := { T := T, isPure := tabP [⟨55, e_aCheck (s_aCheck N)⟩], pureK := fun g ds K => tabK [⟨55, e_aCheck (s_aCheck N)⟩] g ds K, memK := fun g dst ds m K => tabMK [] g dst ds m K, meth := tabM [], keep := fun r => match r with | 4 => [9, 10, 11] | _ => [], keepX := fun r => match r with | 4 => [2] | _ => [], loopT := fun r ds m K => match r with | 4 => l_aCheckRules_4 N ds m K | _ => none, jumps := 9 }
theorem F_aCheckRules_4_ok {R : Type} (N : Nat) (vs0 : List V) (n1 : Int) (n2 : Int) (L : List D → Mem → Option R) (K : Ex → List D → Mem → Option R) :
    roundK (fun st K => codeK (cx_aCheckRules N) (loopN Try.f30 0) st K) 30 [9, 10, 11] [2] L [(.v (.sl 48 vs0) .no), (.v (.int .i64 n1) .no), (.v (.int .i64 n2) .no)] [[]] K = F_aCheckRules_4 N vs0 n1 (fun n2 => L [(.v (.sl 48 vs0) .no), (.v (.int .i64 n1) .no), (.v (.int .i64 n2) .no)] [[]]) (fun a0 => K .ret [(.v (.int .i64 a0) .no)] [[]]) (K (.exit 0) [.any] [[]]) n2 := by
  kernel_rfl
theorem S_aCheckRules_4_ok {R : Type} (N : Nat) (vs0 : List V) (n1 : Int) (K : Ex → List D → Mem → Option R) : ∀ (t : Nat) (n2 : Int),
    loopK (fun st K => codeK (cx_aCheckRules N) (loopN Try.f30 0) st K) 30 [9, 10, 11] [2] t [(.v (.sl 48 vs0) .no), (.v (.int .i64 n1) .no), (.v (.int .i64 n2) .no)] [[]] K = S_aCheckRules_4 N vs0 n1 t n2 (fun a0 => K .ret [(.v (.int .i64 a0) .no)] [[]]) (K (.exit 0) [.any] [[]])
  | 0, n2 => rfl
  | t + 1, n2 => (F_aCheckRules_4_ok N vs0 n1 n2 _ K).trans (congrArg (fun L => F_aCheckRules_4 N vs0 n1 L (fun a0 => K .ret [(.v (.int .i64 a0) .no)] [[]]) (K (.exit 0) [.any] [[]]) n2) (funext fun n2 => S_aCheckRules_4_ok N vs0 n1 K t n2))
theorem s_aCheckRules_ok (N : Nat) (x0 : List V) : bodyK (cx_aCheckRules N) Try.f30 [.v (.sl 48 x0) .no] [] r_aCheckRules = s_aCheckRules N x0 := by
  kernel_rfl
theorem go_aCheckRules : Goes Try.prog 30 := goes_of Try.func30 (by kernel_rfl) (c := bodyOf Try.f30) (by kernel_rfl)
theorem eo_aCheckRules (s : List V → Option (Int)) (hs : ∀ (x0 : List V) (r0 : Int), s x0 = some r0 → PureRet Try.prog T 30 [.v (.sl 48 x0) .no] [.v (.int .i64 r0) .no]) : EntOK Try.prog T ⟨30, e_aCheckRules s⟩ := by
  refine ⟨go_aCheckRules, fun R ds K r h => ?_, fun R ds K => ?_⟩
  · simp only [e_aCheckRules] at h
    split at h
    · obtain ⟨r0, h1, h2⟩ := bnd1_some h
      exact ⟨_, h2, hs _ _ h1⟩
    · cases h
  · simp only [e_aCheckRules]
    split
    · rw [bnd1_b]; rfl
    · rfl
theorem co_aCheckRules (N : Nat) : CxOK Try.prog (cx_aCheckRules N) :=
  cxOK_of2 (es := [⟨55, e_aCheck (s_aCheck N)⟩]) (me := []) (ms := []) T_ok ⟨eo_aCheck _ (p_aCheck N), trivial⟩ trivial trivial rfl (fun _ _ _ _ => rfl) (fun _ _ _ _ _ _ => rfl) rfl
theorem lk_aCheckRules_4 (N : Nat) : LoopOK (cx_aCheckRules N) 30 (loopN Try.f30 0) := by
  refine loopOK_of (rid := 4) (by kernel_rfl) rfl rfl fun R ds m K r h => ?_
  have h : l_aCheckRules_4 N ds m K = some r := h
  unfold l_aCheckRules_4 at h
  split at h
  · exact ⟨N, Eq.trans (S_aCheckRules_4_ok ..) h⟩
  · cases h
theorem lo_aCheckRules (N : Nat) : LoopsOK (cx_aCheckRules N) Try.f30.ntmps (bodyOf Try.f30) :=
  loopsOK_of (k := 1) (by kernel_rfl) ⟨trivial, lk_aCheckRules_4 N⟩
theorem p_aCheckRules (N : Nat) (x0 : List V) (r0 : Int) (h : s_aCheckRules N x0 = some r0) : PureRet Try.prog T 30 [.v (.sl 48 x0) .no] [.v (.int .i64 r0) .no] :=
  pure_of (cx := cx_aCheckRules N) (by kernel_rfl) (co_aCheckRules N) Try.func30 (by kernel_rfl) (by kernel_rfl) (lo_aCheckRules N) rfl rfl rfl (rf := r_aCheckRules) ((s_aCheckRules_ok N x0).trans h) (fun rs' m h => by
    unfold r_aCheckRules at h
    split at h
    · cases h; exact ⟨rfl, rfl⟩
    · cases h)
noncomputable def e_aencode {R : Type} (s : Int → Int → List V → Option (List UInt8)) (ds : List D) (K : List D → Option R) : Option R :=
  match ds with
  | [.agg [.v (.int .i64 x0) .no, .v (.int .i64 x1) .no, .v (.sl 46 x2) .no]] => bnd1 (s x0 x1 x2) fun r0 => K [.v (.bytes r0) .no]
  | _ => none
noncomputable def r_aencode (rs : List D) (_ : Mem) : Option (List UInt8) :=
  match rs with
  | [.v (.bytes r0) _] => some (r0)
  | _ => none
noncomputable def F_aencode_8 {R : Type} (N : Nat) (f : Int → Int → List V → Option (List UInt8)) (vs1 : List V) (n2 : Int) (n4 : Int) (n5 : Int) (vs6 : List V) (l7 : List UInt8) (b8 : Bool) (b9 : Bool) (n10 : Int) (n11 : Int) (Lq : List UInt8 → Int → Option R) (K0 : List UInt8 → Option R) (l0 : List UInt8) (n3 : Int) : Option R := br (decide (n3 < n2)) (br (decide (0 ≤ n3) && decide (n3 < (↑vs1.length : Int))) (at? vs1 n3.toNat fun x0 => x0.unAgg fun l1 => unCons l1 fun x2 l3 => V.unInt IntKind.i64 x2 fun n4 => unCons l3 fun x5 l6 => V.unInt IntKind.i64 x5 fun n7 => unCons l6 fun x8 l9 => V.unSl 46 x8 fun l10 => unNil l9 (bnd1 (f n4 n7 l10) fun l11 => br (decide ((l0.length + l11.length) * 1 ≤ 140737488355328)) (Lq (l0 ++ l11) (IntKind.i64.wrap (n3 + 1))) none)) none) (K0 l0)
noncomputable def S_aencode_8 {R : Type} (N : Nat) (f : Int → Int → List V → Option (List UInt8)) (vs1 : List V) (n2 : Int) (n4 : Int) (n5 : Int) (vs6 : List V) (l7 : List UInt8) (b8 : Bool) (b9 : Bool) (n10 : Int) (n11 : Int) : Nat → List UInt8 → Int → (List UInt8 → Option R) → Option R | 0, _, _, _ => none | t + 1, l0, n3, K0 => F_aencode_8 N f vs1 n2 n4 n5 vs6 l7 b8 b9 n10 n11 (fun l0 n3 => S_aencode_8 N f vs1 n2 n4 n5 vs6 l7 b8 b9 n10 n11 t l0 n3 K0) K0 l0 n3
noncomputable def l_aencode_8 {R : Type} (N : Nat) (f : Int → Int → List V → Option (List UInt8)) (ds : List D) (m : Mem) (K : Ex → List D → Mem → Option R) : Option R :=
  match ds, m with
  | [(.ptr 0 1 0), (.ptr 0 3 0), (.v (.bytes l0) (.own (.slot 4) 5)), (.v (.sl 46 vs1) .no), (.v (.int .i64 n2) .no), (.v (.int .i64 n3) .no)], [[(1, ⟨46, [(.v (.int .i64 n4) .no), (.v (.int .i64 n5) .no), (.v (.sl 46 vs6) .no)]⟩), (3, ⟨113, [(.v (.str l7) .no), (.v (.bool b8) .no), (.v (.bool b9) .no), (.v (.int .i64 n10) .no), (.v (.int .i64 n11) .no)]⟩)]] => S_aencode_8 N f vs1 n2 n4 n5 vs6 l7 b8 b9 n10 n11 N l0 n3 (fun a0 => K (.exit 0) [(.ptr 0 1 0), (.ptr 0 3 0), (.v (.bytes a0) (.own (.slot 4) 5))] [[(1, ⟨46, [(.v (.int .i64 n4) .no), (.v (.int .i64 n5) .no), (.v (.sl 46 vs6) .no)]⟩), (3, ⟨113, [(.v (.str l7) .no), (.v (.bool b8) .no), (.v (.bool b9) .no), (.v (.int .i64 n10) .no), (.v (.int .i64 n11) .no)]⟩)]])
  | _, _ => none
noncomputable def B_aencode (N : Nat) (f : Int → Int → List V → Option (List UInt8)) (x0 : Int) (x1 : Int) (x2 : List V) : Option (List UInt8) := bnd1 (s_forms N) fun x0_1 => br (decide (x0 = 0)) (S_aencode_8 N f x2 (↑x2.length : Int) x0 x1 x2 ([110, 101, 118, 101, 114] : List UInt8) false false 0 0 N [UInt8.ofNat (IntKind.u8.wrap x0).toNat] 0 fun l1 => some l1) (br (decide (x0 = 1)) (S_aencode_8 N f x2 (↑x2.length : Int) x0 x1 x2 ([97, 108, 119, 97, 121, 115] : List UInt8) false false 0 0 N [UInt8.ofNat (IntKind.u8.wrap x0).toNat] 0 fun l2 => some l2) (br (decide (x0 = 2)) (S_aencode_8 N f x2 (↑x2.length : Int) x0 x1 x2 ([112, 105, 110] : List UInt8) true false 1 8 N [UInt8.ofNat (IntKind.u8.wrap x0).toNat, UInt8.ofNat (IntKind.u8.wrap x1).toNat] 0 fun l3 => some l3) (br (decide (x0 = 3)) (S_aencode_8 N f x2 (↑x2.length : Int) x0 x1 x2 ([107, 101, 121] : List UInt8) true false 1 8 N [UInt8.ofNat (IntKind.u8.wrap x0).toNat, UInt8.ofNat (IntKind.u8.wrap x1).toNat] 0 fun l4 => some l4) (br (decide (x0 = 4)) (S_aencode_8 N f x2 (↑x2.length : Int) x0 x1 x2 ([115, 116, 97, 116, 101] : List UInt8) true false 1 5 N [UInt8.ofNat (IntKind.u8.wrap x0).toNat, UInt8.ofNat (IntKind.u8.wrap x1).toNat] 0 fun l5 => some l5) (br (decide (x0 = 5)) (S_aencode_8 N f x2 (↑x2.length : Int) x0 x1 x2 ([108, 101, 118, 101, 108] : List UInt8) true false 1 51 N [UInt8.ofNat (IntKind.u8.wrap x0).toNat, UInt8.ofNat (IntKind.u8.wrap x1).toNat] 0 fun l6 => some l6) (br (decide (x0 = 6)) (S_aencode_8 N f x2 (↑x2.length : Int) x0 x1 x2 ([97, 110, 100] : List UInt8) false true 0 0 N [UInt8.ofNat (IntKind.u8.wrap x0).toNat, UInt8.ofNat (IntKind.u8.wrap (↑x2.length : Int)).toNat] 0 fun l7 => some l7) (br (decide (x0 = 7)) (S_aencode_8 N f x2 (↑x2.length : Int) x0 x1 x2 ([111, 114] : List UInt8) false true 0 0 N [UInt8.ofNat (IntKind.u8.wrap x0).toNat, UInt8.ofNat (IntKind.u8.wrap (↑x2.length : Int)).toNat] 0 fun l8 => some l8) none)))))))
noncomputable def s_aencode (N : Nat) : Nat → Int → Int → List V → Option (List UInt8) | 0, _, _, _ => none | n + 1, x0, x1, x2 => B_aencode N (s_aencode N n) x0 x1 x2
noncomputable def cx_aencode (N : Nat) (f : Int → Int → List V → Option (List UInt8)) : Cx := { T := T, isPure := tabP [⟨87, e_aencode f⟩, ⟨103, e_forms (s_forms N)⟩], pureK := fun g ds K => tabK [⟨87, e_aencode f⟩, ⟨103, e_forms (s_forms N)⟩] g ds K, memK := fun g dst ds m K => tabMK [] g dst ds m K, meth := tabM [], keep := fun r => match r with | 8 => [1, 3, 4, 33, 34, 35] | _ => [], keepX := fun r => match r with | 8 => [1, 3, 4] | _ => [], loopT := fun r ds m K => match r with | 8 => l_aencode_8 N f ds m K | _ => none, jumps := 9 }
theorem F_aencode_8_ok {R : Type} (N : Nat) (f : Int → Int → List V → Option (List UInt8)) (vs1 : List V) (n2 : Int) (n4 : Int) (n5 : Int) (vs6 : List V) (l7 : List UInt8) (b8 : Bool) (b9 : Bool) (n10 : Int) (n11 : Int) (l0 : List UInt8) (n3 : Int) (L : List D → Mem → Option R) (K : Ex → List D → Mem → Option R) :
    roundK (fun st K => codeK (cx_aencode N f) (loopN Try.f87 0) st K) 45 [1, 3, 4, 33, 34, 35] [1, 3, 4] L [(.ptr 0 1 0), (.ptr 0 3 0), (.v (.bytes l0) (.own (.slot 4) 5)), (.v (.sl 46 vs1) .no), (.v (.int .i64 n2) .no), (.v (.int .i64 n3) .no)] [[(1, ⟨46, [(.v (.int .i64 n4) .no), (.v (.int .i64 n5) .no), (.v (.sl 46 vs6) .no)]⟩), (3, ⟨113, [(.v (.str l7) .no), (.v (.bool b8) .no), (.v (.bool b9) .no), (.v (.int .i64 n10) .no), (.v (.int .i64 n11) .no)]⟩)]] K = F_aencode_8 N f vs1 n2 n4 n5 vs6 l7 b8 b9 n10 n11 (fun l0 n3 => L [(.ptr 0 1 0), (.ptr 0 3 0), (.v (.bytes l0) (.own (.slot 4) 5)), (.v (.sl 46 vs1) .no), (.v (.int .i64 n2) .no), (.v (.int .i64 n3) .no)] [[(1, ⟨46, [(.v (.int .i64 n4) .no), (.v (.int .i64 n5) .no), (.v (.sl 46 vs6) .no)]⟩), (3, ⟨113, [(.v (.str l7) .no), (.v (.bool b8) .no), (.v (.bool b9) .no), (.v (.int .i64 n10) .no), (.v (.int .i64 n11) .no)]⟩)]]) (fun a0 => K (.exit 0) [(.ptr 0 1 0), (.ptr 0 3 0), (.v (.bytes a0) (.own (.slot 4) 5))] [[(1, ⟨46, [(.v (.int .i64 n4) .no), (.v (.int .i64 n5) .no), (.v (.sl 46 vs6) .no)]⟩), (3, ⟨113, [(.v (.str l7) .no), (.v (.bool b8) .no), (.v (.bool b9) .no), (.v (.int .i64 n10) .no), (.v (.int .i64 n11) .no)]⟩)]]) l0 n3 := by
  kernel_rfl
theorem S_aencode_8_ok {R : Type} (N : Nat) (f : Int → Int → List V → Option (List UInt8)) (vs1 : List V) (n2 : Int) (n4 : Int) (n5 : Int) (vs6 : List V) (l7 : List UInt8) (b8 : Bool) (b9 : Bool) (n10 : Int) (n11 : Int) (K : Ex → List D → Mem → Option R) : ∀ (t : Nat) (l0 : List UInt8) (n3 : Int),
    loopK (fun st K => codeK (cx_aencode N f) (loopN Try.f87 0) st K) 45 [1, 3, 4, 33, 34, 35] [1, 3, 4] t [(.ptr 0 1 0), (.ptr 0 3 0), (.v (.bytes l0) (.own (.slot 4) 5)), (.v (.sl 46 vs1) .no), (.v (.int .i64 n2) .no), (.v (.int .i64 n3) .no)] [[(1, ⟨46, [(.v (.int .i64 n4) .no), (.v (.int .i64 n5) .no), (.v (.sl 46 vs6) .no)]⟩), (3, ⟨113, [(.v (.str l7) .no), (.v (.bool b8) .no), (.v (.bool b9) .no), (.v (.int .i64 n10) .no), (.v (.int .i64 n11) .no)]⟩)]] K = S_aencode_8 N f vs1 n2 n4 n5 vs6 l7 b8 b9 n10 n11 t l0 n3 (fun a0 => K (.exit 0) [(.ptr 0 1 0), (.ptr 0 3 0), (.v (.bytes a0) (.own (.slot 4) 5))] [[(1, ⟨46, [(.v (.int .i64 n4) .no), (.v (.int .i64 n5) .no), (.v (.sl 46 vs6) .no)]⟩), (3, ⟨113, [(.v (.str l7) .no), (.v (.bool b8) .no), (.v (.bool b9) .no), (.v (.int .i64 n10) .no), (.v (.int .i64 n11) .no)]⟩)]])
  | 0, l0, n3 => rfl
  | t + 1, l0, n3 => (F_aencode_8_ok N f vs1 n2 n4 n5 vs6 l7 b8 b9 n10 n11 l0 n3 _ K).trans (congrArg (fun L => F_aencode_8 N f vs1 n2 n4 n5 vs6 l7 b8 b9 n10 n11 L (fun a0 => K (.exit 0) [(.ptr 0 1 0), (.ptr 0 3 0), (.v (.bytes a0) (.own (.slot 4) 5))] [[(1, ⟨46, [(.v (.int .i64 n4) .no), (.v (.int .i64 n5) .no), (.v (.sl 46 vs6) .no)]⟩), (3, ⟨113, [(.v (.str l7) .no), (.v (.bool b8) .no), (.v (.bool b9) .no), (.v (.int .i64 n10) .no), (.v (.int .i64 n11) .no)]⟩)]]) l0 n3) (funext fun l0 => funext fun n3 => S_aencode_8_ok N f vs1 n2 n4 n5 vs6 l7 b8 b9 n10 n11 K t l0 n3))
theorem B_aencode_ok (N : Nat) (f : Int → Int → List V → Option (List UInt8)) (x0 : Int) (x1 : Int) (x2 : List V) : bodyK (cx_aencode N f) Try.f87 [.agg [.v (.int .i64 x0) .no, .v (.int .i64 x1) .no, .v (.sl 46 x2) .no]] [] r_aencode = B_aencode N f x0 x1 x2 := by
  kernel_rfl
theorem go_aencode : Goes Try.prog 87 := goes_of Try.func87 (by kernel_rfl) (c := bodyOf Try.f87) (by kernel_rfl)
theorem eo_aencode (s : Int → Int → List V → Option (List UInt8)) (hs : ∀ (x0 : Int) (x1 : Int) (x2 : List V) (r0 : List UInt8), s x0 x1 x2 = some r0 → PureRet Try.prog T 87 [.agg [.v (.int .i64 x0) .no, .v (.int .i64 x1) .no, .v (.sl 46 x2) .no]] [.v (.bytes r0) .no]) : EntOK Try.prog T ⟨87, e_aencode s⟩ := by
  refine ⟨go_aencode, fun R ds K r h => ?_, fun R ds K => ?_⟩
  · simp only [e_aencode] at h
    split at h
    · obtain ⟨r0, h1, h2⟩ := bnd1_some h
      exact ⟨_, h2, hs _ _ _ _ h1⟩
    · cases h
  · simp only [e_aencode]
    split
    · rw [bnd1_b]; rfl
    · rfl
theorem co_aencode (N : Nat) (f : Int → Int → List V → Option (List UInt8)) (hf : ∀ (x0 : Int) (x1 : Int) (x2 : List V) (r0 : List UInt8), f x0 x1 x2 = some r0 → PureRet Try.prog T 87 [.agg [.v (.int .i64 x0) .no, .v (.int .i64 x1) .no, .v (.sl 46 x2) .no]] [.v (.bytes r0) .no]) : CxOK Try.prog (cx_aencode N f) :=
  cxOK_of2 (es := [⟨87, e_aencode f⟩, ⟨103, e_forms (s_forms N)⟩]) (me := []) (ms := []) T_ok ⟨eo_aencode f hf, eo_forms _ (p_forms N), trivial⟩ trivial trivial rfl (fun _ _ _ _ => rfl) (fun _ _ _ _ _ _ => rfl) rfl
theorem lk_aencode_8 (N : Nat) (f : Int → Int → List V → Option (List UInt8)) : LoopOK (cx_aencode N f) 45 (loopN Try.f87 0) := by
  refine loopOK_of (rid := 8) (by kernel_rfl) rfl rfl fun R ds m K r h => ?_
  have h : l_aencode_8 N f ds m K = some r := h
  unfold l_aencode_8 at h
  split at h
  · exact ⟨N, Eq.trans (S_aencode_8_ok ..) h⟩
  · cases h
theorem lo_aencode (N : Nat) (f : Int → Int → List V → Option (List UInt8)) : LoopsOK (cx_aencode N f) Try.f87.ntmps (bodyOf Try.f87) :=
  loopsOK_of (k := 1) (by kernel_rfl) ⟨trivial, lk_aencode_8 N f⟩
theorem p_aencode (N : Nat) : ∀ (M : Nat) (x0 : Int) (x1 : Int) (x2 : List V) (r0 : List UInt8), s_aencode N M x0 x1 x2 = some r0 → PureRet Try.prog T 87 [.agg [.v (.int .i64 x0) .no, .v (.int .i64 x1) .no, .v (.sl 46 x2) .no]] [.v (.bytes r0) .no]
  | 0, _, _, _, _, h => by cases h
  | M + 1, x0, x1, x2, r0, h => pure_of (cx := cx_aencode N (s_aencode N M)) (by kernel_rfl) (co_aencode N (s_aencode N M) (p_aencode N M)) Try.func87 (by kernel_rfl) (by kernel_rfl) (lo_aencode N (s_aencode N M)) rfl rfl rfl (rf := r_aencode) ((B_aencode_ok N (s_aencode N M) x0 x1 x2).trans h) (fun rs' m h => by
    unfold r_aencode at h
    split at h
    · cases h; exact ⟨rfl, rfl⟩
    · cases h)
end Go.Proofs.Ytllnklkjkjmjbaa.En
