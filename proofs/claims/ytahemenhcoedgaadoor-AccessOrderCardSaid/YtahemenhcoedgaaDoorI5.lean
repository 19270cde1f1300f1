/- Several texts in one. -/
import Derived.Test.YtahemenhcoedgaaDoorI3
import Derived.Test.YtahemenhcoedgaaDoorI4
import Derived.Deep.AppendLies
import Derived.BigQuiet
import Derived.Test.YtahemenhcoedgaaDoorRows
import Derived.ProofKit
import Derived.OpenShut
import Derived.ShutString
import Derived.ChangeOld
import Derived.Below
import Derived.Lib.SmallJoins
import Derived.Test.YtahemenhcoedgaaDoorCards
import Derived.Test.YtahemenhcoedgaaDoorTie
import Derived.LaidMore

set_option linter.unusedSimpArgs false
set_option linter.unusedVariables false
set_option linter.unusedSectionVars false
/- The atoms of a condition: the reference's add and atoms, by walks. Rows that are appended to although they came in. -/
namespace Go.Proofs.YtahemenhcoedgaaDoor.En
open Go Go.RowKit
set_option linter.unusedVariables false
abbrev AtQ := Int × Int
def flA : List AtQ → List Value
  | [] => []
  | a :: l => .int .i64 a.1 :: .int .i64 a.2 :: .slice none 0 0 :: flA l
theorem flA_append : ∀ a b : List AtQ, flA (a ++ b) = flA a ++ flA b
  | [], b => rfl
  | x :: a, b => by simp [flA, flA_append a b]
theorem flA_len : ∀ a : List AtQ, (flA a).length = a.length * 3
  | [] => rfl
  | x :: a => by simp [flA, flA_len a]; omega
theorem flA_get : ∀ (l : List AtQ) (k : Nat) (x : AtQ), l[k]? = some x → (flA l)[k * 3]? = some (.int .i64 x.1) ∧ (flA l)[k * 3 + 1]? = some (.int .i64 x.2) ∧ (flA l)[k * 3 + 2]? = some (.slice none 0 0)
  | [], k, x, h => by simp at h
  | y :: l, 0, x, h => by simp at h; subst h; simp [flA]
  | y :: l, k + 1, x, h => by
    have := flA_get l k x (by simpa using h)
    simpa [flA, Nat.succ_mul] using this
/-- A row of atoms, all of it. -/
def RowA (w : World) (B : Nat) (v : Value) (l : List AtQ) : Prop := w.ownsRow B 24 3 v l.length (flA l)
theorem RowA.cells {w : World} {B : Nat} {v : Value} {l : List AtQ} (h : RowA w B v l) : (v = .slice none 0 0 ∧ l = []) ∨ ∃ b cap, v = .slice (some ⟨b, 0, none⟩) l.length cap ∧ B ≤ b ∧ b < w.heap.size ∧ l.length ≤ cap ∧ cap ≤ maxLen ∧ ∀ j u, (flA l)[j]? = some u → w.cell? ⟨b, j, none⟩ = some u := by
  rcases h.2 with ⟨h1, h2⟩ | ⟨b, cap, cur, h1, h2, h3, h4, h5, h6, h7⟩
  · exact .inl ⟨h1, List.eq_nil_of_length_eq_zero h2⟩
  · refine .inr ⟨b, cap, h1, h2, heap_lt h3, h4, h5, fun j u hu => ?_⟩
    rw [cell_of_row w b j _ _ _ h3, ← Array.getElem?_toList]
    rw [← h7, List.getElem?_take] at hu
    split at hu
    · exact hu
    · cases hu
/-- What is done to a world by one who may append to the row v (its first n elements stay) and gives v', of n' elements. -/
structure Took (B : Nat) (w : World) (v : Value) (n : Nat) (w' : World) (v' : Value) (n' : Nat) : Prop where
  os : w'.os = w.os
  tape : w'.tape = w.tape
  output : w'.output = w.output
  size : w.heap.size ≤ w'.heap.size
  block : ∀ b, b < w.heap.size → w'.heap[b]? = w.heap[b]? ∨ (v.ownBlock = some b ∧ B ≤ b ∧ ∀ cur e fz, w.heap[b]? = some (.cells cur e fz) → ∃ cur', w'.heap[b]? = some (.cells cur' e fz) ∧ cur'.size = cur.size ∧ cur'.toList.take (n * 3) = cur.toList.take (n * 3))
  out : (v'.ownBlock = v.ownBlock ∧ n ≤ n') ∨ ((∀ b, v'.ownBlock = some b → w.heap.size ≤ b) ∧ n ≤ n' ∧ ∀ b cur e fz, v.ownBlock = some b → w.heap[b]? = some (.cells cur e fz) → cur.size < n' * 3)
theorem Took.refl (B : Nat) (w : World) (v : Value) (n : Nat) : Took B w v n w v n := ⟨rfl, rfl, rfl, Nat.le_refl _, fun _ _ => .inl rfl, .inl ⟨rfl, Nat.le_refl _⟩⟩
theorem take_le {α : Type} {a b : List α} {m n : Nat} (h : a.take n = b.take n) (hm : m ≤ n) : a.take m = b.take m := by
  have := congrArg (List.take m) h
  rwa [List.take_take, List.take_take, Nat.min_eq_left hm] at this
theorem Took.trans {B : Nat} {w w1 w2 : World} {v v1 v2 : Value} {n n1 n2 : Nat} (h : Took B w v n w1 v1 n1) (k : Took B w1 v1 n1 w2 v2 n2) : Took B w v n w2 v2 n2 := by
  refine ⟨k.os.trans h.os, k.tape.trans h.tape, k.output.trans h.output, Nat.le_trans h.size k.size, fun b hb => ?_, ?_⟩
  · have hb1 := Nat.lt_of_lt_of_le hb h.size
    rcases k.block b hb1 with k1 | ⟨k1, k2, k3⟩
    · rw [k1]; exact h.block b hb
    · rcases h.out with ⟨o1, o2⟩ | ⟨o1, _⟩
      · rcases h.block b hb with h1 | ⟨h1, h2, h3⟩
        · refine .inr ⟨by rw [← o1]; exact k1, k2, fun cur e fz hc => ?_⟩
          obtain ⟨cur', c1, c2, c3⟩ := k3 cur e fz (by rw [h1]; exact hc)
          exact ⟨cur', c1, c2, take_le c3 (Nat.mul_le_mul_right 3 o2)⟩
        · refine .inr ⟨h1, h2, fun cur e fz hc => ?_⟩
          obtain ⟨cur1, b1, b2, b3⟩ := h3 cur e fz hc
          obtain ⟨cur', c1, c2, c3⟩ := k3 cur1 e fz b1
          exact ⟨cur', c1, by rw [c2, b2], (take_le c3 (Nat.mul_le_mul_right 3 o2)).trans b3⟩
      · have := o1 b k1; omega
  · have hk : n1 ≤ n2 := by rcases k.out with ⟨_, k2⟩ | ⟨_, k2, _⟩ <;> exact k2
    rcases h.out with ⟨o1, o2⟩ | ⟨o1, o2, o3⟩
    · rcases k.out with ⟨k1, k2⟩ | ⟨k1, k2, k3⟩
      · exact .inl ⟨k1.trans o1, Nat.le_trans o2 k2⟩
      · refine .inr ⟨fun b hb => Nat.le_trans h.size (k1 b hb), Nat.le_trans o2 k2, fun b cur e fz hb hc => ?_⟩
        rcases h.block b (heap_lt hc) with h1 | ⟨_, _, h3⟩
        · exact k3 b cur e fz (by rw [o1]; exact hb) (by rw [h1]; exact hc)
        · obtain ⟨cur', c1, c2, _⟩ := h3 cur e fz hc
          rw [← c2]
          exact k3 b cur' e fz (by rw [o1]; exact hb) c1
    · refine .inr ⟨fun b hb => ?_, Nat.le_trans o2 hk, fun b cur e fz hb hc => ?_⟩
      · rcases k.out with ⟨k1, k2⟩ | ⟨k1, _⟩
        · exact o1 b (by rw [← k1]; exact hb)
        · exact Nat.le_trans h.size (k1 b hb)
      · have := o3 b cur e fz hb hc
        have : n1 * 3 ≤ n2 * 3 := Nat.mul_le_mul_right 3 hk
        omega
/-- A block that is no row that may be appended to. -/
theorem Took.far {B : Nat} {w w' : World} {v v' : Value} {n n' : Nat} (h : Took B w v n w' v' n') {b : Nat} (hb : b < w.heap.size) (hne : v.ownBlock ≠ some b) : w'.heap[b]? = w.heap[b]? := by
  rcases h.block b hb with h | ⟨h, _⟩
  · exact h
  · exact absurd h hne
theorem Took.below {B : Nat} {w w' : World} {v v' : Value} {n n' : Nat} (h : Took B w v n w' v' n') (hB : B ≤ w.heap.size) : Below B w w' := by
  refine ⟨h.os, h.tape, h.output, h.size, fun b hb => ?_⟩
  rcases h.block b (Nat.lt_of_lt_of_le hb hB) with h | ⟨_, h, _⟩
  · exact h
  · omega
/-- Rows stand. -/
theorem Took.row {B : Nat} {w w' : World} {v v' u : Value} {n n' : Nat} {l : List AtQ} (h : Took B w v n w' v' n') (hr : RowA w B u l) (hn : u.ownBlock = v.ownBlock → l.length ≤ n) : RowA w' B u l := by
  refine ⟨hr.1, ?_⟩
  rcases hr.2 with h1 | ⟨b, cap, cur, rfl, h2, h3, h4, h5, h6, h7⟩
  · exact .inl h1
  · rcases h.block b (heap_lt h3) with h8 | ⟨h8, _, h9⟩
    · exact .inr ⟨b, cap, cur, rfl, h2, by rw [h8]; exact h3, h4, h5, h6, h7⟩
    · obtain ⟨cur', c1, c2, c3⟩ := h9 cur _ _ h3
      refine .inr ⟨b, cap, cur', rfl, h2, c1, h4, h5, by rw [c2]; exact h6, ?_⟩
      rw [← h7]
      exact take_le c3 (Nat.mul_le_mul_right 3 (hn (by rw [h8]; rfl)))
theorem RowA.below {B N : Nat} {w w' : World} {v : Value} {l : List AtQ} (h : RowA w B v l) (hb : Below N w w') (hN : ∀ b, v.ownBlock = some b → b < N) : RowA w' B v l := by
  refine ⟨h.1, ?_⟩
  rcases h.2 with h1 | ⟨b, cap, cur, rfl, h2, h3, h4⟩
  · exact .inl h1
  · exact .inr ⟨b, cap, cur, rfl, h2, by rw [hb.block b (hN b rfl)]; exact h3, h4⟩
theorem RowA.lt {B : Nat} {w : World} {v : Value} {l : List AtQ} (h : RowA w B v l) : ∀ b, v.ownBlock = some b → b < w.heap.size := by
  intro b hb
  rcases h.2 with ⟨rfl, _⟩ | ⟨b', cap, cur, rfl, h2, h3, _⟩
  · cases hb
  · simp [Value.ownBlock] at hb; subst hb; exact heap_lt h3
theorem Took.of_below {B : Nat} {w w' : World} (h : Below w.heap.size w w') (v : Value) (n : Nat) : Took B w v n w' v n :=
  ⟨h.os, h.tape, h.output, h.size, fun b hb => .inl (h.block b hb), .inl ⟨rfl, Nat.le_refl _⟩⟩
theorem below_drewN {B k : Nat} {w w' : World} (h : Below B w w') : Below B w (w'.drewN k) := ⟨h.os, h.tape, h.output, h.size, h.block⟩
theorem rowA_drewN {B k : Nat} {w : World} {v : Value} {l : List AtQ} (h : RowA w B v l) : RowA (w.drewN k) B v l := h
/-- The list with one more, unless it has it. -/
def addQ (l : List AtQ) (a : AtQ) : List AtQ := if a ∈ l then l else l ++ [a]
theorem infoCond : (Tryd.prog.info? 24).map (fun i => (i.zero, i.size, i.bytes)) = some (some (.agg #[.int .i64 0, .int .i64 0, .slice none 0 0]), 3, 40) := by kernel_rfl
/-- append of one atom, which lies in block c. -/
theorem append_took {P : Program} (hsl : P.underlying 22 = some (.slice 24)) {i0 : TypeInfo} (hi : P.info? 24 = some i0) (hz : i0.zero = some (.agg #[.int .i64 0, .int .i64 0, .slice none 0 0])) (hs : i0.size = 3) (hb : i0.bytes = 40)
    {B : Nat} {w : World} (hB : B ≤ w.heap.size) {A : Option Addr} {cap : Nat} {l : List AtQ} (hr : RowA w B (.slice A l.length cap) l) (hl : l.length ≤ 100000) (o m : Int) (ty : TypeId) (x : Nat) (hx : w.heap[x]? = some (.cells #[.int .i64 o, .int .i64 m, .slice none 0 0] 24 (0, 0))) :
    ∃ A' cap' w', (Builtin.append_ #[22, 22] ty #[.slice A l.length cap, .slice (some ⟨x, 0, none⟩) 1 1]).run P w = .ok (.slice A' (l.length + 1) cap') w' ∧ RowA w' B (.slice A' (l.length + 1) cap') (l ++ [(o, m)]) ∧
      Took B w (.slice A l.length cap) l.length w' (.slice A' (l.length + 1) cap') (l.length + 1) := by
  have hnews : ∀ j u, [Value.int .i64 o, .int .i64 m, .slice none 0 0][j]? = some u → w.cell? ((⟨x, 0, none⟩ : Addr).add j) = some u := fun j u hu => World.news_of_block hx j u hu
  have hone : ∀ u ∈ [Value.int .i64 o, .int .i64 m, .slice none 0 0], u.oneCell' = true := by
    intro u hu; simp at hu; rcases hu with rfl | rfl | rfl <;> rfl
  have hmx : l.length + 1 ≤ maxLen := by unfold maxLen; omega
  obtain ⟨G, c', w', hrun, hown, hgr, hG, hlt⟩ := run_append_lies (P := P) w 22 ty B 24 i0 _ 3 40 hsl hi hz hs hb rfl (by decide) (.slice A l.length cap) l.length (flA l) hr ⟨x, 0, none⟩ 1 1 [.int .i64 o, .int .i64 m, .slice none 0 0] rfl hnews hone (by decide) hmx (by omega) hB _ rfl
  have hrow : RowA w' B (.slice (some ⟨G, 0, none⟩) (l.length + 1) c') (l ++ [(o, m)]) := by
    unfold RowA
    rw [flA_append, List.length_append]
    exact hown
  refine ⟨_, c', w', hrun, hrow, hgr.os, hgr.tape, hgr.output, hgr.size, fun b hbl => ?_, ?_⟩
  · by_cases hne : some b = (Value.slice A l.length cap).ownBlock
    · have hrc := hr
      rcases hr.2 with ⟨h1, _⟩ | ⟨b', cp, cur, h1, h2, h3, h4, h5, h6, h7⟩
      · rw [h1] at hne; cases hne
      · injection h1 with h1 _ h1c
        subst h1; subst h1c
        simp [Value.ownBlock] at hne
        subst hne
        by_cases hroom : l.length + 1 ≤ cap
        · refine .inr ⟨rfl, h2, fun cur2 e fz hc => ?_⟩
          rw [h3] at hc
          injection hc with hc
          injection hc with c1 c2 c3
          subst c1; subst c2; subst c3
          have hr2 := run_append_room (P := P) w 22 ty 24 i0 hsl hi b l.length cap cur h3 ⟨x, 0, none⟩ 1 1 _ (by rw [hs]; rfl) hnews hone hroom (by rw [hs, h6]; show l.length * 3 + 3 ≤ cap * 3; omega)
          rw [hrun] at hr2
          injection hr2 with _ e2
          subst e2
          refine ⟨_, setRow_heap w b cur _ 24 _ h3, ?_, ?_⟩
          · simp [hs, h6]; omega
          · rw [hs]
            simp only [List.toList_toArray, List.append_assoc]
            rw [List.take_append_of_le_length (by simp [h6]; omega), List.take_take]
            simp
        · left
          have holds : ∀ j u, (flA l)[j]? = some u → w.cell? ((⟨b, 0, none⟩ : Addr).add j) = some u := World.ownsRow.cells hrc (g := b) rfl
          have hr2 := run_append_grow (P := P) w 22 ty 24 i0 _ hsl hi hz ⟨b, 0, none⟩ l.length cap (flA l) (by rw [hs, flA_len]) holds ⟨x, 0, none⟩ 1 1 _ (by rw [hs]; rfl) hnews (by omega) (by omega) (growslice_fits (by omega) (by rw [hb]; omega))
          rw [hrun] at hr2
          injection hr2 with _ e2
          rw [e2]
          exact heap_alloc_old w.drew _ hbl
    · exact .inl (hgr.block b hbl hne)
  · rcases hG with hG | hG
    · exact .inl ⟨by rw [hG]; rfl, by omega⟩
    · refine .inr ⟨fun b hb2 => ?_, by omega, fun b cur e fz hb2 hc => ?_⟩
      · simp [Value.ownBlock] at hb2
        omega
      · rcases hr.2 with ⟨h1, _⟩ | ⟨b', cp, cur0, h1, h2, h3, h4, h5, h6, h7⟩
        · rw [h1] at hb2; cases hb2
        · injection h1 with h1 _ h1c
          subst h1; subst h1c
          simp [Value.ownBlock] at hb2
          subst hb2
          rw [h3] at hc
          injection hc with hc
          injection hc with c1 c2 c3
          subst c1; subst c2; subst c3
          by_cases hroom : l.length + 1 ≤ cap
          · exfalso
            have hr2 := run_append_room (P := P) w 22 ty 24 i0 hsl hi b' l.length cap cur0 h3 ⟨x, 0, none⟩ 1 1 _ (by rw [hs]; rfl) hnews hone hroom (by rw [hs, h6]; show l.length * 3 + 3 ≤ cap * 3; omega)
            rw [hrun] at hr2
            injection hr2 with e1 _
            injection e1 with e1
            injection e1 with e1
            injection e1 with e1
            have := heap_lt h3
            omega
          · rw [h6]; omega
set_option maxHeartbeats 1000000 in
theorem add_walk (B : Nat) (w : World) (hB : B ≤ w.heap.size) (A : Option Addr) (cap : Nat) (l : List AtQ) (hr : RowA w B (.slice A l.length cap) l) (o m : Int) (hl : l.length ≤ 100000) :
    Calls Tryd.prog 72 #[.slice A l.length cap, .agg #[.int .i64 o, .int .i64 m, .slice none 0 0]] w fun e w' => ∃ A' cap', e = .returned (.slice A' (addQ l (o, m)).length cap') ∧ RowA w' B (.slice A' (addQ l (o, m)).length cap') (addQ l (o, m)) ∧ Took B w (.slice A l.length cap) l.length w' (.slice A' (addQ l (o, m)).length cap') (addQ l (o, m)).length := by
  obtain ⟨i0, hi0, hz0, hz1, hz2⟩ := info_parts infoCond
  have hrc := hr.cells
  have hrl := hr.lt
  have HI := Lib.hid (And.intro hi0 (And.intro hz0 (And.intro hz1 hz2)))
  have HR := Lib.hid (And.intro hr (And.intro hrl hrc))
  clear hi0 hz0 hz1 hz2 hr hrl hrc
  go_enter Tryd.func72, Tryd.ntmps72
  go_wp2
  go_loopg [5] l.length (fun g i wr => ∃ k, k ≤ l.length ∧ g = l.length - k ∧ i = .int .i64 (k : Int) ∧ (∀ j x, j < k → l[j]? = some x → x ≠ (o, m)) ∧ Below (w.heap.size + 1) (w.alloc (.cells #[.int .i64 o, .int .i64 m, .slice none 0 0] 24)) wr)
  case atStart => exact ⟨0, by omega, rfl, rfl, fun j x hj => by omega, Below.refl _ _⟩
  case round =>
    obtain ⟨k, hk, hg, rfl, hno, hb⟩ := hrel
    have hbx : wr.heap[w.heap.size]? = some (.cells #[.int .i64 o, .int .i64 m, .slice none 0 0] 24 (0, 0)) := by
      rw [hb.block _ (by omega)]; exact heap_alloc_new w _
    have hx0 : wr.cell? ⟨w.heap.size, 0, none⟩ = some (.int .i64 o) := by rw [cell_of_row wr _ 0 _ _ _ hbx]; rfl
    have hx1 : wr.cell? ⟨w.heap.size, 1, none⟩ = some (.int .i64 m) := by rw [cell_of_row wr _ 1 _ _ _ hbx]; rfl
    have hx2 : wr.cell? ⟨w.heap.size, 2, none⟩ = some (.slice none 0 0) := by rw [cell_of_row wr _ 2 _ _ _ hbx]; rfl
    have hbw : Below w.heap.size w wr := ((Below.refl w.heap.size w).alloc (Nat.le_refl _) _).trans (hb.mono (by omega))
    have hrw : RowA wr B (.slice A l.length cap) l := HR.out.1.below hbw HR.out.2.1
    by_cases hlt : k < l.length
    · obtain ⟨⟨xo, xm⟩, hx⟩ : ∃ x, l[k]? = some x := ⟨_, List.getElem?_eq_getElem hlt⟩
      rcases hrw.cells with ⟨_, h0⟩ | ⟨b, cp, hv, h2, h3, h4, h5, h6⟩
      · subst h0; simp at hlt
      injection hv with hv1 hv2 hv3
      subst hv1; subst hv3
      obtain ⟨f0, f1, _⟩ := flA_get l k _ hx
      have c0 := h6 _ _ f0
      have c1 := h6 _ _ f1
      simp only at c0 c1
      have H := Lib.hid (And.intro hno (And.intro hb (And.intro hbw (And.intro hrw (And.intro hx h6)))))
      clear hno hb hbw hrw hx f0 f1 h6 hbx h2 h3 h4 h5
      by_cases e1 : xo = o
      · subst e1
        have d1 : (xo == xo) = true := by simp
        by_cases e2 : xm = m
        · subst e2
          go_wp2
          go_quiet (fail)
          go_wp2
          go_ret
          have hq : addQ l (xo, xm) = l := if_pos (List.mem_of_getElem? H.out.2.2.2.2.1)
          rw [hq]
          exact ⟨_, cap, rfl, rowA_drewN H.out.2.2.2.1, Took.of_below (below_drewN H.out.2.2.1) _ _⟩
        · have d2 : (xm == m) = false := by simpa using e2
          have d3 : decide (xm = m) = false := by simpa using e2
          go_wp2
          go_quiet (fail)
          go_wp2
          go_roundg (l.length - (k + 1))
          case measure => omega
          case rel =>
            refine ⟨k + 1, by omega, rfl, by go_num, fun j x hj hjx => ?_, below_drewN H.out.2.1⟩
            rcases (by omega : j < k ∨ j = k) with h | rfl
            · exact H.out.1 j x h hjx
            · rw [H.out.2.2.2.2.1] at hjx
              injection hjx with hjx
              subst hjx
              intro e; injection e with e1' e2'
              exact e2 e2'
      · have d2 : (xo == o) = false := by simpa using e1
        have d3 : decide (xo = o) = false := by simpa using e1
        go_wp2
        go_quiet (fail)
        go_wp2
        go_roundg (l.length - (k + 1))
        case measure => omega
        case rel =>
          refine ⟨k + 1, by omega, rfl, by go_num, fun j x hj hjx => ?_, below_drewN H.out.2.1⟩
          rcases (by omega : j < k ∨ j = k) with h | rfl
          · exact H.out.1 j x h hjx
          · rw [H.out.2.2.2.2.1] at hjx
            injection hjx with hjx
            subst hjx
            intro e; injection e with e1' e2'
            exact e1 e1'
    · have hkl : k = l.length := by omega
      subst hkl
      have H := Lib.hid (And.intro hno (And.intro hb (And.intro hbw hrw)))
      clear hno hb hbw hrw hbx
      obtain ⟨A2, c2, w2, hrun, hrow2, htk⟩ := append_took (P := Tryd.prog) Tryd.underlying22 HI.out.1 HI.out.2.1 HI.out.2.2.1 HI.out.2.2.2 (w := wr.alloc (.cells #[.int .i64 o, .int .i64 m, .slice none 0 0] 24)) (by have := H.out.2.2.1.size; simp; omega) (H.out.2.2.2.alloc _) hl o m 22 wr.heap.size (heap_alloc_new wr _)
      have H2 := Lib.hid (And.intro hrow2 htk)
      clear hrow2 htk
      go_wp2_with (at_builtin; refine Lib.wpList_append_run _ rfl _ _ _ _ rfl _ _ rfl rfl _ _ hrun ?_)
      go_wp2
      go_ret
      have hq : addQ l (o, m) = l ++ [(o, m)] := if_neg (fun hm => by
        obtain ⟨j, hj⟩ := List.mem_iff_getElem?.1 hm
        exact H.out.1 j _ (List.getElem?_eq_some_iff.1 hj).1 hj rfl)
      rw [hq, List.length_append]
      exact ⟨A2, c2, rfl, H2.out.1, (Took.of_below (H.out.2.2.1.alloc H.out.2.2.1.size _) _ _).trans H2.out.2⟩
/-- Rows of the length that is reached stand, too. -/
theorem Took.row2 {B : Nat} {w w' : World} {v v' u : Value} {n : Nat} {l : List AtQ} (h : Took B w v n w' v' l.length) (hr : RowA w B u l) (h' : RowA w' B v' l) : RowA w' B u l := by
  refine ⟨hr.1, ?_⟩
  rcases hr.2 with h1 | ⟨b, cap, cur, rfl, h2, h3, h4, h5, h6, h7⟩
  · exact .inl h1
  · rcases h.block b (heap_lt h3) with h8 | ⟨h8, _, h9⟩
    · exact .inr ⟨b, cap, cur, rfl, h2, by rw [h8]; exact h3, h4, h5, h6, h7⟩
    · obtain ⟨cur', c1, c2, c3⟩ := h9 cur _ _ h3
      rcases h.out with ⟨o1, _⟩ | ⟨_, _, o3⟩
      · rcases h'.2 with ⟨e1, e2⟩ | ⟨b', cap', cur2, e1, _, e3, _, _, _, e7⟩
        · rw [e1, h8] at o1; cases o1
        · rw [e1, h8] at o1
          simp [Value.ownBlock] at o1
          subst o1
          rw [c1] at e3
          injection e3 with e3
          injection e3 with e3
          subst e3
          exact .inr ⟨b', cap, cur', rfl, h2, c1, h4, h5, by rw [c2]; exact h6, e7⟩
      · have := o3 b cur _ _ h8 h3
        have : l.length * 3 ≤ cap * 3 := Nat.mul_le_mul_right 3 h4
        omega
end Go.Proofs.YtahemenhcoedgaaDoor.En

/- The atoms of a condition: the walk of atoms. -/
namespace Go.Proofs.YtahemenhcoedgaaDoor.En
open Go Go.RowKit
set_option linter.unusedVariables false
def hasQ (n b : Int) : Bool := decide (bitsI BinOp.and IntKind.i64 n b = b)
def lvQ (n : Int) : List Int → List AtQ → List AtQ
  | [], l => l
  | b :: bs, l => lvQ n bs (bif hasQ n b then addQ l (5, b) else l)
def ownQ (o n : Int) (l : List AtQ) : List AtQ := if o = 5 then lvQ n [1, 2, 4, 8, 16, 32] l else if o = 2 ∨ o = 3 ∨ o = 4 then addQ l (o, n) else l
def unA (x : V) : Option (Int × Int × List V) := match x with | .agg [.int .i64 o, .int .i64 m, .sl e k] => if e = 24 then some (o, m, k) else none | _ => none
theorem unA_some {x : V} {o m : Int} {k : List V} (h : unA x = some (o, m, k)) : x = .agg [.int .i64 o, .int .i64 m, .sl 24 k] := by
  unfold unA at h
  split at h
  · split at h
    · rename_i he; subst he
      injection h with h; injection h with h1 h2; injection h2 with h2 h3
      subst h1; subst h2; subst h3; rfl
    · cases h
  · cases h
def atLQ (f : Int → Int → List V → List AtQ → Option (List AtQ)) : List V → List AtQ → Option (List AtQ)
  | [], l => some l
  | x :: r, l => (unA x).bind fun p => (f p.1 p.2.1 p.2.2 l).bind (atLQ f r)
def atQ : Nat → Int → Int → List V → List AtQ → Option (List AtQ)
  | 0, _, _, _, _ => none
  | M + 1, o, m, k, l => (atLQ (atQ M) k l).bind fun l' => if l'.length ≤ 90000 then some (ownQ o m l') else none
theorem atLQ_cons {f : Int → Int → List V → List AtQ → Option (List AtQ)} {x : V} {r : List V} {l l' : List AtQ} (h : atLQ f (x :: r) l = some l') :
    ∃ o m k l1, x = .agg [.int .i64 o, .int .i64 m, .sl 24 k] ∧ f o m k l = some l1 ∧ atLQ f r l1 = some l' := by
  unfold atLQ at h
  cases hu : unA x with
  | none => rw [hu] at h; cases h
  | some p =>
    obtain ⟨o, m, k⟩ := p
    rw [hu] at h
    simp only [Option.bind_some] at h
    cases hf : f o m k l with
    | none => rw [hf] at h; cases h
    | some l1 => rw [hf] at h; exact ⟨o, m, k, l1, unA_some hu, hf, h⟩
theorem addQ_len (l : List AtQ) (a : AtQ) : (addQ l a).length ≤ l.length + 1 := by unfold addQ; split <;> simp
set_option maxHeartbeats 400000 in
theorem has_walk (a b : Int) (w : World) : Calls Tryd.prog 59 #[.int .i64 a, .int .i64 b] w fun e w' => e = .returned (.bool (hasQ a b)) ∧ w' = w := by
  go_enter Tryd.func59, Tryd.ntmps59
  go_wp2
  go_ret
  exact ⟨rfl, rfl⟩
/-- An element of a list of conditions, in memory. -/
theorem kid_rep {g : G} {w : World} (hg : g.sz 24 = 3) {k : List V} {K : Option Addr} {n c : Nat} (h : RepV g w (.sl 24 k) (.slice K n c)) {i : Nat} {o m : Int} {k' : List V} (hi : k[i]? = some (.agg [.int .i64 o, .int .i64 m, .sl 24 k'])) :
    ∃ b off K' n' c', K = some ⟨b, off, none⟩ ∧ w.cell? ⟨b, off + i * 3, none⟩ = some (.int .i64 o) ∧ w.cell? ⟨b, off + i * 3 + 1, none⟩ = some (.int .i64 m) ∧ w.cell? ⟨b, off + i * 3 + 2, none⟩ = some (.slice K' n' c') ∧
      RepV g w (.agg [.int .i64 o, .int .i64 m, .sl 24 k']) (.agg #[.int .i64 o, .int .i64 m, .slice K' n' c']) := by
  cases h with
  | sl e xs A n c us hn hc hm hs hcell hrep =>
  have hs3 : ∀ x ∈ k, x.cells.length = 3 := fun x hx => by
    have := (okEl_spec (hs x hx)).1; rw [hg] at this; exact this
  have f0 := flat_elem hs3 (k := 0) hi (y := .int .i64 o) rfl
  have f1 := flat_elem hs3 (k := 1) hi (y := .int .i64 m) rfl
  have f2 := flat_elem hs3 (k := 2) hi (y := .sl 24 k') rfl
  obtain ⟨b, off, rfl, _, c0⟩ := hcell _ _ f0
  obtain ⟨b1, off1, e1, _, c1⟩ := hcell _ _ f1
  injection e1 with e1; injection e1 with e1 e2; subst e1; subst e2
  obtain ⟨b1, off1, e1, _, c2⟩ := hcell _ _ f2
  injection e1 with e1; injection e1 with e1 e2; subst e1; subst e2
  have r0 := hrep _ _ f0
  have r1 := hrep _ _ f1
  have r2 := hrep _ _ f2
  generalize us (i * 3 + 0) = u0 at r0 c0
  generalize us (i * 3 + 1) = u1 at r1 c1
  generalize us (i * 3 + 2) = u2 at r2 c2
  have hu0 : u0 = .int .i64 o := by cases r0; rfl
  have hu1 : u1 = .int .i64 m := by cases r1; rfl
  obtain ⟨K', n', c', hu2⟩ : ∃ K' n' c', u2 = .slice K' n' c' := by cases r2; exact ⟨_, _, _, rfl⟩
  subst hu0; subst hu1; subst hu2
  refine ⟨b, off, K', n', c', rfl, c0, by rw [Nat.add_assoc]; exact c1, by rw [Nat.add_assoc]; exact c2, .agg _ _ rfl fun j y hj => ?_⟩
  rcases j with _ | _ | _ | j
  · simp at hj; subst hj; exact r0
  · simp at hj; subst hj; exact r1
  · simp at hj; subst hj; exact r2
  · simp at hj
/-- What a walk of atoms keeps. -/
structure KeepA (B : Nat) (w : World) (v : Value) (n : Nat) (x : Nat) (cs : Array Value) (wr : World) (v' : Value) (l' : List AtQ) : Prop where
  row : RowA wr B v' l'
  took : Took B w v n wr v' l'.length
  box : wr.heap[x]? = some (.cells cs 24 (0, 0))
  far : v'.ownBlock ≠ some x
theorem KeepA.next {B : Nat} {w wr w2 : World} {v v' v2 : Value} {n x : Nat} {cs : Array Value} {l' l2 : List AtQ} (h : KeepA B w v n x cs wr v' l') (hx : x < wr.heap.size) (hr : RowA w2 B v2 l2) (ht : Took B wr v' l'.length w2 v2 l2.length) : KeepA B w v n x cs w2 v2 l2 := by
  refine ⟨hr, h.took.trans ht, by rw [ht.far hx h.far]; exact h.box, fun e => ?_⟩
  rcases ht.out with ⟨h1, _⟩ | ⟨h1, _⟩
  · exact h.far (by rw [← h1]; exact e)
  · have := h1 _ e; omega
theorem KeepA.cell {B : Nat} {w wr : World} {v v' : Value} {n x : Nat} {cs : Array Value} {l' : List AtQ} (h : KeepA B w v n x cs wr v' l') (j : Nat) {u : Value} (hu : cs[j]? = some u) : wr.cell? ⟨x, j, none⟩ = some u := by
  rw [cell_of_row wr _ j _ _ _ h.box]; exact hu
theorem KeepA.start {B : Nat} {w : World} {v : Value} {l : List AtQ} (hB : B ≤ w.heap.size) (hr : RowA w B v l) (cs : Array Value) : KeepA B w v l.length w.heap.size cs (w.alloc (.cells cs 24)) v l :=
  ⟨hr.alloc _, Took.of_below ((Below.refl _ _).alloc (Nat.le_refl _) _) _ _, heap_alloc_new w _, fun e => by have := hr.lt _ e; omega⟩
def bitN (j : Nat) : Int := ([1, 2, 4, 8, 16, 32, 64] : List Int).getD j 0
theorem bitN_step (j : Nat) (h : j < 6) : bitN j ≤ 51 ∧ 1 ≤ bitN j ∧ 2 * bitN j = bitN (j + 1) ∧ ([1, 2, 4, 8, 16, 32] : List Int).drop j = bitN j :: ([1, 2, 4, 8, 16, 32] : List Int).drop (j + 1) := by
  rcases (by omega : j = 0 ∨ j = 1 ∨ j = 2 ∨ j = 3 ∨ j = 4 ∨ j = 5) with rfl | rfl | rfl | rfl | rfl | rfl <;> decide
set_option maxHeartbeats 2000000 in
set_option maxRecDepth 100000 in
theorem atoms_walk {g : G} (hgs : g.sz 24 = 3) {w0 : World} {B : Nat} (hB : w0.heap.size = B) : ∀ (M : Nat) (o m : Int) (k : List V) (l r : List AtQ), atQ M o m k l = some r → ∀ (cv : Value), RepV g w0 (.agg [.int .i64 o, .int .i64 m, .sl 24 k]) cv → ∀ (w : World), Below B w0 w → ∀ (A : Option Addr) (cap : Nat), RowA w B (.slice A l.length cap) l →
    Calls Tryd.prog 46 #[cv, .slice A l.length cap] w fun e w' => ∃ A' cap', e = .returned (.slice A' r.length cap') ∧ RowA w' B (.slice A' r.length cap') r ∧ Took B w (.slice A l.length cap) l.length w' (.slice A' r.length cap') r.length
  | 0, _, _, _, _, _, h, _, _, _, _, _, _, _ => by cases h
  | M + 1, o, m, k, l, r, h, cv, hcv, w, hbw, A, cap, hr => by
    have IH := Lib.hid (atoms_walk hgs hB M)
    obtain ⟨l2, hl2, hr2⟩ : ∃ l2, atLQ (atQ M) k l = some l2 ∧ (if l2.length ≤ 90000 then some (ownQ o m l2) else none) = some r := by
      unfold atQ at h
      cases hq : atLQ (atQ M) k l with
      | none => rw [hq] at h; cases h
      | some l2 => rw [hq] at h; exact ⟨l2, rfl, h⟩
    obtain ⟨hl90, rfl⟩ : l2.length ≤ 90000 ∧ r = ownQ o m l2 := by
      split at hr2
      · rename_i hx; injection hr2 with hr2; exact ⟨hx, hr2.symm⟩
      · cases hr2
    clear h hr2
    obtain ⟨K, kn, kc, rfl, hK⟩ : ∃ K kn kc, cv = .agg #[.int .i64 o, .int .i64 m, .slice K kn kc] ∧ RepV g w0 (.sl 24 k) (.slice K kn kc) := by
      cases hcv with
      | agg cs us hn hr3 =>
      obtain ⟨us⟩ := us
      match us, hn with
      | [u0, u1, u2], _ =>
      have r0 := hr3 0 _ rfl
      have r1 := hr3 1 _ rfl
      have r2 := hr3 2 _ rfl
      simp at r0 r1 r2
      cases r0; cases r1
      cases r2
      exact ⟨_, _, _, rfl, .sl _ _ _ _ _ _ (by assumption) (by assumption) (by assumption) (by assumption) (by assumption) (by assumption)⟩
    have hkn : k.length = kn := by cases hK; assumption
    have hkn63 : kn ≤ 9223372036854775807 := by
      cases hK with | sl e xs A n c us hn hc hm hs hcell hrep => unfold maxLen at hm; omega
    have HK := Lib.hid (And.intro hcv (And.intro hK (And.intro hkn (And.intro hbw (And.intro hr hl2)))))
    clear hcv hK hkn hbw hr hl2
    go_enter Tryd.func46, Tryd.ntmps46
    have HB := Lib.hid hB
    go_wp2
    go_loopg [1, 5] kn (fun gh v i wr => ∃ j lj Aj capj, j ≤ kn ∧ gh = kn - j ∧ i = .int .i64 (j : Int) ∧ v = .slice Aj lj.length capj ∧ KeepA B w (.slice A l.length cap) l.length w.heap.size #[.int .i64 o, .int .i64 m, .slice K kn kc] wr (.slice Aj lj.length capj) lj ∧ atLQ (atQ M) (k.drop j) lj = some l2)
    case atStart => exact ⟨0, l, A, cap, by omega, rfl, rfl, rfl, KeepA.start (by have := HK.out.2.2.2.1.size; have := HB.out; omega) HK.out.2.2.2.2.1 _, by simpa using HK.out.2.2.2.2.2⟩
    case round =>
      obtain ⟨j, lj, Aj, capj, hj, hg, rfl, rfl, hke, hq⟩ := hrel
      have hx0 := hke.cell 0 rfl
      have hx1 := hke.cell 1 rfl
      have hx2 := hke.cell 2 rfl
      by_cases hlt : j < kn
      · have hjl : j < k.length := by have := HK.out.2.2.1; omega
        rw [List.drop_eq_getElem_cons hjl] at hq
        obtain ⟨o', m', k', l1, hx, hf, hrest⟩ := atLQ_cons hq
        have hget : k[j]? = some (.agg [.int .i64 o', .int .i64 m', .sl 24 k']) := by rw [List.getElem?_eq_getElem hjl, hx]
        obtain ⟨b, off, K', n', c', rfl, c0, c1, c2, hrep⟩ := kid_rep hgs HK.out.2.1 hget
        have hBw : B ≤ w.heap.size := by have := HK.out.2.2.2.1.size; have := HB.out; omega
        have hbr : Below B w0 wr := HK.out.2.2.2.1.trans (hke.took.below hBw)
        have hbB : b < B := by have := cell_lt c0; have := HB.out; omega
        have d0 := hbr.cell (p := ⟨b, off + j * 3, none⟩) hbB
        have d1 := hbr.cell (p := ⟨b, off + j * 3 + 1, none⟩) hbB
        have d2 := hbr.cell (p := ⟨b, off + j * 3 + 2, none⟩) hbB
        rw [c0] at d0
        rw [c1] at d1
        rw [c2] at d2
        have HJ := Lib.hid (And.intro hke (And.intro hf (And.intro hrest (And.intro hrep (And.intro hbr hjl)))))
        clear hke hq hget hx hf hrest hrep hbr hjl c0 c1 c2 hBw
        go_wp2_with fail
        refine (IH.out o' m' k' lj l1 HJ.out.2.1 _ HJ.out.2.2.2.1 wr HJ.out.2.2.2.2.1 Aj capj HJ.out.1.row).mono ?_
        rintro e w2 ⟨A2, cap2, rfl, hr2, ht2⟩
        have H2 := Lib.hid (And.intro hr2 ht2)
        clear hr2 ht2
        go_wp2
        go_roundg (kn - (j + 1))
        case measure => omega
        case rel => exact ⟨j + 1, l1, A2, cap2, by omega, rfl, by go_num, rfl, HJ.out.1.next (heap_lt HJ.out.1.box) H2.out.1 H2.out.2, HJ.out.2.2.1⟩
      · have hjk : j = kn := by omega
        subst hjk
        have hl : lj = l2 := by
          have := HK.out.2.2.1
          rw [List.drop_eq_nil_of_le (by omega)] at hq
          unfold atLQ at hq
          injection hq
        subst hl
        have HE := Lib.hid hke
        clear hke hq
        by_cases ho5 : o = 5
        · subst ho5
          go_wp2
          go_loopg [1, 6] 6 (fun gh v i wr => ∃ q lj' Aj capj, q ≤ 6 ∧ gh = 6 - q ∧ i = .int .i64 (bitN q) ∧ v = .slice Aj lj'.length capj ∧ KeepA B w (.slice A l.length cap) l.length w.heap.size #[.int .i64 5, .int .i64 m, .slice K j kc] wr (.slice Aj lj'.length capj) lj' ∧ lvQ m ([1, 2, 4, 8, 16, 32].drop q) lj' = ownQ 5 m lj ∧ lj'.length ≤ 90000 + q)
          case atStart => exact ⟨0, lj, Aj, capj, by omega, rfl, rfl, rfl, HE.out, rfl, by omega⟩
          case round =>
            obtain ⟨i, li, Ai, capi, hi, hg, rfl, rfl, hke, hq, hli⟩ := hrel
            have hx0 := hke.cell 0 rfl
            have hx1 := hke.cell 1 rfl
            have hx2 := hke.cell 2 rfl
            by_cases hlt : i < 6
            · obtain ⟨b1, b2, b3, b4⟩ := bitN_step i hlt
              rw [b4] at hq
              have HJ := Lib.hid (And.intro hke (And.intro hq (And.intro b4 b3)))
              clear hke hq b4
              generalize bitN i = b at *
              have hBr : B ≤ wr.heap.size := by have := HK.out.2.2.2.1.size; have := HB.out; have := HJ.out.1.took.size; omega
              go_wp2_with fail
              refine (has_walk m b wr).mono ?_
              rintro e w2 ⟨rfl, rfl⟩
              cases hh : hasQ m b with
              | true =>
                have hq2 := HJ.out.2.1
                unfold lvQ at hq2
                rw [hh, cond_true] at hq2
                have Hq := Lib.hid (And.intro hq2 hh)
                clear hq2 hh
                go_wp2_with fail
                refine (add_walk B w2 hBr Ai capi li HJ.out.1.row 5 b (by omega)).mono ?_
                rintro e w3 ⟨A2, cap2, rfl, hr2, ht2⟩
                have hal := addQ_len li (5, b)
                have H2 := Lib.hid (And.intro hr2 (And.intro ht2 hal))
                clear hr2 ht2 hal
                go_wp2
                go_roundg (6 - (i + 1))
                case measure => omega
                case rel => exact ⟨i + 1, addQ li (5, b), A2, cap2, by omega, rfl, by first | (rw [← HJ.out.2.2.2]; go_num) | (rw [← HJ.out.2.2.2]), rfl, HJ.out.1.next (heap_lt HJ.out.1.box) H2.out.1 H2.out.2.1, Hq.out.1, by have := H2.out.2.2; omega⟩
              | false =>
                have hq2 := HJ.out.2.1
                unfold lvQ at hq2
                rw [hh, cond_false] at hq2
                have Hq := Lib.hid (And.intro hq2 hh)
                clear hq2 hh
                go_wp2
                go_roundg (6 - (i + 1))
                case measure => omega
                case rel => exact ⟨i + 1, li, Ai, capi, by omega, rfl, by first | (rw [← HJ.out.2.2.2]; go_num) | (rw [← HJ.out.2.2.2]), rfl, HJ.out.1, Hq.out.1, by omega⟩
            · have hi6 : i = 6 := by omega
              subst hi6
              have h64 : bitN 6 = 64 := rfl
              rw [h64]
              rw [List.drop_eq_nil_of_le (by simp)] at hq
              unfold lvQ at hq
              have HJ := Lib.hid hke
              have HQ := Lib.hid hq
              clear hke hq
              go_wp2
              go_ret
              rw [← HQ.out]
              exact ⟨Ai, capi, rfl, HJ.out.row, HJ.out.took⟩
        · have hx0 := HE.out.cell 0 rfl
          have hx1 := HE.out.cell 1 rfl
          have hx2 := HE.out.cell 2 rfl
          have hBr : B ≤ wr.heap.size := by have := HK.out.2.2.2.1.size; have := HB.out; have := HE.out.took.size; omega
          have e5 : (o == 5) = false := by simpa using ho5
          by_cases ho : o = 2 ∨ o = 3 ∨ o = 4
          · have hq : ownQ o m lj = addQ lj (o, m) := by unfold ownQ; rw [if_neg ho5, if_pos ho]
            have HQ := Lib.hid hq
            clear hq
            rcases ho with rfl | rfl | rfl
            · go_wp2_with fail
              refine (add_walk B wr hBr Aj capj lj HE.out.row _ m (by omega)).mono ?_
              rintro e w3 ⟨A2, cap2, rfl, hr2, ht2⟩
              have H2 := Lib.hid (And.intro hr2 ht2)
              clear hr2 ht2
              go_wp2
              go_ret
              rw [HQ.out]
              exact ⟨A2, cap2, rfl, H2.out.1, HE.out.took.trans H2.out.2⟩
            · go_wp2_with fail
              refine (add_walk B wr hBr Aj capj lj HE.out.row _ m (by omega)).mono ?_
              rintro e w3 ⟨A2, cap2, rfl, hr2, ht2⟩
              have H2 := Lib.hid (And.intro hr2 ht2)
              clear hr2 ht2
              go_wp2
              go_ret
              rw [HQ.out]
              exact ⟨A2, cap2, rfl, H2.out.1, HE.out.took.trans H2.out.2⟩
            · go_wp2_with fail
              refine (add_walk B wr hBr Aj capj lj HE.out.row _ m (by omega)).mono ?_
              rintro e w3 ⟨A2, cap2, rfl, hr2, ht2⟩
              have H2 := Lib.hid (And.intro hr2 ht2)
              clear hr2 ht2
              go_wp2
              go_ret
              rw [HQ.out]
              exact ⟨A2, cap2, rfl, H2.out.1, HE.out.took.trans H2.out.2⟩
          · have hq : ownQ o m lj = lj := by unfold ownQ; rw [if_neg ho5, if_neg ho]
            have HQ := Lib.hid hq
            clear hq
            have e2 : (o == 2) = false := by simp; omega
            have e3 : (o == 3) = false := by simp; omega
            have e4 : (o == 4) = false := by simp; omega
            have n2 : ¬ o = 2 := by omega
            have n3 : ¬ o = 3 := by omega
            have n4 : ¬ o = 4 := by omega
            go_wp2
            go_ret
            rw [HQ.out]
            exact ⟨Aj, capj, rfl, HE.out.row, HE.out.took⟩
end Go.Proofs.YtahemenhcoedgaaDoor.En

/- ref14.Atoms, ref14.Implies: the walks; as entries of the engine (printed by wip/gen/atoms.py out of atoms.txt). -/
namespace Go.Proofs.YtahemenhcoedgaaDoor.En
open Go Go.RowKit
set_option linter.unusedVariables false
/-- What the operations of a region may do: nothing below B; the rows of l1, of l2 stand. -/
structure TQ (B : Nat) (l1 l2 : List AtQ) (w w' : World) : Prop where
  below : Below B w w'
  r1 : ∀ v, RowA w B v l1 → RowA w' B v l1
  r2 : ∀ v, RowA w B v l2 → RowA w' B v l2
theorem TQ.refl (B : Nat) (l1 l2 : List AtQ) (w : World) : TQ B l1 l2 w w := ⟨Below.refl _ _, fun _ h => h, fun _ h => h⟩
theorem TQ.trans (B : Nat) (l1 l2 : List AtQ) (x y z : World) (h : TQ B l1 l2 x y) (k : TQ B l1 l2 y z) : TQ B l1 l2 x z :=
  ⟨h.below.trans k.below, fun v q => k.r1 v (h.r1 v q), fun v q => k.r2 v (h.r2 v q)⟩
theorem TQ.of_tb {B : Nat} {l1 l2 : List AtQ} {w w' : World} (h : Below w.heap.size w w') (hB : B ≤ w.heap.size) : TQ B l1 l2 w w' :=
  ⟨h.mono hB, fun v q => q.below h q.lt, fun v q => q.below h q.lt⟩
theorem TQ.took_nil {B : Nat} {l1 l2 : List AtQ} {w w' : World} {v' : Value} {n n' : Nat} (h : Took B w (.slice none 0 0) n w' v' n') (hB : B ≤ w.heap.size) : TQ B l1 l2 w w' :=
  TQ.of_tb ⟨h.os, h.tape, h.output, h.size, fun b hb => h.far hb (by intro e; cases e)⟩ hB
theorem TQ.took2 {B : Nat} {l1 l2 : List AtQ} {w w' : World} {v v' : Value} (h : Took B w v l1.length w' v' l2.length) (h' : RowA w' B v' l2) (hB : B ≤ w.heap.size) : TQ B l1 l2 w w' :=
  ⟨h.below hB, fun u q => h.row q fun _ => Nat.le_refl _, fun u q => h.row2 q h'⟩
theorem box3 {B : Nat} {l1 l2 : List AtQ} {w w' : World} (h : TQ B l1 l2 w w') {x : Nat} {a b c : Value} (hx : w.heap[x]? = some (.cells #[a, b, c] 24 (0, 0))) (hB : x < B) :
    w'.cell? ⟨x, 0, none⟩ = some a ∧ w'.cell? ⟨x, 1, none⟩ = some b ∧ w'.cell? ⟨x, 2, none⟩ = some c := by
  have h1 : w'.heap[x]? = some (.cells #[a, b, c] 24 (0, 0)) := by rw [h.below.block x hB]; exact hx
  refine ⟨?_, ?_, ?_⟩ <;> rw [cell_of_row w' x _ _ _ _ h1] <;> rfl
theorem later_below {g : G} {w w' : World} (h : Below w.heap.size w w') : Later g w g w' :=
  ⟨rfl, fun b o v h1 h2 => ⟨h1, by rw [cell_of_heap (h.block b (cell_lt h2))]; exact h2⟩⟩
set_option maxHeartbeats 2000000 in
set_option maxRecDepth 100000 in
theorem Atoms_any {g : G} (hgs : g.sz 24 = 3) {w : World} {o m : Int} {k : List V} {Sa : Option Addr} {na ca : Nat} {o' m' : Int} {k' : List V} {Sb : Option Addr} {nb cb : Nat} {M : Nat} {l1 l2 : List AtQ}
    (ha : RepV g w (.agg [.int .i64 o, .int .i64 m, .sl 24 k]) (.agg #[.int .i64 o, .int .i64 m, .slice Sa na ca])) (hb : RepV g w (.agg [.int .i64 o', .int .i64 m', .sl 24 k']) (.agg #[.int .i64 o', .int .i64 m', .slice Sb nb cb]))
    (h1 : atQ M o m k [] = some l1) (h2 : atQ M o' m' k' l1 = some l2) (h63 : l2.length ≤ 100000) :
    Calls Tryd.prog 21 #[.agg #[.int .i64 o, .int .i64 m, .slice Sa na ca], .agg #[.int .i64 o', .int .i64 m', .slice Sb nb cb]] w fun e w' => e = .returned (.int .i64 (l2.length : Int)) ∧ Below w.heap.size w w' := by
  obtain ⟨B, hB⟩ : ∃ B, (((w.alloc (.cells #[.int .i64 o, .int .i64 m, .slice Sa na ca] 24)).alloc (.cells #[.int .i64 o', .int .i64 m', .slice Sb nb cb] 24)).drew).heap.size = B := ⟨_, rfl⟩
  have hW : Below w.heap.size w (((w.alloc (.cells #[.int .i64 o, .int .i64 m, .slice Sa na ca] 24)).alloc (.cells #[.int .i64 o', .int .i64 m', .slice Sb nb cb] 24)).drew) := (((Below.refl _ _).alloc (Nat.le_refl _) _).alloc (by simp) _).drew
  have hB2 : w.heap.size + 1 < B := by rw [← hB]; simp [World.drew]
  have hxa : (((w.alloc (.cells #[.int .i64 o, .int .i64 m, .slice Sa na ca] 24)).alloc (.cells #[.int .i64 o', .int .i64 m', .slice Sb nb cb] 24)).drew).heap[w.heap.size]? = some (.cells #[.int .i64 o, .int .i64 m, .slice Sa na ca] 24 (0, 0)) := by
    show ((w.alloc (.cells #[.int .i64 o, .int .i64 m, .slice Sa na ca] 24)).alloc (.cells #[.int .i64 o', .int .i64 m', .slice Sb nb cb] 24)).heap[w.heap.size]? = _
    rw [heap_alloc_old _ _ (by simp)]; exact heap_alloc_new w _
  have hxb : (((w.alloc (.cells #[.int .i64 o, .int .i64 m, .slice Sa na ca] 24)).alloc (.cells #[.int .i64 o', .int .i64 m', .slice Sb nb cb] 24)).drew).heap[w.heap.size + 1]? = some (.cells #[.int .i64 o', .int .i64 m', .slice Sb nb cb] 24 (0, 0)) := by
    have := heap_alloc_new (w.alloc (.cells #[.int .i64 o, .int .i64 m, .slice Sa na ca] 24)) (.cells #[.int .i64 o', .int .i64 m', .slice Sb nb cb] 24)
    have e : (w.alloc (.cells #[.int .i64 o, .int .i64 m, .slice Sa na ca] 24)).heap.size = w.heap.size + 1 := by simp
    rw [e] at this
    exact this
  have HX := Lib.hid (And.intro hxa (And.intro hxb (And.intro ha hb)))
  have HW := Lib.hid hW
  have HQ := Lib.hid (And.intro h1 h2)
  clear hxa hxb ha hb hW h1 h2
  go_enter Tryd.func21, Tryd.ntmps21
  go_wp2
  refine wp_region_list' (T := TQ B l1 l2) [St.is (.agg #[.int .i64 o', .int .i64 m', .slice Sb nb cb]), St.is (.agg #[.int .i64 o, .int .i64 m, .slice Sa na ca]), St.pred (fun v' w' => ∃ A cap, v' = .slice A l1.length cap ∧ RowA w' B v' l1) (fun _ _ _ h q => by obtain ⟨A, cap, e, q⟩ := q; exact ⟨A, cap, e, h.r1 _ q⟩), St.pred (fun v' w' => ∃ A cap, v' = .slice A l2.length cap ∧ RowA w' B v' l2) (fun _ _ _ h q => by obtain ⟨A, cap, e, q⟩ := q; exact ⟨A, cap, e, h.r2 _ q⟩), St.is (.int .i64 (l2.length : Int)), St.is (.int .i64 (l2.length : Int))] (by kernel_rfl) (by kernel_rfl) (TQ.refl B l1 l2) (TQ.trans B l1 l2) ⟨?s0, ?s1, ?s2, ?s3, ?s4, ?s5, trivial⟩ ?hfin
  case s0 =>
    intro a w' K hT hf hw hK
    refine step_free ?_ ?_
    · rfl
    have h3 : a.tmps[3]?.getD undef = .pointer (some ⟨w.heap.size + 1, 0, none⟩) := hf 3 (by kernel_rfl)
    clear hf hw
    obtain ⟨k0, k1, k2⟩ := box3 hT HX.out.2.1 (by omega)
    go_simp
    exact hK _ _ (TQ.refl B l1 l2 _) rfl
  case s1 =>
    intro a w' K hT hf hw hK
    refine step_free ?_ ?_
    · rfl
    have h2 : a.tmps[2]?.getD undef = .pointer (some ⟨w.heap.size, 0, none⟩) := hf 2 (by kernel_rfl)
    clear hf hw
    obtain ⟨k0, k1, k2⟩ := box3 hT HX.out.1 (by omega)
    go_simp
    exact hK _ _ (TQ.refl B l1 l2 _) rfl
  case s2 =>
    intro a w' K hT hf hw hK
    refine step_free ?_ ?_
    · rfl
    have h6 : a.tmps[6]?.getD undef = .agg #[.int .i64 o, .int .i64 m, .slice Sa na ca] := hw.1
    clear hf hw
    go_simp
    refine (atoms_walk hgs hB M o m k [] l1 HQ.out.1 _ (HX.out.2.2.1.later (later_below HW.out)) _ hT.below none 0 ⟨rfl, .inl ⟨rfl, rfl⟩⟩).mono ?_
    rintro e w2 ⟨A2, c2, rfl, hr2, ht2⟩
    exact hK _ _ (TQ.took_nil ht2 (by rw [← hB]; exact hT.below.size)) ⟨_, _, rfl, hr2⟩
  case s3 =>
    intro a w' K hT hf hw hK
    refine step_free ?_ ?_
    · rfl
    have h5 : a.tmps[5]?.getD undef = .agg #[.int .i64 o', .int .i64 m', .slice Sb nb cb] := hw.1
    have h7 := hw.2.1
    clear hf hw
    obtain ⟨A1, c1, e1, hr1⟩ := h7
    have h7 : a.tmps[7]?.getD undef = .slice A1 l1.length c1 := e1
    clear e1
    have hr1 : RowA w' B (.slice A1 l1.length c1) l1 := by rw [← h7]; exact hr1
    go_simp
    refine (atoms_walk hgs hB M o' m' k' l1 l2 HQ.out.2 _ (HX.out.2.2.2.later (later_below HW.out)) _ hT.below A1 c1 hr1).mono ?_
    rintro e w2 ⟨A2, c2, rfl, hr2, ht2⟩
    exact hK _ _ (TQ.took2 ht2 hr2 (by rw [← hB]; exact hT.below.size)) ⟨_, _, rfl, hr2⟩
  case s4 =>
    intro a w' K hT hf hw hK
    refine step_free ?_ ?_
    · rfl
    have h8 := hw.1
    clear hf hw
    obtain ⟨A1, c1, e1, hr1⟩ := h8
    have h8 : a.tmps[8]?.getD undef = .slice A1 l2.length c1 := e1
    clear e1 hr1
    go_simp
    exact hK _ _ (TQ.refl B l1 l2 _) rfl
  case s5 =>
    intro a w' K hT hf hw hK
    refine step_free ?_ ?_
    · rfl
    have h9 : a.tmps[9]?.getD undef = .int .i64 (l2.length : Int) := hw.1
    clear hf hw
    go_simp
    exact hK _ _ (TQ.refl B l1 l2 _) rfl
  case hfin =>
    rintro vs w' hT ⟨f0, f1, f2, f3, f4, f5, -⟩
    have e0 : vs 0 = .agg #[.int .i64 o', .int .i64 m', .slice Sb nb cb] := f0
    have e1 : vs 1 = .agg #[.int .i64 o, .int .i64 m, .slice Sa na ca] := f1
    have e4 : vs 4 = .int .i64 (l2.length : Int) := f4
    have e5 : vs 5 = .int .i64 (l2.length : Int) := f5
    simp only [putsAt, Act.put, e0, e1, e4, e5]
    simp only [List.setIfInBounds_toArray, List.set_cons_succ, List.set_cons_zero]
    clear e0 e1 e4 e5 f0 f1 f4 f5
    have hb := Lib.hid hT.below
    go_wp2
    go_ret
    exact ⟨rfl, HW.out.trans (hb.out.mono (by omega))⟩
/-- What check and implied give, as the walk of Implies wants it. -/
theorem aggD_rep {E : Env} {g : G} {w : World} {dead : List Pos} {cs : List V} {us : Array Value} (h : RepV g w (.agg cs) (.agg us)) : RepD E g w dead (.agg (cs.map fun x => .v x .no)) (.agg us) := by
  cases h with
  | agg cs us hn hr =>
    refine .agg _ us (by simpa using hn) fun k y hy => ?_
    rw [List.getElem?_map, Option.map_eq_some_iff] at hy
    obtain ⟨z, hz, rfl⟩ := hy
    exact .v _ _ _ (hr k z hz) trivial
theorem below_of_pure {g : G} {w : World} {g' : G} {w' : World} (h : PureTr g w g' w') : Below w.heap.size w w' := ⟨h.grows.os, h.grows.tape, h.grows.output, h.grows.size, h.grows.old⟩
theorem check_walk {g : G} {w : World} (hsz : g.sz = sizes T) (N : Nat) {o m : Int} {k : List V} {us : Array Value} {r : Int} (h : RepV g w (.agg [.int .i64 o, .int .i64 m, .sl 24 k]) (.agg us)) (hs : s_qCheck N o m k = some r) :
    Calls Tryd.prog 18 #[.agg us] w fun e w' => e = .returned (.int .i64 r) ∧ Below w.heap.size w w' := by
  have E : Env := ⟨0, fun _ _ => False⟩
  refine (p_qCheck N o m k r hs E g w [.agg us] hsz ⟨rfl, fun i y hi => ?_⟩).mono ?_
  · rcases i with _ | i
    · simp at hi; subst hi; exact aggD_rep h
    · simp at hi
  · rintro e w' ⟨us', g', rfl, hr, ht⟩
    obtain ⟨hl, hr⟩ := hr E
    match us', hl with
    | [u], _ =>
    have hu := hr 0 _ rfl
    simp only [List.getD_cons_zero] at hu
    cases hu with | v _ _ _ hv _ => cases hv; exact ⟨rfl, below_of_pure ht⟩
def encA (l : List AtQ) : List V := l.map fun a => .agg [.int .i64 a.1, .int .i64 a.2, .sl 24 []]
theorem encA_flat : ∀ (l : List AtQ) (j : Nat) (y : V), ((encA l).flatMap V.cells)[j]? = some y → ∃ u, (flA l)[j]? = some u ∧ ((y = .sl 24 [] ∧ u = .slice none 0 0) ∨ ∃ a ∈ l, (y = .int .i64 a.1 ∧ u = .int .i64 a.1) ∨ (y = .int .i64 a.2 ∧ u = .int .i64 a.2))
  | [], j, y, h => by simp [encA] at h
  | a :: l, 0, y, h => by simp [encA, V.cells] at h; subst h; exact ⟨_, rfl, .inr ⟨a, by simp, .inl ⟨rfl, rfl⟩⟩⟩
  | a :: l, 1, y, h => by simp [encA, V.cells] at h; subst h; exact ⟨_, rfl, .inr ⟨a, by simp, .inr ⟨rfl, rfl⟩⟩⟩
  | a :: l, 2, y, h => by simp [encA, V.cells] at h; subst h; exact ⟨_, rfl, .inl ⟨rfl, rfl⟩⟩
  | a :: l, j + 3, y, h => by
    obtain ⟨u, h1, h2⟩ := encA_flat l j y (by simpa [encA, V.cells] using h)
    refine ⟨u, by simpa [flA] using h1, ?_⟩
    rcases h2 with h2 | ⟨b, hb, h2⟩
    · exact .inl h2
    · exact .inr ⟨b, by simp [hb], h2⟩
def rgA (l : List AtQ) : Prop := ∀ a ∈ l, (IntKind.i64.min ≤ a.1 ∧ a.1 ≤ IntKind.i64.max) ∧ IntKind.i64.min ≤ a.2 ∧ a.2 ≤ IntKind.i64.max
/-- A row of atoms, as the engine sees it. -/
theorem rowA_rep {g : G} {w : World} {B : Nat} {A : Option Addr} {cap : Nat} {l : List AtQ} (hgs : g.sz 24 = 3) (hr : RowA w B (.slice A l.length cap) l) (hl : rgA l) (hg : ∀ b, B ≤ b → g.Γ b = .imm) : RepV g w (.sl 24 (encA l)) (.slice A l.length cap) := by
  rcases hr.cells with ⟨h1, h2⟩ | ⟨b, cp, h1, h2, h3, h4, h5, h6⟩
  · subst h2
    injection h1 with e1 e2 e3
    subst e1; subst e3
    exact .sl _ _ _ _ _ (fun _ => undef) rfl (Nat.le_refl _) (Nat.zero_le _) (fun x hx => by simp [encA] at hx) (fun k y hy => by simp [encA] at hy) (fun k y hy => by simp [encA] at hy)
  · injection h1 with e1 e2 e3
    subst e1; subst e3
    refine .sl _ _ _ _ _ (fun j => ((flA l)[j]?).getD undef) (by simp [encA]) h4 h5 (fun x hx => ?_) (fun j y hy => ?_) (fun j y hy => ?_)
    · rw [hgs]
      obtain ⟨a, _, rfl⟩ := List.mem_map.1 hx
      rfl
    · obtain ⟨u, k1, _⟩ := encA_flat l j y hy
      refine ⟨b, 0, rfl, ?_, ?_⟩
      · unfold Stable; rw [hg b h2]; trivial
      · rw [Nat.zero_add, k1]; exact h6 j u k1
    · obtain ⟨u, k1, k2⟩ := encA_flat l j y hy
      simp only [k1, Option.getD_some]
      rcases k2 with ⟨rfl, rfl⟩ | ⟨a, ha, ⟨rfl, rfl⟩ | ⟨rfl, rfl⟩⟩
      · exact .sl _ _ _ _ _ (fun _ => undef) rfl (Nat.le_refl _) (Nat.zero_le _) (fun x hx => by simp at hx) (fun k y hy => by simp at hy) (fun k y hy => by simp at hy)
      · exact .int _ _ (hl a ha).1
      · exact .int _ _ (hl a ha).2
theorem implied_walk {g : G} {w w1 w' : World} {B : Nat} (hsz : g.sz = sizes T) {N M : Nat} {o m : Int} {k : List V} {o' m' : Int} {k' : List V} {l : List AtQ} {r : Bool} (hs : s_qimplied N M o m k o' m' k' (encA l) 0 0 0 0 = some r ∧ rgA l) {A : Option Addr} {cap : Nat}
    {us us' : Array Value} (ha : RepV g w (.agg [.int .i64 o, .int .i64 m, .sl 24 k]) (.agg us)) (hb : RepV g w (.agg [.int .i64 o', .int .i64 m', .sl 24 k']) (.agg us')) (hw : Below w.heap.size w w1) (hw' : Below B w1 w') (hBw : w.heap.size ≤ B) (hr : RowA w' B (.slice A l.length cap) l) :
    Calls Tryd.prog 50 #[.agg us, .agg us', .slice A l.length cap, .agg #[.int .i64 0, .int .i64 0, .int .i64 0, .int .i64 0]] w' fun e w2 => e = .returned (.bool r) ∧ Below w'.heap.size w' w2 := by
  have E : Env := ⟨0, fun _ _ => False⟩
  have hgs : sizes T 24 = 3 := by kernel_rfl
  have hww : Below w.heap.size w w' := hw.trans (hw'.mono hBw)
  have hl : Later g w { g with Γ := fun b => if b < B then g.Γ b else .imm } w' := by
    refine ⟨rfl, fun b x v h1 h2 => ⟨?_, by rw [cell_of_heap (hww.block b (cell_lt h2))]; exact h2⟩⟩
    have hlt := cell_lt h2
    unfold Stable at h1 ⊢
    simp only
    rw [if_pos (by omega)]; exact h1
  have hrl := rowA_rep (g := { g with Γ := fun b => if b < B then g.Γ b else .imm }) (by show g.sz 24 = 3; rw [hsz]; exact hgs) hr hs.2 (fun b hb => if_neg (by omega))
  refine (p_qimplied N M o m k o' m' k' (encA l) 0 0 0 0 r hs.1 E { g with Γ := fun b => if b < B then g.Γ b else .imm } w' [.agg us, .agg us', .slice A l.length cap, .agg #[.int .i64 0, .int .i64 0, .int .i64 0, .int .i64 0]] hsz ⟨rfl, fun i y hi => ?_⟩).mono ?_
  · rcases i with _ | _ | _ | _ | i
    · simp at hi; subst hi; exact aggD_rep (ha.later hl)
    · simp at hi; subst hi; exact aggD_rep (hb.later hl)
    · simp at hi; subst hi; exact .v _ _ _ hrl trivial
    · simp at hi; subst hi
      refine aggD_rep (cs := [.int .i64 0, .int .i64 0, .int .i64 0, .int .i64 0]) (.agg _ _ rfl fun j y hj => ?_)
      rcases j with _ | _ | _ | _ | j
      all_goals simp at hj
      all_goals (subst hj; exact .int _ _ (by decide))
    · simp at hi
  · rintro e w2 ⟨us2, g', rfl, hr2, ht⟩
    obtain ⟨hl2, hr2⟩ := hr2 E
    match us2, hl2 with
    | [u], _ =>
    have hu := hr2 0 _ rfl
    simp only [List.getD_cons_zero] at hu
    cases hu with | v _ _ _ hv _ => cases hv; exact ⟨rfl, below_of_pure ht⟩
set_option maxHeartbeats 2000000 in
set_option maxRecDepth 100000 in
theorem Implies_any {g : G} (hsz : g.sz = sizes T) {N M : Nat} {w : World} {o m : Int} {k : List V} {Sa : Option Addr} {na ca : Nat} {o' m' : Int} {k' : List V} {Sb : Option Addr} {nb cb : Nat} {e1 e2 : Int} {b : Bool}
    (ha : RepV g w (.agg [.int .i64 o, .int .i64 m, .sl 24 k]) (.agg #[.int .i64 o, .int .i64 m, .slice Sa na ca])) (hb : RepV g w (.agg [.int .i64 o', .int .i64 m', .sl 24 k']) (.agg #[.int .i64 o', .int .i64 m', .slice Sb nb cb]))
    (hc1 : s_qCheck N o m k = some e1) (hc2 : e1 = 0 → s_qCheck N o' m' k' = some e2) (hI : e1 = 0 → e2 = 0 → ∃ l1 l2, atQ M o m k [] = some l1 ∧ atQ M o' m' k' l1 = some l2 ∧ s_qimplied N M o m k o' m' k' (encA l2) 0 0 0 0 = some b ∧ rgA l2) :
    Calls Tryd.prog 23 #[.agg #[.int .i64 o, .int .i64 m, .slice Sa na ca], .agg #[.int .i64 o', .int .i64 m', .slice Sb nb cb]] w fun e w' => e = .returned (.bool (if e1 = 0 ∧ e2 = 0 then b else false)) ∧ Below w.heap.size w w' := by
  have hgs : g.sz 24 = 3 := by rw [hsz]; kernel_rfl
  have hW : Below w.heap.size w ((w.alloc (.cells #[.int .i64 o, .int .i64 m, .slice Sa na ca] 24)).alloc (.cells #[.int .i64 o', .int .i64 m', .slice Sb nb cb] 24)) := ((Below.refl _ _).alloc (Nat.le_refl _) _).alloc (by simp) _
  have hxa : ((w.alloc (.cells #[.int .i64 o, .int .i64 m, .slice Sa na ca] 24)).alloc (.cells #[.int .i64 o', .int .i64 m', .slice Sb nb cb] 24)).heap[w.heap.size]? = some (.cells #[.int .i64 o, .int .i64 m, .slice Sa na ca] 24 (0, 0)) := by
    rw [heap_alloc_old _ _ (by simp)]; exact heap_alloc_new w _
  have hxb : ((w.alloc (.cells #[.int .i64 o, .int .i64 m, .slice Sa na ca] 24)).alloc (.cells #[.int .i64 o', .int .i64 m', .slice Sb nb cb] 24)).heap[w.heap.size + 1]? = some (.cells #[.int .i64 o', .int .i64 m', .slice Sb nb cb] 24 (0, 0)) := by
    have := heap_alloc_new (w.alloc (.cells #[.int .i64 o, .int .i64 m, .slice Sa na ca] 24)) (.cells #[.int .i64 o', .int .i64 m', .slice Sb nb cb] 24)
    have e : (w.alloc (.cells #[.int .i64 o, .int .i64 m, .slice Sa na ca] 24)).heap.size = w.heap.size + 1 := by simp
    rw [e] at this
    exact this
  have hc := check_walk hsz N (ha.later (later_below hW)) hc1
  have H0 := Lib.hid (And.intro hxa (And.intro hxb (And.intro ha (And.intro hb hW))))
  have HC := Lib.hid (And.intro hc2 hI)
  clear hxa hxb ha hb hW hc1 hc2 hI
  go_enter Tryd.func23, Tryd.ntmps23
  go_wp2_with fail
  refine hc.mono ?_
  rintro e w2 ⟨rfl, hb2⟩
  have hW2 : Below w.heap.size w w2 := H0.out.2.2.2.2.trans (hb2.mono (by simp; omega))
  have hya : w2.heap[w.heap.size]? = some (.cells #[.int .i64 o, .int .i64 m, .slice Sa na ca] 24 (0, 0)) := by rw [hb2.block _ (by simp; omega)]; exact H0.out.1
  have hyb : w2.heap[w.heap.size + 1]? = some (.cells #[.int .i64 o', .int .i64 m', .slice Sb nb cb] 24 (0, 0)) := by rw [hb2.block _ (by simp)]; exact H0.out.2.1
  have k0 : w2.cell? ⟨w.heap.size + 1, 0, none⟩ = some (.int .i64 o') := by rw [cell_of_row w2 _ _ _ _ _ hyb]; rfl
  have k1 : w2.cell? ⟨w.heap.size + 1, 1, none⟩ = some (.int .i64 m') := by rw [cell_of_row w2 _ _ _ _ _ hyb]; rfl
  have k2 : w2.cell? ⟨w.heap.size + 1, 2, none⟩ = some (.slice Sb nb cb) := by rw [cell_of_row w2 _ _ _ _ _ hyb]; rfl
  by_cases hz : e1 = 0
  · subst hz
    have hc2 := check_walk hsz N (H0.out.2.2.2.1.later (later_below hW2)) (HC.out.1 rfl)
    have H2 := Lib.hid (And.intro hW2 (And.intro hya (And.intro hyb hb2)))
    clear hW2 hya hyb hb2
    go_wp2_with fail
    refine hc2.mono ?_
    rintro e w3 ⟨rfl, hb3⟩
    have hlt : w.heap.size + 1 < w2.heap.size := heap_lt H2.out.2.2.1
    have hW3 : Below w.heap.size w w3 := H2.out.1.trans (hb3.mono (by omega))
    have hza : w3.heap[w.heap.size]? = some (.cells #[.int .i64 o, .int .i64 m, .slice Sa na ca] 24 (0, 0)) := by rw [hb3.block _ (by omega)]; exact H2.out.2.1
    have hzb : w3.heap[w.heap.size + 1]? = some (.cells #[.int .i64 o', .int .i64 m', .slice Sb nb cb] 24 (0, 0)) := by rw [hb3.block _ hlt]; exact H2.out.2.2.1
    by_cases hz2 : e2 = 0
    · subst hz2
      obtain ⟨l1, l2, q1, q2, q3⟩ : ∃ l1 l2, atQ M o m k [] = some l1 ∧ atQ M o' m' k' l1 = some l2 ∧ s_qimplied N M o m k o' m' k' (encA l2) 0 0 0 0 = some b ∧ rgA l2 := by first | exact HC.out.2 rfl rfl | exact HC.out.2 trivial trivial | simpa using HC.out.2
      obtain ⟨B, hB⟩ : ∃ B, w3.drew.heap.size = B := ⟨_, rfl⟩
      have hB2 : w.heap.size + 1 < B := by rw [← hB]; exact heap_lt hzb
      have HX := Lib.hid (And.intro (show w3.drew.heap[w.heap.size]? = _ from hza) (And.intro (show w3.drew.heap[w.heap.size + 1]? = _ from hzb) (And.intro H0.out.2.2.1 H0.out.2.2.2.1)))
      have HW := Lib.hid hW3.drew
      have HQ := Lib.hid (And.intro q1 q2)
      have HS := Lib.hid q3
      clear hza hzb hW3 hb3 q1 q2 q3 hlt
      go_wp2
      refine wp_region_list' (T := TQ B l1 l2) [St.is (.agg #[.int .i64 o, .int .i64 m, .slice Sa na ca]), St.is (.agg #[.int .i64 o', .int .i64 m', .slice Sb nb cb]), St.is (.agg #[.int .i64 o', .int .i64 m', .slice Sb nb cb]), St.is (.agg #[.int .i64 o, .int .i64 m, .slice Sa na ca]), St.pred (fun v' w' => ∃ A cap, v' = .slice A l1.length cap ∧ RowA w' B v' l1) (fun _ _ _ h q => by obtain ⟨A, cap, e, q⟩ := q; exact ⟨A, cap, e, h.r1 _ q⟩), St.pred (fun v' w' => ∃ A cap, v' = .slice A l2.length cap ∧ RowA w' B v' l2) (fun _ _ _ h q => by obtain ⟨A, cap, e, q⟩ := q; exact ⟨A, cap, e, h.r2 _ q⟩), St.is (.agg #[.int .i64 0, .int .i64 0, .int .i64 0, .int .i64 0]), St.is (.bool b), St.is (.bool b)] (by kernel_rfl) (by kernel_rfl) (TQ.refl B l1 l2) (TQ.trans B l1 l2) ⟨?s0, ?s1, ?s2, ?s3, ?s4, ?s5, ?s6, ?s7, ?s8, trivial⟩ ?hfin
      case s0 =>
        intro a w' K hT hf hw hK
        refine step_free ?_ ?_
        · rfl
        have h2 : a.tmps[2]?.getD undef = .pointer (some ⟨w.heap.size, 0, none⟩) := hf 2 (by kernel_rfl)
        clear hf hw
        obtain ⟨k0, k1, k2⟩ := box3 hT HX.out.1 (by omega)
        go_simp
        exact hK _ _ (TQ.refl B l1 l2 _) rfl
      case s1 =>
        intro a w' K hT hf hw hK
        refine step_free ?_ ?_
        · rfl
        have h3 : a.tmps[3]?.getD undef = .pointer (some ⟨w.heap.size + 1, 0, none⟩) := hf 3 (by kernel_rfl)
        clear hf hw
        obtain ⟨k0, k1, k2⟩ := box3 hT HX.out.2.1 (by omega)
        go_simp
        exact hK _ _ (TQ.refl B l1 l2 _) rfl
      case s2 =>
        intro a w' K hT hf hw hK
        refine step_free ?_ ?_
        · rfl
        have h3 : a.tmps[3]?.getD undef = .pointer (some ⟨w.heap.size + 1, 0, none⟩) := hf 3 (by kernel_rfl)
        clear hf hw
        obtain ⟨k0, k1, k2⟩ := box3 hT HX.out.2.1 (by omega)
        go_simp
        exact hK _ _ (TQ.refl B l1 l2 _) rfl
      case s3 =>
        intro a w' K hT hf hw hK
        refine step_free ?_ ?_
        · rfl
        have h2 : a.tmps[2]?.getD undef = .pointer (some ⟨w.heap.size, 0, none⟩) := hf 2 (by kernel_rfl)
        clear hf hw
        obtain ⟨k0, k1, k2⟩ := box3 hT HX.out.1 (by omega)
        go_simp
        exact hK _ _ (TQ.refl B l1 l2 _) rfl
      case s4 =>
        intro a w' K hT hf hw hK
        refine step_free ?_ ?_
        · rfl
        have h16 : a.tmps[16]?.getD undef = .agg #[.int .i64 o, .int .i64 m, .slice Sa na ca] := hw.1
        clear hf hw
        go_simp
        refine (atoms_walk hgs hB M o m k [] l1 HQ.out.1 _ (HX.out.2.2.1.later (later_below HW.out)) _ hT.below none 0 ⟨rfl, .inl ⟨rfl, rfl⟩⟩).mono ?_
        rintro e w2 ⟨A2, c2, rfl, hr2, ht2⟩
        exact hK _ _ (TQ.took_nil ht2 (by rw [← hB]; exact hT.below.size)) ⟨_, _, rfl, hr2⟩
      case s5 =>
        intro a w' K hT hf hw hK
        refine step_free ?_ ?_
        · rfl
        have h15 : a.tmps[15]?.getD undef = .agg #[.int .i64 o', .int .i64 m', .slice Sb nb cb] := hw.1
        have h17 := hw.2.1
        clear hf hw
        obtain ⟨A1, c1, e1, hr1⟩ := h17
        have h17 : a.tmps[17]?.getD undef = .slice A1 l1.length c1 := e1
        clear e1
        have hr1 : RowA w' B (.slice A1 l1.length c1) l1 := by rw [← h17]; exact hr1
        go_simp
        refine (atoms_walk hgs hB M o' m' k' l1 l2 HQ.out.2 _ (HX.out.2.2.2.later (later_below HW.out)) _ hT.below A1 c1 hr1).mono ?_
        rintro e w2 ⟨A2, c2, rfl, hr2, ht2⟩
        exact hK _ _ (TQ.took2 ht2 hr2 (by rw [← hB]; exact hT.below.size)) ⟨_, _, rfl, hr2⟩
      case s6 =>
        intro a w' K hT hf hw hK
        refine step_free ?_ ?_
        · rfl
        clear hf hw
        go_simp
        exact hK _ _ (TQ.refl B l1 l2 _) rfl
      case s7 =>
        intro a w' K hT hf hw hK
        refine step_free ?_ ?_
        · rfl
        have h13 : a.tmps[13]?.getD undef = .agg #[.int .i64 o, .int .i64 m, .slice Sa na ca] := hw.1
        have h14 : a.tmps[14]?.getD undef = .agg #[.int .i64 o', .int .i64 m', .slice Sb nb cb] := hw.2.1
        have h18 := hw.2.2.1
        have h19 : a.tmps[19]?.getD undef = .agg #[.int .i64 0, .int .i64 0, .int .i64 0, .int .i64 0] := hw.2.2.2.1
        clear hf hw
        obtain ⟨A1, c1, e1, hr1⟩ := h18
        have h18 : a.tmps[18]?.getD undef = .slice A1 l2.length c1 := e1
        clear e1
        have hr1 : RowA w' B (.slice A1 l2.length c1) l2 := by rw [← h18]; exact hr1
        go_simp
        refine (implied_walk hsz HS.out HX.out.2.2.1 HX.out.2.2.2 HW.out hT.below (by omega) hr1).mono ?_
        rintro e w2 ⟨rfl, hb2⟩
        exact hK _ _ (TQ.of_tb hb2 (by rw [← hB]; exact hT.below.size)) rfl
      case s8 =>
        intro a w' K hT hf hw hK
        refine step_free ?_ ?_
        · rfl
        have h20 : a.tmps[20]?.getD undef = .bool b := hw.1
        clear hf hw
        go_simp
        exact hK _ _ (TQ.refl B l1 l2 _) rfl
      case hfin =>
        rintro vs w' hT ⟨f0, f1, f2, f3, f4, f5, f6, f7, f8, -⟩
        have e0 : vs 0 = .agg #[.int .i64 o, .int .i64 m, .slice Sa na ca] := f0
        have e1 : vs 1 = .agg #[.int .i64 o', .int .i64 m', .slice Sb nb cb] := f1
        have e2 : vs 2 = .agg #[.int .i64 o', .int .i64 m', .slice Sb nb cb] := f2
        have e3 : vs 3 = .agg #[.int .i64 o, .int .i64 m, .slice Sa na ca] := f3
        have e6 : vs 6 = .agg #[.int .i64 0, .int .i64 0, .int .i64 0, .int .i64 0] := f6
        have e7 : vs 7 = .bool b := f7
        have e8 : vs 8 = .bool b := f8
        simp only [putsAt, Act.put, e0, e1, e2, e3, e6, e7, e8]
        simp only [List.setIfInBounds_toArray, List.set_cons_succ, List.set_cons_zero]
        clear e0 e1 e2 e3 e6 e7 e8 f0 f1 f2 f3 f6 f7 f8
        have hb := Lib.hid hT.below
        go_wp2
        go_ret
        exact ⟨rfl, HW.out.trans (hb.out.mono (by omega))⟩
    · have n2 : (e2 == 0) = false := by simpa using hz2
      have HE := Lib.hid hW3
      clear hza hzb hW3 hb3 hlt
      go_wp2
      go_ret
      exact ⟨rfl, HE.out⟩
  · have n2 : (e1 == 0) = false := by simpa using hz
    have HE := Lib.hid hW2
    clear hW2 hya hyb hb2 k0 k1 k2
    go_wp2
    go_ret
    exact ⟨rfl, HE.out⟩
/-! As entries -/
theorem cond_inv {g : G} {w : World} {o m : Int} {k : List V} {u : Value} (h : RepV g w (.agg [.int .i64 o, .int .i64 m, .sl 24 k]) u) :
    ∃ K n c, u = .agg #[.int .i64 o, .int .i64 m, .slice K n c] ∧ (IntKind.i64.min ≤ o ∧ o ≤ IntKind.i64.max) ∧ (IntKind.i64.min ≤ m ∧ m ≤ IntKind.i64.max) ∧ RepV g w (.sl 24 k) (.slice K n c) := by
  cases h with
  | agg cs us hn hr3 =>
  obtain ⟨us⟩ := us
  match us, hn with
  | [u0, u1, u2], _ =>
  have r0 := hr3 0 _ rfl
  have r1 := hr3 1 _ rfl
  have r2 := hr3 2 _ rfl
  simp at r0 r1 r2
  cases r0; cases r1
  cases r2
  exact ⟨_, _, _, rfl, by assumption, by assumption, .sl _ _ _ _ _ _ (by assumption) (by assumption) (by assumption) (by assumption) (by assumption) (by assumption)⟩
theorem aggD_inv {E : Env} {g : G} {w : World} {dead : List Pos} {cs : List V} {u : Value} (h : RepD E g w dead (.agg (cs.map fun x => .v x .no)) u) : ∃ us, u = .agg us ∧ RepV g w (.agg cs) (.agg us) := by
  generalize hd : D.agg (cs.map fun x => .v x .no) = d at h
  cases h with
  | agg ds us hn hr =>
    injection hd with hd
    subst hd
    refine ⟨us, rfl, .agg _ us (by simpa using hn) fun j y hy => ?_⟩
    have := hr j (.v y .no) (by simp [hy])
    cases this with | v _ _ _ hv _ => exact hv
  | _ => cases hd
theorem rgA_addQ {l : List AtQ} (h : rgA l) {a : AtQ} (ha : (IntKind.i64.min ≤ a.1 ∧ a.1 ≤ IntKind.i64.max) ∧ IntKind.i64.min ≤ a.2 ∧ a.2 ≤ IntKind.i64.max) : rgA (addQ l a) := by
  unfold addQ
  split
  · exact h
  · intro b hb
    rcases List.mem_append.1 hb with hb | hb
    · exact h b hb
    · simp at hb; subst hb; exact ha
theorem rgA_lvQ (n : Int) : ∀ (bs : List Int) (l : List AtQ), (∀ b ∈ bs, IntKind.i64.min ≤ b ∧ b ≤ IntKind.i64.max) → rgA l → rgA (lvQ n bs l)
  | [], l, _, h => h
  | b :: bs, l, hb, h => by
    unfold lvQ
    refine rgA_lvQ n bs _ (fun x hx => hb x (by simp [hx])) ?_
    cases hasQ n b with
    | true => exact rgA_addQ h ⟨show (IntKind.i64.min ≤ (5 : Int) ∧ (5 : Int) ≤ IntKind.i64.max) by decide, hb b (by simp)⟩
    | false => exact h
theorem atLQ_range {g : G} {w : World} (hgs : g.sz 24 = 3) {f : Int → Int → List V → List AtQ → Option (List AtQ)} (hf : ∀ o m k l r v, f o m k l = some r → RepV g w (.agg [.int .i64 o, .int .i64 m, .sl 24 k]) v → rgA l → rgA r) {all : List V} {K : Option Addr} {n c : Nat} (hk : RepV g w (.sl 24 all) (.slice K n c)) :
    ∀ (k : List V) (i : Nat) (l r : List AtQ), all.drop i = k → atLQ f k l = some r → rgA l → rgA r
  | [], _, l, r, _, h, hl => by unfold atLQ at h; injection h with h; subst h; exact hl
  | x :: k, i, l, r, hd, h, hl => by
    obtain ⟨o, m, k', l1, rfl, h1, h2⟩ := atLQ_cons h
    have hget : all[i]? = some (.agg [.int .i64 o, .int .i64 m, .sl 24 k']) := by
      have := congrArg (fun z => z[0]?) hd
      simpa using this
    obtain ⟨_, _, _, _, _, _, _, _, _, hrep⟩ := kid_rep hgs hk hget
    refine atLQ_range hgs hf hk k (i + 1) l1 r ?_ h2 (hf _ _ _ _ _ _ h1 hrep hl)
    have := congrArg List.tail hd
    simpa [List.tail_drop] using this
theorem atQ_range {g : G} {w : World} (hgs : g.sz 24 = 3) : ∀ (M : Nat) (o m : Int) (k : List V) (l r : List AtQ) (v : Value), atQ M o m k l = some r → RepV g w (.agg [.int .i64 o, .int .i64 m, .sl 24 k]) v → rgA l → rgA r
  | 0, _, _, _, _, _, _, h, _, _ => by cases h
  | M + 1, o, m, k, l, r, v, h, hv, hl => by
    obtain ⟨K, n, c, rfl, ho, hm, hk⟩ := cond_inv hv
    unfold atQ at h
    cases hq : atLQ (atQ M) k l with
    | none => rw [hq] at h; cases h
    | some l2 =>
      rw [hq] at h
      have h2 := atLQ_range hgs (atQ_range hgs M) hk k 0 l l2 rfl hq hl
      simp only [Option.bind_some] at h
      split at h
      · injection h with h; subst h
        unfold ownQ
        split
        · exact rgA_lvQ m _ _ (by decide) h2
        split
        · exact rgA_addQ h2 ⟨ho, hm⟩
        · exact h2
      · cases h
theorem pure_of_below {g : G} {w w' : World} (hb : Below w.heap.size w w') {y : V} {u : Value} (hu : ∀ g' w', RepV g' w' y u) : ∃ us' g', Ending.returned u = .returned (retV us') ∧ (∀ E' : Env, RepDs E' g' w' [] [.v y .no] us') ∧ PureTr g w g' w' := by
  refine ⟨[u], { g with Γ := fun b => if b < w.heap.size then g.Γ b else .imm }, rfl, fun E' => ⟨rfl, fun k z hk => ?_⟩, ⟨⟨hb.os, hb.tape, hb.output, hb.size, hb.block⟩, fun b hlt => if_pos hlt, fun b hge => by
    show Perm.still (if b < w.heap.size then g.Γ b else .imm) = true
    rw [if_neg (by omega)]; rfl, rfl, rfl⟩⟩
  rcases k with _ | k
  · simp at hk; subst hk; exact .v _ _ _ (hu _ _) trivial
  · simp at hk
def s_qAtoms (N : Nat) (x0 x1 : Int) (x2 : List V) (x3 x4 : Int) (x5 : List V) : Option Int :=
  (atQ N x0 x1 x2 []).bind fun l1 => (atQ N x3 x4 x5 l1).bind fun l2 => if l2.length ≤ 100000 then some (l2.length : Int) else none
noncomputable def s_qImplies (N : Nat) (x0 x1 : Int) (x2 : List V) (x3 x4 : Int) (x5 : List V) : Option Bool :=
  (s_qCheck N x0 x1 x2).bind fun e1 => if e1 = 0 then (s_qCheck N x3 x4 x5).bind fun e2 => if e2 = 0 then (atQ N x0 x1 x2 []).bind fun l1 => (atQ N x3 x4 x5 l1).bind fun l2 => s_qimplied N N x0 x1 x2 x3 x4 x5 (encA l2) 0 0 0 0 else some false else some false
theorem two_conds {E : Env} {g : G} {w : World} {us : List Value} {x0 x1 : Int} {x2 : List V} {x3 x4 : Int} {x5 : List V} (h : RepDs E g w [] [.agg [.v (.int .i64 x0) .no, .v (.int .i64 x1) .no, .v (.sl 24 x2) .no], .agg [.v (.int .i64 x3) .no, .v (.int .i64 x4) .no, .v (.sl 24 x5) .no]] us) :
    ∃ K n c K' n' c', us = [.agg #[.int .i64 x0, .int .i64 x1, .slice K n c], .agg #[.int .i64 x3, .int .i64 x4, .slice K' n' c']] ∧ RepV g w (.agg [.int .i64 x0, .int .i64 x1, .sl 24 x2]) (.agg #[.int .i64 x0, .int .i64 x1, .slice K n c]) ∧
      RepV g w (.agg [.int .i64 x3, .int .i64 x4, .sl 24 x5]) (.agg #[.int .i64 x3, .int .i64 x4, .slice K' n' c']) := by
  obtain ⟨hl, hr⟩ := h
  match us, hl with
  | [u, v], _ =>
  have hu := hr 0 _ rfl
  have hv := hr 1 _ rfl
  simp only [List.getD_cons_zero, List.getD_cons_succ] at hu hv
  obtain ⟨us, rfl, h1⟩ := aggD_inv (cs := [.int .i64 x0, .int .i64 x1, .sl 24 x2]) hu
  obtain ⟨us', rfl, h2⟩ := aggD_inv (cs := [.int .i64 x3, .int .i64 x4, .sl 24 x5]) hv
  obtain ⟨K, n, c, e, _⟩ := cond_inv h1
  obtain ⟨K', n', c', e', _⟩ := cond_inv h2
  rw [e] at h1 ⊢
  rw [e'] at h2 ⊢
  exact ⟨K, n, c, K', n', c', rfl, h1, h2⟩
theorem p_qAtoms (N : Nat) (x0 x1 : Int) (x2 : List V) (x3 x4 : Int) (x5 : List V) (r0 : Int) (h : s_qAtoms N x0 x1 x2 x3 x4 x5 = some r0) :
    PureRet Tryd.prog T 21 [.agg [.v (.int .i64 x0) .no, .v (.int .i64 x1) .no, .v (.sl 24 x2) .no], .agg [.v (.int .i64 x3) .no, .v (.int .i64 x4) .no, .v (.sl 24 x5) .no]] [.v (.int .i64 r0) .no] := by
  intro E g w us hsz hus
  obtain ⟨K, n, c, K', n', c', rfl, h1, h2⟩ := two_conds hus
  unfold s_qAtoms at h
  cases q1 : atQ N x0 x1 x2 [] with
  | none => rw [q1] at h; cases h
  | some l1 =>
  rw [q1, Option.bind_some] at h
  cases q2 : atQ N x3 x4 x5 l1 with
  | none => rw [q2] at h; cases h
  | some l2 =>
  rw [q2, Option.bind_some] at h
  split at h
  case isFalse => cases h
  rename_i hle
  injection h with h; subst h
  refine (Atoms_any (by rw [hsz]; kernel_rfl) h1 h2 q1 q2 hle).mono ?_
  rintro e w' ⟨rfl, hb⟩
  exact pure_of_below hb fun g' w' => .int _ _ (by show (-9223372036854775808 : Int) ≤ _ ∧ _ ≤ (9223372036854775807 : Int); omega)
theorem p_qImplies (N : Nat) (x0 x1 : Int) (x2 : List V) (x3 x4 : Int) (x5 : List V) (r0 : Bool) (h : s_qImplies N x0 x1 x2 x3 x4 x5 = some r0) :
    PureRet Tryd.prog T 23 [.agg [.v (.int .i64 x0) .no, .v (.int .i64 x1) .no, .v (.sl 24 x2) .no], .agg [.v (.int .i64 x3) .no, .v (.int .i64 x4) .no, .v (.sl 24 x5) .no]] [.v (.bool r0) .no] := by
  intro E g w us hsz hus
  obtain ⟨K, n, c, K', n', c', rfl, h1, h2⟩ := two_conds hus
  have hgs : g.sz 24 = 3 := by rw [hsz]; kernel_rfl
  unfold s_qImplies at h
  cases q1 : s_qCheck N x0 x1 x2 with
  | none => rw [q1] at h; cases h
  | some e1 =>
  rw [q1, Option.bind_some] at h
  by_cases z1 : e1 = 0
  · rw [if_pos z1] at h
    cases q2 : s_qCheck N x3 x4 x5 with
    | none => rw [q2] at h; cases h
    | some e2 =>
    rw [q2, Option.bind_some] at h
    have key : ∃ b, (e1 = 0 → e2 = 0 → ∃ l1 l2, atQ N x0 x1 x2 [] = some l1 ∧ atQ N x3 x4 x5 l1 = some l2 ∧ s_qimplied N N x0 x1 x2 x3 x4 x5 (encA l2) 0 0 0 0 = some b ∧ rgA l2) ∧ r0 = (if e1 = 0 ∧ e2 = 0 then b else false) := by
      by_cases z2 : e2 = 0
      · rw [if_pos z2] at h
        cases q3 : atQ N x0 x1 x2 [] with
        | none => rw [q3] at h; cases h
        | some l1 =>
        rw [q3, Option.bind_some] at h
        cases q4 : atQ N x3 x4 x5 l1 with
        | none => rw [q4] at h; cases h
        | some l2 =>
        rw [q4, Option.bind_some] at h
        refine ⟨r0, fun _ _ => ⟨l1, l2, rfl, q4, h, ?_⟩, by rw [if_pos ⟨z1, z2⟩]⟩
        exact atQ_range hgs N _ _ _ _ _ _ q4 h2 (atQ_range hgs N _ _ _ _ _ _ q3 h1 (by intro a ha; cases ha))
      · rw [if_neg z2] at h
        injection h with h
        exact ⟨false, fun _ z => absurd z z2, by rw [if_neg (fun z => z2 z.2)]; exact h.symm⟩
    obtain ⟨b, hI, rfl⟩ := key
    refine (Implies_any hsz h1 h2 q1 (fun _ => q2) hI).mono ?_
    rintro e w' ⟨rfl, hb⟩
    exact pure_of_below hb fun g' w' => .bool _
  · rw [if_neg z1] at h
    injection h with h; subst h
    refine (Implies_any (e2 := 0) (b := false) (M := 0) hsz h1 h2 q1 (fun z => absurd z z1) (fun z => absurd z z1)).mono ?_
    rintro e w' ⟨rfl, hb⟩
    rw [if_neg (fun z => z1 z.1)]
    exact pure_of_below hb fun g' w' => .bool _
end Go.Proofs.YtahemenhcoedgaaDoor.En

/- Functions of the program in plain Lean, joined to the program by evaluation; printed by a program. -/
namespace Go.Proofs.YtahemenhcoedgaaDoor.En
open Go Go.Proofs
set_option maxRecDepth 100000
set_option linter.unusedVariables false
noncomputable def e_qAtoms {R : Type} (s : Int → Int → List V → Int → Int → List V → Option (Int)) (ds : List D) (K : List D → Option R) : Option R :=
  match ds with
  | [.agg [.v (.int .i64 x0) .no, .v (.int .i64 x1) .no, .v (.sl 24 x2) .no], .agg [.v (.int .i64 x3) .no, .v (.int .i64 x4) .no, .v (.sl 24 x5) .no]] => bnd1 (s x0 x1 x2 x3 x4 x5) fun r0 => K [.v (.int .i64 r0) .no]
  | _ => none
theorem go_qAtoms : Goes Tryd.prog 21 := goes_of Tryd.func21 (by kernel_rfl) (c := bodyOf Tryd.f21) (by kernel_rfl)
theorem eo_qAtoms (s : Int → Int → List V → Int → Int → List V → Option (Int)) (hs : ∀ (x0 : Int) (x1 : Int) (x2 : List V) (x3 : Int) (x4 : Int) (x5 : List V) (r0 : Int), s x0 x1 x2 x3 x4 x5 = some r0 → PureRet Tryd.prog T 21 [.agg [.v (.int .i64 x0) .no, .v (.int .i64 x1) .no, .v (.sl 24 x2) .no], .agg [.v (.int .i64 x3) .no, .v (.int .i64 x4) .no, .v (.sl 24 x5) .no]] [.v (.int .i64 r0) .no]) : EntOK Tryd.prog T ⟨21, e_qAtoms s⟩ := by
  refine ⟨go_qAtoms, fun R ds K r h => ?_, fun R ds K => ?_⟩
  · simp only [e_qAtoms] at h
    split at h
    · obtain ⟨r0, h1, h2⟩ := bnd1_some h
      exact ⟨_, h2, hs _ _ _ _ _ _ _ h1⟩
    · cases h
  · simp only [e_qAtoms]
    split
    · rw [bnd1_b]; rfl
    · rfl
noncomputable def e_qImplies {R : Type} (s : Int → Int → List V → Int → Int → List V → Option (Bool)) (ds : List D) (K : List D → Option R) : Option R :=
  match ds with
  | [.agg [.v (.int .i64 x0) .no, .v (.int .i64 x1) .no, .v (.sl 24 x2) .no], .agg [.v (.int .i64 x3) .no, .v (.int .i64 x4) .no, .v (.sl 24 x5) .no]] => bnd1 (s x0 x1 x2 x3 x4 x5) fun r0 => K [.v (.bool r0) .no]
  | _ => none
theorem go_qImplies : Goes Tryd.prog 23 := goes_of Tryd.func23 (by kernel_rfl) (c := bodyOf Tryd.f23) (by kernel_rfl)
theorem eo_qImplies (s : Int → Int → List V → Int → Int → List V → Option (Bool)) (hs : ∀ (x0 : Int) (x1 : Int) (x2 : List V) (x3 : Int) (x4 : Int) (x5 : List V) (r0 : Bool), s x0 x1 x2 x3 x4 x5 = some r0 → PureRet Tryd.prog T 23 [.agg [.v (.int .i64 x0) .no, .v (.int .i64 x1) .no, .v (.sl 24 x2) .no], .agg [.v (.int .i64 x3) .no, .v (.int .i64 x4) .no, .v (.sl 24 x5) .no]] [.v (.bool r0) .no]) : EntOK Tryd.prog T ⟨23, e_qImplies s⟩ := by
  refine ⟨go_qImplies, fun R ds K r h => ?_, fun R ds K => ?_⟩
  · simp only [e_qImplies] at h
    split at h
    · obtain ⟨r0, h1, h2⟩ := bnd1_some h
      exact ⟨_, h2, hs _ _ _ _ _ _ _ h1⟩
    · cases h
  · simp only [e_qImplies]
    split
    · rw [bnd1_b]; rfl
    · rfl
noncomputable def e_small {R : Type} (s : Int → Option (List UInt8)) (ds : List D) (K : List D → Option R) : Option R :=
  match ds with
  | [.v (.int .i64 x0) .no] => bnd1 (s x0) fun r0 => K [.v (.str r0) .no]
  | _ => none
noncomputable def r_small (rs : List D) (_ : Mem) : Option (List UInt8) :=
  match rs with
  | [.v (.str r0) _] => some (r0)
  | _ => none
noncomputable def s_small (N : Nat) (x0 : Int) : Option (List UInt8) :=
  br (decide (x0 < 10))
  (br (decide (0 ≤ IntKind.i64.wrap (x0 + 1)) && decide (IntKind.i64.wrap (x0 + 1) ≤ 36))
    (br (decide (0 ≤ x0) && decide (x0 ≤ (↑(IntKind.i64.wrap (x0 + 1)).toNat : Int)))
      (some
        (List.drop x0.toNat
          (List.take (IntKind.i64.wrap (x0 + 1)).toNat ([48, 49, 50, 51, 52, 53, 54, 55, 56, 57, 97, 98, 99, 100, 101, 102, 103, 104, 105, 106, 107, 108, 109, 110, 111, 112, 113, 114, 115, 116, 117, 118, 119, 120, 121, 122] : List UInt8))))
      none)
    none)
  (br (decide (0 ≤ IntKind.i64.wrap (IntKind.i64.wrap (x0 * 2) + 2)) && decide (IntKind.i64.wrap (IntKind.i64.wrap (x0 * 2) + 2) ≤ 200))
    (br (decide (0 ≤ IntKind.i64.wrap (x0 * 2)) && decide (IntKind.i64.wrap (x0 * 2) ≤ (↑(IntKind.i64.wrap (IntKind.i64.wrap (x0 * 2) + 2)).toNat : Int)))
      (some
        (List.drop (IntKind.i64.wrap (x0 * 2)).toNat
          (List.take (IntKind.i64.wrap (IntKind.i64.wrap (x0 * 2) + 2)).toNat
            ([48, 48, 48, 49, 48, 50, 48, 51, 48, 52, 48, 53, 48, 54, 48, 55, 48, 56, 48, 57, 49, 48, 49, 49, 49, 50, 49, 51, 49, 52, 49, 53, 49, 54, 49, 55, 49, 56, 49, 57, 50, 48, 50, 49, 50, 50, 50, 51, 50, 52, 50, 53, 50, 54, 50, 55, 50,
              56, 50, 57, 51, 48, 51, 49, 51, 50, 51, 51, 51, 52, 51, 53, 51, 54, 51, 55, 51, 56, 51, 57, 52, 48, 52, 49, 52, 50, 52, 51, 52, 52, 52, 53, 52, 54, 52, 55, 52, 56, 52, 57, 53, 48, 53, 49, 53, 50, 53, 51, 53, 52, 53, 53, 53,
              54, 53, 55, 53, 56, 53, 57, 54, 48, 54, 49, 54, 50, 54, 51, 54, 52, 54, 53, 54, 54, 54, 55, 54, 56, 54, 57, 55, 48, 55, 49, 55, 50, 55, 51, 55, 52, 55, 53, 55, 54, 55, 55, 55, 56, 55, 57, 56, 48, 56, 49, 56, 50, 56, 51, 56,
              52, 56, 53, 56, 54, 56, 55, 56, 56, 56, 57, 57, 48, 57, 49, 57, 50, 57, 51, 57, 52, 57, 53, 57, 54, 57, 55, 57, 56, 57, 57] : List UInt8))))
      none)
    none)
noncomputable def cx_small (N : Nat) : Cx := { T := T, isPure := tabP [], pureK := fun g ds K => tabK [] g ds K, memK := fun g dst ds m K => tabMK [] g dst ds m K, meth := tabM [], keep := fun _ => [], keepX := fun _ => [], loopT := fun _ _ _ _ => none, jumps := 9 }
theorem s_small_ok (N : Nat) (x0 : Int) : bodyK (cx_small N) Tryd.f118 [.v (.int .i64 x0) .no] [] r_small = s_small N x0 := by
  kernel_rfl
theorem go_small : Goes Tryd.prog 118 := goes_of Tryd.func118 (by kernel_rfl) (c := bodyOf Tryd.f118) (by kernel_rfl)
theorem eo_small (s : Int → Option (List UInt8)) (hs : ∀ (x0 : Int) (r0 : List UInt8), s x0 = some r0 → PureRet Tryd.prog T 118 [.v (.int .i64 x0) .no] [.v (.str r0) .no]) : EntOK Tryd.prog T ⟨118, e_small s⟩ := by
  refine ⟨go_small, fun R ds K r h => ?_, fun R ds K => ?_⟩
  · simp only [e_small] at h
    split at h
    · obtain ⟨r0, h1, h2⟩ := bnd1_some h
      exact ⟨_, h2, hs _ _ h1⟩
    · cases h
  · simp only [e_small]
    split
    · rw [bnd1_b]; rfl
    · rfl
theorem co_small (N : Nat) : CxOK Tryd.prog (cx_small N) :=
  cxOK_of2 (es := []) (me := []) (ms := []) T_ok trivial trivial trivial rfl (fun _ _ _ _ => rfl) (fun _ _ _ _ _ _ => rfl) rfl
theorem lo_small (N : Nat) : LoopsOK (cx_small N) Tryd.f118.ntmps (bodyOf Tryd.f118) :=
  loopsOK_of (k := 0) (by kernel_rfl) trivial
theorem p_small (N : Nat) (x0 : Int) (r0 : List UInt8) (h : s_small N x0 = some r0) : PureRet Tryd.prog T 118 [.v (.int .i64 x0) .no] [.v (.str r0) .no] :=
  pure_of (cx := cx_small N) (by kernel_rfl) (co_small N) Tryd.func118 (by kernel_rfl) (by kernel_rfl) (lo_small N) rfl rfl rfl (rf := r_small) ((s_small_ok N x0).trans h) (fun rs' m h => by
    unfold r_small at h
    split at h
    · cases h; exact ⟨rfl, rfl⟩
    · cases h)
noncomputable def e_FormatInt {R : Type} (s : Int → Int → Option (List UInt8)) (ds : List D) (K : List D → Option R) : Option R :=
  match ds with
  | [.v (.int .i64 x0) .no, .v (.int .i64 x1) .no] => bnd1 (s x0 x1) fun r0 => K [.v (.str r0) .no]
  | _ => none
noncomputable def r_FormatInt (rs : List D) (_ : Mem) : Option (List UInt8) :=
  match rs with
  | [.v (.str r0) _] => some (r0)
  | _ => none
noncomputable def s_FormatInt (N : Nat) (x0 : Int) (x1 : Int) : Option (List UInt8) :=
  br (decide (x1 = 10)) (br (decide (0 ≤ x0)) (br (decide (x0 < 100)) (bnd1 (s_small N x0) fun l0 => some l0) (br (decide (x0 < 0)) none none)) (br (decide (x0 < 0)) none none)) none
noncomputable def cx_FormatInt (N : Nat) : Cx := { T := T, isPure := tabP [⟨118, e_small (s_small N)⟩], pureK := fun g ds K => tabK [⟨118, e_small (s_small N)⟩] g ds K, memK := fun g dst ds m K => tabMK [] g dst ds m K, meth := tabM [], keep := fun _ => [], keepX := fun _ => [], loopT := fun _ _ _ _ => none, jumps := 9 }
theorem s_FormatInt_ok (N : Nat) (x0 : Int) (x1 : Int) : bodyK (cx_FormatInt N) Tryd.f115 [.v (.int .i64 x0) .no, .v (.int .i64 x1) .no] [] r_FormatInt = s_FormatInt N x0 x1 := by
  kernel_rfl
theorem go_FormatInt : Goes Tryd.prog 115 := goes_of Tryd.func115 (by kernel_rfl) (c := bodyOf Tryd.f115) (by kernel_rfl)
theorem eo_FormatInt (s : Int → Int → Option (List UInt8)) (hs : ∀ (x0 : Int) (x1 : Int) (r0 : List UInt8), s x0 x1 = some r0 → PureRet Tryd.prog T 115 [.v (.int .i64 x0) .no, .v (.int .i64 x1) .no] [.v (.str r0) .no]) : EntOK Tryd.prog T ⟨115, e_FormatInt s⟩ := by
  refine ⟨go_FormatInt, fun R ds K r h => ?_, fun R ds K => ?_⟩
  · simp only [e_FormatInt] at h
    split at h
    · obtain ⟨r0, h1, h2⟩ := bnd1_some h
      exact ⟨_, h2, hs _ _ _ h1⟩
    · cases h
  · simp only [e_FormatInt]
    split
    · rw [bnd1_b]; rfl
    · rfl
theorem co_FormatInt (N : Nat) : CxOK Tryd.prog (cx_FormatInt N) :=
  cxOK_of2 (es := [⟨118, e_small (s_small N)⟩]) (me := []) (ms := []) T_ok ⟨eo_small _ (p_small N), trivial⟩ trivial trivial rfl (fun _ _ _ _ => rfl) (fun _ _ _ _ _ _ => rfl) rfl
theorem lo_FormatInt (N : Nat) : LoopsOK (cx_FormatInt N) Tryd.f115.ntmps (bodyOf Tryd.f115) :=
  loopsOK_of (k := 0) (by kernel_rfl) trivial
theorem p_FormatInt (N : Nat) (x0 : Int) (x1 : Int) (r0 : List UInt8) (h : s_FormatInt N x0 x1 = some r0) : PureRet Tryd.prog T 115 [.v (.int .i64 x0) .no, .v (.int .i64 x1) .no] [.v (.str r0) .no] :=
  pure_of (cx := cx_FormatInt N) (by kernel_rfl) (co_FormatInt N) Tryd.func115 (by kernel_rfl) (by kernel_rfl) (lo_FormatInt N) rfl rfl rfl (rf := r_FormatInt) ((s_FormatInt_ok N x0 x1).trans h) (fun rs' m h => by
    unfold r_FormatInt at h
    split at h
    · cases h; exact ⟨rfl, rfl⟩
    · cases h)
noncomputable def e_iItoa {R : Type} (s : Int → Option (List UInt8)) (ds : List D) (K : List D → Option R) : Option R :=
  match ds with
  | [.v (.int .i64 x0) .no] => bnd1 (s x0) fun r0 => K [.v (.str r0) .no]
  | _ => none
noncomputable def r_iItoa (rs : List D) (_ : Mem) : Option (List UInt8) :=
  match rs with
  | [.v (.str r0) _] => some (r0)
  | _ => none
noncomputable def s_iItoa (N : Nat) (x0 : Int) : Option (List UInt8) :=
  bnd1 (s_FormatInt N x0 10) fun l0 => some l0
noncomputable def cx_iItoa (N : Nat) : Cx := { T := T, isPure := tabP [⟨115, e_FormatInt (s_FormatInt N)⟩], pureK := fun g ds K => tabK [⟨115, e_FormatInt (s_FormatInt N)⟩] g ds K, memK := fun g dst ds m K => tabMK [] g dst ds m K, meth := tabM [], keep := fun _ => [], keepX := fun _ => [], loopT := fun _ _ _ _ => none, jumps := 9 }
theorem s_iItoa_ok (N : Nat) (x0 : Int) : bodyK (cx_iItoa N) Tryd.f102 [.v (.int .i64 x0) .no] [] r_iItoa = s_iItoa N x0 := by
  kernel_rfl
theorem go_iItoa : Goes Tryd.prog 102 := goes_of Tryd.func102 (by kernel_rfl) (c := bodyOf Tryd.f102) (by kernel_rfl)
theorem eo_iItoa (s : Int → Option (List UInt8)) (hs : ∀ (x0 : Int) (r0 : List UInt8), s x0 = some r0 → PureRet Tryd.prog T 102 [.v (.int .i64 x0) .no] [.v (.str r0) .no]) : EntOK Tryd.prog T ⟨102, e_iItoa s⟩ := by
  refine ⟨go_iItoa, fun R ds K r h => ?_, fun R ds K => ?_⟩
  · simp only [e_iItoa] at h
    split at h
    · obtain ⟨r0, h1, h2⟩ := bnd1_some h
      exact ⟨_, h2, hs _ _ h1⟩
    · cases h
  · simp only [e_iItoa]
    split
    · rw [bnd1_b]; rfl
    · rfl
theorem co_iItoa (N : Nat) : CxOK Tryd.prog (cx_iItoa N) :=
  cxOK_of2 (es := [⟨115, e_FormatInt (s_FormatInt N)⟩]) (me := []) (ms := []) T_ok ⟨eo_FormatInt _ (p_FormatInt N), trivial⟩ trivial trivial rfl (fun _ _ _ _ => rfl) (fun _ _ _ _ _ _ => rfl) rfl
theorem lo_iItoa (N : Nat) : LoopsOK (cx_iItoa N) Tryd.f102.ntmps (bodyOf Tryd.f102) :=
  loopsOK_of (k := 0) (by kernel_rfl) trivial
theorem p_iItoa (N : Nat) (x0 : Int) (r0 : List UInt8) (h : s_iItoa N x0 = some r0) : PureRet Tryd.prog T 102 [.v (.int .i64 x0) .no] [.v (.str r0) .no] :=
  pure_of (cx := cx_iItoa N) (by kernel_rfl) (co_iItoa N) Tryd.func102 (by kernel_rfl) (by kernel_rfl) (lo_iItoa N) rfl rfl rfl (rf := r_iItoa) ((s_iItoa_ok N x0).trans h) (fun rs' m h => by
    unfold r_iItoa at h
    split at h
    · cases h; exact ⟨rfl, rfl⟩
    · cases h)
noncomputable def e_Itoa {R : Type} (s : Int → Option (List UInt8)) (ds : List D) (K : List D → Option R) : Option R :=
  match ds with
  | [.v (.int .i64 x0) .no] => bnd1 (s x0) fun r0 => K [.v (.str r0) .no]
  | _ => none
noncomputable def r_Itoa (rs : List D) (_ : Mem) : Option (List UInt8) :=
  match rs with
  | [.v (.str r0) _] => some (r0)
  | _ => none
noncomputable def s_Itoa (N : Nat) (x0 : Int) : Option (List UInt8) :=
  bnd1 (s_iItoa N x0) fun l0 => some l0
noncomputable def cx_Itoa (N : Nat) : Cx := { T := T, isPure := tabP [⟨102, e_iItoa (s_iItoa N)⟩], pureK := fun g ds K => tabK [⟨102, e_iItoa (s_iItoa N)⟩] g ds K, memK := fun g dst ds m K => tabMK [] g dst ds m K, meth := tabM [], keep := fun _ => [], keepX := fun _ => [], loopT := fun _ _ _ _ => none, jumps := 9 }
theorem s_Itoa_ok (N : Nat) (x0 : Int) : bodyK (cx_Itoa N) Tryd.f82 [.v (.int .i64 x0) .no] [] r_Itoa = s_Itoa N x0 := by
  kernel_rfl
theorem go_Itoa : Goes Tryd.prog 82 := goes_of Tryd.func82 (by kernel_rfl) (c := bodyOf Tryd.f82) (by kernel_rfl)
theorem eo_Itoa (s : Int → Option (List UInt8)) (hs : ∀ (x0 : Int) (r0 : List UInt8), s x0 = some r0 → PureRet Tryd.prog T 82 [.v (.int .i64 x0) .no] [.v (.str r0) .no]) : EntOK Tryd.prog T ⟨82, e_Itoa s⟩ := by
  refine ⟨go_Itoa, fun R ds K r h => ?_, fun R ds K => ?_⟩
  · simp only [e_Itoa] at h
    split at h
    · obtain ⟨r0, h1, h2⟩ := bnd1_some h
      exact ⟨_, h2, hs _ _ h1⟩
    · cases h
  · simp only [e_Itoa]
    split
    · rw [bnd1_b]; rfl
    · rfl
theorem co_Itoa (N : Nat) : CxOK Tryd.prog (cx_Itoa N) :=
  cxOK_of2 (es := [⟨102, e_iItoa (s_iItoa N)⟩]) (me := []) (ms := []) T_ok ⟨eo_iItoa _ (p_iItoa N), trivial⟩ trivial trivial rfl (fun _ _ _ _ => rfl) (fun _ _ _ _ _ _ => rfl) rfl
theorem lo_Itoa (N : Nat) : LoopsOK (cx_Itoa N) Tryd.f82.ntmps (bodyOf Tryd.f82) :=
  loopsOK_of (k := 0) (by kernel_rfl) trivial
theorem p_Itoa (N : Nat) (x0 : Int) (r0 : List UInt8) (h : s_Itoa N x0 = some r0) : PureRet Tryd.prog T 82 [.v (.int .i64 x0) .no] [.v (.str r0) .no] :=
  pure_of (cx := cx_Itoa N) (by kernel_rfl) (co_Itoa N) Tryd.func82 (by kernel_rfl) (by kernel_rfl) (lo_Itoa N) rfl rfl rfl (rf := r_Itoa) ((s_Itoa_ok N x0).trans h) (fun rs' m h => by
    unfold r_Itoa at h
    split at h
    · cases h; exact ⟨rfl, rfl⟩
    · cases h)
noncomputable def e_Join {R : Type} (s : List V → List UInt8 → Option (List UInt8)) (ds : List D) (K : List D → Option R) : Option R :=
  match ds with
  | [.v (.sl 9 x0) .no, .v (.str x1) .no] => bnd1 (s x0 x1) fun r0 => K [.v (.str r0) .no]
  | _ => none
theorem go_Join : Goes Tryd.prog 83 := goes_of Tryd.func83 (by kernel_rfl) (c := bodyOf Tryd.f83) (by kernel_rfl)
theorem eo_Join (s : List V → List UInt8 → Option (List UInt8)) (hs : ∀ (x0 : List V) (x1 : List UInt8) (r0 : List UInt8), s x0 x1 = some r0 → PureRet Tryd.prog T 83 [.v (.sl 9 x0) .no, .v (.str x1) .no] [.v (.str r0) .no]) : EntOK Tryd.prog T ⟨83, e_Join s⟩ := by
  refine ⟨go_Join, fun R ds K r h => ?_, fun R ds K => ?_⟩
  · simp only [e_Join] at h
    split at h
    · obtain ⟨r0, h1, h2⟩ := bnd1_some h
      exact ⟨_, h2, hs _ _ _ h1⟩
    · cases h
  · simp only [e_Join]
    split
    · rw [bnd1_b]; rfl
    · rfl
noncomputable def e_atext {R : Type} (s : Int → Int → List V → Option (List UInt8)) (ds : List D) (K : List D → Option R) : Option R :=
  match ds with
  | [.agg [.v (.int .i64 x0) .no, .v (.int .i64 x1) .no, .v (.sl 24 x2) .no]] => bnd1 (s x0 x1 x2) fun r0 => K [.v (.str r0) .no]
  | _ => none
noncomputable def r_atext (rs : List D) (_ : Mem) : Option (List UInt8) :=
  match rs with
  | [.v (.str r0) _] => some (r0)
  | _ => none
noncomputable def F_atext_8 {R : Type} (N : Nat) (f : Int → Int → List V → Option (List UInt8)) (vs1 : List V) (n2 : Int) (n4 : Int) (n5 : Int) (vs6 : List V) (l7 : List UInt8) (b8 : Bool) (b9 : Bool) (n10 : Int) (n11 : Int) (Lq : List V → Int → Option R) (K0 : List V → Option R) (vs0 : List V) (n3 : Int) : Option R :=
  br (decide (n3 < n2))
  (br (decide (0 ≤ n3) && decide (n3 < (↑vs1.length : Int)))
    (at? vs1 n3.toNat fun x0 =>
      x0.unAgg fun l1 =>
        unCons l1 fun x2 l3 =>
          V.unInt IntKind.i64 x2 fun n4 =>
            unCons l3 fun x5 l6 =>
              V.unInt IntKind.i64 x5 fun n7 =>
                unCons l6 fun x8 l9 => V.unSl 24 x8 fun l10 => unNil l9 (bnd1 (f n4 n7 l10) fun l11 => br (decide ((vs0.length + [V.str l11].length) * 16 ≤ 140737488355328)) (Lq (vs0 ++ [V.str l11]) (IntKind.i64.wrap (n3 + 1))) none))
    none)
  (K0 vs0)
noncomputable def S_atext_8 {R : Type} (N : Nat) (f : Int → Int → List V → Option (List UInt8)) (vs1 : List V) (n2 : Int) (n4 : Int) (n5 : Int) (vs6 : List V) (l7 : List UInt8) (b8 : Bool) (b9 : Bool) (n10 : Int) (n11 : Int) : Nat → List V → Int → (List V → Option R) → Option R
  | 0, _, _, _ => none
  | t + 1, vs0, n3, K0 => F_atext_8 N f vs1 n2 n4 n5 vs6 l7 b8 b9 n10 n11 (fun vs0 n3 => S_atext_8 N f vs1 n2 n4 n5 vs6 l7 b8 b9 n10 n11 t vs0 n3 K0) K0 vs0 n3
noncomputable def l_atext_8 {R : Type} (N : Nat) (f : Int → Int → List V → Option (List UInt8)) (ds : List D) (m : Mem) (K : Ex → List D → Mem → Option R) : Option R :=
  match ds, m with
  | [(.ptr 0 1 0), (.ptr 0 3 0), (.v (.sl 9 vs0) (.own (.slot 4) 9)), (.v (.sl 24 vs1) .no), (.v (.int .i64 n2) .no), (.v (.int .i64 n3) .no)], [[(1, ⟨24, [(.v (.int .i64 n4) .no), (.v (.int .i64 n5) .no), (.v (.sl 24 vs6) .no)]⟩), (3, ⟨79, [(.v (.str l7) .no), (.v (.bool b8) .no), (.v (.bool b9) .no), (.v (.int .i64 n10) .no), (.v (.int .i64 n11) .no)]⟩)]] => S_atext_8 N f vs1 n2 n4 n5 vs6 l7 b8 b9 n10 n11 N vs0 n3 (fun a0 => K (.exit 1) [(.ptr 0 1 0), (.ptr 0 3 0), (.v (.sl 9 a0) (.own (.slot 4) 9))] [[(1, ⟨24, [(.v (.int .i64 n4) .no), (.v (.int .i64 n5) .no), (.v (.sl 24 vs6) .no)]⟩), (3, ⟨79, [(.v (.str l7) .no), (.v (.bool b8) .no), (.v (.bool b9) .no), (.v (.int .i64 n10) .no), (.v (.int .i64 n11) .no)]⟩)]])
  | _, _ => none
noncomputable def B_atext (N : Nat) (f : Int → Int → List V → Option (List UInt8)) (x0 : Int) (x1 : Int) (x2 : List V) : Option (List UInt8) :=
  bnd1 (s_forms N) fun x0_1 =>
  br (decide (x0 = 0)) (some ([110, 101, 118, 101, 114] : List UInt8))
    (br (decide (x0 = 1)) (some ([97, 108, 119, 97, 121, 115] : List UInt8))
      (br (decide (x0 = 2)) (bnd1 (s_Itoa N x1) fun l1 => br (decide (4 + l1.length ≤ 9223372036854775807)) (some (112 :: 105 :: 110 :: 32 :: [].append l1)) none)
        (br (decide (x0 = 3)) (bnd1 (s_Itoa N x1) fun l2 => br (decide (4 + l2.length ≤ 9223372036854775807)) (some (107 :: 101 :: 121 :: 32 :: [].append l2)) none)
          (br (decide (x0 = 4)) (bnd1 (s_Itoa N x1) fun l3 => br (decide (6 + l3.length ≤ 9223372036854775807)) (some (115 :: 116 :: 97 :: 116 :: 101 :: 32 :: [].append l3)) none)
            (br (decide (x0 = 5)) (bnd1 (s_Itoa N x1) fun l4 => br (decide (6 + l4.length ≤ 9223372036854775807)) (some (108 :: 101 :: 118 :: 101 :: 108 :: 32 :: [].append l4)) none)
              (br (decide (x0 = 6))
                (S_atext_8 N f x2 (↑x2.length : Int) x0 x1 x2 ([97, 110, 100] : List UInt8) false true 0 0 N [] 0 fun l5 =>
                  bnd1 (s_Join N l5 ([44, 32] : List UInt8)) fun l6 =>
                    br (decide (4 + l6.length ≤ 9223372036854775807)) (br (decide ((97 :: 110 :: 100 :: 40 :: [].append l6).length + 1 ≤ 9223372036854775807)) (some (97 :: 110 :: 100 :: 40 :: ([].append l6).append ([41] : List UInt8))) none) none)
                (br (decide (x0 = 7))
                  (S_atext_8 N f x2 (↑x2.length : Int) x0 x1 x2 ([111, 114] : List UInt8) false true 0 0 N [] 0 fun l7 =>
                    bnd1 (s_Join N l7 ([44, 32] : List UInt8)) fun l8 =>
                      br (decide (3 + l8.length ≤ 9223372036854775807)) (br (decide ((111 :: 114 :: 40 :: [].append l8).length + 1 ≤ 9223372036854775807)) (some (111 :: 114 :: 40 :: ([].append l8).append ([41] : List UInt8))) none) none)
                  none)))))))
noncomputable def s_atext (N : Nat) : Nat → Int → Int → List V → Option (List UInt8)
  | 0, _, _, _ => none
  | n + 1, x0, x1, x2 => B_atext N (s_atext N n) x0 x1 x2
noncomputable def cx_atext (N : Nat) (f : Int → Int → List V → Option (List UInt8)) : Cx := { T := T, isPure := tabP [⟨55, e_atext f⟩, ⟨67, e_forms (s_forms N)⟩, ⟨82, e_Itoa (s_Itoa N)⟩, ⟨83, e_Join (s_Join N)⟩], pureK := fun g ds K => tabK [⟨55, e_atext f⟩, ⟨67, e_forms (s_forms N)⟩, ⟨82, e_Itoa (s_Itoa N)⟩, ⟨83, e_Join (s_Join N)⟩] g ds K, memK := fun g dst ds m K => tabMK [] g dst ds m K, meth := tabM [], keep := fun r => match r with | 8 => [1, 3, 4, 28, 29, 30] | _ => [], keepX := fun r => match r with | 8 => [1, 3, 4] | _ => [], loopT := fun r ds m K => match r with | 8 => l_atext_8 N f ds m K | _ => none, jumps := 9 }
theorem F_atext_8_ok {R : Type} (N : Nat) (f : Int → Int → List V → Option (List UInt8)) (vs1 : List V) (n2 : Int) (n4 : Int) (n5 : Int) (vs6 : List V) (l7 : List UInt8) (b8 : Bool) (b9 : Bool) (n10 : Int) (n11 : Int) (vs0 : List V) (n3 : Int) (L : List D → Mem → Option R) (K : Ex → List D → Mem → Option R) :
    roundK (fun st K => codeK (cx_atext N f) (loopN Tryd.f55 0) st K) 47 [1, 3, 4, 28, 29, 30] [1, 3, 4] L [(.ptr 0 1 0), (.ptr 0 3 0), (.v (.sl 9 vs0) (.own (.slot 4) 9)), (.v (.sl 24 vs1) .no), (.v (.int .i64 n2) .no), (.v (.int .i64 n3) .no)] [[(1, ⟨24, [(.v (.int .i64 n4) .no), (.v (.int .i64 n5) .no), (.v (.sl 24 vs6) .no)]⟩), (3, ⟨79, [(.v (.str l7) .no), (.v (.bool b8) .no), (.v (.bool b9) .no), (.v (.int .i64 n10) .no), (.v (.int .i64 n11) .no)]⟩)]] K = F_atext_8 N f vs1 n2 n4 n5 vs6 l7 b8 b9 n10 n11 (fun vs0 n3 => L [(.ptr 0 1 0), (.ptr 0 3 0), (.v (.sl 9 vs0) (.own (.slot 4) 9)), (.v (.sl 24 vs1) .no), (.v (.int .i64 n2) .no), (.v (.int .i64 n3) .no)] [[(1, ⟨24, [(.v (.int .i64 n4) .no), (.v (.int .i64 n5) .no), (.v (.sl 24 vs6) .no)]⟩), (3, ⟨79, [(.v (.str l7) .no), (.v (.bool b8) .no), (.v (.bool b9) .no), (.v (.int .i64 n10) .no), (.v (.int .i64 n11) .no)]⟩)]]) (fun a0 => K (.exit 1) [(.ptr 0 1 0), (.ptr 0 3 0), (.v (.sl 9 a0) (.own (.slot 4) 9))] [[(1, ⟨24, [(.v (.int .i64 n4) .no), (.v (.int .i64 n5) .no), (.v (.sl 24 vs6) .no)]⟩), (3, ⟨79, [(.v (.str l7) .no), (.v (.bool b8) .no), (.v (.bool b9) .no), (.v (.int .i64 n10) .no), (.v (.int .i64 n11) .no)]⟩)]]) vs0 n3 := by
  kernel_rfl
theorem S_atext_8_ok {R : Type} (N : Nat) (f : Int → Int → List V → Option (List UInt8)) (vs1 : List V) (n2 : Int) (n4 : Int) (n5 : Int) (vs6 : List V) (l7 : List UInt8) (b8 : Bool) (b9 : Bool) (n10 : Int) (n11 : Int) (K : Ex → List D → Mem → Option R) : ∀ (t : Nat) (vs0 : List V) (n3 : Int),
    loopK (fun st K => codeK (cx_atext N f) (loopN Tryd.f55 0) st K) 47 [1, 3, 4, 28, 29, 30] [1, 3, 4] t [(.ptr 0 1 0), (.ptr 0 3 0), (.v (.sl 9 vs0) (.own (.slot 4) 9)), (.v (.sl 24 vs1) .no), (.v (.int .i64 n2) .no), (.v (.int .i64 n3) .no)] [[(1, ⟨24, [(.v (.int .i64 n4) .no), (.v (.int .i64 n5) .no), (.v (.sl 24 vs6) .no)]⟩), (3, ⟨79, [(.v (.str l7) .no), (.v (.bool b8) .no), (.v (.bool b9) .no), (.v (.int .i64 n10) .no), (.v (.int .i64 n11) .no)]⟩)]] K = S_atext_8 N f vs1 n2 n4 n5 vs6 l7 b8 b9 n10 n11 t vs0 n3 (fun a0 => K (.exit 1) [(.ptr 0 1 0), (.ptr 0 3 0), (.v (.sl 9 a0) (.own (.slot 4) 9))] [[(1, ⟨24, [(.v (.int .i64 n4) .no), (.v (.int .i64 n5) .no), (.v (.sl 24 vs6) .no)]⟩), (3, ⟨79, [(.v (.str l7) .no), (.v (.bool b8) .no), (.v (.bool b9) .no), (.v (.int .i64 n10) .no), (.v (.int .i64 n11) .no)]⟩)]])
  | 0, vs0, n3 => rfl
  | t + 1, vs0, n3 => (F_atext_8_ok N f vs1 n2 n4 n5 vs6 l7 b8 b9 n10 n11 vs0 n3 _ K).trans (congrArg (fun L => F_atext_8 N f vs1 n2 n4 n5 vs6 l7 b8 b9 n10 n11 L (fun a0 => K (.exit 1) [(.ptr 0 1 0), (.ptr 0 3 0), (.v (.sl 9 a0) (.own (.slot 4) 9))] [[(1, ⟨24, [(.v (.int .i64 n4) .no), (.v (.int .i64 n5) .no), (.v (.sl 24 vs6) .no)]⟩), (3, ⟨79, [(.v (.str l7) .no), (.v (.bool b8) .no), (.v (.bool b9) .no), (.v (.int .i64 n10) .no), (.v (.int .i64 n11) .no)]⟩)]]) vs0 n3) (funext fun vs0 => funext fun n3 => S_atext_8_ok N f vs1 n2 n4 n5 vs6 l7 b8 b9 n10 n11 K t vs0 n3))
theorem B_atext_ok (N : Nat) (f : Int → Int → List V → Option (List UInt8)) (x0 : Int) (x1 : Int) (x2 : List V) : bodyK (cx_atext N f) Tryd.f55 [.agg [.v (.int .i64 x0) .no, .v (.int .i64 x1) .no, .v (.sl 24 x2) .no]] [] r_atext = B_atext N f x0 x1 x2 := by
  kernel_rfl
theorem go_atext : Goes Tryd.prog 55 := goes_of Tryd.func55 (by kernel_rfl) (c := bodyOf Tryd.f55) (by kernel_rfl)
theorem eo_atext (s : Int → Int → List V → Option (List UInt8)) (hs : ∀ (x0 : Int) (x1 : Int) (x2 : List V) (r0 : List UInt8), s x0 x1 x2 = some r0 → PureRet Tryd.prog T 55 [.agg [.v (.int .i64 x0) .no, .v (.int .i64 x1) .no, .v (.sl 24 x2) .no]] [.v (.str r0) .no]) : EntOK Tryd.prog T ⟨55, e_atext s⟩ := by
  refine ⟨go_atext, fun R ds K r h => ?_, fun R ds K => ?_⟩
  · simp only [e_atext] at h
    split at h
    · obtain ⟨r0, h1, h2⟩ := bnd1_some h
      exact ⟨_, h2, hs _ _ _ _ h1⟩
    · cases h
  · simp only [e_atext]
    split
    · rw [bnd1_b]; rfl
    · rfl
theorem co_atext (N : Nat) (f : Int → Int → List V → Option (List UInt8)) (hf : ∀ (x0 : Int) (x1 : Int) (x2 : List V) (r0 : List UInt8), f x0 x1 x2 = some r0 → PureRet Tryd.prog T 55 [.agg [.v (.int .i64 x0) .no, .v (.int .i64 x1) .no, .v (.sl 24 x2) .no]] [.v (.str r0) .no]) : CxOK Tryd.prog (cx_atext N f) :=
  cxOK_of2 (es := [⟨55, e_atext f⟩, ⟨67, e_forms (s_forms N)⟩, ⟨82, e_Itoa (s_Itoa N)⟩, ⟨83, e_Join (s_Join N)⟩]) (me := []) (ms := []) T_ok ⟨eo_atext f hf, eo_forms _ (p_forms N), eo_Itoa _ (p_Itoa N), eo_Join _ (p_Join N), trivial⟩ trivial trivial rfl (fun _ _ _ _ => rfl) (fun _ _ _ _ _ _ => rfl) rfl
theorem lk_atext_8 (N : Nat) (f : Int → Int → List V → Option (List UInt8)) : LoopOK (cx_atext N f) 47 (loopN Tryd.f55 0) := by
  refine loopOK_of (rid := 8) (by kernel_rfl) rfl rfl fun R ds m K r h => ?_
  have h : l_atext_8 N f ds m K = some r := h
  unfold l_atext_8 at h
  split at h
  · exact ⟨N, Eq.trans (S_atext_8_ok ..) h⟩
  · cases h
theorem lo_atext (N : Nat) (f : Int → Int → List V → Option (List UInt8)) : LoopsOK (cx_atext N f) Tryd.f55.ntmps (bodyOf Tryd.f55) :=
  loopsOK_of (k := 1) (by kernel_rfl) ⟨trivial, lk_atext_8 N f⟩
theorem p_atext (N : Nat) : ∀ (M : Nat) (x0 : Int) (x1 : Int) (x2 : List V) (r0 : List UInt8), s_atext N M x0 x1 x2 = some r0 → PureRet Tryd.prog T 55 [.agg [.v (.int .i64 x0) .no, .v (.int .i64 x1) .no, .v (.sl 24 x2) .no]] [.v (.str r0) .no]
  | 0, _, _, _, _, h => by cases h
  | M + 1, x0, x1, x2, r0, h => pure_of (cx := cx_atext N (s_atext N M)) (by kernel_rfl) (co_atext N (s_atext N M) (p_atext N M)) Tryd.func55 (by kernel_rfl) (by kernel_rfl) (lo_atext N (s_atext N M)) rfl rfl rfl (rf := r_atext) ((B_atext_ok N (s_atext N M) x0 x1 x2).trans h) (fun rs' m h => by
    unfold r_atext at h
    split at h
    · cases h; exact ⟨rfl, rfl⟩
    · cases h)
noncomputable def e_aText {R : Type} (s : Int → Int → List V → Option (List UInt8)) (ds : List D) (K : List D → Option R) : Option R :=
  match ds with
  | [.agg [.v (.int .i64 x0) .no, .v (.int .i64 x1) .no, .v (.sl 24 x2) .no]] => bnd1 (s x0 x1 x2) fun r0 => K [.v (.str r0) .no]
  | _ => none
noncomputable def r_aText (rs : List D) (_ : Mem) : Option (List UInt8) :=
  match rs with
  | [.v (.str r0) _] => some (r0)
  | _ => none
noncomputable def s_aText (N : Nat) (x0 : Int) (x1 : Int) (x2 : List V) : Option (List UInt8) :=
  bnd1 (s_aCheck N x0 x1 x2) fun n0 => br (!decide (n0 = 0)) (some []) (bnd1 (s_atext N N x0 x1 x2) fun l1 => some l1)
noncomputable def cx_aText (N : Nat) : Cx := { T := T, isPure := tabP [⟨17, e_aCheck (s_aCheck N)⟩, ⟨55, e_atext (s_atext N N)⟩], pureK := fun g ds K => tabK [⟨17, e_aCheck (s_aCheck N)⟩, ⟨55, e_atext (s_atext N N)⟩] g ds K, memK := fun g dst ds m K => tabMK [] g dst ds m K, meth := tabM [], keep := fun _ => [], keepX := fun _ => [], loopT := fun _ _ _ _ => none, jumps := 9 }
theorem s_aText_ok (N : Nat) (x0 : Int) (x1 : Int) (x2 : List V) : bodyK (cx_aText N) Tryd.f27 [.agg [.v (.int .i64 x0) .no, .v (.int .i64 x1) .no, .v (.sl 24 x2) .no]] [] r_aText = s_aText N x0 x1 x2 := by
  kernel_rfl
theorem go_aText : Goes Tryd.prog 27 := goes_of Tryd.func27 (by kernel_rfl) (c := bodyOf Tryd.f27) (by kernel_rfl)
theorem eo_aText (s : Int → Int → List V → Option (List UInt8)) (hs : ∀ (x0 : Int) (x1 : Int) (x2 : List V) (r0 : List UInt8), s x0 x1 x2 = some r0 → PureRet Tryd.prog T 27 [.agg [.v (.int .i64 x0) .no, .v (.int .i64 x1) .no, .v (.sl 24 x2) .no]] [.v (.str r0) .no]) : EntOK Tryd.prog T ⟨27, e_aText s⟩ := by
  refine ⟨go_aText, fun R ds K r h => ?_, fun R ds K => ?_⟩
  · simp only [e_aText] at h
    split at h
    · obtain ⟨r0, h1, h2⟩ := bnd1_some h
      exact ⟨_, h2, hs _ _ _ _ h1⟩
    · cases h
  · simp only [e_aText]
    split
    · rw [bnd1_b]; rfl
    · rfl
theorem co_aText (N : Nat) : CxOK Tryd.prog (cx_aText N) :=
  cxOK_of2 (es := [⟨17, e_aCheck (s_aCheck N)⟩, ⟨55, e_atext (s_atext N N)⟩]) (me := []) (ms := []) T_ok ⟨eo_aCheck _ (p_aCheck N), eo_atext _ (p_atext N N), trivial⟩ trivial trivial rfl (fun _ _ _ _ => rfl) (fun _ _ _ _ _ _ => rfl) rfl
theorem lo_aText (N : Nat) : LoopsOK (cx_aText N) Tryd.f27.ntmps (bodyOf Tryd.f27) :=
  loopsOK_of (k := 0) (by kernel_rfl) trivial
theorem p_aText (N : Nat) (x0 : Int) (x1 : Int) (x2 : List V) (r0 : List UInt8) (h : s_aText N x0 x1 x2 = some r0) : PureRet Tryd.prog T 27 [.agg [.v (.int .i64 x0) .no, .v (.int .i64 x1) .no, .v (.sl 24 x2) .no]] [.v (.str r0) .no] :=
  pure_of (cx := cx_aText N) (by kernel_rfl) (co_aText N) Tryd.func27 (by kernel_rfl) (by kernel_rfl) (lo_aText N) rfl rfl rfl (rf := r_aText) ((s_aText_ok N x0 x1 x2).trans h) (fun rs' m h => by
    unfold r_aText at h
    split at h
    · cases h; exact ⟨rfl, rfl⟩
    · cases h)
noncomputable def e_works {R : Type} (s : Option (Bool)) (ds : List D) (K : List D → Option R) : Option R :=
  match ds with
  | [] => bnd1 (s) fun r0 => K [.v (.bool r0) .no]
  | _ => none
noncomputable def r_works (rs : List D) (_ : Mem) : Option (Bool) :=
  match rs with
  | [.v (.bool r0) _] => some (r0)
  | _ => none
noncomputable def s_works (N : Nat)  : Option (Bool) :=
  bnd2
  (s_aEncode N
    [V.agg
        [V.int IntKind.i64 3, V.int IntKind.i64 6, V.int IntKind.i64 0,
          V.sl 24
            [V.agg [V.int IntKind.i64 2, V.int IntKind.i64 1, V.sl 24 []],
              V.agg [V.int IntKind.i64 7, V.int IntKind.i64 0, V.sl 24 [V.agg [V.int IntKind.i64 3, V.int IntKind.i64 2, V.sl 24 []], V.agg [V.int IntKind.i64 4, V.int IntKind.i64 3, V.sl 24 []]]]]]])
  fun l0 n1 =>
  bnd1
    (s_aHolds N 6 0
      [V.agg [V.int IntKind.i64 2, V.int IntKind.i64 1, V.sl 24 []],
        V.agg [V.int IntKind.i64 7, V.int IntKind.i64 0, V.sl 24 [V.agg [V.int IntKind.i64 3, V.int IntKind.i64 2, V.sl 24 []], V.agg [V.int IntKind.i64 4, V.int IntKind.i64 3, V.sl 24 []]]]]
      2 4 0 0)
    fun b2 =>
    br b2
      (bnd1
        (s_aHolds N 6 0
          [V.agg [V.int IntKind.i64 2, V.int IntKind.i64 1, V.sl 24 []],
            V.agg [V.int IntKind.i64 7, V.int IntKind.i64 0, V.sl 24 [V.agg [V.int IntKind.i64 3, V.int IntKind.i64 2, V.sl 24 []], V.agg [V.int IntKind.i64 4, V.int IntKind.i64 3, V.sl 24 []]]]]
          2 0 4 0)
        fun b3 =>
        br b3
          (bnd1
            (s_aHolds N 6 0
              [V.agg [V.int IntKind.i64 2, V.int IntKind.i64 1, V.sl 24 []],
                V.agg [V.int IntKind.i64 7, V.int IntKind.i64 0, V.sl 24 [V.agg [V.int IntKind.i64 3, V.int IntKind.i64 2, V.sl 24 []], V.agg [V.int IntKind.i64 4, V.int IntKind.i64 3, V.sl 24 []]]]]
              1 0 0 0)
            fun b4 =>
            br (!b4)
              (br (decide (n1 = 0))
                (br (decide (l0.length ≤ 9223372036854775807))
                  (br (decide (l0 = ([128, 11, 3, 6, 2, 2, 1, 7, 2, 3, 2, 4, 3] : List UInt8)))
                    (bnd1
                      (s_aText N 6 0
                        [V.agg [V.int IntKind.i64 2, V.int IntKind.i64 1, V.sl 24 []],
                          V.agg [V.int IntKind.i64 7, V.int IntKind.i64 0, V.sl 24 [V.agg [V.int IntKind.i64 3, V.int IntKind.i64 2, V.sl 24 []], V.agg [V.int IntKind.i64 4, V.int IntKind.i64 3, V.sl 24 []]]]])
                      fun l5 =>
                      br (decide (l5 = ([97, 110, 100, 40, 112, 105, 110, 32, 49, 44, 32, 111, 114, 40, 107, 101, 121, 32, 50, 44, 32, 115, 116, 97, 116, 101, 32, 51, 41, 41] : List UInt8)))
                        (bnd1 (s_Implies N 4 3 [] 4 2 []) fun b6 => br b6 (bnd1 (s_Implies N 2 1 [] 3 2 []) fun b7 => some !b7) (some false)) (some false))
                    (some false))
                  none)
                (some false))
              (some false))
          (some false))
      (some false)
noncomputable def cx_works (N : Nat) : Cx := { T := T, isPure := tabP [⟨25, e_aEncode (s_aEncode N)⟩, ⟨19, e_aHolds (s_aHolds N)⟩, ⟨27, e_aText (s_aText N)⟩, ⟨22, e_Implies (s_Implies N)⟩], pureK := fun g ds K => tabK [⟨25, e_aEncode (s_aEncode N)⟩, ⟨19, e_aHolds (s_aHolds N)⟩, ⟨27, e_aText (s_aText N)⟩, ⟨22, e_Implies (s_Implies N)⟩] g ds K, memK := fun g dst ds m K => tabMK [] g dst ds m K, meth := tabM [], keep := fun _ => [], keepX := fun _ => [], loopT := fun _ _ _ _ => none, jumps := 9 }
theorem s_works_ok (N : Nat)  : bodyK (cx_works N) Tryd.f16 [] [] r_works = s_works N  := by
  kernel_rfl
theorem go_works : Goes Tryd.prog 16 := goes_of Tryd.func16 (by kernel_rfl) (c := bodyOf Tryd.f16) (by kernel_rfl)
theorem eo_works (s : Option (Bool)) (hs : ∀  (r0 : Bool), s  = some r0 → PureRet Tryd.prog T 16 [] [.v (.bool r0) .no]) : EntOK Tryd.prog T ⟨16, e_works s⟩ := by
  refine ⟨go_works, fun R ds K r h => ?_, fun R ds K => ?_⟩
  · simp only [e_works] at h
    split at h
    · obtain ⟨r0, h1, h2⟩ := bnd1_some h
      exact ⟨_, h2, hs _ h1⟩
    · cases h
  · simp only [e_works]
    split
    · rw [bnd1_b]; rfl
    · rfl
theorem co_works (N : Nat) : CxOK Tryd.prog (cx_works N) :=
  cxOK_of2 (es := [⟨25, e_aEncode (s_aEncode N)⟩, ⟨19, e_aHolds (s_aHolds N)⟩, ⟨27, e_aText (s_aText N)⟩, ⟨22, e_Implies (s_Implies N)⟩]) (me := []) (ms := []) T_ok ⟨eo_aEncode _ (p_aEncode N), eo_aHolds _ (p_aHolds N), eo_aText _ (p_aText N), eo_Implies _ (p_Implies N), trivial⟩ trivial trivial rfl (fun _ _ _ _ => rfl) (fun _ _ _ _ _ _ => rfl) rfl
theorem lo_works (N : Nat) : LoopsOK (cx_works N) Tryd.f16.ntmps (bodyOf Tryd.f16) :=
  loopsOK_of (k := 0) (by kernel_rfl) trivial
theorem p_works (N : Nat)  (r0 : Bool) (h : s_works N  = some r0) : PureRet Tryd.prog T 16 [] [.v (.bool r0) .no] :=
  pure_of (cx := cx_works N) (by kernel_rfl) (co_works N) Tryd.func16 (by kernel_rfl) (by kernel_rfl) (lo_works N) rfl rfl rfl (rf := r_works) ((s_works_ok N ).trans h) (fun rs' m h => by
    unfold r_works at h
    split at h
    · cases h; exact ⟨rfl, rfl⟩
    · cases h)
noncomputable def r_wImplies (rs : List D) (_ : Mem) : Option (Bool) :=
  match rs with
  | [.v (.bool r0) _] => some (r0)
  | _ => none
noncomputable def s_wImplies (N : Nat) (x0 : Int) (x1 : Int) (x2 : List V) (x3 : Int) (x4 : Int) (x5 : List V) : Option (Bool) :=
  bnd1 (s_lfew N [V.agg [V.int IntKind.i64 x0, V.int IntKind.i64 x1, V.sl 24 x2], V.agg [V.int IntKind.i64 x3, V.int IntKind.i64 x4, V.sl 24 x5]]) fun b0 =>
  br (!b0) (bnd1 (s_works N) fun b1 => some b1)
    (bnd1 (s_qAtoms N x0 x1 x2 x3 x4 x5) fun n2 =>
      br (decide (12 < n2)) (bnd1 (s_works N) fun b3 => some b3) (bnd1 (s_Implies N x0 x1 x2 x3 x4 x5) fun b4 => bnd1 (s_qImplies N x0 x1 x2 x3 x4 x5) fun b5 => br (b4 == b5) (bnd1 (s_works N) fun b6 => some b6) (some false)))
noncomputable def cx_wImplies (N : Nat) : Cx := { T := T, isPure := tabP [⟨15, e_lfew (s_lfew N)⟩, ⟨21, e_qAtoms (s_qAtoms N)⟩, ⟨16, e_works (s_works N)⟩, ⟨22, e_Implies (s_Implies N)⟩, ⟨23, e_qImplies (s_qImplies N)⟩], pureK := fun g ds K => tabK [⟨15, e_lfew (s_lfew N)⟩, ⟨21, e_qAtoms (s_qAtoms N)⟩, ⟨16, e_works (s_works N)⟩, ⟨22, e_Implies (s_Implies N)⟩, ⟨23, e_qImplies (s_qImplies N)⟩] g ds K, memK := fun g dst ds m K => tabMK [] g dst ds m K, meth := tabM [], keep := fun _ => [], keepX := fun _ => [], loopT := fun _ _ _ _ => none, jumps := 9 }
theorem s_wImplies_ok (N : Nat) (x0 : Int) (x1 : Int) (x2 : List V) (x3 : Int) (x4 : Int) (x5 : List V) : bodyK (cx_wImplies N) Tryd.f5 [.agg [.v (.int .i64 x0) .no, .v (.int .i64 x1) .no, .v (.sl 24 x2) .no], .agg [.v (.int .i64 x3) .no, .v (.int .i64 x4) .no, .v (.sl 24 x5) .no]] [] r_wImplies = s_wImplies N x0 x1 x2 x3 x4 x5 := by
  kernel_rfl
theorem co_wImplies (N : Nat) : CxOK Tryd.prog (cx_wImplies N) :=
  cxOK_of2 (es := [⟨15, e_lfew (s_lfew N)⟩, ⟨21, e_qAtoms (s_qAtoms N)⟩, ⟨16, e_works (s_works N)⟩, ⟨22, e_Implies (s_Implies N)⟩, ⟨23, e_qImplies (s_qImplies N)⟩]) (me := []) (ms := []) T_ok ⟨eo_lfew _ (p_lfew N), eo_qAtoms _ (p_qAtoms N), eo_works _ (p_works N), eo_Implies _ (p_Implies N), eo_qImplies _ (p_qImplies N), trivial⟩ trivial trivial rfl (fun _ _ _ _ => rfl) (fun _ _ _ _ _ _ => rfl) rfl
theorem lo_wImplies (N : Nat) : LoopsOK (cx_wImplies N) Tryd.f5.ntmps (bodyOf Tryd.f5) :=
  loopsOK_of (k := 0) (by kernel_rfl) trivial
theorem p_wImplies (N : Nat) (x0 : Int) (x1 : Int) (x2 : List V) (x3 : Int) (x4 : Int) (x5 : List V) (r0 : Bool) (h : s_wImplies N x0 x1 x2 x3 x4 x5 = some r0) : PureRet Tryd.prog T 5 [.agg [.v (.int .i64 x0) .no, .v (.int .i64 x1) .no, .v (.sl 24 x2) .no], .agg [.v (.int .i64 x3) .no, .v (.int .i64 x4) .no, .v (.sl 24 x5) .no]] [.v (.bool r0) .no] :=
  pure_of (cx := cx_wImplies N) (by kernel_rfl) (co_wImplies N) Tryd.func5 (by kernel_rfl) (by kernel_rfl) (lo_wImplies N) rfl rfl rfl (rf := r_wImplies) ((s_wImplies_ok N x0 x1 x2 x3 x4 x5).trans h) (fun rs' m h => by
    unfold r_wImplies at h
    split at h
    · cases h; exact ⟨rfl, rfl⟩
    · cases h)
noncomputable def r_wSound (rs : List D) (_ : Mem) : Option (Bool) :=
  match rs with
  | [.v (.bool r0) _] => some (r0)
  | _ => none
noncomputable def s_wSound (N : Nat) (x0 : Int) (x1 : Int) (x2 : List V) (x3 : Int) (x4 : Int) (x5 : List V) (x6 : Int) (x7 : Int) (x8 : Int) (x9 : Int) : Option (Bool) :=
  bnd1 (s_lfew N [V.agg [V.int IntKind.i64 x0, V.int IntKind.i64 x1, V.sl 24 x2], V.agg [V.int IntKind.i64 x3, V.int IntKind.i64 x4, V.sl 24 x5]]) fun b0 =>
  br (!b0) (bnd1 (s_works N) fun b1 => some b1)
    (bnd1 (s_qAtoms N x0 x1 x2 x3 x4 x5) fun n2 =>
      br (decide (16 < n2)) (bnd1 (s_works N) fun b3 => some b3)
        (bnd1 (s_Implies N x0 x1 x2 x3 x4 x5) fun b4 =>
          br b4
            (bnd1 (s_aCheck N x0 x1 x2) fun n5 =>
              br (!decide (n5 = 0)) (some false)
                (bnd1 (s_aCheck N x3 x4 x5) fun n6 =>
                  br (!decide (n6 = 0)) (some false)
                    (bnd1 (s_aHolds N x0 x1 x2 x6 x7 x8 x9) fun b7 => br b7 (bnd1 (s_aHolds N x3 x4 x5 x6 x7 x8 x9) fun b8 => br (!b8) (some false) (bnd1 (s_works N) fun b9 => some b9)) (bnd1 (s_works N) fun b10 => some b10))))
            (bnd1 (s_works N) fun b11 => some b11)))
noncomputable def cx_wSound (N : Nat) : Cx := { T := T, isPure := tabP [⟨15, e_lfew (s_lfew N)⟩, ⟨21, e_qAtoms (s_qAtoms N)⟩, ⟨16, e_works (s_works N)⟩, ⟨22, e_Implies (s_Implies N)⟩, ⟨17, e_aCheck (s_aCheck N)⟩, ⟨19, e_aHolds (s_aHolds N)⟩], pureK := fun g ds K => tabK [⟨15, e_lfew (s_lfew N)⟩, ⟨21, e_qAtoms (s_qAtoms N)⟩, ⟨16, e_works (s_works N)⟩, ⟨22, e_Implies (s_Implies N)⟩, ⟨17, e_aCheck (s_aCheck N)⟩, ⟨19, e_aHolds (s_aHolds N)⟩] g ds K, memK := fun g dst ds m K => tabMK [] g dst ds m K, meth := tabM [], keep := fun _ => [], keepX := fun _ => [], loopT := fun _ _ _ _ => none, jumps := 9 }
theorem s_wSound_ok (N : Nat) (x0 : Int) (x1 : Int) (x2 : List V) (x3 : Int) (x4 : Int) (x5 : List V) (x6 : Int) (x7 : Int) (x8 : Int) (x9 : Int) : bodyK (cx_wSound N) Tryd.f6 [.agg [.v (.int .i64 x0) .no, .v (.int .i64 x1) .no, .v (.sl 24 x2) .no], .agg [.v (.int .i64 x3) .no, .v (.int .i64 x4) .no, .v (.sl 24 x5) .no], .agg [.v (.int .i64 x6) .no, .v (.int .i64 x7) .no, .v (.int .i64 x8) .no, .v (.int .i64 x9) .no]] [] r_wSound = s_wSound N x0 x1 x2 x3 x4 x5 x6 x7 x8 x9 := by
  kernel_rfl
theorem co_wSound (N : Nat) : CxOK Tryd.prog (cx_wSound N) :=
  cxOK_of2 (es := [⟨15, e_lfew (s_lfew N)⟩, ⟨21, e_qAtoms (s_qAtoms N)⟩, ⟨16, e_works (s_works N)⟩, ⟨22, e_Implies (s_Implies N)⟩, ⟨17, e_aCheck (s_aCheck N)⟩, ⟨19, e_aHolds (s_aHolds N)⟩]) (me := []) (ms := []) T_ok ⟨eo_lfew _ (p_lfew N), eo_qAtoms _ (p_qAtoms N), eo_works _ (p_works N), eo_Implies _ (p_Implies N), eo_aCheck _ (p_aCheck N), eo_aHolds _ (p_aHolds N), trivial⟩ trivial trivial rfl (fun _ _ _ _ => rfl) (fun _ _ _ _ _ _ => rfl) rfl
theorem lo_wSound (N : Nat) : LoopsOK (cx_wSound N) Tryd.f6.ntmps (bodyOf Tryd.f6) :=
  loopsOK_of (k := 0) (by kernel_rfl) trivial
theorem p_wSound (N : Nat) (x0 : Int) (x1 : Int) (x2 : List V) (x3 : Int) (x4 : Int) (x5 : List V) (x6 : Int) (x7 : Int) (x8 : Int) (x9 : Int) (r0 : Bool) (h : s_wSound N x0 x1 x2 x3 x4 x5 x6 x7 x8 x9 = some r0) : PureRet Tryd.prog T 6 [.agg [.v (.int .i64 x0) .no, .v (.int .i64 x1) .no, .v (.sl 24 x2) .no], .agg [.v (.int .i64 x3) .no, .v (.int .i64 x4) .no, .v (.sl 24 x5) .no], .agg [.v (.int .i64 x6) .no, .v (.int .i64 x7) .no, .v (.int .i64 x8) .no, .v (.int .i64 x9) .no]] [.v (.bool r0) .no] :=
  pure_of (cx := cx_wSound N) (by kernel_rfl) (co_wSound N) Tryd.func6 (by kernel_rfl) (by kernel_rfl) (lo_wSound N) rfl rfl rfl (rf := r_wSound) ((s_wSound_ok N x0 x1 x2 x3 x4 x5 x6 x7 x8 x9).trans h) (fun rs' m h => by
    unfold r_wSound at h
    split at h
    · cases h; exact ⟨rfl, rfl⟩
    · cases h)
noncomputable def r_wOrder (rs : List D) (_ : Mem) : Option (Bool) :=
  match rs with
  | [.v (.bool r0) _] => some (r0)
  | _ => none
noncomputable def s_wOrder (N : Nat) (x0 : Int) (x1 : Int) (x2 : List V) (x3 : Int) (x4 : Int) (x5 : List V) (x6 : Int) (x7 : Int) (x8 : List V) : Option (Bool) :=
  bnd1 (s_lfew N [V.agg [V.int IntKind.i64 x0, V.int IntKind.i64 x1, V.sl 24 x2], V.agg [V.int IntKind.i64 x3, V.int IntKind.i64 x4, V.sl 24 x5], V.agg [V.int IntKind.i64 x6, V.int IntKind.i64 x7, V.sl 24 x8]]) fun b0 =>
  br (!b0) (bnd1 (s_works N) fun b1 => some b1)
    (bnd1 (s_qAtoms N x0 x1 x2 6 0 [V.agg [V.int IntKind.i64 x3, V.int IntKind.i64 x4, V.sl 24 x5], V.agg [V.int IntKind.i64 x6, V.int IntKind.i64 x7, V.sl 24 x8]]) fun n2 =>
      br (decide (12 < n2)) (bnd1 (s_works N) fun b3 => some b3)
        (bnd1 (s_aCheck N x0 x1 x2) fun n4 =>
          br (!decide (n4 = 0)) (bnd1 (s_works N) fun b5 => some b5)
            (bnd1 (s_aCheck N x3 x4 x5) fun n6 =>
              br (!decide (n6 = 0)) (bnd1 (s_works N) fun b7 => some b7)
                (bnd1 (s_aCheck N x6 x7 x8) fun n8 =>
                  br (!decide (n8 = 0)) (bnd1 (s_works N) fun b9 => some b9)
                    (bnd1 (s_Implies N x0 x1 x2 x0 x1 x2) fun b10 =>
                      br (!b10) (some false)
                        (bnd1 (s_Implies N x0 x1 x2 x3 x4 x5) fun b11 =>
                          br b11
                            (bnd1 (s_Implies N x3 x4 x5 x6 x7 x8) fun b12 =>
                              br b12
                                (bnd1 (s_Implies N x0 x1 x2 x6 x7 x8) fun b13 =>
                                  br (!b13) (some false)
                                    (bnd1 (s_Implies N 0 0 [] x0 x1 x2) fun b14 =>
                                      br (!b14) (some false)
                                        (bnd1 (s_Implies N x0 x1 x2 1 0 []) fun b15 =>
                                          br (!b15) (some false)
                                            (bnd1 (s_aCheck N 6 0 [V.agg [V.int IntKind.i64 x0, V.int IntKind.i64 x1, V.sl 24 x2], V.agg [V.int IntKind.i64 x3, V.int IntKind.i64 x4, V.sl 24 x5]]) fun n16 =>
                                              br (decide (n16 = 0))
                                                (bnd1 (s_Implies N 6 0 [V.agg [V.int IntKind.i64 x0, V.int IntKind.i64 x1, V.sl 24 x2], V.agg [V.int IntKind.i64 x3, V.int IntKind.i64 x4, V.sl 24 x5]] x0 x1 x2) fun b17 =>
                                                  br (!b17) (some false)
                                                    (bnd1 (s_Implies N 6 0 [V.agg [V.int IntKind.i64 x0, V.int IntKind.i64 x1, V.sl 24 x2], V.agg [V.int IntKind.i64 x3, V.int IntKind.i64 x4, V.sl 24 x5]] x3 x4 x5) fun b18 =>
                                                      br (!b18) (some false)
                                                        (bnd1 (s_aCheck N 7 0 [V.agg [V.int IntKind.i64 x0, V.int IntKind.i64 x1, V.sl 24 x2], V.agg [V.int IntKind.i64 x3, V.int IntKind.i64 x4, V.sl 24 x5]]) fun n19 =>
                                                          br (!decide (n19 = 0)) (bnd1 (s_works N) fun b20 => some b20)
                                                            (bnd1 (s_Implies N x0 x1 x2 7 0 [V.agg [V.int IntKind.i64 x0, V.int IntKind.i64 x1, V.sl 24 x2], V.agg [V.int IntKind.i64 x3, V.int IntKind.i64 x4, V.sl 24 x5]]) fun b21 =>
                                                              br b21
                                                                (bnd1 (s_Implies N x3 x4 x5 7 0 [V.agg [V.int IntKind.i64 x0, V.int IntKind.i64 x1, V.sl 24 x2], V.agg [V.int IntKind.i64 x3, V.int IntKind.i64 x4, V.sl 24 x5]]) fun b22 =>
                                                                  br b22 (bnd1 (s_works N) fun b23 => some b23) (some false))
                                                                (some false)))))
                                                (bnd1 (s_aCheck N 7 0 [V.agg [V.int IntKind.i64 x0, V.int IntKind.i64 x1, V.sl 24 x2], V.agg [V.int IntKind.i64 x3, V.int IntKind.i64 x4, V.sl 24 x5]]) fun n24 =>
                                                  br (!decide (n24 = 0)) (bnd1 (s_works N) fun b25 => some b25)
                                                    (bnd1 (s_Implies N x0 x1 x2 7 0 [V.agg [V.int IntKind.i64 x0, V.int IntKind.i64 x1, V.sl 24 x2], V.agg [V.int IntKind.i64 x3, V.int IntKind.i64 x4, V.sl 24 x5]]) fun b26 =>
                                                      br b26
                                                        (bnd1 (s_Implies N x3 x4 x5 7 0 [V.agg [V.int IntKind.i64 x0, V.int IntKind.i64 x1, V.sl 24 x2], V.agg [V.int IntKind.i64 x3, V.int IntKind.i64 x4, V.sl 24 x5]]) fun b27 =>
                                                          br b27 (bnd1 (s_works N) fun b28 => some b28) (some false))
                                                        (some false)))))))
                                (bnd1 (s_Implies N 0 0 [] x0 x1 x2) fun b29 =>
                                  br (!b29) (some false)
                                    (bnd1 (s_Implies N x0 x1 x2 1 0 []) fun b30 =>
                                      br (!b30) (some false)
                                        (bnd1 (s_aCheck N 6 0 [V.agg [V.int IntKind.i64 x0, V.int IntKind.i64 x1, V.sl 24 x2], V.agg [V.int IntKind.i64 x3, V.int IntKind.i64 x4, V.sl 24 x5]]) fun n31 =>
                                          br (decide (n31 = 0))
                                            (bnd1 (s_Implies N 6 0 [V.agg [V.int IntKind.i64 x0, V.int IntKind.i64 x1, V.sl 24 x2], V.agg [V.int IntKind.i64 x3, V.int IntKind.i64 x4, V.sl 24 x5]] x0 x1 x2) fun b32 =>
                                              br (!b32) (some false)
                                                (bnd1 (s_Implies N 6 0 [V.agg [V.int IntKind.i64 x0, V.int IntKind.i64 x1, V.sl 24 x2], V.agg [V.int IntKind.i64 x3, V.int IntKind.i64 x4, V.sl 24 x5]] x3 x4 x5) fun b33 =>
                                                  br (!b33) (some false)
                                                    (bnd1 (s_aCheck N 7 0 [V.agg [V.int IntKind.i64 x0, V.int IntKind.i64 x1, V.sl 24 x2], V.agg [V.int IntKind.i64 x3, V.int IntKind.i64 x4, V.sl 24 x5]]) fun n34 =>
                                                      br (!decide (n34 = 0)) (bnd1 (s_works N) fun b35 => some b35)
                                                        (bnd1 (s_Implies N x0 x1 x2 7 0 [V.agg [V.int IntKind.i64 x0, V.int IntKind.i64 x1, V.sl 24 x2], V.agg [V.int IntKind.i64 x3, V.int IntKind.i64 x4, V.sl 24 x5]]) fun b36 =>
                                                          br b36
                                                            (bnd1 (s_Implies N x3 x4 x5 7 0 [V.agg [V.int IntKind.i64 x0, V.int IntKind.i64 x1, V.sl 24 x2], V.agg [V.int IntKind.i64 x3, V.int IntKind.i64 x4, V.sl 24 x5]]) fun b37 =>
                                                              br b37 (bnd1 (s_works N) fun b38 => some b38) (some false))
                                                            (some false)))))
                                            (bnd1 (s_aCheck N 7 0 [V.agg [V.int IntKind.i64 x0, V.int IntKind.i64 x1, V.sl 24 x2], V.agg [V.int IntKind.i64 x3, V.int IntKind.i64 x4, V.sl 24 x5]]) fun n39 =>
                                              br (!decide (n39 = 0)) (bnd1 (s_works N) fun b40 => some b40)
                                                (bnd1 (s_Implies N x0 x1 x2 7 0 [V.agg [V.int IntKind.i64 x0, V.int IntKind.i64 x1, V.sl 24 x2], V.agg [V.int IntKind.i64 x3, V.int IntKind.i64 x4, V.sl 24 x5]]) fun b41 =>
                                                  br b41
                                                    (bnd1 (s_Implies N x3 x4 x5 7 0 [V.agg [V.int IntKind.i64 x0, V.int IntKind.i64 x1, V.sl 24 x2], V.agg [V.int IntKind.i64 x3, V.int IntKind.i64 x4, V.sl 24 x5]]) fun b42 =>
                                                      br b42 (bnd1 (s_works N) fun b43 => some b43) (some false))
                                                    (some false)))))))
                            (bnd1 (s_Implies N 0 0 [] x0 x1 x2) fun b44 =>
                              br (!b44) (some false)
                                (bnd1 (s_Implies N x0 x1 x2 1 0 []) fun b45 =>
                                  br (!b45) (some false)
                                    (bnd1 (s_aCheck N 6 0 [V.agg [V.int IntKind.i64 x0, V.int IntKind.i64 x1, V.sl 24 x2], V.agg [V.int IntKind.i64 x3, V.int IntKind.i64 x4, V.sl 24 x5]]) fun n46 =>
                                      br (decide (n46 = 0))
                                        (bnd1 (s_Implies N 6 0 [V.agg [V.int IntKind.i64 x0, V.int IntKind.i64 x1, V.sl 24 x2], V.agg [V.int IntKind.i64 x3, V.int IntKind.i64 x4, V.sl 24 x5]] x0 x1 x2) fun b47 =>
                                          br (!b47) (some false)
                                            (bnd1 (s_Implies N 6 0 [V.agg [V.int IntKind.i64 x0, V.int IntKind.i64 x1, V.sl 24 x2], V.agg [V.int IntKind.i64 x3, V.int IntKind.i64 x4, V.sl 24 x5]] x3 x4 x5) fun b48 =>
                                              br (!b48) (some false)
                                                (bnd1 (s_aCheck N 7 0 [V.agg [V.int IntKind.i64 x0, V.int IntKind.i64 x1, V.sl 24 x2], V.agg [V.int IntKind.i64 x3, V.int IntKind.i64 x4, V.sl 24 x5]]) fun n49 =>
                                                  br (!decide (n49 = 0)) (bnd1 (s_works N) fun b50 => some b50)
                                                    (bnd1 (s_Implies N x0 x1 x2 7 0 [V.agg [V.int IntKind.i64 x0, V.int IntKind.i64 x1, V.sl 24 x2], V.agg [V.int IntKind.i64 x3, V.int IntKind.i64 x4, V.sl 24 x5]]) fun b51 =>
                                                      br b51
                                                        (bnd1 (s_Implies N x3 x4 x5 7 0 [V.agg [V.int IntKind.i64 x0, V.int IntKind.i64 x1, V.sl 24 x2], V.agg [V.int IntKind.i64 x3, V.int IntKind.i64 x4, V.sl 24 x5]]) fun b52 =>
                                                          br b52 (bnd1 (s_works N) fun b53 => some b53) (some false))
                                                        (some false)))))
                                        (bnd1 (s_aCheck N 7 0 [V.agg [V.int IntKind.i64 x0, V.int IntKind.i64 x1, V.sl 24 x2], V.agg [V.int IntKind.i64 x3, V.int IntKind.i64 x4, V.sl 24 x5]]) fun n54 =>
                                          br (!decide (n54 = 0)) (bnd1 (s_works N) fun b55 => some b55)
                                            (bnd1 (s_Implies N x0 x1 x2 7 0 [V.agg [V.int IntKind.i64 x0, V.int IntKind.i64 x1, V.sl 24 x2], V.agg [V.int IntKind.i64 x3, V.int IntKind.i64 x4, V.sl 24 x5]]) fun b56 =>
                                              br b56
                                                (bnd1 (s_Implies N x3 x4 x5 7 0 [V.agg [V.int IntKind.i64 x0, V.int IntKind.i64 x1, V.sl 24 x2], V.agg [V.int IntKind.i64 x3, V.int IntKind.i64 x4, V.sl 24 x5]]) fun b57 =>
                                                  br b57 (bnd1 (s_works N) fun b58 => some b58) (some false))
                                                (some false))))))))))))
noncomputable def cx_wOrder (N : Nat) : Cx := { T := T, isPure := tabP [⟨15, e_lfew (s_lfew N)⟩, ⟨21, e_qAtoms (s_qAtoms N)⟩, ⟨17, e_aCheck (s_aCheck N)⟩, ⟨16, e_works (s_works N)⟩, ⟨22, e_Implies (s_Implies N)⟩], pureK := fun g ds K => tabK [⟨15, e_lfew (s_lfew N)⟩, ⟨21, e_qAtoms (s_qAtoms N)⟩, ⟨17, e_aCheck (s_aCheck N)⟩, ⟨16, e_works (s_works N)⟩, ⟨22, e_Implies (s_Implies N)⟩] g ds K, memK := fun g dst ds m K => tabMK [] g dst ds m K, meth := tabM [], keep := fun _ => [], keepX := fun _ => [], loopT := fun _ _ _ _ => none, jumps := 9 }
theorem s_wOrder_ok (N : Nat) (x0 : Int) (x1 : Int) (x2 : List V) (x3 : Int) (x4 : Int) (x5 : List V) (x6 : Int) (x7 : Int) (x8 : List V) : bodyK (cx_wOrder N) Tryd.f7 [.agg [.v (.int .i64 x0) .no, .v (.int .i64 x1) .no, .v (.sl 24 x2) .no], .agg [.v (.int .i64 x3) .no, .v (.int .i64 x4) .no, .v (.sl 24 x5) .no], .agg [.v (.int .i64 x6) .no, .v (.int .i64 x7) .no, .v (.sl 24 x8) .no]] [] r_wOrder = s_wOrder N x0 x1 x2 x3 x4 x5 x6 x7 x8 := by
  kernel_rfl
theorem co_wOrder (N : Nat) : CxOK Tryd.prog (cx_wOrder N) :=
  cxOK_of2 (es := [⟨15, e_lfew (s_lfew N)⟩, ⟨21, e_qAtoms (s_qAtoms N)⟩, ⟨17, e_aCheck (s_aCheck N)⟩, ⟨16, e_works (s_works N)⟩, ⟨22, e_Implies (s_Implies N)⟩]) (me := []) (ms := []) T_ok ⟨eo_lfew _ (p_lfew N), eo_qAtoms _ (p_qAtoms N), eo_aCheck _ (p_aCheck N), eo_works _ (p_works N), eo_Implies _ (p_Implies N), trivial⟩ trivial trivial rfl (fun _ _ _ _ => rfl) (fun _ _ _ _ _ _ => rfl) rfl
theorem lo_wOrder (N : Nat) : LoopsOK (cx_wOrder N) Tryd.f7.ntmps (bodyOf Tryd.f7) :=
  loopsOK_of (k := 0) (by kernel_rfl) trivial
theorem p_wOrder (N : Nat) (x0 : Int) (x1 : Int) (x2 : List V) (x3 : Int) (x4 : Int) (x5 : List V) (x6 : Int) (x7 : Int) (x8 : List V) (r0 : Bool) (h : s_wOrder N x0 x1 x2 x3 x4 x5 x6 x7 x8 = some r0) : PureRet Tryd.prog T 7 [.agg [.v (.int .i64 x0) .no, .v (.int .i64 x1) .no, .v (.sl 24 x2) .no], .agg [.v (.int .i64 x3) .no, .v (.int .i64 x4) .no, .v (.sl 24 x5) .no], .agg [.v (.int .i64 x6) .no, .v (.int .i64 x7) .no, .v (.sl 24 x8) .no]] [.v (.bool r0) .no] :=
  pure_of (cx := cx_wOrder N) (by kernel_rfl) (co_wOrder N) Tryd.func7 (by kernel_rfl) (by kernel_rfl) (lo_wOrder N) rfl rfl rfl (rf := r_wOrder) ((s_wOrder_ok N x0 x1 x2 x3 x4 x5 x6 x7 x8).trans h) (fun rs' m h => by
    unfold r_wOrder at h
    split at h
    · cases h; exact ⟨rfl, rfl⟩
    · cases h)
end Go.Proofs.YtahemenhcoedgaaDoor.En

/- The printed functions, together. -/

/- The texts of conditions: the program and the reference. -/
namespace Go.Proofs.YtahemenhcoedgaaDoor.En
open Go
set_option linter.unusedVariables false
def tS : Cl → List (List UInt8)
  | .nil => []
  | .cons o m k r => tC o m k :: tS r
theorem tS_tail : ∀ l : Cl, Lib.joinTail [44, 32] (tS l) = tL l false
  | .nil => rfl
  | .cons o m k r => by
    rw [tL_cons, ← tS_tail r]
    simp [tS, Lib.joinTail]
theorem tS_join : ∀ l : Cl, Lib.join (tS l) [44, 32] = tL l true
  | .nil => rfl
  | .cons o m k r => by
    show Lib.join (tC o m k :: tS r) [44, 32] = _
    rw [Lib.join_cons, tS_tail, tL_cons]; rfl
theorem tS_len : ∀ l : Cl, (tS l).length = l.len
  | .nil => rfl
  | .cons o m k r => by simp [tS, Cl.len, tS_len r]
theorem headB_len (o : Int) : (headB o).length ≤ 6 := by
  unfold headB
  (repeat' split) <;> simp
theorem numB_len (n : Int) : (numB n).length ≤ 2 := by unfold numB; split <;> simp
theorem tL_len : ∀ (l : Cl) (first : Bool), (tL l first).length ≤ 20 * l.nodes
  | .nil, _ => Nat.zero_le _
  | .cons o m k r, first => by
    have h1 := tL_len k true
    have h2 := tL_len r false
    have h3 := headB_len o
    have h4 := numB_len m
    rw [tL_cons]
    unfold tC
    simp only [List.length_append, Cl.nodes]
    have h5 : (bif first then ([] : List UInt8) else [44, 32]).length ≤ 2 := by cases first <;> simp
    split
    · simp only [List.length_cons, List.length_append, List.length_nil]; omega
    split
    · simp only [List.length_cons]; omega
    · simp only [List.length_nil]; omega
theorem flatS_str : ∀ ls : List (List UInt8), flatS (ls.map V.str) = some ls
  | [] => rfl
  | l :: ls => by simp [flatS, flatS_str ls]
section
variable (N : Nat)
theorem Itoa0 : ∀ n : Fin 100, s_Itoa 0 (n.val : Int) = some (numB (n.val : Int)) := by decide +kernel
theorem Itoa_eq {n : Int} (h : 0 ≤ n ∧ n < 100) : s_Itoa N n = some (numB n) := by
  obtain ⟨k, rfl⟩ := Int.eq_ofNat_of_zero_le h.1
  exact Itoa0 ⟨k, by omega⟩
theorem Join_eq (l : Cl) (h : l.nodes ≤ 1000) : s_Join N ((tS l).map V.str) [44, 32] = some (tL l true) := by
  have h1 := tL_len l true
  have h2 := tS_len l
  have h3 := Cl.len_le l
  unfold s_Join
  rw [flatS_str]
  show br (decide ((Lib.join (tS l) [44, 32]).length ≤ 1000000) && decide ((tS l).length ≤ 1000000)) _ _ = _
  rw [tS_join, decide_eq_true (by omega), decide_eq_true (by omega)]; rfl
theorem atext_loop {R : Type} (f : Int → Int → List V → Option (List UInt8)) (n : Nat) (hf : ∀ (o m : Int) (k : Cl), vC o m k = true → k.nodes < n → k.wf → K63 k → f o m k.enc = some (tC o m k)) (K : List V → Option R) (a4 a5 : Int) (a6 : List V) (a7 : List UInt8) (b8 b9 : Bool) (a10 a11 : Int) :
    ∀ (l : Cl) (pre : List V) (t : Nat) (acc : List V), vL l = true → l.len < t → l.nodes ≤ n → l.wf → pre.length + l.len ≤ 9223372036854775807 → acc.length + l.len ≤ 1000000 →
      S_atext_8 N f (pre ++ l.enc) ((pre ++ l.enc).length : Int) a4 a5 a6 a7 b8 b9 a10 a11 t acc (pre.length : Int) K = K (acc ++ (tS l).map V.str)
  | l, pre, 0, acc, _, ht, _, _, _, _ => by omega
  | .nil, pre, t + 1, acc, _, ht, _, _, _, _ => by
    unfold S_atext_8 F_atext_8
    simp only [Cl.enc, br_t, br_f, br_dec, br_not, br_and, br_or, bnd1_mk, bnd2_mk, bnd3_mk, bnd4_mk, bnd5_mk, at_zero, at_succ, at_mid, unInt_mk, unBool_mk, unStr_mk, unBytes_mk, unSl_mk, unAgg_mk, unCons_mk, unNil_mk, endI, if_false, tS, List.map_nil]
    rw [List.append_nil]
  | .cons o m k r, pre, t + 1, acc, hv, ht, hn, hw, hl, hb => by
    simp only [Cl.len, Cl.nodes] at ht hn hl hb
    rw [vL_cons, Bool.and_eq_true] at hv
    obtain ⟨_, _, hk1, hk2, hr⟩ := hw
    obtain ⟨h1, h2, h3, h4⟩ := stepC pre (ce o m k) r hl
    have ih := atext_loop f n hf K a4 a5 a6 a7 b8 b9 a10 a11 r (pre ++ [ce o m k]) t (acc ++ [V.str (tC o m k)]) hv.2 (by omega) (by omega) hr (by simp; omega) (by simp; omega)
    rw [← mid, ← h3] at ih
    have hc : (acc.length + [V.str (tC o m k)].length) * 16 ≤ 140737488355328 := by simp; omega
    unfold S_atext_8 F_atext_8
    simp only [enc_cons, br_t, br_f, br_dec, br_not, br_and, br_or, bnd1_mk, bnd2_mk, bnd3_mk, bnd4_mk, bnd5_mk, at_zero, at_succ, at_mid, unInt_mk, unBool_mk, unStr_mk, unBytes_mk, unSl_mk, unAgg_mk, unCons_mk, unNil_mk, h1, h2, if_true, Int.toNat_natCast, hf o m k hv.1 (by omega) hk2 hk1, hc]
    rw [ih]
    simp [tS]
theorem atext_eq : ∀ (M : Nat) (o m : Int) (k : Cl), vC o m k = true → k.nodes < M → k.nodes < N → k.nodes ≤ 1000 → k.wf → K63 k → s_atext N M o m k.enc = some (tC o m k)
  | 0, o, m, k, _, h, _, _, _, _ => by omega
  | M + 1, o, m, k, hv, h, hN, hs, hw, hl => by
    have hln := Cl.len_le k
    have hf := fun (o m : Int) (k' : Cl) (a0 : vC o m k' = true) (a1 : k'.nodes < k.nodes) (a2 : k'.wf) (a3 : K63 k') => atext_eq M o m k' a0 (by omega) (by omega) (by omega) a2 a3
    have hL : ∀ (K : List V → Option (List UInt8)) (x : Int) (a7 : List UInt8) (b8 b9 : Bool) (a10 a11 : Int), vL k = true → S_atext_8 N (s_atext N M) k.enc (k.enc.length : Int) x m k.enc a7 b8 b9 a10 a11 N [] 0 K = K ((tS k).map V.str) := fun K x a7 b8 b9 a10 a11 hvk =>
      atext_loop N (s_atext N M) k.nodes hf K x m k.enc a7 b8 b9 a10 a11 k [] N [] hvk (by omega) (Nat.le_refl _) hw (by simpa using hl) (by simp; omega)
    have hnum := vC_num hv
    have hnl := numB_len m
    have htl := tL_len k true
    unfold s_atext B_atext tC headB
    simp only [s_forms, bnd1_mk, br_dec, Itoa_eq N hnum]
    rcases vC_leaf hv with ⟨rfl, _, rfl⟩ | ⟨rfl, _, rfl⟩ | ⟨rfl, b1, b2, rfl⟩ | ⟨rfl, b1, b2, rfl⟩ | ⟨rfl, _, _, rfl⟩ | ⟨rfl, b1, b2, rfl⟩ | ⟨rfl | rfl, h1, h2, h3⟩
    · simp
    · simp
    · rw [if_neg (by omega), if_neg (by omega), if_pos rfl, if_pos (by omega)]; rfl
    · rw [if_neg (by omega), if_neg (by omega), if_neg (by omega), if_pos rfl, if_pos (by omega)]; rfl
    · rw [if_neg (by omega), if_neg (by omega), if_neg (by omega), if_neg (by omega), if_pos rfl, if_pos (by omega)]; rfl
    · rw [if_neg (by omega), if_neg (by omega), if_neg (by omega), if_neg (by omega), if_neg (by omega), if_pos rfl, if_pos (by omega)]; rfl
    · rw [if_neg (by omega), if_neg (by omega), if_neg (by omega), if_neg (by omega), if_neg (by omega), if_neg (by omega), if_pos rfl, hL _ _ _ _ _ _ _ h3, Join_eq N k (by omega), bnd1_mk, if_pos (by omega), if_pos (by
        show (97 :: 110 :: 100 :: 40 :: ([] ++ tL k true)).length + 1 ≤ _
        simp only [List.length_cons, List.nil_append]; omega)]; rfl
    · rw [if_neg (by omega), if_neg (by omega), if_neg (by omega), if_neg (by omega), if_neg (by omega), if_neg (by omega), if_neg (by omega), if_pos rfl, hL _ _ _ _ _ _ _ h3, Join_eq N k (by omega), bnd1_mk, if_pos (by omega), if_pos (by
        show (111 :: 114 :: 40 :: ([] ++ tL k true)).length + 1 ≤ _
        simp only [List.length_cons, List.nil_append]; omega)]; rfl
def textC (o m : Int) (k : Cl) : List UInt8 := if chk o m k = 0 then tC o m k else []
theorem aText_eq (o m : Int) (k : Cl) (g : GoodC N k) : s_aText N o m k.enc = some (textC o m k) := by
  unfold s_aText textC
  rw [aCheck_eq N o m k g, bnd1_mk, br_not, br_dec]
  by_cases hc : chk o m k = 0
  · rw [if_pos hc, if_pos hc, atext_eq N N o m k (chk_zero hc).1 g.fuel g.fuel (by have := (chk_zero hc).2.1; omega) g.wf g.len]; rfl
  · rw [if_neg hc, if_neg hc]
end
end Go.Proofs.YtahemenhcoedgaaDoor.En

/- The statements of chapter 14 in plain Lean, but those that count atoms. -/
namespace Go.Proofs.YtahemenhcoedgaaDoor.En
open Go
set_option linter.unusedVariables false
def exK : Cl := .cons 2 1 .nil (.cons 7 0 (.cons 3 2 .nil (.cons 4 3 .nil .nil)) .nil)
section
variable (N : Nat)
theorem works_eq (hN : 200000 < N) : s_works N = some true := by
  have wk : exK.wf := by simp [exK, Cl.wf, Cl.len]
  have hn : exK.nodes = 4 := rfl
  have gk : GoodC N exK := ⟨wk, by show (2 : Nat) ≤ _; omega, by omega, by omega⟩
  have g0 : GoodC N .nil := ⟨trivial, Nat.zero_le _, Nat.zero_le _, by show 0 < N; omega⟩
  have e1 : s_aEncode N (rE [⟨3, 6, 0, exK⟩]) = some ([128, 11, 3, 6, 2, 2, 1, 7, 2, 3, 2, 4, 3], 0) := by
    rw [aEncode_eq N [⟨3, 6, 0, exK⟩] ⟨by simp, by omega, by intro r hr; simp at hr; subst hr; exact gk⟩]
    exact congrArg some (by decide +kernel)
  have e2 : s_aHolds N 6 0 exK.enc 2 4 0 0 = some true := by
    have := aHolds_eq N ⟨2, 4, 0, 0⟩ 6 0 exK gk
    rw [show holdsP ⟨2, 4, 0, 0⟩ 6 0 exK = true by decide +kernel] at this; exact this
  have e3 : s_aHolds N 6 0 exK.enc 2 0 4 0 = some true := by
    have := aHolds_eq N ⟨2, 0, 4, 0⟩ 6 0 exK gk
    rw [show holdsP ⟨2, 0, 4, 0⟩ 6 0 exK = true by decide +kernel] at this; exact this
  have e4 : s_aHolds N 6 0 exK.enc 1 0 0 0 = some false := by
    have := aHolds_eq N ⟨1, 0, 0, 0⟩ 6 0 exK gk
    rw [show holdsP ⟨1, 0, 0, 0⟩ 6 0 exK = false by decide +kernel] at this; exact this
  have e5 : s_aText N 6 0 exK.enc = some [97, 110, 100, 40, 112, 105, 110, 32, 49, 44, 32, 111, 114, 40, 107, 101, 121, 32, 50, 44, 32, 115, 116, 97, 116, 101, 32, 51, 41, 41] := by
    rw [aText_eq N 6 0 exK gk]
    exact congrArg some (by decide +kernel)
  have e6 : s_Implies N 4 3 [] 4 2 [] = some true := by
    have := Implies_eq N hN 4 3 .nil 4 2 .nil g0 g0
    rw [show impP 4 3 .nil 4 2 .nil = true by decide +kernel] at this; exact this
  have e7 : s_Implies N 2 1 [] 3 2 [] = some false := by
    have := Implies_eq N hN 2 1 .nil 3 2 .nil g0 g0
    rw [show impP 2 1 .nil 3 2 .nil = false by decide +kernel] at this; exact this
  unfold s_works
  show bnd2 (s_aEncode N (rE [⟨3, 6, 0, exK⟩])) _ = _
  rw [e1, bnd2_mk]
  show bnd1 (s_aHolds N 6 0 exK.enc 2 4 0 0) _ = _
  rw [e2, bnd1_mk, br_t]
  show bnd1 (s_aHolds N 6 0 exK.enc 2 0 4 0) _ = _
  rw [e3, bnd1_mk, br_t]
  show bnd1 (s_aHolds N 6 0 exK.enc 1 0 0 0) _ = _
  rw [e4, bnd1_mk, br_not, br_f, br_dec, if_pos rfl, br_dec, if_pos (by simp), br_dec, if_pos rfl]
  show bnd1 (s_aText N 6 0 exK.enc) _ = _
  rw [e5, bnd1_mk, br_dec, if_pos rfl, e6, bnd1_mk, br_t, e7, bnd1_mk]; rfl
/-- A condition that came in. -/
structure ArgC (o m : Int) (k : Cl) : Prop where
  o : I64 o
  m : I64 m
  wf : k.wf
  len : K63 k
theorem ArgC.good {o m : Int} {k : Cl} (g : ArgC o m k) {N : Nat} (hN : 200000 < N) (h : k.nodes ≤ 199) : GoodC N k := ⟨g.wf, g.len, by omega, by omega⟩
theorem few2 {o m : Int} {k : Cl} {o' m' : Int} {k' : Cl} (g : ArgC o m k) (g' : ArgC o' m' k') (h : k.nodes + k'.nodes + 2 < N) :
    s_lfew N [V.agg [V.int IntKind.i64 o, V.int IntKind.i64 m, V.sl 24 k.enc], V.agg [V.int IntKind.i64 o', V.int IntKind.i64 m', V.sl 24 k'.enc]] = some (decide (k.nodes ≤ 199) && decide (k'.nodes ≤ 199)) := by
  have := lfew_eq N (.cons o m k (.cons o' m' k' .nil)) (by simp only [Cl.nodes]; omega) ⟨g.o, g.m, g.len, g.wf, g'.o, g'.m, g'.len, g'.wf, trivial⟩ (by simp [Cl.len])
  rw [show fewL (.cons o m k (.cons o' m' k' .nil)) = (decide (k.nodes ≤ 199) && decide (k'.nodes ≤ 199)) by simp [fewL]] at this
  exact this
/-- Rules that came in. -/
structure ArgR (l : List Ru) : Prop where
  all : ∀ r ∈ l, ArgC r.o r.m r.k ∧ I64 r.ops
  len : l.length ≤ 9223372036854775807
/-! The statements -/
end
end Go.Proofs.YtahemenhcoedgaaDoor.En

/- The engine, part 2s: rows: arguments that came in, what a law's function leaves. -/
namespace Go.Proofs.YtahemenhcoedgaaDoor.En
open Go Go.RowKit Go.WideShapes
set_option linter.unusedVariables false
theorem own : ownKnob Tryd.prog.godebug = none := by kernel_rfl
theorem laidOut : laidOutB Tryd.prog = true := by kernel_rfl
section
variable {P : Program} {T : TypeId → Option Ty} {f : FuncId} {w : World}
def noEnv : Env := { d := 0, dom := fun _ _ => False }
theorem walk_of {ds : List D} (hp : PureRet P T f ds [.v (.bool true) .no]) {us : List Value} (hr : RepDs noEnv (immG T) w [] ds us) :
    Calls P f us.toArray w fun e w' => e = .returned (.bool true) ∧ Below w.heap.size w w' := by
  refine (hp noEnv (immG T) w us rfl hr).mono ?_
  rintro e w' ⟨us', g', rfl, h1, h2⟩
  obtain ⟨l, hr'⟩ := h1 noEnv
  match us', l with
  | [u], _ =>
  have := hr' 0 _ rfl
  simp only [List.getD_cons_zero] at this
  cases this with
  | v x a v h ha =>
  cases h
  exact ⟨rfl, ⟨h2.grows.os, h2.grows.tape, h2.grows.output, h2.grows.size, h2.grows.old⟩⟩
theorem reps_nil : RepDs noEnv (immG T) w [] [] [] := ⟨rfl, fun k y h => by simp at h⟩
theorem reps_cons {d : D} {u : Value} {ds : List D} {us : List Value} (h : RepD noEnv (immG T) w [] d u) (hs : RepDs noEnv (immG T) w [] ds us) : RepDs noEnv (immG T) w [] (d :: ds) (u :: us) :=
  ⟨by simp [hs.1], fun k y hk => by
    rcases k with _ | k
    · simp at hk; subst hk; exact h
    · simpa using hs.2 k y (by simpa using hk)⟩
theorem rep_agg {cs : List V} {u : Value} (h : RepV (immG T) w (.agg cs) u) : RepD noEnv (immG T) w [] (.agg (cs.map vD)) u := by
  cases h with
  | agg cs us hn hr =>
    refine .agg _ us (by simpa using hn) fun k y hk => ?_
    rw [List.getElem?_map, Option.map_eq_some_iff] at hk
    obtain ⟨z, hz, rfl⟩ := hk
    exact .v _ _ _ (hr k z hz) trivial
variable {H : Type} {enc : TypeId × Value → H} {base : Nat} {spare : Nat → Bool} {held : Bool} {r : Reach} {b0 : Nat} {t : TypeId} {v : Value} {d : DataW H} {ps : List MemPlace} {l : List TypeId}
theorem row_of (hT : TypesOK P T) {desc : TypeDesc} (ht : P.underlying t = some desc) {ty : Ty} (h : T t = some ty) : ty.desc = desc := by
  have := (hT t ty h).desc
  rw [ht] at this
  injection this with this
  exact this.symm
theorem arg_struct (hT : TypesOK P T) (hl : closedT T l = true) (hm : t ∈ l) {fs : Array Field} (ht : P.underlying t = some (.struct fs)) (hv : Value.okWide P w r b0 t v) (hd : DataW.Trod enc P w base spare held t v d ps) :
    ∃ n cs, Fits T n t cs ∧ RepV (immG T) w (.agg cs) v := by
  obtain ⟨cs, rfl, _⟩ := okWide_struct ht hv
  obtain ⟨n, x, h1, h2, h3⟩ := arg_rep hT hl hm (fun ty hty => ⟨fun _ => ⟨cs, rfl⟩, fun hr => (by rw [Ty.row, row_of hT ht hty] at hr; cases hr)⟩) hd
  cases h2 with
  | agg ys us a b => exact ⟨n, ys, h1, .agg ys _ a b⟩
/-- What fits a type of one cell. -/
theorem fits_int {k : IntKind} {ty : Ty} (h : T t = some ty) (hd : ty.desc = .int k) {n : Nat} {xs : List V} (hf : Fits T n t xs) : ∃ i, xs = [.int k i] ∧ k.min ≤ i ∧ i ≤ k.max := by
  cases n with
  | zero => cases hf
  | succ n => unfold Fits at hf; rw [h] at hf; simp only [hd] at hf; exact hf
theorem fits_slice {e e' : TypeId} {ty te : Ty} (h : T t = some ty) (hd : ty.desc = .slice e) (hc : ty.cks = [.slc e']) (he : T e = some te) {n : Nat} {xs : List V} (hf : Fits T n t xs) :
    ∃ m ys, n = m + 1 ∧ xs = [.sl e ys] ∧ ys.length ≤ maxLen ∧ ∀ y ∈ ys, ∃ cs, y = mkEl te.row cs ∧ Fits T m e cs := by
  cases n with
  | zero => cases hf
  | succ n =>
    unfold Fits at hf; rw [h] at hf; simp only [hd, hc] at hf
    obtain ⟨rfl, ys, h1, h2, h3⟩ := hf
    refine ⟨n, ys, rfl, h1, h2, fun y hy => ?_⟩
    obtain ⟨te', cs, h4, h5, h6⟩ := h3 y hy
    rw [he] at h4
    injection h4 with h4
    subst h4
    exact ⟨cs, h5, h6⟩
theorem fits_struct {fs : Array Field} {ty : Ty} (h : T t = some ty) (hd : ty.desc = .struct fs) {n : Nat} {xs : List V} (hf : Fits T n t xs) : ∃ m, n = m + 1 ∧ FitsFs (Fits T m) fs.toList xs := by
  cases n with
  | zero => cases hf
  | succ n => unfold Fits at hf; rw [h] at hf; simp only [hd] at hf; exact ⟨n, rfl, hf⟩
end
end Go.Proofs.YtahemenhcoedgaaDoor.En

/- What the arguments of chapter 14 read as. -/
namespace Go.Proofs.YtahemenhcoedgaaDoor.En
open Go Go.RowKit
set_option linter.unusedVariables false
theorem T_int : T 3 = some ty3 := by kernel_rfl
theorem T_cond : T 24 = some ty24 := by kernel_rfl
theorem T_conds : T 22 = some ty22 := by kernel_rfl
theorem T_sec : T 31 = some ty31 := by kernel_rfl
theorem max63 {n : Nat} (h : n ≤ maxLen) : n ≤ 9223372036854775807 := by unfold maxLen at h; omega
theorem cl_of : ∀ (n : Nat) (ys : List V), (∀ y ∈ ys, ∃ cs, y = mkEl true cs ∧ Fits T n 24 cs) → ys.length ≤ maxLen → ∃ l : Cl, ys = l.enc ∧ l.wf ∧ K63 l := by
  intro n
  induction n using Nat.strongRecOn with
  | ind n IH =>
    intro ys
    induction ys with
    | nil => intro _ _; exact ⟨.nil, rfl, trivial, Nat.zero_le _⟩
    | cons y ys ih =>
      intro hy hl
      obtain ⟨r, h1, h2, _⟩ := ih (fun z hz => hy z (List.mem_cons_of_mem _ hz)) (by simp at hl; omega)
      obtain ⟨cs, rfl, hc⟩ := hy y (by simp)
      obtain ⟨m, rfl, a, r1, rfl, ha, b, r2, rfl, hb, c, r3, rfl, hcc, rfl⟩ := fits_struct T_cond rfl hc
      obtain ⟨t, rfl, t1, t2⟩ := fits_int T_int rfl ha
      obtain ⟨v, rfl, v1, v2⟩ := fits_int T_int rfl hb
      obtain ⟨m', ks, rfl, rfl, k1, k2⟩ := fits_slice T_conds rfl rfl T_cond hcc
      obtain ⟨k, rfl, k3, k4⟩ := IH m' (by omega) ks k2 k1
      refine ⟨.cons t v k r, by rw [h1]; rfl, ⟨⟨t1, t2⟩, ⟨v1, v2⟩, k4, k3, h2⟩, ?_⟩
      show r.len + 1 ≤ _
      rw [h1] at hl
      simp only [List.length_cons, Cl.enc_len] at hl
      exact max63 hl
theorem cond_arg {n : Nat} {cs : List V} (h : Fits T n 24 cs) : ∃ (o m : Int) (k : Cl), cs = [.int .i64 o, .int .i64 m, .sl 24 k.enc] ∧ ArgC o m k := by
  obtain ⟨m, rfl, a, r1, rfl, ha, b, r2, rfl, hb, c, r3, rfl, hcc, rfl⟩ := fits_struct T_cond rfl h
  obtain ⟨t, rfl, t1, t2⟩ := fits_int T_int rfl ha
  obtain ⟨v, rfl, v1, v2⟩ := fits_int T_int rfl hb
  obtain ⟨m', ks, rfl, rfl, k1, k2⟩ := fits_slice T_conds rfl rfl T_cond hcc
  obtain ⟨k, rfl, k3, k4⟩ := cl_of m' ks k2 k1
  exact ⟨t, v, k, rfl, ⟨t1, t2⟩, ⟨v1, v2⟩, k3, k4⟩
theorem sec_arg {n : Nat} {cs : List V} (h : Fits T n 31 cs) : ∃ p q s v : Int, cs = [.int .i64 p, .int .i64 q, .int .i64 s, .int .i64 v] := by
  obtain ⟨m, rfl, a, r1, rfl, ha, b, r2, rfl, hb, c, r3, rfl, hc, d, r4, rfl, hd, rfl⟩ := fits_struct T_sec rfl h
  obtain ⟨p, rfl, _⟩ := fits_int T_int rfl ha
  obtain ⟨q, rfl, _⟩ := fits_int T_int rfl hb
  obtain ⟨s, rfl, _⟩ := fits_int T_int rfl hc
  obtain ⟨v, rfl, _⟩ := fits_int T_int rfl hd
  exact ⟨p, q, s, v, rfl⟩
/-- The types that the arguments lead to. -/
def argTys : List TypeId := [22, 24, 53, 37, 31, 3, 39, 5]
theorem argTys_ok : closedT T argTys = true := by kernel_rfl
end Go.Proofs.YtahemenhcoedgaaDoor.En

/- The world behind the door's own run: shared by all rows of chapter 14. -/
namespace Go.Proofs.YtahemenhcoedgaaDoor.En
open Go Go.Joins Go.ChangeShapes Go.WideShapes Go.ChangeAt Go.RowKit Go.Deep
theorem door_met (os : Os) (args : Array Value) : laidMetH Tryd.prog Rows.accessChecksRow.laid ((World.doorLaid Tryd.prog 400 os).forCall (fun _ _ => 0) ⟨#[], args, []⟩).memory :=
  laidMetH_of_parts3 (fuel := 8) (laidMet_of_run' 8 (by kernel_rfl) (by kernel_rfl)) (by kernel_rfl) (by kernel_rfl)
theorem door_shaped (os : Os) (args : Array Value) : ((World.doorLaid Tryd.prog 400 os).forCall (fun _ _ => 0) ⟨#[], args, []⟩).Shaped Tryd.prog :=
  World.shaped_of_RefB (by kernel_rfl) (by kernel_rfl)
end Go.Proofs.YtahemenhcoedgaaDoor.En

/- Which conditions imply which: the reference's Atoms and Implies. Plain. -/
namespace Go.Proofs.YtahemenhcoedgaaDoor.En
open Go
set_option linter.unusedVariables false
section
variable (N : Nat)
theorem lvQ_eq (n : Int) : ∀ (bs : List Int) (l : List At), (∀ b ∈ bs, -9223372036854775808 ≤ b ∧ b ≤ 9223372036854775807) → lvQ n bs l = lvs n bs l
  | [], l, _ => rfl
  | b :: bs, l, h => by
    unfold lvQ lvs
    have : hasQ n b = hasB (bv n) (bv b) := has_iff n b (h b (by simp))
    rw [this, lvQ_eq n bs _ (fun x hx => h x (by simp [hx]))]; rfl
theorem ownQ_eq (o n : Int) (l : List At) : ownQ o n l = ownA o n l := by
  unfold ownQ ownA
  rw [lvQ_eq n _ _ (by decide)]; rfl
theorem len_lvs (n : Int) : ∀ (bs : List Int) (l : List At), (lvs n bs l).length ≤ l.length + bs.length := fun bs l => by
  induction bs generalizing l with
  | nil => simp [lvs]
  | cons b bs ih =>
    unfold lvs
    have h1 : (addA l (5, b)).length ≤ l.length + 1 := addQ_len l (5, b)
    have h2 := ih (addA l (5, b))
    have h3 := ih l
    simp only [List.length_cons]
    cases hasB (bv n) (bv b)
    · simp only [cond_false]; omega
    · simp only [cond_true]; omega
theorem len_ownA (o n : Int) (l : List At) : (ownA o n l).length ≤ l.length + 6 := by
  unfold ownA
  split
  · exact len_lvs n _ l
  split
  · have : (addA l (o, n)).length ≤ l.length + 1 := addQ_len l (o, n)
    omega
  · omega
theorem len_atl : ∀ (c : Cl) (l : List At), (atl c l).length ≤ l.length + 6 * c.nodes
  | .nil, l => by simp [atl, Cl.nodes]
  | .cons o m k r, l => by
    unfold atl
    have h1 := len_atl k l
    have h2 := len_ownA o m (atl k l)
    have h3 := len_atl r (ownA o m (atl k l))
    simp only [Cl.nodes]; omega
theorem unA_ce (o m : Int) (k : List V) : unA (.agg [.int .i64 o, .int .i64 m, .sl 24 k]) = some (o, m, k) := rfl
theorem atLQ_eq (f : Int → Int → List V → List AtQ → Option (List AtQ)) (n : Nat) (hf : ∀ (o m : Int) (k : Cl) (l : List At), k.nodes < n → l.length + 6 * (k.nodes + 1) ≤ 90000 → f o m k.enc l = some (atl (.cons o m k .nil) l)) :
    ∀ (c : Cl) (l : List At), c.nodes ≤ n → l.length + 6 * c.nodes ≤ 90000 → atLQ f c.enc l = some (atl c l)
  | .nil, l, _, _ => rfl
  | .cons o m k r, l, h1, h2 => by
    simp only [Cl.nodes] at h1 h2
    have h3 := len_atl (.cons o m k .nil) l
    simp only [Cl.nodes] at h3
    rw [enc_cons]
    unfold atLQ
    rw [unA_ce, Option.bind_some, hf o m k l (by omega) (by omega), Option.bind_some, atLQ_eq f n hf r _ (by omega) (by omega)]
    rfl
theorem atQ_eq : ∀ (M : Nat) (o m : Int) (k : Cl) (l : List At), k.nodes < M → l.length + 6 * (k.nodes + 1) ≤ 90000 → atQ M o m k.enc l = some (atl (.cons o m k .nil) l)
  | 0, _, _, _, _, h, _ => by omega
  | M + 1, o, m, k, l, h1, h2 => by
    have h3 := len_atl k l
    unfold atQ
    rw [atLQ_eq (atQ M) k.nodes (fun o m k' l a b => atQ_eq M o m k' l (by omega) b) k l (Nat.le_refl _) (by omega), Option.bind_some, if_pos (by omega), ownQ_eq]
    rfl
/-- The atoms of two conditions. -/
def atoms2 (o m : Int) (k : Cl) (o' m' : Int) (k' : Cl) : List At := atl (.cons o' m' k' .nil) (atl (.cons o m k .nil) [])
theorem qAtoms_eq {o m : Int} {k : Cl} {o' m' : Int} {k' : Cl} (h1 : k.nodes < N) (h2 : k'.nodes < N) (h3 : k.nodes ≤ 1000) (h4 : k'.nodes ≤ 1000) : s_qAtoms N o m k.enc o' m' k'.enc = some ((atoms2 o m k o' m' k').length : Int) := by
  have a1 := len_atl (.cons o m k .nil) []
  have a2 := len_atl (.cons o' m' k' .nil) (atl (.cons o m k .nil) [])
  simp only [Cl.nodes, List.length_nil] at a1 a2
  unfold s_qAtoms
  rw [atQ_eq N o m k [] h1 (by simp; omega), Option.bind_some, atQ_eq N o' m' k' _ h2 (by omega), Option.bind_some, if_pos (by omega)]
  rfl
theorem qwith_eq {a : At} (hg : goodA a) (s : Sec) : s_qwith N s.p s.k s.s s.l a.1 a.2 [] = some ((wS s a).p, (wS s a).k, (wS s a).s, (wS s a).l) := by
  obtain ⟨o, n⟩ := a
  unfold s_qwith wS
  simp only [br_dec]
  rcases hg with ⟨h | h, h1, h2⟩ | ⟨h, h1⟩ | ⟨h, h1⟩ <;> simp only at h h1 <;> subst h
  · have e := shl1 (n := n.toNat) (by omega)
    rw [Int.toNat_of_nonneg (by omega)] at e
    have e0 : (0 : Int) ≤ n := by omega
    simp [wu64 (n := n) (by omega) (by omega), e, e0]
  · have e := shl1 (n := n.toNat) (by omega)
    rw [Int.toNat_of_nonneg (by omega)] at e
    have e0 : (0 : Int) ≤ n := by omega
    simp [wu64 (n := n) (by omega) (by omega), e, e0]
  · by_cases c : s.s < n <;> simp [c]
  · simp
theorem encA_cons (a : At) (l : List At) : encA (a :: l) = .agg [.int .i64 a.1, .int .i64 a.2, .sl 24 []] :: encA l := rfl
theorem encA_len (l : List At) : (encA l).length = l.length := by simp [encA]
theorem at_zeroQ {R α : Type} (x : α) (l : List α) (K : α → Option R) : at? (x :: l) 0 K = K x := rfl
theorem qimplied_eq {o m : Int} {k : Cl} {o' m' : Int} {k' : Cl} (v : vC o m k = true) (v' : vC o' m' k' = true) (g : GoodC N k) (g' : GoodC N k') : ∀ (l : List At) (M : Nat) (s : Sec), l.length < M → (∀ a ∈ l, goodA a) →
    s_qimplied N M o m k.enc o' m' k'.enc (encA l) s.p s.k s.s s.l = some (implB (fun s => satC s o m k) (fun s => satC s o' m' k') l s)
  | l, 0, s, h, _ => by omega
  | [], M + 1, s, _, _ => by
    unfold s_qimplied B_qimplied implB
    rw [qsat_eq N s N o m k v g.fuel g.fuel g.wf g.len, qsat_eq N s N o' m' k' v' g'.fuel g'.fuel g'.wf g'.len]
    show br true (bnd1 (some (satC s o m k)) _) _ = _
    rw [br_t, bnd1_mk, br_not, bnd1_mk]
    cases satC s o m k <;> rfl
  | a :: l, M + 1, s, h, hg => by
    simp only [List.length_cons] at h
    have ih := fun s => qimplied_eq v v' g g' l M s (by omega) (fun b hb => hg b (by simp [hb]))
    have hw := qwith_eq N (hg a (by simp)) s
    have ih2 := ih (wS s a)
    unfold s_qimplied B_qimplied implB
    have hlen : ((encA (a :: l)).length : Int) = (l.length : Int) + 1 := by rw [encA_len]; simp
    have hd : List.drop (Int.toNat 1) (encA (a :: l)) = encA l := rfl
    rw [hd, hlen, br_dec, if_neg (by omega), br_dec, if_pos (by omega), ih s, bnd1_mk, br_dec, if_pos (by omega), br_dec, if_pos (by omega), encA_cons, at_zeroQ, unAgg_mk, unCons_mk, unInt_mk, unCons_mk, unInt_mk, unCons_mk, unSl_mk, unNil_mk, hw, bnd4_mk, ih2, bnd1_mk]
    cases implB (fun s => satC s o m k) (fun s => satC s o' m' k') l s <;> rfl
theorem qImplies_eq {o m : Int} {k : Cl} {o' m' : Int} {k' : Cl} (g : GoodC N k) (g' : GoodC N k') (hN : 20000 < N) (h3 : k.nodes ≤ 1000) (h4 : k'.nodes ≤ 1000) : s_qImplies N o m k.enc o' m' k'.enc = some (impP o m k o' m' k') := by
  have a1 := len_atl (.cons o m k .nil) []
  have a2 := len_atl (.cons o' m' k' .nil) (atl (.cons o m k .nil) [])
  simp only [Cl.nodes, List.length_nil] at a1 a2
  unfold s_qImplies
  rw [qCheck_eq N o m k g, Option.bind_some]
  by_cases c : chk o m k = 0
  · rw [if_pos c, qCheck_eq N o' m' k' g', Option.bind_some]
    by_cases c' : chk o' m' k' = 0
    · obtain ⟨v, _, _⟩ := chk_zero c
      obtain ⟨v', _, _⟩ := chk_zero c'
      have hg : ∀ a ∈ atl (.cons o' m' k' .nil) (atl (.cons o m k .nil) []), goodA a := good_atl _ _ v' (good_atl _ _ v (by simp))
      rw [if_pos c', atQ_eq N o m k [] g.fuel (by simp; omega), Option.bind_some, atQ_eq N o' m' k' _ g'.fuel (by omega), Option.bind_some]
      have h := qimplied_eq N v v' g g' (atl (.cons o' m' k' .nil) (atl (.cons o m k .nil) [])) N zeroS (by omega) hg
      refine h.trans (congrArg some ?_)
      rw [Bool.eq_iff_iff, impl_ok v v', impP_iff]
      exact ⟨fun h => ⟨c, c', h⟩, fun h => h.2.2⟩
    · rw [if_neg c']
      have : impP o m k o' m' k' = false := by unfold impP; simp [c']
      rw [this]
  · rw [if_neg c]
    have : impP o m k o' m' k' = false := by unfold impP; simp [c]
    rw [this]
end
end Go.Proofs.YtahemenhcoedgaaDoor.En

/- The statements of chapter 14 in plain Lean: those that count atoms. -/
namespace Go.Proofs.YtahemenhcoedgaaDoor.En
open Go
set_option linter.unusedVariables false
section
variable (N : Nat)
theorem few3 {o m : Int} {k : Cl} {o' m' : Int} {k' : Cl} {o2 m2 : Int} {k2 : Cl} (g : ArgC o m k) (g' : ArgC o' m' k') (g2 : ArgC o2 m2 k2) (h : k.nodes + k'.nodes + k2.nodes + 3 < N) :
    s_lfew N [V.agg [V.int IntKind.i64 o, V.int IntKind.i64 m, V.sl 24 k.enc], V.agg [V.int IntKind.i64 o', V.int IntKind.i64 m', V.sl 24 k'.enc], V.agg [V.int IntKind.i64 o2, V.int IntKind.i64 m2, V.sl 24 k2.enc]] = some (decide (k.nodes ≤ 199) && (decide (k'.nodes ≤ 199) && decide (k2.nodes ≤ 199))) := by
  have := lfew_eq N (.cons o m k (.cons o' m' k' (.cons o2 m2 k2 .nil))) (by simp only [Cl.nodes]; omega) ⟨g.o, g.m, g.len, g.wf, g'.o, g'.m, g'.len, g'.wf, g2.o, g2.m, g2.len, g2.wf, trivial⟩ (by simp [Cl.len])
  rw [show fewL (.cons o m k (.cons o' m' k' (.cons o2 m2 k2 .nil))) = (decide (k.nodes ≤ 199) && (decide (k'.nodes ≤ 199) && decide (k2.nodes ≤ 199))) by simp [fewL]] at this
  exact this
theorem wImplies_eq (hN : 200000 < N) {o m : Int} {k : Cl} {o' m' : Int} {k' : Cl} (g : ArgC o m k) (g' : ArgC o' m' k') (h : k.nodes + k'.nodes + 2 < N) : s_wImplies N o m k.enc o' m' k'.enc = some true := by
  unfold s_wImplies
  rw [few2 N g g' h, bnd1_mk, works_eq N hN, br_not]
  by_cases c : k.nodes ≤ 199
  case neg => rw [decide_eq_false c]; rfl
  by_cases c' : k'.nodes ≤ 199
  case neg => rw [decide_eq_false c', Bool.and_false]; rfl
  have gg := g.good hN c
  have gg' := g'.good hN c'
  rw [decide_eq_true c, decide_eq_true c', Bool.and_self, br_t, qAtoms_eq N gg.fuel gg'.fuel (by omega) (by omega), bnd1_mk, br_dec]
  by_cases c2 : 12 < ((atoms2 o m k o' m' k').length : Int)
  · rw [if_pos c2]; rfl
  · rw [if_neg c2, Implies_eq N hN o m k o' m' k' gg gg', bnd1_mk, qImplies_eq N gg gg' (by omega) (by omega) (by omega), bnd1_mk, beq_self_eq_true]; rfl
theorem wSound_eq (hN : 200000 < N) {o m : Int} {k : Cl} {o' m' : Int} {k' : Cl} (g : ArgC o m k) (g' : ArgC o' m' k') (h : k.nodes + k'.nodes + 2 < N) (p q s l : Int) : s_wSound N o m k.enc o' m' k'.enc p q s l = some true := by
  unfold s_wSound
  rw [few2 N g g' h, bnd1_mk, works_eq N hN, br_not]
  by_cases c : k.nodes ≤ 199
  case neg => rw [decide_eq_false c]; rfl
  by_cases c' : k'.nodes ≤ 199
  case neg => rw [decide_eq_false c', Bool.and_false]; rfl
  have gg := g.good hN c
  have gg' := g'.good hN c'
  rw [decide_eq_true c, decide_eq_true c', Bool.and_self, br_t, qAtoms_eq N gg.fuel gg'.fuel (by omega) (by omega), bnd1_mk, br_dec]
  by_cases c2 : 16 < ((atoms2 o m k o' m' k').length : Int)
  · rw [if_pos c2]; rfl
  rw [if_neg c2, Implies_eq N hN o m k o' m' k' gg gg', bnd1_mk]
  cases hi : impP o m k o' m' k' with
  | false => rfl
  | true =>
    obtain ⟨h1, h2, h3⟩ := (impP_iff _ _ _ _ _ _).1 hi
    have a1 := aHolds_eq N ⟨p, q, s, l⟩ o m k gg
    have a2 := aHolds_eq N ⟨p, q, s, l⟩ o' m' k' gg'
    rw [br_t, aCheck_eq N o m k gg, bnd1_mk, br_not, br_dec, if_pos h1, aCheck_eq N o' m' k' gg', bnd1_mk, br_not, br_dec, if_pos h2, a1, bnd1_mk]
    cases hh : holdsP ⟨p, q, s, l⟩ o m k with
    | false => rfl
    | true =>
      have : holdsP ⟨p, q, s, l⟩ o' m' k' = true := by
        unfold holdsP at hh ⊢
        rw [Bool.and_eq_true] at hh ⊢
        exact ⟨by simpa using h2, h3 _ hh.2⟩
      rw [br_t, a2, bnd1_mk, this]; rfl
/-! Order -/
theorem impP_refl {o m : Int} {k : Cl} (h : chk o m k = 0) : impP o m k o m k = true := (impP_iff _ _ _ _ _ _).2 ⟨h, h, fun _ h => h⟩
theorem impP_trans {o m : Int} {k : Cl} {o' m' : Int} {k' : Cl} {o2 m2 : Int} {k2 : Cl} (h : impP o m k o' m' k' = true) (h' : impP o' m' k' o2 m2 k2 = true) : impP o m k o2 m2 k2 = true := by
  obtain ⟨h1, h2, h3⟩ := (impP_iff _ _ _ _ _ _).1 h
  obtain ⟨k1, k2, k3⟩ := (impP_iff _ _ _ _ _ _).1 h'
  exact (impP_iff _ _ _ _ _ _).2 ⟨h1, k2, fun x hx => k3 x (h3 x hx)⟩
theorem impP_never {o m : Int} {k : Cl} (h : chk o m k = 0) : impP 0 0 .nil o m k = true :=
  (impP_iff _ _ _ _ _ _).2 ⟨by decide, h, fun x hx => by simp [satC, satB] at hx⟩
theorem impP_always {o m : Int} {k : Cl} (h : chk o m k = 0) : impP o m k 1 0 .nil = true :=
  (impP_iff _ _ _ _ _ _).2 ⟨h, by decide, fun x hx => by simp [satC, satB]⟩
section
variable {o m : Int} {k : Cl} {o' m' : Int} {k' : Cl}
theorem satC_and (x : Sec) : satC x 6 0 (.cons o m k (.cons o' m' k' .nil)) = (satC x o m k && satC x o' m' k') := by
  conv => lhs; unfold satC
  rw [if_pos rfl, sq_cons, cond_true, sq_cons, cond_true]
  simp [sq]
theorem satC_or (x : Sec) : satC x 7 0 (.cons o m k (.cons o' m' k' .nil)) = (satC x o m k || satC x o' m' k') := by
  conv => lhs; unfold satC
  rw [if_neg (by decide), if_pos rfl, sq_cons, cond_false, sq_cons, cond_false]
  simp [sq]
theorem impP_and1 (h : chk o m k = 0) (hb : chk 6 0 (.cons o m k (.cons o' m' k' .nil)) = 0) : impP 6 0 (.cons o m k (.cons o' m' k' .nil)) o m k = true :=
  (impP_iff _ _ _ _ _ _).2 ⟨hb, h, fun x hx => by rw [satC_and, Bool.and_eq_true] at hx; exact hx.1⟩
theorem impP_and2 (h : chk o' m' k' = 0) (hb : chk 6 0 (.cons o m k (.cons o' m' k' .nil)) = 0) : impP 6 0 (.cons o m k (.cons o' m' k' .nil)) o' m' k' = true :=
  (impP_iff _ _ _ _ _ _).2 ⟨hb, h, fun x hx => by rw [satC_and, Bool.and_eq_true] at hx; exact hx.2⟩
theorem impP_or1 (h : chk o m k = 0) (hb : chk 7 0 (.cons o m k (.cons o' m' k' .nil)) = 0) : impP o m k 7 0 (.cons o m k (.cons o' m' k' .nil)) = true :=
  (impP_iff _ _ _ _ _ _).2 ⟨h, hb, fun x hx => by rw [satC_or, hx]; rfl⟩
theorem impP_or2 (h : chk o' m' k' = 0) (hb : chk 7 0 (.cons o m k (.cons o' m' k' .nil)) = 0) : impP o' m' k' 7 0 (.cons o m k (.cons o' m' k' .nil)) = true :=
  (impP_iff _ _ _ _ _ _).2 ⟨h, hb, fun x hx => by rw [satC_or, hx, Bool.or_true]⟩
end
theorem good_two {o m : Int} {k : Cl} {o' m' : Int} {k' : Cl} (g : ArgC o m k) (g' : ArgC o' m' k') (hN : 200000 < N) (h : k.nodes ≤ 199) (h' : k'.nodes ≤ 199) : GoodC N (.cons o m k (.cons o' m' k' .nil)) :=
  ⟨⟨g.o, g.m, g.len, g.wf, g'.o, g'.m, g'.len, g'.wf, trivial⟩, by show (2 : Nat) ≤ _; omega, by simp only [Cl.nodes]; omega, by simp only [Cl.nodes]; omega⟩
set_option maxHeartbeats 1000000 in
theorem wOrder_eq (hN : 200000 < N) {o m : Int} {k : Cl} {o' m' : Int} {k' : Cl} {o2 m2 : Int} {k2 : Cl} (g : ArgC o m k) (g' : ArgC o' m' k') (g2 : ArgC o2 m2 k2) (h : k.nodes + k'.nodes + k2.nodes + 3 < N) :
    s_wOrder N o m k.enc o' m' k'.enc o2 m2 k2.enc = some true := by
  unfold s_wOrder
  rw [few3 N g g' g2 h, bnd1_mk, works_eq N hN, br_not]
  by_cases c : k.nodes ≤ 199
  case neg => rw [decide_eq_false c]; rfl
  by_cases c' : k'.nodes ≤ 199
  case neg => rw [decide_eq_false c', Bool.false_and, Bool.and_false]; rfl
  by_cases c2 : k2.nodes ≤ 199
  case neg => rw [decide_eq_false c2, Bool.and_false, Bool.and_false]; rfl
  have gg := g.good hN c
  have gg' := g'.good hN c'
  have gg2 := g2.good hN c2
  have g0 : GoodC N .nil := ⟨trivial, Nat.zero_le _, Nat.zero_le _, by show 0 < N; omega⟩
  have gab := good_two N g g' hN c c'
  have gbc := good_two N g' g2 hN c' c2
  have hq : s_qAtoms N o m k.enc 6 0 [V.agg [V.int IntKind.i64 o', V.int IntKind.i64 m', V.sl 24 k'.enc], V.agg [V.int IntKind.i64 o2, V.int IntKind.i64 m2, V.sl 24 k2.enc]] = some ((atoms2 o m k 6 0 (.cons o' m' k' (.cons o2 m2 k2 .nil))).length : Int) :=
    qAtoms_eq N gg.fuel gbc.fuel (by omega) (by simp only [Cl.nodes]; omega)
  rw [decide_eq_true c, decide_eq_true c', decide_eq_true c2, Bool.and_self, Bool.and_self, br_t, hq, bnd1_mk, br_dec]
  by_cases c3 : 12 < ((atoms2 o m k 6 0 (.cons o' m' k' (.cons o2 m2 k2 .nil))).length : Int)
  · rw [if_pos c3]; rfl
  rw [if_neg c3, aCheck_eq N o m k gg, bnd1_mk, br_not, br_dec]
  by_cases h1 : chk o m k = 0
  case neg => rw [if_neg h1]; rfl
  rw [if_pos h1, aCheck_eq N o' m' k' gg', bnd1_mk, br_not, br_dec]
  by_cases h2 : chk o' m' k' = 0
  case neg => rw [if_neg h2]; rfl
  rw [if_pos h2, aCheck_eq N o2 m2 k2 gg2, bnd1_mk, br_not, br_dec]
  by_cases h3 : chk o2 m2 k2 = 0
  case neg => rw [if_neg h3]; rfl
  rw [if_pos h3]
  have e1 := Implies_eq N hN o m k o m k gg gg
  have e2 := Implies_eq N hN o m k o' m' k' gg gg'
  have e3 := Implies_eq N hN o' m' k' o2 m2 k2 gg' gg2
  have e4 := Implies_eq N hN o m k o2 m2 k2 gg gg2
  have e5 : s_Implies N 0 0 [] o m k.enc = _ := Implies_eq N hN 0 0 .nil o m k g0 gg
  have e6 : s_Implies N o m k.enc 1 0 [] = _ := Implies_eq N hN o m k 1 0 .nil gg g0
  have e7 : s_aCheck N 6 0 [V.agg [V.int IntKind.i64 o, V.int IntKind.i64 m, V.sl 24 k.enc], V.agg [V.int IntKind.i64 o', V.int IntKind.i64 m', V.sl 24 k'.enc]] = _ := aCheck_eq N 6 0 (.cons o m k (.cons o' m' k' .nil)) gab
  have e8 : s_aCheck N 7 0 [V.agg [V.int IntKind.i64 o, V.int IntKind.i64 m, V.sl 24 k.enc], V.agg [V.int IntKind.i64 o', V.int IntKind.i64 m', V.sl 24 k'.enc]] = _ := aCheck_eq N 7 0 (.cons o m k (.cons o' m' k' .nil)) gab
  have e9 : s_Implies N 6 0 [V.agg [V.int IntKind.i64 o, V.int IntKind.i64 m, V.sl 24 k.enc], V.agg [V.int IntKind.i64 o', V.int IntKind.i64 m', V.sl 24 k'.enc]] o m k.enc = _ := Implies_eq N hN 6 0 (.cons o m k (.cons o' m' k' .nil)) o m k gab gg
  have e10 : s_Implies N 6 0 [V.agg [V.int IntKind.i64 o, V.int IntKind.i64 m, V.sl 24 k.enc], V.agg [V.int IntKind.i64 o', V.int IntKind.i64 m', V.sl 24 k'.enc]] o' m' k'.enc = _ := Implies_eq N hN 6 0 (.cons o m k (.cons o' m' k' .nil)) o' m' k' gab gg'
  have e11 : s_Implies N o m k.enc 7 0 [V.agg [V.int IntKind.i64 o, V.int IntKind.i64 m, V.sl 24 k.enc], V.agg [V.int IntKind.i64 o', V.int IntKind.i64 m', V.sl 24 k'.enc]] = _ := Implies_eq N hN o m k 7 0 (.cons o m k (.cons o' m' k' .nil)) gg gab
  have e12 : s_Implies N o' m' k'.enc 7 0 [V.agg [V.int IntKind.i64 o, V.int IntKind.i64 m, V.sl 24 k.enc], V.agg [V.int IntKind.i64 o', V.int IntKind.i64 m', V.sl 24 k'.enc]] = _ := Implies_eq N hN o' m' k' 7 0 (.cons o m k (.cons o' m' k' .nil)) gg' gab
  rw [impP_refl h1] at e1
  rw [impP_never h1] at e5
  rw [impP_always h1] at e6
  have hand1 := fun hb => impP_and1 (o' := o') (m' := m') (k' := k') h1 hb
  have hand2 := fun hb => impP_and2 (o := o) (m := m) (k := k) h2 hb
  have hor1 := fun hb => impP_or1 (o' := o') (m' := m') (k' := k') h1 hb
  have hor2 := fun hb => impP_or2 (o := o) (m := m) (k := k) h2 hb
  have tail : bnd1 (some (chk 7 0 (.cons o m k (.cons o' m' k' .nil)))) (fun n =>
      br (!decide (n = 0)) (bnd1 (some true) fun b => some b)
        (bnd1 (some (impP o m k 7 0 (.cons o m k (.cons o' m' k' .nil)))) fun b1 =>
          br b1 (bnd1 (some (impP o' m' k' 7 0 (.cons o m k (.cons o' m' k' .nil)))) fun b2 => br b2 (bnd1 (some true) fun b => some b) (some false)) (some false))) = some true := by
    rw [bnd1_mk, br_not, br_dec]
    by_cases hc : chk 7 0 (.cons o m k (.cons o' m' k' .nil)) = 0
    · rw [if_pos hc, hor1 hc, hor2 hc]; rfl
    · rw [if_neg hc]; rfl
  have rest : bnd1 (some (chk 6 0 (.cons o m k (.cons o' m' k' .nil)))) (fun n =>
      br (decide (n = 0))
        (bnd1 (some (impP 6 0 (.cons o m k (.cons o' m' k' .nil)) o m k)) fun b1 => br (!b1) (some false)
          (bnd1 (some (impP 6 0 (.cons o m k (.cons o' m' k' .nil)) o' m' k')) fun b2 => br (!b2) (some false) (some true)))
        (some true)) = some true := by
    rw [bnd1_mk, br_dec]
    by_cases hc : chk 6 0 (.cons o m k (.cons o' m' k' .nil)) = 0
    · rw [if_pos hc, hand1 hc, hand2 hc]; rfl
    · rw [if_neg hc]
  rw [e1, e2, e3, e4, e5, e6, e7, e8, e9, e10, e11, e12]
  rw [tail]
  simp only [bnd1_mk, br_not, br_t]
  simp only [bnd1_mk, br_not] at rest
  cases h5 : impP o m k o' m' k' with
  | false => rw [br_f]; exact rest
  | true =>
    rw [br_t]
    cases h6 : impP o' m' k' o2 m2 k2 with
    | false => rw [br_f]; exact rest
    | true => rw [br_t, impP_trans h5 h6, br_t]; exact rest
end
end Go.Proofs.YtahemenhcoedgaaDoor.En

/- What the rows that count atoms lean on. -/
