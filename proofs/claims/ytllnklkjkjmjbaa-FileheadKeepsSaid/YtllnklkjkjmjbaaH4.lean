/- Several texts in one. -/
import Derived.Test.YtllnklkjkjmjbaaH3
import Derived.Deep.LoopGhost
import Derived.Laws.Rows
import Derived.Laws.MakeOwn
import Derived.Deep.RegionLaw
import Derived.Deep.AppendLies
import Derived.Test.YtllnklkjkjmjbaaRows
import Derived.ProofKit
import Derived.OpenShut
import Derived.ShutString
import Derived.ChangeOld
import Derived.Below
import Derived.Lib.SmallJoins

set_option linter.unusedSimpArgs false
set_option linter.unusedVariables false
set_option linter.unusedSectionVars false
/- Which rules are the same: the program and the reference. -/
namespace Go.Proofs.Ytllnklkjkjmjbaa.En
open Go
set_option linter.unusedVariables false
theorem at_midE {α R : Type} {pre : List α} {n : Nat} (h : pre.length = n) (x : α) (suf : List α) (K : α → Option R) : at? (pre ++ x :: suf) n K = K x := by
  subst h; exact at_mid pre x suf K
section
variable (N : Nat)
def eqC (o m : Int) (k : Cl) (o' m' : Int) (k' : Cl) : Bool := decide (o = o' ∧ m = m' ∧ k = k')
theorem qSameCond_loop {R : Type} (f : Int → Int → List V → Int → Int → List V → Option Bool) (n : Nat) (hf : ∀ (o m : Int) (k : Cl) (o' m' : Int) (k' : Cl), k.nodes < n → k.wf → K63 k → k'.wf → K63 k' → f o m k.enc o' m' k'.enc = some (eqC o m k o' m' k')) (x y z w : Int) (K0 : Bool → Option R) (K1 : Option R) :
    ∀ (l l' : Cl) (pre pre' : List V) (t : Nat), pre'.length = pre.length → l.len = l'.len → l.len < t → l.nodes ≤ n → l.wf → l'.wf → pre.length + l.len ≤ 9223372036854775807 →
      S_qSameCond_4 N f x y (pre ++ l.enc) z w (pre' ++ l'.enc) t (pre.length : Int) K0 K1 = if l = l' then K1 else K0 false
  | l, l', pre, pre', 0, _, _, ht, _, _, _, _ => by omega
  | .nil, .nil, pre, pre', t + 1, _, _, ht, _, _, _, _ => by
    unfold S_qSameCond_4 F_qSameCond_4
    simp only [Cl.enc, br_t, br_f, br_dec, br_not, br_and, br_or, bnd1_mk, bnd2_mk, bnd3_mk, bnd4_mk, bnd5_mk, at_zero, at_succ, at_mid, unInt_mk, unBool_mk, unStr_mk, unBytes_mk, unSl_mk, unAgg_mk, unCons_mk, unNil_mk, endI, if_false, if_true]
  | .nil, .cons o m k r, pre, pre', t + 1, _, he, _, _, _, _, _ => by simp [Cl.len] at he
  | .cons o m k r, .nil, pre, pre', t + 1, _, he, _, _, _, _, _ => by simp [Cl.len] at he
  | .cons o m k r, .cons o' m' k' r', pre, pre', t + 1, hp, he, ht, hn, hw, hw', hl => by
    simp only [Cl.len, Cl.nodes] at ht hn hl he
    obtain ⟨_, _, hk1, hk2, hr⟩ := hw
    obtain ⟨_, _, hk1', hk2', hr'⟩ := hw'
    obtain ⟨h1, h2, h3, h4⟩ := stepC pre (ce o m k) r hl
    obtain ⟨h1', h2', h3', h4'⟩ := stepC pre' (ce o' m' k') r' (by omega)
    have ih := qSameCond_loop f n hf x y z w K0 K1 r r' (pre ++ [ce o m k]) (pre' ++ [ce o' m' k']) t (by simp [hp]) (by omega) (by omega) (by omega) hr hr' (by simp; omega)
    rw [← mid, ← mid, ← h3] at ih
    rw [hp] at h1'
    unfold S_qSameCond_4 F_qSameCond_4
    simp only [enc_cons, br_t, br_f, br_dec, br_not, br_and, br_or, bnd1_mk, bnd2_mk, bnd3_mk, bnd4_mk, bnd5_mk, at_zero, at_succ, at_mid, unInt_mk, unBool_mk, unStr_mk, unBytes_mk, unSl_mk, unAgg_mk, unCons_mk, unNil_mk, at_midE hp, h1, h1', h2, if_true, Int.toNat_natCast, hf o m k o' m' k' (by omega) hk2 hk1 hk2' hk1']
    rw [ih]
    unfold eqC
    by_cases c : o = o' ∧ m = m' ∧ k = k'
    · obtain ⟨rfl, rfl, rfl⟩ := c
      simp only [and_self, decide_true, br_t, Cl.cons.injEq, true_and]
    · rw [decide_eq_false c, br_f, if_neg]
      intro e
      injection e with e1 e2 e3 e4
      exact c ⟨e1, e2, e3⟩
theorem qSameCond_eq : ∀ (M : Nat) (o m : Int) (k : Cl) (o' m' : Int) (k' : Cl), k.nodes < M → k.nodes < N → k.wf → K63 k → k'.wf → K63 k' → s_qSameCond N M o m k.enc o' m' k'.enc = some (eqC o m k o' m' k')
  | 0, o, m, k, o', m', k', h, _, _, _, _, _ => by omega
  | M + 1, o, m, k, o', m', k', h, hN, hw, hl, hw', hl' => by
    have hln := Cl.len_le k
    have hf := fun (o m : Int) (k1 : Cl) (o' m' : Int) (k1' : Cl) (a1 : k1.nodes < k.nodes) (a2 : k1.wf) (a3 : K63 k1) (a4 : k1'.wf) (a5 : K63 k1') => qSameCond_eq M o m k1 o' m' k1' (by omega) (by omega) a2 a3 a4 a5
    unfold s_qSameCond B_qSameCond
    simp only [Cl.enc_len, br_not, br_dec]
    unfold eqC
    by_cases c1 : o = o'
    case neg => rw [if_neg c1, decide_eq_false (fun c => c1 c.1)]
    by_cases c2 : m = m'
    case neg => rw [if_pos c1, if_neg c2, decide_eq_false (fun c => c2 c.2.1)]
    rw [if_pos c1, if_pos c2]
    by_cases c3 : k.len = k'.len
    case neg => rw [if_neg (by omega), decide_eq_false (fun c => c3 (by rw [c.2.2]))]
    have hL : S_qSameCond_4 N (s_qSameCond N M) o m k.enc o' m' k'.enc N 0 (fun b => some b) (some true) = if k = k' then some true else some false :=
      qSameCond_loop N (s_qSameCond N M) k.nodes hf o m o' m' (fun b => some b) (some true) k k' [] [] N rfl c3 (by omega) (Nat.le_refl _) hw hw' (by simpa using hl)
    rw [hL, if_pos (by omega)]
    by_cases c4 : k = k'
    · rw [if_pos c4, decide_eq_true ⟨c1, c2, c4⟩]
    · rw [if_neg c4, decide_eq_false (fun c => c4 c.2.2)]
/-! Rules -/
theorem qSame_loop {R : Type} (K0 : Bool → Option R) (K1 : Option R) :
    ∀ (l l' : List Ru) (pre pre' : List V) (t : Nat), pre'.length = pre.length → l.length = l'.length → l.length < t → (∀ r ∈ l, InC N r.k) → (∀ r ∈ l', InC N r.k) → pre.length + l.length ≤ 9223372036854775807 →
      S_qSame_4 N (pre ++ rE l) (pre' ++ rE l') t (pre.length : Int) K0 K1 = if l = l' then K1 else K0 false
  | l, l', pre, pre', 0, _, _, ht, _, _, _ => by omega
  | [], [], pre, pre', t + 1, _, _, ht, _, _, _ => by
    unfold S_qSame_4 F_qSame_4
    simp only [rE, br_t, br_f, br_dec, br_not, br_and, br_or, bnd1_mk, bnd2_mk, bnd3_mk, bnd4_mk, bnd5_mk, at_zero, at_succ, at_mid, unInt_mk, unBool_mk, unStr_mk, unBytes_mk, unSl_mk, unAgg_mk, unCons_mk, unNil_mk, endI, if_false, if_true]
  | [], _ :: _, pre, pre', t + 1, _, he, _, _, _, _ => by simp at he
  | _ :: _, [], pre, pre', t + 1, _, he, _, _, _, _ => by simp at he
  | r :: l, r' :: l', pre, pre', t + 1, hp, he, ht, hg, hg', hl => by
    simp only [List.length_cons] at ht hl he
    obtain ⟨h1, h2, h3, h4⟩ := stepR pre (.agg [.int .i64 r.ops, .int .i64 r.o, .int .i64 r.m, .sl 46 r.k.enc]) l hl
    obtain ⟨h1', h2', h3', h4'⟩ := stepR pre' (.agg [.int .i64 r'.ops, .int .i64 r'.o, .int .i64 r'.m, .sl 46 r'.k.enc]) l' (by omega)
    have ih := qSame_loop K0 K1 l l' (pre ++ [.agg [.int .i64 r.ops, .int .i64 r.o, .int .i64 r.m, .sl 46 r.k.enc]]) (pre' ++ [.agg [.int .i64 r'.ops, .int .i64 r'.o, .int .i64 r'.m, .sl 46 r'.k.enc]]) t (by simp [hp]) (by omega) (by omega) (fun r hr => hg r (by simp [hr])) (fun r hr => hg' r (by simp [hr])) (by simp; omega)
    rw [← mid, ← mid, ← h3] at ih
    rw [hp] at h1'
    have g := hg r (by simp)
    have g' := hg' r' (by simp)
    unfold S_qSame_4 F_qSame_4
    simp only [rE, br_t, br_f, br_dec, br_not, br_and, br_or, bnd1_mk, bnd2_mk, bnd3_mk, bnd4_mk, bnd5_mk, at_zero, at_succ, at_mid, unInt_mk, unBool_mk, unStr_mk, unBytes_mk, unSl_mk, unAgg_mk, unCons_mk, unNil_mk, at_midE hp, h1, h1', h2, if_true, Int.toNat_natCast, qSameCond_eq N N r.o r.m r.k r'.o r'.m r'.k g.fuel g.fuel g.wf g.len g'.wf g'.len]
    rw [ih]
    obtain ⟨a, b, c, d⟩ := r
    obtain ⟨a', b', c', d'⟩ := r'
    unfold eqC
    by_cases c0 : a = a'
    case neg =>
      rw [if_neg c0, if_neg]
      intro e; injection e with e1 _; injection e1 with e2; exact c0 e2
    rw [if_pos c0]
    simp only [br_dec]
    by_cases c : b = b' ∧ c = c' ∧ d = d'
    · obtain ⟨rfl, rfl, rfl⟩ := c
      subst c0
      simp only [and_self, if_true, List.cons.injEq, true_and]
    · rw [if_neg c, if_neg]
      intro e; injection e with e1 _; injection e1 with e2 e3 e4 e5; exact c ⟨e3, e4, e5⟩
theorem qSame_eq (l l' : List Ru) (hN : l.length < N) (hl : l.length ≤ 9223372036854775807) (hg : ∀ r ∈ l, InC N r.k) (hg' : ∀ r ∈ l', InC N r.k) : s_qSame N (rE l) (rE l') = some (decide (l = l')) := by
  unfold s_qSame
  rw [br_not, br_dec, rE_len, rE_len]
  by_cases c : l.length = l'.length
  · have hL : S_qSame_4 N (rE l) (rE l') N 0 (fun b => some b) (some true) = if l = l' then some true else some false :=
      qSame_loop N (fun b => some b) (some true) l l' [] [] N rfl c hN hg hg' (by simpa using hl)
    rw [if_pos (by omega), hL]
    by_cases c2 : l = l' <;> simp [c2]
  · rw [if_neg (by omega), decide_eq_false (fun e => c (by rw [e]))]
end
end Go.Proofs.Ytllnklkjkjmjbaa.En

/- octets.Put of two bytes: the walk; as an entry of the engine. -/
namespace Go.Proofs.Ytllnklkjkjmjbaa.En
open Go Go.RowKit
set_option linter.unusedVariables false
theorem make2 (w : World) : (Instr.makeSlice 22 (.int .i64 2) (.int .i64 2)).run Try.prog w = .ok (.slice (some ⟨w.heap.size, 0, none⟩) 2 2) (w.alloc (.cells #[.int .u8 0, .int .u8 0] 5)) := by
  obtain ⟨i0, hi0, hz0, hz1, hz2⟩ := info_parts info8
  have := run_makeSlice (P := Try.prog) (w := w) 22 5 i0 (.int .u8 0) Try.underlying22 hi0 hz0 .i64 .i64 2 2 (by decide) (by decide) (by rw [hz1]; decide) (by rw [hz2]; decide) (by decide)
  rw [hz1] at this
  rw [this]
  have e : madeCells (Value.int IntKind.u8 0).cells (Int.toNat 2 * 1) = #[.int .u8 0, .int .u8 0] := by
    apply Array.ext
    · rw [size_madeCells]; rfl
    · intro i h1 h2
      simp at h2
      rcases (by omega : i = 0 ∨ i = 1) with rfl | rfl <;> simp [madeCells, Value.cells]
  rw [e]; rfl
attribute [local go_sem] make2
def putCs (n : Int) : Nat → Array Value
  | 0 => #[.int .u8 0, .int .u8 0]
  | 1 => #[.int .u8 0, .int .u8 (n % 256)]
  | _ => #[.int .u8 (n / 256), .int .u8 (n % 256)]
set_option maxHeartbeats 400000 in
theorem put_any (n : Int) (w : World) (h1 : -9223372036854775808 ≤ n) (h2 : n ≤ 9223372036854775807) (h3 : ¬ n < 0) (h4 : ¬ 65535 < n) :
    Calls Try.prog 86 #[.int .i64 n, .int .i64 2] w fun e w' => e = .returned (.tuple #[.slice (some ⟨w.heap.size, 0, none⟩) 2 2, .int .i64 0]) ∧ w'.heap[w.heap.size]? = some (.cells (putCs n 2) 5 (0, 0)) ∧ Below w.heap.size w w' := by
  go_enter Try.func86, Try.ntmps86
  have hq : (n / 65536 != 0) = false := by
    have : n / 65536 = 0 := by omega
    rw [this]; rfl
  go_wp2
  go_loopg [7, 31] 2 (fun g x i wr => ∃ k : Nat, k ≤ 2 ∧ g = 2 - k ∧ i = .int .i64 (k : Int) ∧ wr.heap[w.heap.size]? = some (.cells (putCs n k) 5 (0, 0)) ∧ Below w.heap.size w wr)
  case atStart => exact ⟨0, by omega, rfl, rfl, heap_alloc_new w _, (Below.refl _ _).alloc (Nat.le_refl _) _⟩
  case round =>
    obtain ⟨k, hk, hg, rfl, hh, hb⟩ := hrel
    have hc : ∀ j, wr.cell? ⟨w.heap.size, j, none⟩ = (putCs n k)[j]? := fun j => cell_of_row wr _ j _ _ _ hh
    have hf : ∀ j, wr.frozen? ⟨w.heap.size, j, none⟩ = false := fun j => frozen_of_row wr _ j _ _ hh
    rcases (by omega : k = 0 ∨ k = 1 ∨ k = 2) with rfl | rfl | rfl
    · have hc1 : wr.cell? ⟨w.heap.size, 1, none⟩ = some (.int .u8 0) := hc 1
      have hf1 := hf 1
      have H := Lib.hid (And.intro hh hb)
      clear hc hf hh hb
      go_wp2
      go_roundg (2 - (0 + 1))
      case measure => omega
      case rel =>
        refine ⟨1, by omega, rfl, by go_num, ?_, H.out.2.setCell (Nat.le_refl _) _⟩
        exact heap_setCell_same wr _ _ _ _ _ H.out.1
    · have hc1 : wr.cell? ⟨w.heap.size, 0, none⟩ = some (.int .u8 0) := hc 0
      have hf1 := hf 0
      have H := Lib.hid (And.intro hh hb)
      clear hc hf hh hb
      go_wp2
      go_roundg (2 - (1 + 1))
      case measure => omega
      case rel =>
        refine ⟨2, by omega, rfl, by go_num, ?_, H.out.2.setCell (Nat.le_refl _) _⟩
        have e : n / 256 % 256 = n / 256 := by omega
        have := heap_setCell_same wr w.heap.size 0 _ _ (.int .u8 (n / 256 % 256)) H.out.1
        rw [e] at this
        first | exact this | (rw [e]; exact this)
    · have H := Lib.hid (And.intro hh hb)
      clear hc hf hh hb
      go_wp2
      refine bodyPost_ret (v := .tuple #[.slice (some ⟨w.heap.size, 0, none⟩) 2 2, .int .i64 0]) (by simp [results, Try.results86, go_sem]) rfl ⟨rfl, H.out.1, H.out.2⟩
/-- The error. -/
theorem put_big (n : Int) (w : World) (h1 : -9223372036854775808 ≤ n) (h2 : n ≤ 9223372036854775807) (h3 : n < 0 ∨ 65535 < n) :
    Calls Try.prog 86 #[.int .i64 n, .int .i64 2] w fun e w' => e = .returned (.tuple #[.slice none 0 0, .int .i64 2]) ∧ w' = w := by
  go_enter Try.func86, Try.ntmps86
  rcases h3 with h3 | h3
  · go_wp2
    refine bodyPost_ret (v := .tuple #[.slice none 0 0, .int .i64 2]) (by simp [results, Try.results86, go_sem]) rfl ⟨rfl, rfl⟩
  · have h4 : ¬ n < 0 := by omega
    have hq : (n / 65536 != 0) = true := by
      have : n / 65536 ≠ 0 := by omega
      simpa using this
    go_wp2
    refine bodyPost_ret (v := .tuple #[.slice none 0 0, .int .i64 2]) (by simp [results, Try.results86, go_sem]) rfl ⟨rfl, rfl⟩
noncomputable def s_Put (N : Nat) (x0 : Int) (x1 : Int) : Option (List UInt8 × Int) :=
  if x1 = 2 then (if x0 < 0 ∨ 65535 < x0 then some ([], 2) else some ([UInt8.ofNat (x0 / 256).toNat, UInt8.ofNat (x0 % 256).toNat], 0)) else none
theorem p_Put (N : Nat) (x0 x1 : Int) (r0 : List UInt8) (r1 : Int) (h : s_Put N x0 x1 = some (r0, r1)) : PureRet Try.prog T 86 [.v (.int .i64 x0) .no, .v (.int .i64 x1) .no] [.v (.bytes r0) .no, .v (.int .i64 r1) .no] := by
  unfold s_Put at h
  split at h
  · rename_i h2
    subst h2
    intro E g w us hsz hus
    obtain ⟨hl, hr⟩ := hus
    match us, hl with
    | [u, v], _ =>
    have hu := hr 0 _ rfl
    have hv := hr 1 _ rfl
    simp only [List.getD_cons_zero, List.getD_cons_succ] at hu hv
    cases hu with
    | v x a u hu ha =>
    cases hv with
    | v x a v hv ha' =>
    cases hu with
    | int k n hk =>
    cases hv with
    | int k n hk' =>
    have hk0 : (-9223372036854775808 : Int) ≤ x0 ∧ x0 ≤ 9223372036854775807 := hk
    by_cases hx : x0 < 0 ∨ 65535 < x0
    · rw [if_pos hx] at h
      injection h with h; injection h with e1 e2; subst e1; subst e2
      refine (put_big x0 w hk0.1 hk0.2 hx).mono ?_
      rintro e w' ⟨rfl, rfl⟩
      refine ⟨[.slice none 0 0, .int .i64 2], { g with Γ := fun b => if b < w'.heap.size then g.Γ b else .imm }, rfl, fun E' => ⟨rfl, fun k y hk => ?_⟩, ⟨⟨rfl, rfl, rfl, Nat.le_refl _, fun b _ => rfl⟩, fun b hlt => if_pos hlt, fun b hge => by
        show Perm.still (if b < w'.heap.size then g.Γ b else .imm) = true
        rw [if_neg (by omega)]; rfl, rfl, rfl⟩⟩
      rcases k with _ | _ | k
      · simp at hk; subst hk
        exact .v _ _ _ (.bytes [] none 0 0 rfl (Nat.le_refl _) (Nat.zero_le _) (fun k x hx => by simp at hx)) trivial
      · simp at hk; subst hk
        exact .v _ _ _ (.int .i64 2 (by decide)) trivial
      · simp at hk
    · rw [if_neg hx] at h
      injection h with h; injection h with e1 e2; subst e1; subst e2
      refine (put_any x0 w hk0.1 hk0.2 (fun h => hx (.inl h)) (fun h => hx (.inr h))).mono ?_
      rintro e w' ⟨rfl, hh, hb⟩
      have hge : ∀ o, Stable { g with Γ := fun b => if b < w.heap.size then g.Γ b else .imm } w.heap.size o := by
        intro o
        unfold Stable
        show (match (if w.heap.size < w.heap.size then g.Γ w.heap.size else .imm) with | .imm => True | .low n => o < n | .own _ n => o < n | .box _ _ => False)
        rw [if_neg (by omega)]; trivial
      have hn : ∀ z : Int, 0 ≤ z → z < 256 → (Value.int IntKind.u8 z) = .int .u8 ((UInt8.ofNat z.toNat).toNat : Int) := by
        intro z h0 h1
        rw [UInt8.toNat_ofNat', Nat.mod_eq_of_lt (by omega), Int.toNat_of_nonneg h0]
      refine ⟨[.slice (some ⟨w.heap.size, 0, none⟩) 2 2, .int .i64 0], { g with Γ := fun b => if b < w.heap.size then g.Γ b else .imm }, rfl, fun E' => ⟨rfl, fun k y hk => ?_⟩, ⟨⟨hb.os, hb.tape, hb.output, hb.size, hb.block⟩, fun b hlt => if_pos hlt, fun b hge => by
        show Perm.still (if b < w.heap.size then g.Γ b else .imm) = true
        rw [if_neg (by omega)]; rfl, rfl, rfl⟩⟩
      rcases k with _ | _ | k
      · simp at hk; subst hk
        refine .v _ _ _ (.bytes _ _ 2 2 rfl (Nat.le_refl _) (by unfold maxLen; omega) (fun k x hx => ⟨_, _, rfl, hge _, ?_⟩)) trivial
        have hc := cell_of_row w' w.heap.size (0 + k) _ _ _ hh
        rw [hc]
        rcases k with _ | _ | k
        · simp at hx; subst hx
          rw [← hn _ (by omega) (by omega)]; rfl
        · simp at hx; subst hx
          rw [← hn _ (by omega) (by omega)]; rfl
        · simp at hx
      · simp at hk; subst hk
        exact .v _ _ _ (.int .i64 0 (by decide)) trivial
      · simp at hk
  · cases h
end Go.Proofs.Ytllnklkjkjmjbaa.En

/- (*writer).put of package filehead: the walk; as an entry of the engine. -/
namespace Go.Proofs.Ytllnklkjkjmjbaa.En
open Go Go.RowKit
set_option linter.unusedVariables false
/-- append as one step of a region that draws, by what its run gives. -/
theorem step_append_any {P : Program} {ops : Array Oper} {o : Oper} {a : Act} {w : World} {K : Act → World → Prop} {Q : Exit → Act → World → Prop} {E : Prop}
    (hg : o.guard = none) (s x : Operand) (t : TypeId) (hop : o.op = Op.call { callee := Callee.builtin Builtin.append, args := #[s, x], argTypes := #[t, t] })
    (v1 v2 : Value) (hs : a.eval s = v1) (hx : a.eval x = v2) (N : Nat) (R : Nat → Nat → World → Prop)
    (hrun : ∃ G c w', (Builtin.append_ #[t, t] o.type #[v1, v2]).run P w = .ok (.slice (some ⟨G, 0, none⟩) N c) w' ∧ R G c w')
    (hK : ∀ G c w', R G c w' → K (a.put o.dst (.slice (some ⟨G, 0, none⟩) N c)) w') :
    if Region.wanted o (yielded ops a.tmps) = true then Oper.wp P o a w K Q else E := by
  have hw : Region.wanted o (yielded ops a.tmps) = true := by simp [Region.wanted, hg]
  rw [if_pos hw]
  obtain ⟨G, c, w', hrun, hR⟩ := hrun
  unfold Oper.wp
  simp [execOp, hop, resolve, invoke, builtin, hs, hx, hrun, Result.andThen]
  exact hK G c w' hR
/-- The world at the append. -/
structure LitW (w wl : World) : Prop where
  below : Below w.heap.size w wl
  lit : wl.heap[w.heap.size]? = some (.cells #[.int .i64 0, .slice none 0 0, .slice none 0 0] 62 (0, 0))
theorem LitW.of (w : World) : LitW w (w.alloc (.cells #[.int .i64 0, .slice none 0 0, .slice none 0 0] 62)) := ⟨(Below.refl _ _).alloc (Nat.le_refl _) _, heap_alloc_new w _⟩
theorem LitW.drew {w wl : World} (h : LitW w wl) : LitW w wl.drew := ⟨⟨h.below.os, h.below.tape, h.below.output, h.below.size, h.below.block⟩, h.lit⟩
theorem LitW.drew0 {w wl : World} (h : LitW w.drew wl) : LitW w wl := ⟨⟨h.below.os, h.below.tape, h.below.output, h.below.size, h.below.block⟩, h.lit⟩
/-- What the append leaves: the row's last cells. -/
structure AppR (b0 n : Nat) (F : Nat → Nat → World → Prop) (u0 : Value) (G c : Nat) (w' : World) : Prop where
  ne : G ≠ b0
  row : ∃ cur : Array Value, w'.heap[G]? = some (.cells cur 62 (0, 0)) ∧ (n + 1) * 3 ≤ cur.size
  box : w'.heap[b0]? = some (.cells #[u0] 56 (0, 0))
  rest : F G c w'
/-- What the two stores leave. -/
structure PutFin (b0 G n c : Nat) (x0 x1 : Value) (w2 w' : World) : Prop where
  box : w'.heap[b0]? = some (.cells #[.slice (some ⟨G, 0, none⟩) (n + 1) c] 56 (0, 0))
  row : ∃ cur cur' : Array Value, w2.heap[G]? = some (.cells cur 62 (0, 0)) ∧ w'.heap[G]? = some (.cells cur' 62 (0, 0)) ∧ cur'.size = cur.size ∧ (∀ o, o < n * 3 → cur'[o]? = cur[o]?) ∧ cur'[n * 3]? = some x0 ∧ cur'[n * 3 + 1]? = some x1 ∧ cur'[n * 3 + 2]? = some (.slice none 0 0)
  rest : ∀ b, b ≠ b0 → b ≠ G → w'.heap[b]? = w2.heap[b]?
  os : w'.os = w2.os
  tape : w'.tape = w2.tape
  output : w'.output = w2.output
  size : w'.heap.size = w2.heap.size
theorem putFin_cells {b0 G n c : Nat} {x0 x1 u0 : Value} {cur : Array Value} {w2 w' : World} (hsz : (n + 1) * 3 ≤ cur.size) (hcur : w2.heap[G]? = some (.cells cur 62 (0, 0)))
    (h1 : w'.heap[G]? = some (.cells (((cur.setIfInBounds (n * 3) x0).setIfInBounds (n * 3 + 1) x1).setIfInBounds (n * 3 + 2) (.slice none 0 0)) 62 (0, 0)))
    (h2 : w'.heap[b0]? = some (.cells #[.slice (some ⟨G, 0, none⟩) (n + 1) c] 56 (0, 0))) (h3 : ∀ b, b ≠ b0 → b ≠ G → w'.heap[b]? = w2.heap[b]?)
    (h4 : w'.os = w2.os) (h5 : w'.tape = w2.tape) (h6 : w'.output = w2.output) (h7 : w'.heap.size = w2.heap.size) : PutFin b0 G n c x0 x1 w2 w' := by
  refine ⟨h2, ⟨cur, _, hcur, h1, by simp, fun o ho => ?_, ?_, ?_, ?_⟩, h3, h4, h5, h6, h7⟩
  · rw [Array.getElem?_setIfInBounds_ne (by omega), Array.getElem?_setIfInBounds_ne (by omega), Array.getElem?_setIfInBounds_ne (by omega)]
  · rw [Array.getElem?_setIfInBounds_ne (by omega), Array.getElem?_setIfInBounds_ne (by omega), Array.getElem?_setIfInBounds_self_of_lt (by omega)]
  · rw [Array.getElem?_setIfInBounds_ne (by omega), Array.getElem?_setIfInBounds_self_of_lt (by simp; omega)]
  · rw [Array.getElem?_setIfInBounds_self_of_lt (by simp; omega)]
theorem putFin_a {b0 G n c : Nat} {x0 x1 u0 : Value} {cur : Array Value} {w2 : World} (ne : G ≠ b0) (hsz : (n + 1) * 3 ≤ cur.size) (hcur : w2.heap[G]? = some (.cells cur 62 (0, 0))) (hbox : w2.heap[b0]? = some (.cells #[u0] 56 (0, 0))) :
    PutFin b0 G n c x0 x1 w2 ((((w2.setCell ⟨G, n * 3, none⟩ x0).setCell ⟨G, n * 3 + 1, none⟩ x1).setCell ⟨G, n * 3 + 2, none⟩ (.slice none 0 0)).setCell ⟨b0, 0, none⟩ (.slice (some ⟨G, 0, none⟩) (n + 1) c)) := by
  refine putFin_cells (u0 := u0) hsz hcur ?_ ?_ (fun b hb hG => ?_) rfl rfl rfl (by simp [World.setCell])
  · rw [heap_setCell_other _ _ _ _ ne]
    exact heap_setCell_same _ _ _ _ _ _ (heap_setCell_same _ _ _ _ _ _ (heap_setCell_same _ _ _ _ _ _ hcur))
  · refine (heap_setCell_same _ b0 0 #[u0] _ _ ?_)
    rw [heap_setCell_other _ _ _ _ (Ne.symm ne), heap_setCell_other _ _ _ _ (Ne.symm ne), heap_setCell_other _ _ _ _ (Ne.symm ne)]; exact hbox
  · rw [heap_setCell_other _ _ _ _ hb, heap_setCell_other _ _ _ _ hG, heap_setCell_other _ _ _ _ hG, heap_setCell_other _ _ _ _ hG]
theorem putFin_b {b0 G n c : Nat} {x0 x1 u0 : Value} {cur : Array Value} {w2 : World} (ne : G ≠ b0) (hsz : (n + 1) * 3 ≤ cur.size) (hcur : w2.heap[G]? = some (.cells cur 62 (0, 0))) (hbox : w2.heap[b0]? = some (.cells #[u0] 56 (0, 0))) :
    PutFin b0 G n c x0 x1 w2 ((((w2.setCell ⟨b0, 0, none⟩ (.slice (some ⟨G, 0, none⟩) (n + 1) c)).setCell ⟨G, n * 3, none⟩ x0).setCell ⟨G, n * 3 + 1, none⟩ x1).setCell ⟨G, n * 3 + 2, none⟩ (.slice none 0 0)) := by
  refine putFin_cells (u0 := u0) hsz hcur ?_ ?_ (fun b hb hG => ?_) rfl rfl rfl (by simp [World.setCell])
  · exact heap_setCell_same _ _ _ _ _ _ (heap_setCell_same _ _ _ _ _ _ (heap_setCell_same _ _ _ _ _ _ (by rw [heap_setCell_other _ _ _ _ ne]; exact hcur)))
  · rw [heap_setCell_other _ _ _ _ (Ne.symm ne), heap_setCell_other _ _ _ _ (Ne.symm ne), heap_setCell_other _ _ _ _ (Ne.symm ne)]
    exact heap_setCell_same _ b0 0 #[u0] _ _ hbox
  · rw [heap_setCell_other _ _ _ _ hG, heap_setCell_other _ _ _ _ hG, heap_setCell_other _ _ _ _ hG, heap_setCell_other _ _ _ _ hb]
set_option maxHeartbeats 1000000 in
theorem fput_walk (b0 : Nat) (w : World) (S : Option Addr) (n cap : Nat) (tag : Int) (A : Option Addr) (m c : Nat) (h0 : w.heap[b0]? = some (.cells #[.slice S n cap] 56 (0, 0))) (F : Nat → Nat → World → Prop)
    (hrun : ∀ wl, LitW w wl → ∃ G c w', (Builtin.append_ #[54, 54] 54 #[.slice S n cap, .slice (some ⟨w.heap.size, 0, none⟩) 1 1]).run Try.prog wl = .ok (.slice (some ⟨G, 0, none⟩) (n + 1) c) w' ∧ AppR b0 n F (.slice S n cap) G c w') :
    Calls Try.prog 59 #[.pointer (some ⟨b0, 0, none⟩), .int .i64 tag, .slice A m c] w fun e w' => e = .returned (.tuple #[]) ∧ ∃ G c2 w2, AppR b0 n F (.slice S n cap) G c2 w2 ∧ PutFin b0 G n c2 (.int .i64 tag) (.slice A m c) w2 w' := by
  have hc : w.cell? ⟨b0, 0, none⟩ = some (.slice S n cap) := by rw [cell_of_row w b0 0 _ _ _ h0]; rfl
  have hf : w.frozen? ⟨b0, 0, none⟩ = false := frozen_of_row w b0 0 _ _ h0
  have hA : (w.alloc (.cells #[.int .i64 0, .slice none 0 0, .slice none 0 0] 62)).cell? ⟨b0, 0, none⟩ = some (.slice S n cap) := by
    rw [World.cell?_alloc_lt w _ ⟨b0, 0, none⟩ (heap_lt h0)]; exact hc
  have hlt : (n : Int) < (n : Int) + 1 := by omega
  go_enter Try.func59, Try.ntmps59
  go_region_law (
    refine step_append_any rfl (.tmp 9) (.tmp 14) 54 rfl (.slice S n cap) (.slice (some ⟨w.heap.size, 0, none⟩) 1 1) (by simp [Act.eval, Act.put]) (by simp [Act.eval, Act.put]) (n + 1) _ (hrun _ (by first | exact (LitW.of w).drew | exact LitW.drew0 (LitW.of w.drew))) ?_
    intro G c2 w2 hR
    obtain ⟨cur, hcur, hsz⟩ := hR.row
    have k0 : w2.cell? ⟨G, n * 3, none⟩ = some (cur[n * 3]'(by omega)) := by rw [cell_of_row w2 G (n * 3) _ _ _ hcur, Array.getElem?_eq_getElem]
    have k1 : w2.cell? ⟨G, n * 3 + 1, none⟩ = some (cur[n * 3 + 1]'(by omega)) := by rw [cell_of_row w2 G (n * 3 + 1) _ _ _ hcur, Array.getElem?_eq_getElem]
    have k2 : w2.cell? ⟨G, n * 3 + 2, none⟩ = some (cur[n * 3 + 2]'(by omega)) := by rw [cell_of_row w2 G (n * 3 + 2) _ _ _ hcur, Array.getElem?_eq_getElem]
    have f0 : w2.frozen? ⟨G, n * 3, none⟩ = false := frozen_of_row w2 G _ _ _ hcur
    have f1 : w2.frozen? ⟨G, n * 3 + 1, none⟩ = false := frozen_of_row w2 G _ _ _ hcur
    have f2 : w2.frozen? ⟨G, n * 3 + 2, none⟩ = false := frozen_of_row w2 G _ _ _ hcur
    have kb : w2.cell? ⟨b0, 0, none⟩ = some (.slice S n cap) := by rw [cell_of_row w2 b0 0 _ _ _ hR.box]; rfl
    have fb : w2.frozen? ⟨b0, 0, none⟩ = false := frozen_of_row w2 b0 _ _ _ hR.box
    have ne1 := hR.ne
    have ne2 : ¬ b0 = G := fun e => ne1 e.symm)
  all_goals
    go_end0
    exact ⟨rfl, G, c2, w2, hR, by first | exact putFin_a hR.ne hsz hcur hR.box | exact putFin_b hR.ne hsz hcur hR.box⟩
/-! As an entry -/
theorem infoTlv : (Try.prog.info? 62).map (fun i => (i.zero, i.size, i.bytes)) = some (some (.agg #[.int .i64 0, .slice none 0 0, .slice none 0 0]), 3, 56) := by kernel_rfl
theorem szTlv : sizes T 62 = 3 := by kernel_rfl
theorem rowOf_own {g : G} {w : World} {q : APos} {A : Option Addr} {n c : Nat} (hs : g.sz 62 = 3) (h : OwnAt g w q 62 (.slice A n c)) : ∃ xs, w.ownsRow 0 62 3 (.slice A n c) n xs := by
  rcases h with h | ⟨b, n', cap, cur, h1, h2, h3, h4, h5, h6⟩
  · injection h with e1 e2 e3
    subst e1; subst e2; subst e3
    exact ⟨[], rfl, .inl ⟨rfl, rfl⟩⟩
  · injection h1 with e1 e2 e3
    subst e1; subst e2; subst e3
    rw [hs] at h6
    refine ⟨cur.toList.take (n * 3), ?_, .inr ⟨b, c, cur, rfl, Nat.zero_le _, h3, h4, h5, h6, rfl⟩⟩
    have : n * 3 ≤ c * 3 := Nat.mul_le_mul_right 3 h4
    simp; omega
def litV (k : Nat) : Value := if k = 0 then .int .i64 0 else .slice none 0 0
/-- What the append in the middle is. -/
def PutF (g : G) (w : World) (q : APos) (A : Option Addr) (n c : Nat) (us : Nat → Value) (G c' : Nat) (w' : World) : Prop :=
  ∃ wl g', LitW w wl ∧ RowOut (g.at_ w.heap.size .imm) wl g' w' q A.isNone ∧ OwnAt g' w' q 62 (.slice (some ⟨G, 0, none⟩) (n + 1) c') ∧ n + 1 ≤ c' ∧ c' ≤ maxLen ∧
    RowAt g' w' (some ⟨G, 0, none⟩) ((n + 1) * 3) (fun j => if j < n * 3 then us j else litV (j - n * 3)) ∧ ((Value.slice A n c).ownBlock = some G ∨ G = wl.heap.size)
theorem lit_grows {w wl : World} (h : LitW w wl) : Grows w wl := ⟨h.below.os, h.below.tape, h.below.output, h.below.size, h.below.block⟩
theorem put_app {g : G} {w : World} {q : APos} {A : Option Addr} {n c : Nat} {us : Nat → Value} {b0 : Nat} {u0 : Value} (hs : g.sz 62 = 3) (ho : OwnAt g w q 62 (.slice A n c)) (hr : RowAt g w A (n * 3) us) (hb : (n + 1) * 56 ≤ 140737488355328)
    (h0 : w.heap[b0]? = some (.cells #[u0] 56 (0, 0))) (hp : ∀ m, g.Γ b0 ≠ .own q m) (wl : World) (hwl : LitW w wl) :
    ∃ G c' w', (Builtin.append_ #[54, 54] 54 #[.slice A n c, .slice (some ⟨w.heap.size, 0, none⟩) 1 1]).run Try.prog wl = .ok (.slice (some ⟨G, 0, none⟩) (n + 1) c') w' ∧ AppR b0 n (PutF g w q A n c us) u0 G c' w' := by
  obtain ⟨i0, hi0, hz0, hz1, hz2⟩ := info_parts infoTlv
  have hgr := lit_grows hwl
  have hge : w.heap.size ≤ w.heap.size := Nat.le_refl _
  have ho' : OwnAt (g.at_ w.heap.size .imm) wl q 62 (.slice A n c) := own_grow hgr hge _ ho
  have hl' := later_grow (g := g) hgr hge .imm
  have hr' : RowAt (g.at_ w.heap.size .imm) wl A (n * i0.size) us := by
    rw [hz1]
    intro k hk
    obtain ⟨b, off, e, h1, h2⟩ := hr k hk
    obtain ⟨h3, h4⟩ := hl'.st _ _ _ h1 h2
    exact ⟨b, off, e, h3, h4⟩
  have hlit : RowAt (g.at_ w.heap.size .imm) wl (some ⟨w.heap.size, 0, none⟩) (1 * i0.size) litV := by
    rw [hz1]
    intro k hk
    refine ⟨_, _, rfl, ?_, ?_⟩
    · unfold Stable; rw [G.at_eq]; trivial
    · rw [cell_of_row wl _ _ _ _ _ hwl.lit]
      rcases (by omega : k = 0 ∨ k = 1 ∨ k = 2) with rfl | rfl | rfl <;> rfl
  have hone : ∀ k, k < 1 * i0.size → (litV k).oneCell' = true := by
    intro k _; unfold litV; split <;> rfl
  obtain ⟨A2, c2, w', g', hrun, hro, hown, hle, hmx, hrow⟩ := append_core (P := Try.prog) 54 62 54 i0 _ Try.underlying54 hi0 hz0 (by rw [hz1]; rfl) (by rw [hz1]; decide) (by rw [hz1]; exact hs) q q A n c us ho' hr' (some ⟨w.heap.size, 0, none⟩) 1 1 litV hlit hone (by rw [hz2]; exact hb) (by rw [hz2]; decide)
  obtain ⟨xs, hrow0⟩ := rowOf_own (g := g.at_ w.heap.size .imm) hs ho'
  have hN : n + 1 ≤ maxLen := by omega
  obtain ⟨Gb, cap, w2, hrun2, _, _, hG, _⟩ := run_append_lies (P := Try.prog) wl 54 54 0 62 i0 _ 3 56 Try.underlying54 hi0 hz0 hz1 hz2 rfl (by decide) (.slice A n c) n xs hrow0 ⟨w.heap.size, 0, none⟩ 1 1 [.int .i64 0, .slice none 0 0, .slice none 0 0] rfl
    (fun j u hu => by
      have := World.news_of_block hwl.lit j u hu
      exact this) (by intro u hu; simp at hu; rcases hu with rfl | rfl <;> rfl) (by decide) hN hb (Nat.zero_le _) _ rfl
  rw [hrun] at hrun2
  injection hrun2 with e1 e2
  injection e1 with e1 _ e3
  subst e1; subst e2; subst e3
  have hne : Gb ≠ b0 := by
    intro e
    subst e
    obtain ⟨h1, _⟩ := hro.hid Gb (Nat.lt_of_lt_of_le (heap_lt h0) hgr.size) (fun m => by rw [G.at_ne _ _ _ (by have := heap_lt h0; omega)]; exact hp m)
    rcases hown with h2 | ⟨x, n', cap', cur, h2, h3, _⟩
    · cases h2
    · injection h2 with h2
      injection h2 with h2
      injection h2 with h2
      subst h2
      rw [h1, G.at_ne _ _ _ (by have := heap_lt h0; omega)] at h3
      exact hp _ h3
  refine ⟨Gb, c2, w', hrun, hne, ?_, ?_, wl, g', hwl, hro, hown, hle, hmx, by rw [hz1] at hrow; exact hrow, hG⟩
  · rcases hown with h2 | ⟨x, n', cap', cur, h2, h3, h4, h5, h6, h7⟩
    · cases h2
    · injection h2 with h2 h8 h9
      injection h2 with h2
      injection h2 with h2
      subst h2; subst h8; subst h9
      refine ⟨cur, h4, ?_⟩
      have hsz' : g'.sz 62 = 3 := by rw [hro.later.sz]; exact hs
      rw [hsz'] at h7
      have : (n + 1) * 3 ≤ c2 * 3 := Nat.mul_le_mul_right 3 hle
      omega
  · obtain ⟨_, h1⟩ := hro.hid b0 (Nat.lt_of_lt_of_le (heap_lt h0) hgr.size) (fun m => by rw [G.at_ne _ _ _ (by have := heap_lt h0; omega)]; exact hp m)
    rw [h1, hgr.old _ (heap_lt h0)]; exact h0
noncomputable def s_fput (N : Nat) (x0 : Int) (x1 : List UInt8) (y0 : List V) : Option (List V) := if (y0.length + 1) * 56 ≤ 140737488355328 then some (y0 ++ [.agg [.int .i64 x0, .bytes x1, .sl 62 []]]) else none
theorem nil_rep (g : G) (w : World) : RepV g w (.sl 62 []) (.slice none 0 0) :=
  .sl 62 [] none 0 0 (fun _ => undef) rfl (Nat.le_refl _) (Nat.zero_le _) (fun x hx => by simp at hx) (fun k y hy => by simp at hy) (fun k y hy => by simp at hy)
theorem p_fput (N : Nat) (x0 : Int) (x1 : List UInt8) (y0 : List V) (z0 : List V) (h : s_fput N x0 x1 y0 = some z0) :
    ViewRet Try.prog T 59 [.ptr 1 0 0, .v (.int .i64 x0) .no, .v (.bytes x1) .no] [⟨56, [.v (.sl 62 y0) (.own (.slot 0) 62)]⟩] [] [⟨56, [.v (.sl 62 z0) (.own (.slot 0) 62)]⟩] := by
  unfold s_fput at h
  split at h
  case isFalse => cases h
  rename_i hbig
  injection h with h; subst h
  intro ps ds m dst hone hget hlen har E g w us hh hus
  match ps, hlen with
  | [(k, s)], _ =>
  match ds, har with
  | [y, z1, z2], ⟨h1, h2, h3, _⟩ =>
  generalize hy : D.ptr 1 0 0 = y₁ at h1
  cases h1 <;> cases hy
  rename_i k0 s0 hq
  obtain ⟨k', rfl, _, hk'⟩ := hq
  simp at hk'
  obtain ⟨rfl, rfl⟩ := hk'
  generalize hz1 : D.v (.int .i64 x0) .no = z₁ at h2
  cases h2 <;> cases hz1
  generalize hz2 : D.v (.bytes x1) .no = z₂ at h3
  cases h3 <;> cases hz2
  obtain ⟨hl, hr⟩ := hus
  match us, hl with
  | [u, u1, u2], _ =>
  have hu := hr 0 _ rfl
  have hu1 := hr 1 _ rfl
  have hu2 := hr 2 _ rfl
  simp only [List.getD_cons_zero, List.getD_cons_succ] at hu hu1 hu2
  cases hu with
  | ptr k' s' o a1 a2 =>
  have eJ : (inner E m).d - (k + 1) = E.d - k := by show E.d + 1 - (k + 1) = _; omega
  rw [eJ]
  obtain ⟨B, hB, hB'⟩ := hget 0 (k, s) rfl
  simp at hB'
  subst hB'
  simp only at hB
  have hbr := hh.mem k s _ hB
  obtain ⟨cs, b1, b2, b3⟩ := hbr.heap
  have c0 := (b3 0 _ rfl).2.2.2
  obtain ⟨v, rfl⟩ : ∃ v, cs = #[v] := by
    match cs, b2 with
    | ⟨[v]⟩, _ => exact ⟨v, rfl⟩
  have c0' : RepD E g w [] (.v (.sl 62 y0) (.own (.cell k s 0) 62)) v := c0
  clear c0
  cases c0' with
  | v x a v hv ha =>
  rcases ha with ha | ⟨hok, ha⟩
  · cases ha
  have hvv := hv
  cases hv with
  | sl e xs A n c usl hn hc hm hs hcell hrep =>
  cases hu1 with
  | v _ _ _ hv1 _ =>
  cases hv1 with
  | int _ _ hint =>
  cases hu2 with
  | v _ _ _ hv2 _ =>
  have hv2' := hv2
  cases hv2 with
  | bytes _ A2 n2 c2 _ _ _ _ =>
  have hsz : g.sz 62 = 3 := by rw [hh.sz]; exact szTlv
  have ha' : OwnAt g w (.cell (E.d - k) s 0) 62 (.slice A n c) := ha
  have hflat : (y0.flatMap V.cells).length = n * 3 := by
    rw [← hn]
    refine flat_len fun x hx => ?_
    have := hs x hx
    rw [hsz] at this
    unfold okEl at this
    simp only [Bool.and_eq_true, beq_iff_eq] at this
    exact this.1
  have hrow : RowAt g w A (n * 3) usl := by
    intro j hj
    have hj' : j < (y0.flatMap V.cells).length := by omega
    exact hcell j _ (List.getElem?_eq_getElem hj')
  have hp0 : ∀ m', g.Γ (g.J (E.d - k) s) ≠ .own (.cell (E.d - k) s 0) m' := fun m' e => by rw [hbr.perm] at e; cases e
  refine (fput_walk (g.J (E.d - k) s) w A n c x0 A2 n2 c2 b1 (PutF g w (.cell (E.d - k) s 0) A n c usl) fun wl hwl => put_app hsz ha' hrow (by rw [← hn]; exact hbig) b1 hp0 wl hwl).mono ?_
  rintro e w' ⟨rfl, Gb, c', w2, hR, hfin⟩
  obtain ⟨wl, g', hwl, hro, hown, hle, hmx, hrow2, hG⟩ := hR.rest
  have hgr := lit_grows hwl
  have hb0 := heap_lt b1
  have hsz' : g'.sz 62 = 3 := by rw [hro.later.sz]; exact hsz
  have hJ : g'.J = g.J := hro.J
  -- the new row's block
  have hGp : g'.Γ Gb = .own (.cell (E.d - k) s 0) ((n + 1) * 3) := by
    rcases hown with h2 | ⟨x, n', cap', cur, h2, h3, _⟩
    · cases h2
    · injection h2 with h2 h8
      injection h2 with h2
      injection h2 with h2
      subst h2; subst h8
      rw [hsz'] at h3; exact h3
  have hGold : Gb < w.heap.size → g.Γ Gb = .own (.cell (E.d - k) s 0) (n * 3) := by
    intro hlt
    rcases hG with hG | hG
    · rcases ha' with h2 | ⟨x, n', cap', cur, h2, h3, _⟩
      · injection h2 with h2; subst h2; cases hG
      · injection h2 with h2 h8
        subst h2; subst h8
        simp [Value.ownBlock] at hG
        subst hG
        rw [hsz] at h3; exact h3
    · have := hgr.size; omega
  -- blocks that are left alone
  have hkeep : ∀ b, b < w.heap.size → (∀ m', g.Γ b ≠ .own (.cell (E.d - k) s 0) m') → b ≠ g.J (E.d - k) s → g'.Γ b = g.Γ b ∧ w'.heap[b]? = w.heap[b]? := by
    intro b hb hno hne
    have hbG : b ≠ Gb := fun e => by subst e; exact hno _ (hGold hb)
    obtain ⟨h4, h5⟩ := hro.hid b (Nat.lt_of_lt_of_le hb hgr.size) (fun m' => by rw [G.at_ne _ _ _ (by omega)]; exact hno m')
    refine ⟨by rw [h4, G.at_ne _ _ _ (by omega)], ?_⟩
    rw [hfin.rest b hne hbG, h5, hgr.old b hb]
  have hlater : Later g w g' w' := by
    refine ⟨by rw [hro.later.sz]; rfl, fun b o u hst hcl => ?_⟩
    have hlt := cell_lt hcl
    have hne : b ≠ g.J (E.d - k) s := fun e => by subst e; unfold Stable at hst; rw [hbr.perm] at hst; exact hst
    obtain ⟨h4, h5⟩ := (later_grow (g := g) hgr (Nat.le_refl _) .imm).st b o u hst hcl
    obtain ⟨h6, h7⟩ := hro.later.st b o u h4 h5
    refine ⟨h6, ?_⟩
    by_cases hbG : b = Gb
    · subst hbG
      have hst' := hst
      unfold Stable at hst'
      rw [hGold hlt] at hst'
      obtain ⟨cur, cur', r1, r2, _, r4, _⟩ := hfin.row
      rw [cell_of_row w' b o _ _ _ r2, r4 o hst']
      rw [cell_of_row w2 b o _ _ _ r1] at h7
      exact h7
    · rw [cell_of_heap (hfin.rest b hne hbG)]; exact h7
  have hownk : ∀ (p : APos) (e : TypeId) (v : Value), p ≠ .cell (E.d - k) s 0 → OwnAt g w p e v → OwnAt g' w' p e v := by
    intro p e v hp ho
    rcases ho with h0 | ⟨x, n', cap', cur, h2, h3, h4, h5⟩
    · exact .inl h0
    · have hx := heap_lt h4
      obtain ⟨h6, h7⟩ := hkeep x hx (fun m' e => by rw [h3] at e; injection e with e; exact hp e) (fun e => by subst e; rw [hbr.perm] at h3; cases h3)
      refine .inr ⟨x, n', cap', cur, h2, by rw [h6, hlater.sz]; exact h3, by rw [h7]; exact h4, ?_⟩
      rw [hlater.sz]; exact h5
  have hK : Keeps E g w [] E g' w' [.cell k s 0] := by
    refine ⟨hlater, rfl, fun _ _ h => h, fun _ _ _ _ => by rw [hJ], fun p hp => (by cases hp), fun p e v hp hn ho => hownk _ e v ?_ ho⟩
    cases p with
    | slot q => exact fun e => (by cases e)
    | cell k2 s2 i2 =>
      intro e
      have hk2 : k2 ≤ E.d := hp
      have hk1 : k ≤ E.d := hbr.le
      simp only [absP, APos.cell.injEq] at e
      obtain ⟨e1, e2, e3⟩ := e
      subst e2; subst e3
      obtain rfl : k2 = k := by omega
      exact hn (by simp)
  have hown' : OwnAt g' w' (.cell (E.d - k) s 0) 62 (.slice (some ⟨Gb, 0, none⟩) (n + 1) c') := by
    rcases hown with h2 | ⟨x, n', cap', cur, h2, h3, h4, h5, h6, h7⟩
    · cases h2
    · injection h2 with h2 h8 h9
      injection h2 with h2
      injection h2 with h2
      subst h2; subst h8; subst h9
      obtain ⟨cur1, cur', r1, r2, r3, _⟩ := hfin.row
      rw [r1] at h4
      injection h4 with h4
      injection h4 with h4
      subst h4
      exact .inr ⟨Gb, n + 1, c', cur', rfl, h3, r2, h5, h6, by rw [r3]; exact h7⟩
  -- the new list
  have hnew : RepV g' w' (.sl 62 (y0 ++ [.agg [.int .i64 x0, .bytes x1, .sl 62 []]])) (.slice (some ⟨Gb, 0, none⟩) (n + 1) c') := by
    obtain ⟨cur1, cur', r1, r2, r3, r4, r5, r6, r7⟩ := hfin.row
    have hfl : ((y0 ++ [V.agg [.int .i64 x0, .bytes x1, .sl 62 []]]).flatMap V.cells) = y0.flatMap V.cells ++ [.int .i64 x0, .bytes x1, .sl 62 []] := by simp [V.cells]
    have hst : ∀ j, j < (n + 1) * 3 → Stable g' Gb (0 + j) := fun j hj => by unfold Stable; rw [hGp]; simpa using hj
    refine .sl 62 _ (some ⟨Gb, 0, none⟩) (n + 1) c' (fun j => if j < n * 3 then usl j else if j = n * 3 then .int .i64 x0 else if j = n * 3 + 1 then .slice A2 n2 c2 else .slice none 0 0) (by simp [hn]) hle hmx (fun x hx => ?_) (fun j y hy => ?_) (fun j y hy => ?_)
    · rcases List.mem_append.1 hx with hx | hx
      · rw [hlater.sz]; exact hs x hx
      · simp at hx; subst hx; rw [hlater.sz, hsz]; rfl
    · rw [hfl] at hy
      have hj : j < (n + 1) * 3 := by
        have := (List.getElem?_eq_some_iff.1 hy).1
        simp only [List.length_append, List.length_cons, List.length_nil] at this
        omega
      refine ⟨Gb, 0, rfl, hst j hj, ?_⟩
      rw [cell_of_row w' Gb (0 + j) _ _ _ r2, Nat.zero_add]
      by_cases hjn : j < n * 3
      · rw [if_pos hjn, r4 j hjn]
        obtain ⟨b, off, e1, _, h8⟩ := hrow2 j hj
        injection e1 with e1
        injection e1 with e1 e2
        subst e1; subst e2
        rw [cell_of_row w2 Gb (0 + j) _ _ _ r1, Nat.zero_add] at h8
        rw [h8]
        exact congrArg some (if_pos hjn)
      · rw [if_neg hjn]
        rcases (by omega : j = n * 3 ∨ j = n * 3 + 1 ∨ j = n * 3 + 2) with rfl | rfl | rfl
        · rw [if_pos rfl]; exact r5
        · rw [if_neg (by omega), if_pos rfl]; exact r6
        · rw [if_neg (by omega), if_neg (by omega)]; exact r7
    · rw [hfl] at hy
      by_cases hjn : j < n * 3
      · rw [List.getElem?_append_left (by omega)] at hy
        simp only [if_pos hjn]
        exact (hrep j y hy).later hlater
      · rw [List.getElem?_append_right (by omega), hflat] at hy
        simp only [if_neg hjn]
        have hj3 : j - n * 3 < 3 := by
          have := (List.getElem?_eq_some_iff.1 hy).1
          simpa using this
        rcases (by omega : j = n * 3 ∨ j = n * 3 + 1 ∨ j = n * 3 + 2) with rfl | rfl | rfl
        · simp at hy; subst hy
          rw [if_pos rfl]; exact .int .i64 x0 hint
        · rw [show n * 3 + 1 - n * 3 = 1 by omega] at hy
          simp at hy; subst hy
          rw [if_neg (by omega), if_pos rfl]; exact hv2'.later hlater
        · rw [show n * 3 + 2 - n * 3 = 2 by omega] at hy
          simp at hy; subst hy
          rw [if_neg (by omega), if_neg (by omega)]; exact nil_rep g' w'
  have hm0 : (setAll [(k, s)] [⟨56, [.v (.sl 62 (y0 ++ [.agg [.int .i64 x0, .bytes x1, .sl 62 []]])) (.own (.slot 0) 62)]⟩] m) = m.setBox k s ⟨56, [.v (.sl 62 (y0 ++ [.agg [.int .i64 x0, .bytes x1, .sl 62 []]])) (.own (.slot 0) 62)]⟩ := rfl
  have hdomE : memDom (m.setBox k s ⟨56, [.v (.sl 62 (y0 ++ [.agg [.int .i64 x0, .bytes x1, .sl 62 []]])) (.own (.slot 0) 62)]⟩) = memDom m := by
    funext k2 s2
    unfold memDom
    rw [box_set]
    apply propext
    constructor
    · rintro ⟨b, hb⟩
      split at hb
      · rename_i hc2; obtain ⟨rfl, rfl, _⟩ := hc2; exact ⟨_, hB⟩
      · exact ⟨b, hb⟩
    · rintro ⟨b, hb⟩
      split
      · exact ⟨_, rfl⟩
      · exact ⟨b, hb⟩
  have hperm0 : g'.Γ (g.J (E.d - k) s) = .box (E.d - k) s := by
    obtain ⟨h4, _⟩ := hro.hid (g.J (E.d - k) s) (Nat.lt_of_lt_of_le hb0 hgr.size) (fun m' => by rw [G.at_ne _ _ _ (by omega)]; exact hp0 m')
    rw [h4, G.at_ne _ _ _ (by omega)]; exact hbr.perm
  refine ⟨[], g', E, rfl, ⟨hlater, rfl, fun _ _ h => h, fun _ _ _ _ => by rw [hJ], fun s' e v ho => hownk _ e v (fun e => by cases e) ho⟩, ?_, ⟨rfl, fun k y hk => by simp at hk⟩, ?_⟩
  · rw [hm0]
    refine ⟨fun k2 s2 bx hbx => ?_, by rw [hdomE]; exact hh.dom, by rw [hlater.sz]; exact hh.sz, by rw [setBox_length]; exact hh.len⟩
    rw [box_set] at hbx
    split at hbx
    · rename_i hc2
      obtain ⟨rfl, rfl, _⟩ := hc2
      injection hbx with hbx
      subst hbx
      refine ⟨hbr.le, by rw [hJ]; exact hperm0, _, by rw [hJ]; exact hfin.box, rfl, fun i c hc => ?_⟩
      have hi : i = 0 := by have := (List.getElem?_eq_some_iff.1 hc).1; simpa using this
      subst hi
      simp at hc
      subst hc
      exact ⟨rfl, rfl, fun h => (by cases h), .v _ _ _ hnew (.inr ⟨hbr.le, hown'⟩)⟩
    · rename_i hc2
      have hr2 := hh.mem k2 s2 bx hbx
      obtain ⟨us2, d1, d2, d3⟩ := hr2.heap
      have hk1 := hbr.le
      have hk2 := hr2.le
      have hne2 : ¬ (k2 = k ∧ s2 = s) := by
        rintro ⟨rfl, rfl⟩
        refine hc2 ⟨rfl, rfl, ?_⟩
        have := hh.len
        omega
      obtain ⟨e1, e2⟩ := hkeep _ (heap_lt d1) (fun m' e => by rw [hr2.perm] at e; cases e) (fun e => by
        have h8 := hr2.perm
        rw [e, hbr.perm] at h8
        injection h8 with h8 h9
        exact hne2 ⟨by omega, h9.symm⟩)
      refine ⟨hr2.le, by rw [hJ, e1]; exact hr2.perm, us2, by rw [hJ, e2]; exact d1, d2, fun i c hc => ?_⟩
      obtain ⟨f1, f2, f3, f4⟩ := d3 i c hc
      exact ⟨f1, f2, by rw [hJ]; exact f3, loadCell_clear f2 (f4.keep hK) (fun hmem => by simp at hmem; exact hne2 ⟨hmem.1, hmem.2.1⟩)⟩
  · refine ⟨by rw [hfin.os, hro.os, hgr.os], by rw [hfin.tape, hro.tape, hgr.tape], by rw [hfin.output, hro.output, hgr.output], by rw [hfin.size]; exact Nat.le_trans hgr.size hro.size, hlater, fun b hb hi => ?_, fun _ _ _ => by rw [hJ]⟩
    refine hkeep b hb (fun m' e => ?_) (fun e => ?_)
    · rw [e] at hi; rcases hi with hi | ⟨_, hi⟩ <;> cases hi
    · subst e; rw [hbr.perm] at hi; rcases hi with hi | ⟨_, hi⟩ <;> cases hi
end Go.Proofs.Ytllnklkjkjmjbaa.En

/- The printed functions and the entries by hand, together. -/

/- Functions of the program in plain Lean, joined to the program by evaluation; printed by a program. -/
namespace Go.Proofs.Ytllnklkjkjmjbaa.En
open Go Go.Proofs
set_option maxRecDepth 100000
set_option linter.unusedVariables false
noncomputable def e_Put {R : Type} (s : Int → Int → Option (List UInt8 × Int)) (ds : List D) (K : List D → Option R) : Option R :=
  match ds with
  | [.v (.int .i64 x0) .no, .v (.int .i64 x1) .no] => bnd2 (s x0 x1) fun r0 r1 => K [.v (.bytes r0) .no, .v (.int .i64 r1) .no]
  | _ => none
theorem go_Put : Goes Try.prog 86 := goes_of Try.func86 (by kernel_rfl) (c := bodyOf Try.f86) (by kernel_rfl)
theorem eo_Put (s : Int → Int → Option (List UInt8 × Int)) (hs : ∀ (x0 : Int) (x1 : Int) (r0 : List UInt8) (r1 : Int), s x0 x1 = some (r0, r1) → PureRet Try.prog T 86 [.v (.int .i64 x0) .no, .v (.int .i64 x1) .no] [.v (.bytes r0) .no, .v (.int .i64 r1) .no]) : EntOK Try.prog T ⟨86, e_Put s⟩ := by
  refine ⟨go_Put, fun R ds K r h => ?_, fun R ds K => ?_⟩
  · simp only [e_Put] at h
    split at h
    · obtain ⟨r0, r1, h1, h2⟩ := bnd2_some h
      exact ⟨_, h2, hs _ _ _ _ h1⟩
    · cases h
  · simp only [e_Put]
    split
    · rw [bnd2_b]; rfl
    · rfl
noncomputable def e_fCheck {R : Type} (s : Int → Int → List UInt8 → Int → Int → Int → Int → Int → List V → Option (Int)) (ds : List D) (K : List D → Option R) : Option R :=
  match ds with
  | [.agg [.v (.int .i64 x0) .no, .v (.int .i64 x1) .no, .v (.bytes x2) .no, .v (.int .i64 x3) .no, .v (.int .i64 x4) .no, .v (.int .i64 x5) .no, .v (.int .i64 x6) .no, .v (.int .i64 x7) .no, .v (.sl 48 x8) .no]] => bnd1 (s x0 x1 x2 x3 x4 x5 x6 x7 x8) fun r0 => K [.v (.int .i64 r0) .no]
  | _ => none
noncomputable def r_fCheck (rs : List D) (_ : Mem) : Option (Int) :=
  match rs with
  | [.v (.int .i64 r0) _] => some (r0)
  | _ => none
noncomputable def F_fCheck_15 {R : Type} (N : Nat) (vs0 : List V) (n1 : Int) (n3 : Int) (n4 : Int) (l5 : List UInt8) (n6 : Int) (n7 : Int) (n8 : Int) (n9 : Int) (n10 : Int) (vs11 : List V) (Lq : Int → Option R) (K0 : Int → Option R) (K1 : Option R) (n2 : Int) : Option R :=
  br (decide (n2 < n1)) (br (decide (0 ≤ n2) && decide (n2 < (↑vs0.length : Int))) (at? vs0 n2.toNat fun x0 => V.unInt IntKind.i64 x0 fun n1 => br (!decide (n1 = 0)) (K0 n1) (Lq (IntKind.i64.wrap (n2 + 1)))) none) K1
noncomputable def S_fCheck_15 {R : Type} (N : Nat) (vs0 : List V) (n1 : Int) (n3 : Int) (n4 : Int) (l5 : List UInt8) (n6 : Int) (n7 : Int) (n8 : Int) (n9 : Int) (n10 : Int) (vs11 : List V) : Nat → Int → (Int → Option R) → (Option R) → Option R
  | 0, _, _, _ => none
  | t + 1, n2, K0, K1 => F_fCheck_15 N vs0 n1 n3 n4 l5 n6 n7 n8 n9 n10 vs11 (fun n2 => S_fCheck_15 N vs0 n1 n3 n4 l5 n6 n7 n8 n9 n10 vs11 t n2 K0 K1) K0 K1 n2
noncomputable def l_fCheck_15 {R : Type} (N : Nat) (ds : List D) (m : Mem) (K : Ex → List D → Mem → Option R) : Option R :=
  match ds, m with
  | [(.ptr 0 1 0), (.v (.sl 27 vs0) (.own (.slot 80) 27)), (.v (.int .i64 n1) .no), (.v (.int .i64 n2) .no)], [[(1, ⟨25, [(.v (.int .i64 n3) .no), (.v (.int .i64 n4) .no), (.v (.bytes l5) .no), (.v (.int .i64 n6) .no), (.v (.int .i64 n7) .no), (.v (.int .i64 n8) .no), (.v (.int .i64 n9) .no), (.v (.int .i64 n10) .no), (.v (.sl 48 vs11) .no)]⟩)]] => S_fCheck_15 N vs0 n1 n3 n4 l5 n6 n7 n8 n9 n10 vs11 N n2 (fun a0 => K .ret [(.ptr 0 1 0), (.v (.int .i64 a0) .no)] [[(1, ⟨25, [(.v (.int .i64 n3) .no), (.v (.int .i64 n4) .no), (.v (.bytes l5) .no), (.v (.int .i64 n6) .no), (.v (.int .i64 n7) .no), (.v (.int .i64 n8) .no), (.v (.int .i64 n9) .no), (.v (.int .i64 n10) .no), (.v (.sl 48 vs11) .no)]⟩)]]) (K (.exit 1) [(.ptr 0 1 0), .any] [[(1, ⟨25, [(.v (.int .i64 n3) .no), (.v (.int .i64 n4) .no), (.v (.bytes l5) .no), (.v (.int .i64 n6) .no), (.v (.int .i64 n7) .no), (.v (.int .i64 n8) .no), (.v (.int .i64 n9) .no), (.v (.int .i64 n10) .no), (.v (.sl 48 vs11) .no)]⟩)]])
  | _, _ => none
noncomputable def s_fCheck (N : Nat) (x0 : Int) (x1 : Int) (x2 : List UInt8) (x3 : Int) (x4 : Int) (x5 : Int) (x6 : Int) (x7 : Int) (x8 : List V) : Option (Int) :=
  br (decide (x1 < 1)) (some 1)
  (br (decide (5 < x1)) (some 1)
    (br (decide (x0 < 1)) (some 2)
      (br (decide (65534 < x0)) (some 2)
        (br (decide (x0 = 16383)) (some 2)
          (br (decide (16 < (↑x2.length : Int))) (some 3)
            (br (decide (0 < (↑x2.length : Int)))
              (br (!decide (x1 = 1)) (some 4)
                (br (decide (x3 < 0)) (some 2)
                  (br (decide (30 < x3)) (some 2)
                    (br (!decide (x3 = 0))
                      (br (decide (x1 = 1)) (some 4)
                        (bnd1 (s_fnumber N x4 (decide (x1 = 2)) 1024) fun n0 =>
                          bnd1 (s_frecords N x1) fun b1 =>
                            bnd1 (s_fnumber N x5 b1 254) fun n2 =>
                              bnd1 (s_frecords N x1) fun b3 =>
                                bnd1 (s_fnumber N x6 b3 254) fun n4 =>
                                  S_fCheck_15 N [V.int IntKind.i64 n0, V.int IntKind.i64 n2, V.int IntKind.i64 n4] (↑[V.int IntKind.i64 n0, V.int IntKind.i64 n2, V.int IntKind.i64 n4].length : Int) x0 x1 x2 x3 x4 x5 x6 x7 x8 N 0
                                    (fun n5 => some n5) (br (decide (1024 < IntKind.i64.wrap (x5 * x6))) (some 3) (bnd1 (s_fisState N x7) fun b6 => br (!b6) (some 2) (bnd1 (s_aCheckRules N x8) fun n7 => some n7)))))
                      (bnd1 (s_fnumber N x4 (decide (x1 = 2)) 1024) fun n8 =>
                        bnd1 (s_frecords N x1) fun b9 =>
                          bnd1 (s_fnumber N x5 b9 254) fun n10 =>
                            bnd1 (s_frecords N x1) fun b11 =>
                              bnd1 (s_fnumber N x6 b11 254) fun n12 =>
                                S_fCheck_15 N [V.int IntKind.i64 n8, V.int IntKind.i64 n10, V.int IntKind.i64 n12] (↑[V.int IntKind.i64 n8, V.int IntKind.i64 n10, V.int IntKind.i64 n12].length : Int) x0 x1 x2 x3 x4 x5 x6 x7 x8 N 0
                                  (fun n13 => some n13) (br (decide (1024 < IntKind.i64.wrap (x5 * x6))) (some 3) (bnd1 (s_fisState N x7) fun b14 => br (!b14) (some 2) (bnd1 (s_aCheckRules N x8) fun n15 => some n15))))))))
              (br (decide (x3 < 0)) (some 2)
                (br (decide (30 < x3)) (some 2)
                  (br (!decide (x3 = 0))
                    (br (decide (x1 = 1)) (some 4)
                      (bnd1 (s_fnumber N x4 (decide (x1 = 2)) 1024) fun n16 =>
                        bnd1 (s_frecords N x1) fun b17 =>
                          bnd1 (s_fnumber N x5 b17 254) fun n18 =>
                            bnd1 (s_frecords N x1) fun b19 =>
                              bnd1 (s_fnumber N x6 b19 254) fun n20 =>
                                S_fCheck_15 N [V.int IntKind.i64 n16, V.int IntKind.i64 n18, V.int IntKind.i64 n20] (↑[V.int IntKind.i64 n16, V.int IntKind.i64 n18, V.int IntKind.i64 n20].length : Int) x0 x1 x2 x3 x4 x5 x6 x7 x8 N 0
                                  (fun n21 => some n21) (br (decide (1024 < IntKind.i64.wrap (x5 * x6))) (some 3) (bnd1 (s_fisState N x7) fun b22 => br (!b22) (some 2) (bnd1 (s_aCheckRules N x8) fun n23 => some n23)))))
                    (bnd1 (s_fnumber N x4 (decide (x1 = 2)) 1024) fun n24 =>
                      bnd1 (s_frecords N x1) fun b25 =>
                        bnd1 (s_fnumber N x5 b25 254) fun n26 =>
                          bnd1 (s_frecords N x1) fun b27 =>
                            bnd1 (s_fnumber N x6 b27 254) fun n28 =>
                              S_fCheck_15 N [V.int IntKind.i64 n24, V.int IntKind.i64 n26, V.int IntKind.i64 n28] (↑[V.int IntKind.i64 n24, V.int IntKind.i64 n26, V.int IntKind.i64 n28].length : Int) x0 x1 x2 x3 x4 x5 x6 x7 x8 N 0
                                (fun n29 => some n29) (br (decide (1024 < IntKind.i64.wrap (x5 * x6))) (some 3) (bnd1 (s_fisState N x7) fun b30 => br (!b30) (some 2) (bnd1 (s_aCheckRules N x8) fun n31 => some n31)))))))))))))
noncomputable def cx_fCheck (N : Nat) : Cx := { T := T, isPure := tabP [⟨27, e_fnumber (s_fnumber N)⟩, ⟨28, e_frecords (s_frecords N)⟩, ⟨29, e_fisState (s_fisState N)⟩, ⟨30, e_aCheckRules (s_aCheckRules N)⟩], pureK := fun g ds K => tabK [⟨27, e_fnumber (s_fnumber N)⟩, ⟨28, e_frecords (s_frecords N)⟩, ⟨29, e_fisState (s_fisState N)⟩, ⟨30, e_aCheckRules (s_aCheckRules N)⟩] g ds K, memK := fun g dst ds m K => tabMK [] g dst ds m K, meth := tabM [], keep := fun r => match r with | 15 => [1, 80, 81, 82] | _ => [], keepX := fun r => match r with | 15 => [1, 2] | _ => [], loopT := fun r ds m K => match r with | 15 => l_fCheck_15 N ds m K | _ => none, jumps := 9 }
theorem F_fCheck_15_ok {R : Type} (N : Nat) (vs0 : List V) (n1 : Int) (n3 : Int) (n4 : Int) (l5 : List UInt8) (n6 : Int) (n7 : Int) (n8 : Int) (n9 : Int) (n10 : Int) (vs11 : List V) (n2 : Int) (L : List D → Mem → Option R) (K : Ex → List D → Mem → Option R) :
    roundK (fun st K => codeK (cx_fCheck N) (loopN Try.f11 0) st K) 105 [1, 80, 81, 82] [1, 2] L [(.ptr 0 1 0), (.v (.sl 27 vs0) (.own (.slot 80) 27)), (.v (.int .i64 n1) .no), (.v (.int .i64 n2) .no)] [[(1, ⟨25, [(.v (.int .i64 n3) .no), (.v (.int .i64 n4) .no), (.v (.bytes l5) .no), (.v (.int .i64 n6) .no), (.v (.int .i64 n7) .no), (.v (.int .i64 n8) .no), (.v (.int .i64 n9) .no), (.v (.int .i64 n10) .no), (.v (.sl 48 vs11) .no)]⟩)]] K = F_fCheck_15 N vs0 n1 n3 n4 l5 n6 n7 n8 n9 n10 vs11 (fun n2 => L [(.ptr 0 1 0), (.v (.sl 27 vs0) (.own (.slot 80) 27)), (.v (.int .i64 n1) .no), (.v (.int .i64 n2) .no)] [[(1, ⟨25, [(.v (.int .i64 n3) .no), (.v (.int .i64 n4) .no), (.v (.bytes l5) .no), (.v (.int .i64 n6) .no), (.v (.int .i64 n7) .no), (.v (.int .i64 n8) .no), (.v (.int .i64 n9) .no), (.v (.int .i64 n10) .no), (.v (.sl 48 vs11) .no)]⟩)]]) (fun a0 => K .ret [(.ptr 0 1 0), (.v (.int .i64 a0) .no)] [[(1, ⟨25, [(.v (.int .i64 n3) .no), (.v (.int .i64 n4) .no), (.v (.bytes l5) .no), (.v (.int .i64 n6) .no), (.v (.int .i64 n7) .no), (.v (.int .i64 n8) .no), (.v (.int .i64 n9) .no), (.v (.int .i64 n10) .no), (.v (.sl 48 vs11) .no)]⟩)]]) (K (.exit 1) [(.ptr 0 1 0), .any] [[(1, ⟨25, [(.v (.int .i64 n3) .no), (.v (.int .i64 n4) .no), (.v (.bytes l5) .no), (.v (.int .i64 n6) .no), (.v (.int .i64 n7) .no), (.v (.int .i64 n8) .no), (.v (.int .i64 n9) .no), (.v (.int .i64 n10) .no), (.v (.sl 48 vs11) .no)]⟩)]]) n2 := by
  kernel_rfl
theorem S_fCheck_15_ok {R : Type} (N : Nat) (vs0 : List V) (n1 : Int) (n3 : Int) (n4 : Int) (l5 : List UInt8) (n6 : Int) (n7 : Int) (n8 : Int) (n9 : Int) (n10 : Int) (vs11 : List V) (K : Ex → List D → Mem → Option R) : ∀ (t : Nat) (n2 : Int),
    loopK (fun st K => codeK (cx_fCheck N) (loopN Try.f11 0) st K) 105 [1, 80, 81, 82] [1, 2] t [(.ptr 0 1 0), (.v (.sl 27 vs0) (.own (.slot 80) 27)), (.v (.int .i64 n1) .no), (.v (.int .i64 n2) .no)] [[(1, ⟨25, [(.v (.int .i64 n3) .no), (.v (.int .i64 n4) .no), (.v (.bytes l5) .no), (.v (.int .i64 n6) .no), (.v (.int .i64 n7) .no), (.v (.int .i64 n8) .no), (.v (.int .i64 n9) .no), (.v (.int .i64 n10) .no), (.v (.sl 48 vs11) .no)]⟩)]] K = S_fCheck_15 N vs0 n1 n3 n4 l5 n6 n7 n8 n9 n10 vs11 t n2 (fun a0 => K .ret [(.ptr 0 1 0), (.v (.int .i64 a0) .no)] [[(1, ⟨25, [(.v (.int .i64 n3) .no), (.v (.int .i64 n4) .no), (.v (.bytes l5) .no), (.v (.int .i64 n6) .no), (.v (.int .i64 n7) .no), (.v (.int .i64 n8) .no), (.v (.int .i64 n9) .no), (.v (.int .i64 n10) .no), (.v (.sl 48 vs11) .no)]⟩)]]) (K (.exit 1) [(.ptr 0 1 0), .any] [[(1, ⟨25, [(.v (.int .i64 n3) .no), (.v (.int .i64 n4) .no), (.v (.bytes l5) .no), (.v (.int .i64 n6) .no), (.v (.int .i64 n7) .no), (.v (.int .i64 n8) .no), (.v (.int .i64 n9) .no), (.v (.int .i64 n10) .no), (.v (.sl 48 vs11) .no)]⟩)]])
  | 0, n2 => rfl
  | t + 1, n2 => (F_fCheck_15_ok N vs0 n1 n3 n4 l5 n6 n7 n8 n9 n10 vs11 n2 _ K).trans (congrArg (fun L => F_fCheck_15 N vs0 n1 n3 n4 l5 n6 n7 n8 n9 n10 vs11 L (fun a0 => K .ret [(.ptr 0 1 0), (.v (.int .i64 a0) .no)] [[(1, ⟨25, [(.v (.int .i64 n3) .no), (.v (.int .i64 n4) .no), (.v (.bytes l5) .no), (.v (.int .i64 n6) .no), (.v (.int .i64 n7) .no), (.v (.int .i64 n8) .no), (.v (.int .i64 n9) .no), (.v (.int .i64 n10) .no), (.v (.sl 48 vs11) .no)]⟩)]]) (K (.exit 1) [(.ptr 0 1 0), .any] [[(1, ⟨25, [(.v (.int .i64 n3) .no), (.v (.int .i64 n4) .no), (.v (.bytes l5) .no), (.v (.int .i64 n6) .no), (.v (.int .i64 n7) .no), (.v (.int .i64 n8) .no), (.v (.int .i64 n9) .no), (.v (.int .i64 n10) .no), (.v (.sl 48 vs11) .no)]⟩)]]) n2) (funext fun n2 => S_fCheck_15_ok N vs0 n1 n3 n4 l5 n6 n7 n8 n9 n10 vs11 K t n2))
theorem s_fCheck_ok (N : Nat) (x0 : Int) (x1 : Int) (x2 : List UInt8) (x3 : Int) (x4 : Int) (x5 : Int) (x6 : Int) (x7 : Int) (x8 : List V) : bodyK (cx_fCheck N) Try.f11 [.agg [.v (.int .i64 x0) .no, .v (.int .i64 x1) .no, .v (.bytes x2) .no, .v (.int .i64 x3) .no, .v (.int .i64 x4) .no, .v (.int .i64 x5) .no, .v (.int .i64 x6) .no, .v (.int .i64 x7) .no, .v (.sl 48 x8) .no]] [] r_fCheck = s_fCheck N x0 x1 x2 x3 x4 x5 x6 x7 x8 := by
  kernel_rfl
theorem go_fCheck : Goes Try.prog 11 := goes_of Try.func11 (by kernel_rfl) (c := bodyOf Try.f11) (by kernel_rfl)
theorem eo_fCheck (s : Int → Int → List UInt8 → Int → Int → Int → Int → Int → List V → Option (Int)) (hs : ∀ (x0 : Int) (x1 : Int) (x2 : List UInt8) (x3 : Int) (x4 : Int) (x5 : Int) (x6 : Int) (x7 : Int) (x8 : List V) (r0 : Int), s x0 x1 x2 x3 x4 x5 x6 x7 x8 = some r0 → PureRet Try.prog T 11 [.agg [.v (.int .i64 x0) .no, .v (.int .i64 x1) .no, .v (.bytes x2) .no, .v (.int .i64 x3) .no, .v (.int .i64 x4) .no, .v (.int .i64 x5) .no, .v (.int .i64 x6) .no, .v (.int .i64 x7) .no, .v (.sl 48 x8) .no]] [.v (.int .i64 r0) .no]) : EntOK Try.prog T ⟨11, e_fCheck s⟩ := by
  refine ⟨go_fCheck, fun R ds K r h => ?_, fun R ds K => ?_⟩
  · simp only [e_fCheck] at h
    split at h
    · obtain ⟨r0, h1, h2⟩ := bnd1_some h
      exact ⟨_, h2, hs _ _ _ _ _ _ _ _ _ _ h1⟩
    · cases h
  · simp only [e_fCheck]
    split
    · rw [bnd1_b]; rfl
    · rfl
theorem co_fCheck (N : Nat) : CxOK Try.prog (cx_fCheck N) :=
  cxOK_of2 (es := [⟨27, e_fnumber (s_fnumber N)⟩, ⟨28, e_frecords (s_frecords N)⟩, ⟨29, e_fisState (s_fisState N)⟩, ⟨30, e_aCheckRules (s_aCheckRules N)⟩]) (me := []) (ms := []) T_ok ⟨eo_fnumber _ (p_fnumber N), eo_frecords _ (p_frecords N), eo_fisState _ (p_fisState N), eo_aCheckRules _ (p_aCheckRules N), trivial⟩ trivial trivial rfl (fun _ _ _ _ => rfl) (fun _ _ _ _ _ _ => rfl) rfl
theorem lk_fCheck_15 (N : Nat) : LoopOK (cx_fCheck N) 105 (loopN Try.f11 0) := by
  refine loopOK_of (rid := 15) (by kernel_rfl) rfl rfl fun R ds m K r h => ?_
  have h : l_fCheck_15 N ds m K = some r := h
  unfold l_fCheck_15 at h
  split at h
  · exact ⟨N, Eq.trans (S_fCheck_15_ok ..) h⟩
  · cases h
theorem lo_fCheck (N : Nat) : LoopsOK (cx_fCheck N) Try.f11.ntmps (bodyOf Try.f11) :=
  loopsOK_of (k := 1) (by kernel_rfl) ⟨trivial, lk_fCheck_15 N⟩
theorem p_fCheck (N : Nat) (x0 : Int) (x1 : Int) (x2 : List UInt8) (x3 : Int) (x4 : Int) (x5 : Int) (x6 : Int) (x7 : Int) (x8 : List V) (r0 : Int) (h : s_fCheck N x0 x1 x2 x3 x4 x5 x6 x7 x8 = some r0) : PureRet Try.prog T 11 [.agg [.v (.int .i64 x0) .no, .v (.int .i64 x1) .no, .v (.bytes x2) .no, .v (.int .i64 x3) .no, .v (.int .i64 x4) .no, .v (.int .i64 x5) .no, .v (.int .i64 x6) .no, .v (.int .i64 x7) .no, .v (.sl 48 x8) .no]] [.v (.int .i64 r0) .no] :=
  pure_of (cx := cx_fCheck N) (by kernel_rfl) (co_fCheck N) Try.func11 (by kernel_rfl) (by kernel_rfl) (lo_fCheck N) rfl rfl rfl (rf := r_fCheck) ((s_fCheck_ok N x0 x1 x2 x3 x4 x5 x6 x7 x8).trans h) (fun rs' m h => by
    unfold r_fCheck at h
    split at h
    · cases h; exact ⟨rfl, rfl⟩
    · cases h)
noncomputable def e_fput {R : Type} (s : Int → List UInt8 → List V → Option (List V)) (dst : Nat) (ds : List D) (m : Mem) (K : List D → Mem → Option R) : Option R :=
  match ds with
  | [.ptr (kv0 + 1) sv0 0, .v (.int .i64 x0) .no, .v (.bytes x1) .no] => viewK [(kv0, sv0)] m fun Bs => (match Bs with
    | [⟨56, [.v (.sl 62 y0) (.own (.slot 0) 62)]⟩] => bnd1 (s x0 x1 y0) fun z0 => putAllK [(kv0, sv0)] [⟨56, [.v (.sl 62 z0) (.own (.slot 0) 62)]⟩] m fun m' => K [] m'
    | _ => none)
  | _ => none
theorem go_fput : Goes Try.prog 59 := goes_of Try.func59 (by kernel_rfl) (c := bodyOf Try.f59) (by kernel_rfl)
theorem eo_fput (s : Int → List UInt8 → List V → Option (List V)) (hs : ∀ (x0 : Int) (x1 : List UInt8) (y0 : List V) (z0 : List V), s x0 x1 y0 = some z0 → ViewRet Try.prog T 59 [.ptr 1 0 0, .v (.int .i64 x0) .no, .v (.bytes x1) .no] [⟨56, [.v (.sl 62 y0) (.own (.slot 0) 62)]⟩] [] [⟨56, [.v (.sl 62 z0) (.own (.slot 0) 62)]⟩]) : MEntOK Try.prog T ⟨59, e_fput s⟩ := by
  refine ⟨go_fput, fun R dst ds m K r h => ?_⟩
  simp only [e_fput] at h
  split at h
  · obtain ⟨Bs, a1, a2, a3, h⟩ := viewK_some h
    split at h
    · obtain ⟨z0, h1, h2⟩ := bnd1_some h
      rw [putAllK_eq] at h2
      exact ⟨_, _, h2, hs _ _ _ _ h1 _ _ m dst a1 a2 a3 ⟨aren_ptr _ rfl, aren_v _, aren_v _, trivial⟩⟩
    · cases h
  · cases h
noncomputable def e_fwide {R : Type} (s : Int → Int → List V → Option (List V)) (dst : Nat) (ds : List D) (m : Mem) (K : List D → Mem → Option R) : Option R :=
  match ds with
  | [.ptr (kv0 + 1) sv0 0, .v (.int .i64 x0) .no, .v (.int .i64 x1) .no] => viewK [(kv0, sv0)] m fun Bs => (match Bs with
    | [⟨56, [.v (.sl 62 y0) (.own (.slot 0) 62)]⟩] => bnd1 (s x0 x1 y0) fun z0 => putAllK [(kv0, sv0)] [⟨56, [.v (.sl 62 z0) (.own (.slot 0) 62)]⟩] m fun m' => K [] m'
    | _ => none)
  | _ => none
noncomputable def r_fwide {α : Type} (K : List V → Option α) (rs : List D) (m : Mem) : Option α :=
  match rs, m with
  | [], [_, [(0, ⟨56, [.v (.sl 62 z0) (.own (.slot 0) 62)]⟩)]] => K z0
  | _, _ => none
noncomputable def C_fwide {R : Type} (N : Nat) (x0 : Int) (x1 : Int) (y0 : List V) (K0 : List V → Option R) : Option R :=
  bnd2 (s_Put N x1 2) fun l0 n1 => bnd1 (s_fput N x0 l0 y0) fun l2 => K0 l2
noncomputable def s_fwide (N : Nat) (x0 : Int) (x1 : Int) (y0 : List V) : Option (List V) :=
  C_fwide N x0 x1 y0 (fun z0 => some z0)
noncomputable def cx_fwide (N : Nat) : Cx := { T := T, isPure := tabP [⟨86, e_Put (s_Put N)⟩], pureK := fun g ds K => tabK [⟨86, e_Put (s_Put N)⟩] g ds K, memK := fun g dst ds m K => tabMK [⟨59, e_fput (s_fput N)⟩] g dst ds m K, meth := tabM [], keep := fun _ => [], keepX := fun _ => [], loopT := fun _ _ _ _ => none, jumps := 9 }
theorem C_fwide_ok {R : Type} (N : Nat) (x0 : Int) (x1 : Int) (y0 : List V) (K : List V → Option R) : bodyK (cx_fwide N) Try.f60 [.ptr 1 0 0, .v (.int .i64 x0) .no, .v (.int .i64 x1) .no] [frOf 0 [⟨56, [.v (.sl 62 y0) (.own (.slot 0) 62)]⟩]] (r_fwide K) = C_fwide N x0 x1 y0 (fun z0 => K z0) := by
  kernel_rfl
theorem go_fwide : Goes Try.prog 60 := goes_of Try.func60 (by kernel_rfl) (c := bodyOf Try.f60) (by kernel_rfl)
theorem eo_fwide (s : Int → Int → List V → Option (List V)) (hs : ∀ (x0 : Int) (x1 : Int) (y0 : List V) (z0 : List V), s x0 x1 y0 = some z0 → ViewRet Try.prog T 60 [.ptr 1 0 0, .v (.int .i64 x0) .no, .v (.int .i64 x1) .no] [⟨56, [.v (.sl 62 y0) (.own (.slot 0) 62)]⟩] [] [⟨56, [.v (.sl 62 z0) (.own (.slot 0) 62)]⟩]) : MEntOK Try.prog T ⟨60, e_fwide s⟩ := by
  refine ⟨go_fwide, fun R dst ds m K r h => ?_⟩
  simp only [e_fwide] at h
  split at h
  · obtain ⟨Bs, a1, a2, a3, h⟩ := viewK_some h
    split at h
    · obtain ⟨z0, h1, h2⟩ := bnd1_some h
      rw [putAllK_eq] at h2
      exact ⟨_, _, h2, hs _ _ _ _ h1 _ _ m dst a1 a2 a3 ⟨aren_ptr _ rfl, aren_v _, aren_v _, trivial⟩⟩
    · cases h
  · cases h
theorem co_fwide (N : Nat) : CxOK Try.prog (cx_fwide N) :=
  cxOK_of2 (es := [⟨86, e_Put (s_Put N)⟩]) (me := [⟨59, e_fput (s_fput N)⟩]) (ms := []) T_ok ⟨eo_Put _ (p_Put N), trivial⟩ ⟨eo_fput _ (p_fput N), trivial⟩ trivial rfl (fun _ _ _ _ => rfl) (fun _ _ _ _ _ _ => rfl) rfl
theorem lo_fwide (N : Nat) : LoopsOK (cx_fwide N) Try.f60.ntmps (bodyOf Try.f60) :=
  loopsOK_of (k := 0) (by kernel_rfl) trivial
open Classical in
theorem p_fwide (N : Nat) (x0 : Int) (x1 : Int) (y0 : List V) (z0 : List V) (h : s_fwide N x0 x1 y0 = some z0) : ViewRet Try.prog T 60 [.ptr 1 0 0, .v (.int .i64 x0) .no, .v (.int .i64 x1) .no] [⟨56, [.v (.sl 62 y0) (.own (.slot 0) 62)]⟩] [] [⟨56, [.v (.sl 62 z0) (.own (.slot 0) 62)]⟩] := by
  refine view_of (Bs := [⟨56, [.v (.sl 62 y0) (.own (.slot 0) 62)]⟩]) (Bs' := [⟨56, [.v (.sl 62 z0) (.own (.slot 0) 62)]⟩]) (cx := cx_fwide N) (by kernel_rfl) (co_fwide N) Try.func60 (by kernel_rfl) (by kernel_rfl) (lo_fwide N) rfl rfl rfl rfl (rf := r_fwide (fun z'0 => some z'0)) (r := z0) ?_ ?_
  · exact (C_fwide_ok N x0 x1 y0 _).trans h
  · intro rs' m' hx
    unfold r_fwide at hx
    split at hx
    · cases hx; exact ⟨rfl, rfl, _, rfl⟩
    · cases hx
noncomputable def e_fkinds {R : Type} (s : Int → Int → List UInt8 → Int → Int → Int → Int → Int → List V → List V → Option (List V)) (dst : Nat) (ds : List D) (m : Mem) (K : List D → Mem → Option R) : Option R :=
  match ds with
  | [.ptr (kv0 + 1) sv0 0, .agg [.v (.int .i64 x0) .no, .v (.int .i64 x1) .no, .v (.bytes x2) .no, .v (.int .i64 x3) .no, .v (.int .i64 x4) .no, .v (.int .i64 x5) .no, .v (.int .i64 x6) .no, .v (.int .i64 x7) .no, .v (.sl 48 x8) .no]] => viewK [(kv0, sv0)] m fun Bs => (match Bs with
    | [⟨56, [.v (.sl 62 y0) (.own (.slot 0) 62)]⟩] => bnd1 (s x0 x1 x2 x3 x4 x5 x6 x7 x8 y0) fun z0 => putAllK [(kv0, sv0)] [⟨56, [.v (.sl 62 z0) (.own (.slot 0) 62)]⟩] m fun m' => K [] m'
    | _ => none)
  | _ => none
noncomputable def r_fkinds {α : Type} (K : List V → Option α) (rs : List D) (m : Mem) : Option α :=
  match rs, m with
  | [], [_, [(0, ⟨56, [.v (.sl 62 z0) (.own (.slot 0) 62)]⟩)]] => K z0
  | _, _ => none
noncomputable def C_fkinds {R : Type} (N : Nat) (x0 : Int) (x1 : Int) (x2 : List UInt8) (x3 : Int) (x4 : Int) (x5 : Int) (x6 : Int) (x7 : Int) (x8 : List V) (y0 : List V) (K0 : List V → Option R) : Option R :=
  bnd1 (s_frecords N x1) fun b0 =>
  br b0 (bnd1 (s_fput N 130 [UInt8.ofNat (IntKind.u8.wrap x1).toNat, UInt8.ofNat (IntKind.u8.wrap x5).toNat, UInt8.ofNat (IntKind.u8.wrap x6).toNat] y0) fun l1 => K0 l1)
    (bnd1 (s_fput N 130 [UInt8.ofNat (IntKind.u8.wrap x1).toNat] y0) fun l2 => K0 l2)
noncomputable def s_fkinds (N : Nat) (x0 : Int) (x1 : Int) (x2 : List UInt8) (x3 : Int) (x4 : Int) (x5 : Int) (x6 : Int) (x7 : Int) (x8 : List V) (y0 : List V) : Option (List V) :=
  C_fkinds N x0 x1 x2 x3 x4 x5 x6 x7 x8 y0 (fun z0 => some z0)
noncomputable def cx_fkinds (N : Nat) : Cx := { T := T, isPure := tabP [⟨28, e_frecords (s_frecords N)⟩], pureK := fun g ds K => tabK [⟨28, e_frecords (s_frecords N)⟩] g ds K, memK := fun g dst ds m K => tabMK [⟨59, e_fput (s_fput N)⟩] g dst ds m K, meth := tabM [], keep := fun _ => [], keepX := fun _ => [], loopT := fun _ _ _ _ => none, jumps := 9 }
theorem C_fkinds_ok {R : Type} (N : Nat) (x0 : Int) (x1 : Int) (x2 : List UInt8) (x3 : Int) (x4 : Int) (x5 : Int) (x6 : Int) (x7 : Int) (x8 : List V) (y0 : List V) (K : List V → Option R) : bodyK (cx_fkinds N) Try.f34 [.ptr 1 0 0, .agg [.v (.int .i64 x0) .no, .v (.int .i64 x1) .no, .v (.bytes x2) .no, .v (.int .i64 x3) .no, .v (.int .i64 x4) .no, .v (.int .i64 x5) .no, .v (.int .i64 x6) .no, .v (.int .i64 x7) .no, .v (.sl 48 x8) .no]] [frOf 0 [⟨56, [.v (.sl 62 y0) (.own (.slot 0) 62)]⟩]] (r_fkinds K) = C_fkinds N x0 x1 x2 x3 x4 x5 x6 x7 x8 y0 (fun z0 => K z0) := by
  kernel_rfl
theorem go_fkinds : Goes Try.prog 34 := goes_of Try.func34 (by kernel_rfl) (c := bodyOf Try.f34) (by kernel_rfl)
theorem eo_fkinds (s : Int → Int → List UInt8 → Int → Int → Int → Int → Int → List V → List V → Option (List V)) (hs : ∀ (x0 : Int) (x1 : Int) (x2 : List UInt8) (x3 : Int) (x4 : Int) (x5 : Int) (x6 : Int) (x7 : Int) (x8 : List V) (y0 : List V) (z0 : List V), s x0 x1 x2 x3 x4 x5 x6 x7 x8 y0 = some z0 → ViewRet Try.prog T 34 [.ptr 1 0 0, .agg [.v (.int .i64 x0) .no, .v (.int .i64 x1) .no, .v (.bytes x2) .no, .v (.int .i64 x3) .no, .v (.int .i64 x4) .no, .v (.int .i64 x5) .no, .v (.int .i64 x6) .no, .v (.int .i64 x7) .no, .v (.sl 48 x8) .no]] [⟨56, [.v (.sl 62 y0) (.own (.slot 0) 62)]⟩] [] [⟨56, [.v (.sl 62 z0) (.own (.slot 0) 62)]⟩]) : MEntOK Try.prog T ⟨34, e_fkinds s⟩ := by
  refine ⟨go_fkinds, fun R dst ds m K r h => ?_⟩
  simp only [e_fkinds] at h
  split at h
  · obtain ⟨Bs, a1, a2, a3, h⟩ := viewK_some h
    split at h
    · obtain ⟨z0, h1, h2⟩ := bnd1_some h
      rw [putAllK_eq] at h2
      exact ⟨_, _, h2, hs _ _ _ _ _ _ _ _ _ _ _ h1 _ _ m dst a1 a2 a3 ⟨aren_ptr _ rfl, aren_agg ⟨aren_v _, aren_v _, aren_v _, aren_v _, aren_v _, aren_v _, aren_v _, aren_v _, aren_v _, trivial⟩, trivial⟩⟩
    · cases h
  · cases h
theorem co_fkinds (N : Nat) : CxOK Try.prog (cx_fkinds N) :=
  cxOK_of2 (es := [⟨28, e_frecords (s_frecords N)⟩]) (me := [⟨59, e_fput (s_fput N)⟩]) (ms := []) T_ok ⟨eo_frecords _ (p_frecords N), trivial⟩ ⟨eo_fput _ (p_fput N), trivial⟩ trivial rfl (fun _ _ _ _ => rfl) (fun _ _ _ _ _ _ => rfl) rfl
theorem lo_fkinds (N : Nat) : LoopsOK (cx_fkinds N) Try.f34.ntmps (bodyOf Try.f34) :=
  loopsOK_of (k := 0) (by kernel_rfl) trivial
open Classical in
theorem p_fkinds (N : Nat) (x0 : Int) (x1 : Int) (x2 : List UInt8) (x3 : Int) (x4 : Int) (x5 : Int) (x6 : Int) (x7 : Int) (x8 : List V) (y0 : List V) (z0 : List V) (h : s_fkinds N x0 x1 x2 x3 x4 x5 x6 x7 x8 y0 = some z0) : ViewRet Try.prog T 34 [.ptr 1 0 0, .agg [.v (.int .i64 x0) .no, .v (.int .i64 x1) .no, .v (.bytes x2) .no, .v (.int .i64 x3) .no, .v (.int .i64 x4) .no, .v (.int .i64 x5) .no, .v (.int .i64 x6) .no, .v (.int .i64 x7) .no, .v (.sl 48 x8) .no]] [⟨56, [.v (.sl 62 y0) (.own (.slot 0) 62)]⟩] [] [⟨56, [.v (.sl 62 z0) (.own (.slot 0) 62)]⟩] := by
  refine view_of (Bs := [⟨56, [.v (.sl 62 y0) (.own (.slot 0) 62)]⟩]) (Bs' := [⟨56, [.v (.sl 62 z0) (.own (.slot 0) 62)]⟩]) (cx := cx_fkinds N) (by kernel_rfl) (co_fkinds N) Try.func34 (by kernel_rfl) (by kernel_rfl) (lo_fkinds N) rfl rfl rfl rfl (rf := r_fkinds (fun z'0 => some z'0)) (r := z0) ?_ ?_
  · exact (C_fkinds_ok N x0 x1 x2 x3 x4 x5 x6 x7 x8 y0 _).trans h
  · intro rs' m' hx
    unfold r_fkinds at hx
    split at hx
    · cases hx; exact ⟨rfl, rfl, _, rfl⟩
    · cases hx
noncomputable def e_fident {R : Type} (s : Int → Int → List UInt8 → Int → Int → Int → Int → Int → List V → List V → Option (List V)) (dst : Nat) (ds : List D) (m : Mem) (K : List D → Mem → Option R) : Option R :=
  match ds with
  | [.ptr (kv0 + 1) sv0 0, .agg [.v (.int .i64 x0) .no, .v (.int .i64 x1) .no, .v (.bytes x2) .no, .v (.int .i64 x3) .no, .v (.int .i64 x4) .no, .v (.int .i64 x5) .no, .v (.int .i64 x6) .no, .v (.int .i64 x7) .no, .v (.sl 48 x8) .no]] => viewK [(kv0, sv0)] m fun Bs => (match Bs with
    | [⟨56, [.v (.sl 62 y0) (.own (.slot 0) 62)]⟩] => bnd1 (s x0 x1 x2 x3 x4 x5 x6 x7 x8 y0) fun z0 => putAllK [(kv0, sv0)] [⟨56, [.v (.sl 62 z0) (.own (.slot 0) 62)]⟩] m fun m' => K [] m'
    | _ => none)
  | _ => none
noncomputable def r_fident {α : Type} (K : List V → Option α) (rs : List D) (m : Mem) : Option α :=
  match rs, m with
  | [], [_, [(0, ⟨56, [.v (.sl 62 z0) (.own (.slot 0) 62)]⟩)]] => K z0
  | _, _ => none
noncomputable def C_fident {R : Type} (N : Nat) (x0 : Int) (x1 : Int) (x2 : List UInt8) (x3 : Int) (x4 : Int) (x5 : Int) (x6 : Int) (x7 : Int) (x8 : List V) (y0 : List V) (K0 : List V → Option R) : Option R :=
  bnd1 (s_fwide N 131 x0 y0) fun l0 => K0 l0
noncomputable def s_fident (N : Nat) (x0 : Int) (x1 : Int) (x2 : List UInt8) (x3 : Int) (x4 : Int) (x5 : Int) (x6 : Int) (x7 : Int) (x8 : List V) (y0 : List V) : Option (List V) :=
  C_fident N x0 x1 x2 x3 x4 x5 x6 x7 x8 y0 (fun z0 => some z0)
noncomputable def cx_fident (N : Nat) : Cx := { T := T, isPure := tabP [], pureK := fun g ds K => tabK [] g ds K, memK := fun g dst ds m K => tabMK [⟨60, e_fwide (s_fwide N)⟩] g dst ds m K, meth := tabM [], keep := fun _ => [], keepX := fun _ => [], loopT := fun _ _ _ _ => none, jumps := 9 }
theorem C_fident_ok {R : Type} (N : Nat) (x0 : Int) (x1 : Int) (x2 : List UInt8) (x3 : Int) (x4 : Int) (x5 : Int) (x6 : Int) (x7 : Int) (x8 : List V) (y0 : List V) (K : List V → Option R) : bodyK (cx_fident N) Try.f35 [.ptr 1 0 0, .agg [.v (.int .i64 x0) .no, .v (.int .i64 x1) .no, .v (.bytes x2) .no, .v (.int .i64 x3) .no, .v (.int .i64 x4) .no, .v (.int .i64 x5) .no, .v (.int .i64 x6) .no, .v (.int .i64 x7) .no, .v (.sl 48 x8) .no]] [frOf 0 [⟨56, [.v (.sl 62 y0) (.own (.slot 0) 62)]⟩]] (r_fident K) = C_fident N x0 x1 x2 x3 x4 x5 x6 x7 x8 y0 (fun z0 => K z0) := by
  kernel_rfl
theorem go_fident : Goes Try.prog 35 := goes_of Try.func35 (by kernel_rfl) (c := bodyOf Try.f35) (by kernel_rfl)
theorem eo_fident (s : Int → Int → List UInt8 → Int → Int → Int → Int → Int → List V → List V → Option (List V)) (hs : ∀ (x0 : Int) (x1 : Int) (x2 : List UInt8) (x3 : Int) (x4 : Int) (x5 : Int) (x6 : Int) (x7 : Int) (x8 : List V) (y0 : List V) (z0 : List V), s x0 x1 x2 x3 x4 x5 x6 x7 x8 y0 = some z0 → ViewRet Try.prog T 35 [.ptr 1 0 0, .agg [.v (.int .i64 x0) .no, .v (.int .i64 x1) .no, .v (.bytes x2) .no, .v (.int .i64 x3) .no, .v (.int .i64 x4) .no, .v (.int .i64 x5) .no, .v (.int .i64 x6) .no, .v (.int .i64 x7) .no, .v (.sl 48 x8) .no]] [⟨56, [.v (.sl 62 y0) (.own (.slot 0) 62)]⟩] [] [⟨56, [.v (.sl 62 z0) (.own (.slot 0) 62)]⟩]) : MEntOK Try.prog T ⟨35, e_fident s⟩ := by
  refine ⟨go_fident, fun R dst ds m K r h => ?_⟩
  simp only [e_fident] at h
  split at h
  · obtain ⟨Bs, a1, a2, a3, h⟩ := viewK_some h
    split at h
    · obtain ⟨z0, h1, h2⟩ := bnd1_some h
      rw [putAllK_eq] at h2
      exact ⟨_, _, h2, hs _ _ _ _ _ _ _ _ _ _ _ h1 _ _ m dst a1 a2 a3 ⟨aren_ptr _ rfl, aren_agg ⟨aren_v _, aren_v _, aren_v _, aren_v _, aren_v _, aren_v _, aren_v _, aren_v _, aren_v _, trivial⟩, trivial⟩⟩
    · cases h
  · cases h
theorem co_fident (N : Nat) : CxOK Try.prog (cx_fident N) :=
  cxOK_of2 (es := []) (me := [⟨60, e_fwide (s_fwide N)⟩]) (ms := []) T_ok trivial ⟨eo_fwide _ (p_fwide N), trivial⟩ trivial rfl (fun _ _ _ _ => rfl) (fun _ _ _ _ _ _ => rfl) rfl
theorem lo_fident (N : Nat) : LoopsOK (cx_fident N) Try.f35.ntmps (bodyOf Try.f35) :=
  loopsOK_of (k := 0) (by kernel_rfl) trivial
open Classical in
theorem p_fident (N : Nat) (x0 : Int) (x1 : Int) (x2 : List UInt8) (x3 : Int) (x4 : Int) (x5 : Int) (x6 : Int) (x7 : Int) (x8 : List V) (y0 : List V) (z0 : List V) (h : s_fident N x0 x1 x2 x3 x4 x5 x6 x7 x8 y0 = some z0) : ViewRet Try.prog T 35 [.ptr 1 0 0, .agg [.v (.int .i64 x0) .no, .v (.int .i64 x1) .no, .v (.bytes x2) .no, .v (.int .i64 x3) .no, .v (.int .i64 x4) .no, .v (.int .i64 x5) .no, .v (.int .i64 x6) .no, .v (.int .i64 x7) .no, .v (.sl 48 x8) .no]] [⟨56, [.v (.sl 62 y0) (.own (.slot 0) 62)]⟩] [] [⟨56, [.v (.sl 62 z0) (.own (.slot 0) 62)]⟩] := by
  refine view_of (Bs := [⟨56, [.v (.sl 62 y0) (.own (.slot 0) 62)]⟩]) (Bs' := [⟨56, [.v (.sl 62 z0) (.own (.slot 0) 62)]⟩]) (cx := cx_fident N) (by kernel_rfl) (co_fident N) Try.func35 (by kernel_rfl) (by kernel_rfl) (lo_fident N) rfl rfl rfl rfl (rf := r_fident (fun z'0 => some z'0)) (r := z0) ?_ ?_
  · exact (C_fident_ok N x0 x1 x2 x3 x4 x5 x6 x7 x8 y0 _).trans h
  · intro rs' m' hx
    unfold r_fident at hx
    split at hx
    · cases hx; exact ⟨rfl, rfl, _, rfl⟩
    · cases hx
noncomputable def e_fname {R : Type} (s : Int → Int → List UInt8 → Int → Int → Int → Int → Int → List V → List V → Option (List V)) (dst : Nat) (ds : List D) (m : Mem) (K : List D → Mem → Option R) : Option R :=
  match ds with
  | [.ptr (kv0 + 1) sv0 0, .agg [.v (.int .i64 x0) .no, .v (.int .i64 x1) .no, .v (.bytes x2) .no, .v (.int .i64 x3) .no, .v (.int .i64 x4) .no, .v (.int .i64 x5) .no, .v (.int .i64 x6) .no, .v (.int .i64 x7) .no, .v (.sl 48 x8) .no]] => viewK [(kv0, sv0)] m fun Bs => (match Bs with
    | [⟨56, [.v (.sl 62 y0) (.own (.slot 0) 62)]⟩] => bnd1 (s x0 x1 x2 x3 x4 x5 x6 x7 x8 y0) fun z0 => putAllK [(kv0, sv0)] [⟨56, [.v (.sl 62 z0) (.own (.slot 0) 62)]⟩] m fun m' => K [] m'
    | _ => none)
  | _ => none
noncomputable def r_fname {α : Type} (K : List V → Option α) (rs : List D) (m : Mem) : Option α :=
  match rs, m with
  | [], [_, [(0, ⟨56, [.v (.sl 62 z0) (.own (.slot 0) 62)]⟩)]] => K z0
  | _, _ => none
noncomputable def C_fname {R : Type} (N : Nat) (x0 : Int) (x1 : Int) (x2 : List UInt8) (x3 : Int) (x4 : Int) (x5 : Int) (x6 : Int) (x7 : Int) (x8 : List V) (y0 : List V) (K0 : List V → Option R) : Option R :=
  bnd1 (s_clone N x2) fun l0 => bnd1 (s_fput N 132 l0 y0) fun l1 => K0 l1
noncomputable def s_fname (N : Nat) (x0 : Int) (x1 : Int) (x2 : List UInt8) (x3 : Int) (x4 : Int) (x5 : Int) (x6 : Int) (x7 : Int) (x8 : List V) (y0 : List V) : Option (List V) :=
  C_fname N x0 x1 x2 x3 x4 x5 x6 x7 x8 y0 (fun z0 => some z0)
noncomputable def cx_fname (N : Nat) : Cx := { T := T, isPure := tabP [⟨61, e_clone (s_clone N)⟩], pureK := fun g ds K => tabK [⟨61, e_clone (s_clone N)⟩] g ds K, memK := fun g dst ds m K => tabMK [⟨59, e_fput (s_fput N)⟩] g dst ds m K, meth := tabM [], keep := fun _ => [], keepX := fun _ => [], loopT := fun _ _ _ _ => none, jumps := 9 }
theorem C_fname_ok {R : Type} (N : Nat) (x0 : Int) (x1 : Int) (x2 : List UInt8) (x3 : Int) (x4 : Int) (x5 : Int) (x6 : Int) (x7 : Int) (x8 : List V) (y0 : List V) (K : List V → Option R) : bodyK (cx_fname N) Try.f36 [.ptr 1 0 0, .agg [.v (.int .i64 x0) .no, .v (.int .i64 x1) .no, .v (.bytes x2) .no, .v (.int .i64 x3) .no, .v (.int .i64 x4) .no, .v (.int .i64 x5) .no, .v (.int .i64 x6) .no, .v (.int .i64 x7) .no, .v (.sl 48 x8) .no]] [frOf 0 [⟨56, [.v (.sl 62 y0) (.own (.slot 0) 62)]⟩]] (r_fname K) = C_fname N x0 x1 x2 x3 x4 x5 x6 x7 x8 y0 (fun z0 => K z0) := by
  kernel_rfl
theorem go_fname : Goes Try.prog 36 := goes_of Try.func36 (by kernel_rfl) (c := bodyOf Try.f36) (by kernel_rfl)
theorem eo_fname (s : Int → Int → List UInt8 → Int → Int → Int → Int → Int → List V → List V → Option (List V)) (hs : ∀ (x0 : Int) (x1 : Int) (x2 : List UInt8) (x3 : Int) (x4 : Int) (x5 : Int) (x6 : Int) (x7 : Int) (x8 : List V) (y0 : List V) (z0 : List V), s x0 x1 x2 x3 x4 x5 x6 x7 x8 y0 = some z0 → ViewRet Try.prog T 36 [.ptr 1 0 0, .agg [.v (.int .i64 x0) .no, .v (.int .i64 x1) .no, .v (.bytes x2) .no, .v (.int .i64 x3) .no, .v (.int .i64 x4) .no, .v (.int .i64 x5) .no, .v (.int .i64 x6) .no, .v (.int .i64 x7) .no, .v (.sl 48 x8) .no]] [⟨56, [.v (.sl 62 y0) (.own (.slot 0) 62)]⟩] [] [⟨56, [.v (.sl 62 z0) (.own (.slot 0) 62)]⟩]) : MEntOK Try.prog T ⟨36, e_fname s⟩ := by
  refine ⟨go_fname, fun R dst ds m K r h => ?_⟩
  simp only [e_fname] at h
  split at h
  · obtain ⟨Bs, a1, a2, a3, h⟩ := viewK_some h
    split at h
    · obtain ⟨z0, h1, h2⟩ := bnd1_some h
      rw [putAllK_eq] at h2
      exact ⟨_, _, h2, hs _ _ _ _ _ _ _ _ _ _ _ h1 _ _ m dst a1 a2 a3 ⟨aren_ptr _ rfl, aren_agg ⟨aren_v _, aren_v _, aren_v _, aren_v _, aren_v _, aren_v _, aren_v _, aren_v _, aren_v _, trivial⟩, trivial⟩⟩
    · cases h
  · cases h
theorem co_fname (N : Nat) : CxOK Try.prog (cx_fname N) :=
  cxOK_of2 (es := [⟨61, e_clone (s_clone N)⟩]) (me := [⟨59, e_fput (s_fput N)⟩]) (ms := []) T_ok ⟨eo_clone _ (p_clone N), trivial⟩ ⟨eo_fput _ (p_fput N), trivial⟩ trivial rfl (fun _ _ _ _ => rfl) (fun _ _ _ _ _ _ => rfl) rfl
theorem lo_fname (N : Nat) : LoopsOK (cx_fname N) Try.f36.ntmps (bodyOf Try.f36) :=
  loopsOK_of (k := 0) (by kernel_rfl) trivial
open Classical in
theorem p_fname (N : Nat) (x0 : Int) (x1 : Int) (x2 : List UInt8) (x3 : Int) (x4 : Int) (x5 : Int) (x6 : Int) (x7 : Int) (x8 : List V) (y0 : List V) (z0 : List V) (h : s_fname N x0 x1 x2 x3 x4 x5 x6 x7 x8 y0 = some z0) : ViewRet Try.prog T 36 [.ptr 1 0 0, .agg [.v (.int .i64 x0) .no, .v (.int .i64 x1) .no, .v (.bytes x2) .no, .v (.int .i64 x3) .no, .v (.int .i64 x4) .no, .v (.int .i64 x5) .no, .v (.int .i64 x6) .no, .v (.int .i64 x7) .no, .v (.sl 48 x8) .no]] [⟨56, [.v (.sl 62 y0) (.own (.slot 0) 62)]⟩] [] [⟨56, [.v (.sl 62 z0) (.own (.slot 0) 62)]⟩] := by
  refine view_of (Bs := [⟨56, [.v (.sl 62 y0) (.own (.slot 0) 62)]⟩]) (Bs' := [⟨56, [.v (.sl 62 z0) (.own (.slot 0) 62)]⟩]) (cx := cx_fname N) (by kernel_rfl) (co_fname N) Try.func36 (by kernel_rfl) (by kernel_rfl) (lo_fname N) rfl rfl rfl rfl (rf := r_fname (fun z'0 => some z'0)) (r := z0) ?_ ?_
  · exact (C_fname_ok N x0 x1 x2 x3 x4 x5 x6 x7 x8 y0 _).trans h
  · intro rs' m' hx
    unfold r_fname at hx
    split at hx
    · cases hx; exact ⟨rfl, rfl, _, rfl⟩
    · cases hx
noncomputable def e_fsize {R : Type} (s : Int → Int → List UInt8 → Int → Int → Int → Int → Int → List V → List V → Option (List V)) (dst : Nat) (ds : List D) (m : Mem) (K : List D → Mem → Option R) : Option R :=
  match ds with
  | [.ptr (kv0 + 1) sv0 0, .agg [.v (.int .i64 x0) .no, .v (.int .i64 x1) .no, .v (.bytes x2) .no, .v (.int .i64 x3) .no, .v (.int .i64 x4) .no, .v (.int .i64 x5) .no, .v (.int .i64 x6) .no, .v (.int .i64 x7) .no, .v (.sl 48 x8) .no]] => viewK [(kv0, sv0)] m fun Bs => (match Bs with
    | [⟨56, [.v (.sl 62 y0) (.own (.slot 0) 62)]⟩] => bnd1 (s x0 x1 x2 x3 x4 x5 x6 x7 x8 y0) fun z0 => putAllK [(kv0, sv0)] [⟨56, [.v (.sl 62 z0) (.own (.slot 0) 62)]⟩] m fun m' => K [] m'
    | _ => none)
  | _ => none
noncomputable def r_fsize {α : Type} (K : List V → Option α) (rs : List D) (m : Mem) : Option α :=
  match rs, m with
  | [], [_, [(0, ⟨56, [.v (.sl 62 z0) (.own (.slot 0) 62)]⟩)]] => K z0
  | _, _ => none
noncomputable def C_fsize {R : Type} (N : Nat) (x0 : Int) (x1 : Int) (x2 : List UInt8) (x3 : Int) (x4 : Int) (x5 : Int) (x6 : Int) (x7 : Int) (x8 : List V) (y0 : List V) (K0 : List V → Option R) : Option R :=
  bnd1 (s_fwide N 128 x4 y0) fun l0 => K0 l0
noncomputable def s_fsize (N : Nat) (x0 : Int) (x1 : Int) (x2 : List UInt8) (x3 : Int) (x4 : Int) (x5 : Int) (x6 : Int) (x7 : Int) (x8 : List V) (y0 : List V) : Option (List V) :=
  C_fsize N x0 x1 x2 x3 x4 x5 x6 x7 x8 y0 (fun z0 => some z0)
noncomputable def cx_fsize (N : Nat) : Cx := { T := T, isPure := tabP [], pureK := fun g ds K => tabK [] g ds K, memK := fun g dst ds m K => tabMK [⟨60, e_fwide (s_fwide N)⟩] g dst ds m K, meth := tabM [], keep := fun _ => [], keepX := fun _ => [], loopT := fun _ _ _ _ => none, jumps := 9 }
theorem C_fsize_ok {R : Type} (N : Nat) (x0 : Int) (x1 : Int) (x2 : List UInt8) (x3 : Int) (x4 : Int) (x5 : Int) (x6 : Int) (x7 : Int) (x8 : List V) (y0 : List V) (K : List V → Option R) : bodyK (cx_fsize N) Try.f37 [.ptr 1 0 0, .agg [.v (.int .i64 x0) .no, .v (.int .i64 x1) .no, .v (.bytes x2) .no, .v (.int .i64 x3) .no, .v (.int .i64 x4) .no, .v (.int .i64 x5) .no, .v (.int .i64 x6) .no, .v (.int .i64 x7) .no, .v (.sl 48 x8) .no]] [frOf 0 [⟨56, [.v (.sl 62 y0) (.own (.slot 0) 62)]⟩]] (r_fsize K) = C_fsize N x0 x1 x2 x3 x4 x5 x6 x7 x8 y0 (fun z0 => K z0) := by
  kernel_rfl
theorem go_fsize : Goes Try.prog 37 := goes_of Try.func37 (by kernel_rfl) (c := bodyOf Try.f37) (by kernel_rfl)
theorem eo_fsize (s : Int → Int → List UInt8 → Int → Int → Int → Int → Int → List V → List V → Option (List V)) (hs : ∀ (x0 : Int) (x1 : Int) (x2 : List UInt8) (x3 : Int) (x4 : Int) (x5 : Int) (x6 : Int) (x7 : Int) (x8 : List V) (y0 : List V) (z0 : List V), s x0 x1 x2 x3 x4 x5 x6 x7 x8 y0 = some z0 → ViewRet Try.prog T 37 [.ptr 1 0 0, .agg [.v (.int .i64 x0) .no, .v (.int .i64 x1) .no, .v (.bytes x2) .no, .v (.int .i64 x3) .no, .v (.int .i64 x4) .no, .v (.int .i64 x5) .no, .v (.int .i64 x6) .no, .v (.int .i64 x7) .no, .v (.sl 48 x8) .no]] [⟨56, [.v (.sl 62 y0) (.own (.slot 0) 62)]⟩] [] [⟨56, [.v (.sl 62 z0) (.own (.slot 0) 62)]⟩]) : MEntOK Try.prog T ⟨37, e_fsize s⟩ := by
  refine ⟨go_fsize, fun R dst ds m K r h => ?_⟩
  simp only [e_fsize] at h
  split at h
  · obtain ⟨Bs, a1, a2, a3, h⟩ := viewK_some h
    split at h
    · obtain ⟨z0, h1, h2⟩ := bnd1_some h
      rw [putAllK_eq] at h2
      exact ⟨_, _, h2, hs _ _ _ _ _ _ _ _ _ _ _ h1 _ _ m dst a1 a2 a3 ⟨aren_ptr _ rfl, aren_agg ⟨aren_v _, aren_v _, aren_v _, aren_v _, aren_v _, aren_v _, aren_v _, aren_v _, aren_v _, trivial⟩, trivial⟩⟩
    · cases h
  · cases h
theorem co_fsize (N : Nat) : CxOK Try.prog (cx_fsize N) :=
  cxOK_of2 (es := []) (me := [⟨60, e_fwide (s_fwide N)⟩]) (ms := []) T_ok trivial ⟨eo_fwide _ (p_fwide N), trivial⟩ trivial rfl (fun _ _ _ _ => rfl) (fun _ _ _ _ _ _ => rfl) rfl
theorem lo_fsize (N : Nat) : LoopsOK (cx_fsize N) Try.f37.ntmps (bodyOf Try.f37) :=
  loopsOK_of (k := 0) (by kernel_rfl) trivial
open Classical in
theorem p_fsize (N : Nat) (x0 : Int) (x1 : Int) (x2 : List UInt8) (x3 : Int) (x4 : Int) (x5 : Int) (x6 : Int) (x7 : Int) (x8 : List V) (y0 : List V) (z0 : List V) (h : s_fsize N x0 x1 x2 x3 x4 x5 x6 x7 x8 y0 = some z0) : ViewRet Try.prog T 37 [.ptr 1 0 0, .agg [.v (.int .i64 x0) .no, .v (.int .i64 x1) .no, .v (.bytes x2) .no, .v (.int .i64 x3) .no, .v (.int .i64 x4) .no, .v (.int .i64 x5) .no, .v (.int .i64 x6) .no, .v (.int .i64 x7) .no, .v (.sl 48 x8) .no]] [⟨56, [.v (.sl 62 y0) (.own (.slot 0) 62)]⟩] [] [⟨56, [.v (.sl 62 z0) (.own (.slot 0) 62)]⟩] := by
  refine view_of (Bs := [⟨56, [.v (.sl 62 y0) (.own (.slot 0) 62)]⟩]) (Bs' := [⟨56, [.v (.sl 62 z0) (.own (.slot 0) 62)]⟩]) (cx := cx_fsize N) (by kernel_rfl) (co_fsize N) Try.func37 (by kernel_rfl) (by kernel_rfl) (lo_fsize N) rfl rfl rfl rfl (rf := r_fsize (fun z'0 => some z'0)) (r := z0) ?_ ?_
  · exact (C_fsize_ok N x0 x1 x2 x3 x4 x5 x6 x7 x8 y0 _).trans h
  · intro rs' m' hx
    unfold r_fsize at hx
    split at hx
    · cases hx; exact ⟨rfl, rfl, _, rfl⟩
    · cases hx
noncomputable def e_fshort {R : Type} (s : Int → Int → List UInt8 → Int → Int → Int → Int → Int → List V → List V → Option (List V)) (dst : Nat) (ds : List D) (m : Mem) (K : List D → Mem → Option R) : Option R :=
  match ds with
  | [.ptr (kv0 + 1) sv0 0, .agg [.v (.int .i64 x0) .no, .v (.int .i64 x1) .no, .v (.bytes x2) .no, .v (.int .i64 x3) .no, .v (.int .i64 x4) .no, .v (.int .i64 x5) .no, .v (.int .i64 x6) .no, .v (.int .i64 x7) .no, .v (.sl 48 x8) .no]] => viewK [(kv0, sv0)] m fun Bs => (match Bs with
    | [⟨56, [.v (.sl 62 y0) (.own (.slot 0) 62)]⟩] => bnd1 (s x0 x1 x2 x3 x4 x5 x6 x7 x8 y0) fun z0 => putAllK [(kv0, sv0)] [⟨56, [.v (.sl 62 z0) (.own (.slot 0) 62)]⟩] m fun m' => K [] m'
    | _ => none)
  | _ => none
noncomputable def r_fshort {α : Type} (K : List V → Option α) (rs : List D) (m : Mem) : Option α :=
  match rs, m with
  | [], [_, [(0, ⟨56, [.v (.sl 62 z0) (.own (.slot 0) 62)]⟩)]] => K z0
  | _, _ => none
noncomputable def C_fshort {R : Type} (N : Nat) (x0 : Int) (x1 : Int) (x2 : List UInt8) (x3 : Int) (x4 : Int) (x5 : Int) (x6 : Int) (x7 : Int) (x8 : List V) (y0 : List V) (K0 : List V → Option R) : Option R :=
  bnd1 (s_fput N 136 [UInt8.ofNat (IntKind.u8.wrap x3).toNat] y0) fun l0 => K0 l0
noncomputable def s_fshort (N : Nat) (x0 : Int) (x1 : Int) (x2 : List UInt8) (x3 : Int) (x4 : Int) (x5 : Int) (x6 : Int) (x7 : Int) (x8 : List V) (y0 : List V) : Option (List V) :=
  C_fshort N x0 x1 x2 x3 x4 x5 x6 x7 x8 y0 (fun z0 => some z0)
noncomputable def cx_fshort (N : Nat) : Cx := { T := T, isPure := tabP [], pureK := fun g ds K => tabK [] g ds K, memK := fun g dst ds m K => tabMK [⟨59, e_fput (s_fput N)⟩] g dst ds m K, meth := tabM [], keep := fun _ => [], keepX := fun _ => [], loopT := fun _ _ _ _ => none, jumps := 9 }
theorem C_fshort_ok {R : Type} (N : Nat) (x0 : Int) (x1 : Int) (x2 : List UInt8) (x3 : Int) (x4 : Int) (x5 : Int) (x6 : Int) (x7 : Int) (x8 : List V) (y0 : List V) (K : List V → Option R) : bodyK (cx_fshort N) Try.f38 [.ptr 1 0 0, .agg [.v (.int .i64 x0) .no, .v (.int .i64 x1) .no, .v (.bytes x2) .no, .v (.int .i64 x3) .no, .v (.int .i64 x4) .no, .v (.int .i64 x5) .no, .v (.int .i64 x6) .no, .v (.int .i64 x7) .no, .v (.sl 48 x8) .no]] [frOf 0 [⟨56, [.v (.sl 62 y0) (.own (.slot 0) 62)]⟩]] (r_fshort K) = C_fshort N x0 x1 x2 x3 x4 x5 x6 x7 x8 y0 (fun z0 => K z0) := by
  kernel_rfl
theorem go_fshort : Goes Try.prog 38 := goes_of Try.func38 (by kernel_rfl) (c := bodyOf Try.f38) (by kernel_rfl)
theorem eo_fshort (s : Int → Int → List UInt8 → Int → Int → Int → Int → Int → List V → List V → Option (List V)) (hs : ∀ (x0 : Int) (x1 : Int) (x2 : List UInt8) (x3 : Int) (x4 : Int) (x5 : Int) (x6 : Int) (x7 : Int) (x8 : List V) (y0 : List V) (z0 : List V), s x0 x1 x2 x3 x4 x5 x6 x7 x8 y0 = some z0 → ViewRet Try.prog T 38 [.ptr 1 0 0, .agg [.v (.int .i64 x0) .no, .v (.int .i64 x1) .no, .v (.bytes x2) .no, .v (.int .i64 x3) .no, .v (.int .i64 x4) .no, .v (.int .i64 x5) .no, .v (.int .i64 x6) .no, .v (.int .i64 x7) .no, .v (.sl 48 x8) .no]] [⟨56, [.v (.sl 62 y0) (.own (.slot 0) 62)]⟩] [] [⟨56, [.v (.sl 62 z0) (.own (.slot 0) 62)]⟩]) : MEntOK Try.prog T ⟨38, e_fshort s⟩ := by
  refine ⟨go_fshort, fun R dst ds m K r h => ?_⟩
  simp only [e_fshort] at h
  split at h
  · obtain ⟨Bs, a1, a2, a3, h⟩ := viewK_some h
    split at h
    · obtain ⟨z0, h1, h2⟩ := bnd1_some h
      rw [putAllK_eq] at h2
      exact ⟨_, _, h2, hs _ _ _ _ _ _ _ _ _ _ _ h1 _ _ m dst a1 a2 a3 ⟨aren_ptr _ rfl, aren_agg ⟨aren_v _, aren_v _, aren_v _, aren_v _, aren_v _, aren_v _, aren_v _, aren_v _, aren_v _, trivial⟩, trivial⟩⟩
    · cases h
  · cases h
theorem co_fshort (N : Nat) : CxOK Try.prog (cx_fshort N) :=
  cxOK_of2 (es := []) (me := [⟨59, e_fput (s_fput N)⟩]) (ms := []) T_ok trivial ⟨eo_fput _ (p_fput N), trivial⟩ trivial rfl (fun _ _ _ _ => rfl) (fun _ _ _ _ _ _ => rfl) rfl
theorem lo_fshort (N : Nat) : LoopsOK (cx_fshort N) Try.f38.ntmps (bodyOf Try.f38) :=
  loopsOK_of (k := 0) (by kernel_rfl) trivial
open Classical in
theorem p_fshort (N : Nat) (x0 : Int) (x1 : Int) (x2 : List UInt8) (x3 : Int) (x4 : Int) (x5 : Int) (x6 : Int) (x7 : Int) (x8 : List V) (y0 : List V) (z0 : List V) (h : s_fshort N x0 x1 x2 x3 x4 x5 x6 x7 x8 y0 = some z0) : ViewRet Try.prog T 38 [.ptr 1 0 0, .agg [.v (.int .i64 x0) .no, .v (.int .i64 x1) .no, .v (.bytes x2) .no, .v (.int .i64 x3) .no, .v (.int .i64 x4) .no, .v (.int .i64 x5) .no, .v (.int .i64 x6) .no, .v (.int .i64 x7) .no, .v (.sl 48 x8) .no]] [⟨56, [.v (.sl 62 y0) (.own (.slot 0) 62)]⟩] [] [⟨56, [.v (.sl 62 z0) (.own (.slot 0) 62)]⟩] := by
  refine view_of (Bs := [⟨56, [.v (.sl 62 y0) (.own (.slot 0) 62)]⟩]) (Bs' := [⟨56, [.v (.sl 62 z0) (.own (.slot 0) 62)]⟩]) (cx := cx_fshort N) (by kernel_rfl) (co_fshort N) Try.func38 (by kernel_rfl) (by kernel_rfl) (lo_fshort N) rfl rfl rfl rfl (rf := r_fshort (fun z'0 => some z'0)) (r := z0) ?_ ?_
  · exact (C_fshort_ok N x0 x1 x2 x3 x4 x5 x6 x7 x8 y0 _).trans h
  · intro rs' m' hx
    unfold r_fshort at hx
    split at hx
    · cases hx; exact ⟨rfl, rfl, _, rfl⟩
    · cases hx
noncomputable def e_fstate {R : Type} (s : Int → Int → List UInt8 → Int → Int → Int → Int → Int → List V → List V → Option (List V)) (dst : Nat) (ds : List D) (m : Mem) (K : List D → Mem → Option R) : Option R :=
  match ds with
  | [.ptr (kv0 + 1) sv0 0, .agg [.v (.int .i64 x0) .no, .v (.int .i64 x1) .no, .v (.bytes x2) .no, .v (.int .i64 x3) .no, .v (.int .i64 x4) .no, .v (.int .i64 x5) .no, .v (.int .i64 x6) .no, .v (.int .i64 x7) .no, .v (.sl 48 x8) .no]] => viewK [(kv0, sv0)] m fun Bs => (match Bs with
    | [⟨56, [.v (.sl 62 y0) (.own (.slot 0) 62)]⟩] => bnd1 (s x0 x1 x2 x3 x4 x5 x6 x7 x8 y0) fun z0 => putAllK [(kv0, sv0)] [⟨56, [.v (.sl 62 z0) (.own (.slot 0) 62)]⟩] m fun m' => K [] m'
    | _ => none)
  | _ => none
noncomputable def r_fstate {α : Type} (K : List V → Option α) (rs : List D) (m : Mem) : Option α :=
  match rs, m with
  | [], [_, [(0, ⟨56, [.v (.sl 62 z0) (.own (.slot 0) 62)]⟩)]] => K z0
  | _, _ => none
noncomputable def C_fstate {R : Type} (N : Nat) (x0 : Int) (x1 : Int) (x2 : List UInt8) (x3 : Int) (x4 : Int) (x5 : Int) (x6 : Int) (x7 : Int) (x8 : List V) (y0 : List V) (K0 : List V → Option R) : Option R :=
  bnd1 (s_fput N 138 [UInt8.ofNat (IntKind.u8.wrap x7).toNat] y0) fun l0 => K0 l0
noncomputable def s_fstate (N : Nat) (x0 : Int) (x1 : Int) (x2 : List UInt8) (x3 : Int) (x4 : Int) (x5 : Int) (x6 : Int) (x7 : Int) (x8 : List V) (y0 : List V) : Option (List V) :=
  C_fstate N x0 x1 x2 x3 x4 x5 x6 x7 x8 y0 (fun z0 => some z0)
noncomputable def cx_fstate (N : Nat) : Cx := { T := T, isPure := tabP [], pureK := fun g ds K => tabK [] g ds K, memK := fun g dst ds m K => tabMK [⟨59, e_fput (s_fput N)⟩] g dst ds m K, meth := tabM [], keep := fun _ => [], keepX := fun _ => [], loopT := fun _ _ _ _ => none, jumps := 9 }
theorem C_fstate_ok {R : Type} (N : Nat) (x0 : Int) (x1 : Int) (x2 : List UInt8) (x3 : Int) (x4 : Int) (x5 : Int) (x6 : Int) (x7 : Int) (x8 : List V) (y0 : List V) (K : List V → Option R) : bodyK (cx_fstate N) Try.f39 [.ptr 1 0 0, .agg [.v (.int .i64 x0) .no, .v (.int .i64 x1) .no, .v (.bytes x2) .no, .v (.int .i64 x3) .no, .v (.int .i64 x4) .no, .v (.int .i64 x5) .no, .v (.int .i64 x6) .no, .v (.int .i64 x7) .no, .v (.sl 48 x8) .no]] [frOf 0 [⟨56, [.v (.sl 62 y0) (.own (.slot 0) 62)]⟩]] (r_fstate K) = C_fstate N x0 x1 x2 x3 x4 x5 x6 x7 x8 y0 (fun z0 => K z0) := by
  kernel_rfl
theorem go_fstate : Goes Try.prog 39 := goes_of Try.func39 (by kernel_rfl) (c := bodyOf Try.f39) (by kernel_rfl)
theorem eo_fstate (s : Int → Int → List UInt8 → Int → Int → Int → Int → Int → List V → List V → Option (List V)) (hs : ∀ (x0 : Int) (x1 : Int) (x2 : List UInt8) (x3 : Int) (x4 : Int) (x5 : Int) (x6 : Int) (x7 : Int) (x8 : List V) (y0 : List V) (z0 : List V), s x0 x1 x2 x3 x4 x5 x6 x7 x8 y0 = some z0 → ViewRet Try.prog T 39 [.ptr 1 0 0, .agg [.v (.int .i64 x0) .no, .v (.int .i64 x1) .no, .v (.bytes x2) .no, .v (.int .i64 x3) .no, .v (.int .i64 x4) .no, .v (.int .i64 x5) .no, .v (.int .i64 x6) .no, .v (.int .i64 x7) .no, .v (.sl 48 x8) .no]] [⟨56, [.v (.sl 62 y0) (.own (.slot 0) 62)]⟩] [] [⟨56, [.v (.sl 62 z0) (.own (.slot 0) 62)]⟩]) : MEntOK Try.prog T ⟨39, e_fstate s⟩ := by
  refine ⟨go_fstate, fun R dst ds m K r h => ?_⟩
  simp only [e_fstate] at h
  split at h
  · obtain ⟨Bs, a1, a2, a3, h⟩ := viewK_some h
    split at h
    · obtain ⟨z0, h1, h2⟩ := bnd1_some h
      rw [putAllK_eq] at h2
      exact ⟨_, _, h2, hs _ _ _ _ _ _ _ _ _ _ _ h1 _ _ m dst a1 a2 a3 ⟨aren_ptr _ rfl, aren_agg ⟨aren_v _, aren_v _, aren_v _, aren_v _, aren_v _, aren_v _, aren_v _, aren_v _, aren_v _, trivial⟩, trivial⟩⟩
    · cases h
  · cases h
theorem co_fstate (N : Nat) : CxOK Try.prog (cx_fstate N) :=
  cxOK_of2 (es := []) (me := [⟨59, e_fput (s_fput N)⟩]) (ms := []) T_ok trivial ⟨eo_fput _ (p_fput N), trivial⟩ trivial rfl (fun _ _ _ _ => rfl) (fun _ _ _ _ _ _ => rfl) rfl
theorem lo_fstate (N : Nat) : LoopsOK (cx_fstate N) Try.f39.ntmps (bodyOf Try.f39) :=
  loopsOK_of (k := 0) (by kernel_rfl) trivial
open Classical in
theorem p_fstate (N : Nat) (x0 : Int) (x1 : Int) (x2 : List UInt8) (x3 : Int) (x4 : Int) (x5 : Int) (x6 : Int) (x7 : Int) (x8 : List V) (y0 : List V) (z0 : List V) (h : s_fstate N x0 x1 x2 x3 x4 x5 x6 x7 x8 y0 = some z0) : ViewRet Try.prog T 39 [.ptr 1 0 0, .agg [.v (.int .i64 x0) .no, .v (.int .i64 x1) .no, .v (.bytes x2) .no, .v (.int .i64 x3) .no, .v (.int .i64 x4) .no, .v (.int .i64 x5) .no, .v (.int .i64 x6) .no, .v (.int .i64 x7) .no, .v (.sl 48 x8) .no]] [⟨56, [.v (.sl 62 y0) (.own (.slot 0) 62)]⟩] [] [⟨56, [.v (.sl 62 z0) (.own (.slot 0) 62)]⟩] := by
  refine view_of (Bs := [⟨56, [.v (.sl 62 y0) (.own (.slot 0) 62)]⟩]) (Bs' := [⟨56, [.v (.sl 62 z0) (.own (.slot 0) 62)]⟩]) (cx := cx_fstate N) (by kernel_rfl) (co_fstate N) Try.func39 (by kernel_rfl) (by kernel_rfl) (lo_fstate N) rfl rfl rfl rfl (rf := r_fstate (fun z'0 => some z'0)) (r := z0) ?_ ?_
  · exact (C_fstate_ok N x0 x1 x2 x3 x4 x5 x6 x7 x8 y0 _).trans h
  · intro rs' m' hx
    unfold r_fstate at hx
    split at hx
    · cases hx; exact ⟨rfl, rfl, _, rfl⟩
    · cases hx
noncomputable def e_frules {R : Type} (s : Int → Int → List UInt8 → Int → Int → Int → Int → Int → List V → List V → Option (List V)) (dst : Nat) (ds : List D) (m : Mem) (K : List D → Mem → Option R) : Option R :=
  match ds with
  | [.ptr (kv0 + 1) sv0 0, .agg [.v (.int .i64 x0) .no, .v (.int .i64 x1) .no, .v (.bytes x2) .no, .v (.int .i64 x3) .no, .v (.int .i64 x4) .no, .v (.int .i64 x5) .no, .v (.int .i64 x6) .no, .v (.int .i64 x7) .no, .v (.sl 48 x8) .no]] => viewK [(kv0, sv0)] m fun Bs => (match Bs with
    | [⟨56, [.v (.sl 62 y0) (.own (.slot 0) 62)]⟩] => bnd1 (s x0 x1 x2 x3 x4 x5 x6 x7 x8 y0) fun z0 => putAllK [(kv0, sv0)] [⟨56, [.v (.sl 62 z0) (.own (.slot 0) 62)]⟩] m fun m' => K [] m'
    | _ => none)
  | _ => none
noncomputable def r_frules {α : Type} (K : List V → Option α) (rs : List D) (m : Mem) : Option α :=
  match rs, m with
  | [], [_, [(0, ⟨56, [.v (.sl 62 z0) (.own (.slot 0) 62)]⟩)]] => K z0
  | _, _ => none
noncomputable def C_frules {R : Type} (N : Nat) (x0 : Int) (x1 : Int) (x2 : List UInt8) (x3 : Int) (x4 : Int) (x5 : Int) (x6 : Int) (x7 : Int) (x8 : List V) (y0 : List V) (K0 : List V → Option R) : Option R :=
  bnd2 (s_aEncode N x8) fun l0 n1 => bnd1 (s_fput N 134 l0 y0) fun l2 => K0 l2
noncomputable def s_frules (N : Nat) (x0 : Int) (x1 : Int) (x2 : List UInt8) (x3 : Int) (x4 : Int) (x5 : Int) (x6 : Int) (x7 : Int) (x8 : List V) (y0 : List V) : Option (List V) :=
  C_frules N x0 x1 x2 x3 x4 x5 x6 x7 x8 y0 (fun z0 => some z0)
noncomputable def cx_frules (N : Nat) : Cx := { T := T, isPure := tabP [⟨62, e_aEncode (s_aEncode N)⟩], pureK := fun g ds K => tabK [⟨62, e_aEncode (s_aEncode N)⟩] g ds K, memK := fun g dst ds m K => tabMK [⟨59, e_fput (s_fput N)⟩] g dst ds m K, meth := tabM [], keep := fun _ => [], keepX := fun _ => [], loopT := fun _ _ _ _ => none, jumps := 9 }
theorem C_frules_ok {R : Type} (N : Nat) (x0 : Int) (x1 : Int) (x2 : List UInt8) (x3 : Int) (x4 : Int) (x5 : Int) (x6 : Int) (x7 : Int) (x8 : List V) (y0 : List V) (K : List V → Option R) : bodyK (cx_frules N) Try.f40 [.ptr 1 0 0, .agg [.v (.int .i64 x0) .no, .v (.int .i64 x1) .no, .v (.bytes x2) .no, .v (.int .i64 x3) .no, .v (.int .i64 x4) .no, .v (.int .i64 x5) .no, .v (.int .i64 x6) .no, .v (.int .i64 x7) .no, .v (.sl 48 x8) .no]] [frOf 0 [⟨56, [.v (.sl 62 y0) (.own (.slot 0) 62)]⟩]] (r_frules K) = C_frules N x0 x1 x2 x3 x4 x5 x6 x7 x8 y0 (fun z0 => K z0) := by
  kernel_rfl
theorem go_frules : Goes Try.prog 40 := goes_of Try.func40 (by kernel_rfl) (c := bodyOf Try.f40) (by kernel_rfl)
theorem eo_frules (s : Int → Int → List UInt8 → Int → Int → Int → Int → Int → List V → List V → Option (List V)) (hs : ∀ (x0 : Int) (x1 : Int) (x2 : List UInt8) (x3 : Int) (x4 : Int) (x5 : Int) (x6 : Int) (x7 : Int) (x8 : List V) (y0 : List V) (z0 : List V), s x0 x1 x2 x3 x4 x5 x6 x7 x8 y0 = some z0 → ViewRet Try.prog T 40 [.ptr 1 0 0, .agg [.v (.int .i64 x0) .no, .v (.int .i64 x1) .no, .v (.bytes x2) .no, .v (.int .i64 x3) .no, .v (.int .i64 x4) .no, .v (.int .i64 x5) .no, .v (.int .i64 x6) .no, .v (.int .i64 x7) .no, .v (.sl 48 x8) .no]] [⟨56, [.v (.sl 62 y0) (.own (.slot 0) 62)]⟩] [] [⟨56, [.v (.sl 62 z0) (.own (.slot 0) 62)]⟩]) : MEntOK Try.prog T ⟨40, e_frules s⟩ := by
  refine ⟨go_frules, fun R dst ds m K r h => ?_⟩
  simp only [e_frules] at h
  split at h
  · obtain ⟨Bs, a1, a2, a3, h⟩ := viewK_some h
    split at h
    · obtain ⟨z0, h1, h2⟩ := bnd1_some h
      rw [putAllK_eq] at h2
      exact ⟨_, _, h2, hs _ _ _ _ _ _ _ _ _ _ _ h1 _ _ m dst a1 a2 a3 ⟨aren_ptr _ rfl, aren_agg ⟨aren_v _, aren_v _, aren_v _, aren_v _, aren_v _, aren_v _, aren_v _, aren_v _, aren_v _, trivial⟩, trivial⟩⟩
    · cases h
  · cases h
theorem co_frules (N : Nat) : CxOK Try.prog (cx_frules N) :=
  cxOK_of2 (es := [⟨62, e_aEncode (s_aEncode N)⟩]) (me := [⟨59, e_fput (s_fput N)⟩]) (ms := []) T_ok ⟨eo_aEncode _ (p_aEncode N), trivial⟩ ⟨eo_fput _ (p_fput N), trivial⟩ trivial rfl (fun _ _ _ _ => rfl) (fun _ _ _ _ _ _ => rfl) rfl
theorem lo_frules (N : Nat) : LoopsOK (cx_frules N) Try.f40.ntmps (bodyOf Try.f40) :=
  loopsOK_of (k := 0) (by kernel_rfl) trivial
open Classical in
theorem p_frules (N : Nat) (x0 : Int) (x1 : Int) (x2 : List UInt8) (x3 : Int) (x4 : Int) (x5 : Int) (x6 : Int) (x7 : Int) (x8 : List V) (y0 : List V) (z0 : List V) (h : s_frules N x0 x1 x2 x3 x4 x5 x6 x7 x8 y0 = some z0) : ViewRet Try.prog T 40 [.ptr 1 0 0, .agg [.v (.int .i64 x0) .no, .v (.int .i64 x1) .no, .v (.bytes x2) .no, .v (.int .i64 x3) .no, .v (.int .i64 x4) .no, .v (.int .i64 x5) .no, .v (.int .i64 x6) .no, .v (.int .i64 x7) .no, .v (.sl 48 x8) .no]] [⟨56, [.v (.sl 62 y0) (.own (.slot 0) 62)]⟩] [] [⟨56, [.v (.sl 62 z0) (.own (.slot 0) 62)]⟩] := by
  refine view_of (Bs := [⟨56, [.v (.sl 62 y0) (.own (.slot 0) 62)]⟩]) (Bs' := [⟨56, [.v (.sl 62 z0) (.own (.slot 0) 62)]⟩]) (cx := cx_frules N) (by kernel_rfl) (co_frules N) Try.func40 (by kernel_rfl) (by kernel_rfl) (lo_frules N) rfl rfl rfl rfl (rf := r_frules (fun z'0 => some z'0)) (r := z0) ?_ ?_
  · exact (C_frules_ok N x0 x1 x2 x3 x4 x5 x6 x7 x8 y0 _).trans h
  · intro rs' m' hx
    unfold r_frules at hx
    split at hx
    · cases hx; exact ⟨rfl, rfl, _, rfl⟩
    · cases hx
noncomputable def e_partKinds {R : Type} (s : Int → Int → List UInt8 → Int → Int → Int → Int → Int → List V → Bool → List V → Option (List V)) (dst : Nat) (ds : List D) (m : Mem) (K : List D → Mem → Option R) : Option R :=
  match ds with
  | [.ptr (kv0 + 1) sv0 0, .agg [.v (.int .i64 x0) .no, .v (.int .i64 x1) .no, .v (.bytes x2) .no, .v (.int .i64 x3) .no, .v (.int .i64 x4) .no, .v (.int .i64 x5) .no, .v (.int .i64 x6) .no, .v (.int .i64 x7) .no, .v (.sl 48 x8) .no], .v (.bool x9) .no, .clos 34 []] => viewK [(kv0, sv0)] m fun Bs => (match Bs with
    | [⟨56, [.v (.sl 62 y0) (.own (.slot 0) 62)]⟩] => bnd1 (s x0 x1 x2 x3 x4 x5 x6 x7 x8 x9 y0) fun z0 => putAllK [(kv0, sv0)] [⟨56, [.v (.sl 62 z0) (.own (.slot 0) 62)]⟩] m fun m' => K [] m'
    | _ => none)
  | _ => none
noncomputable def r_partKinds {α : Type} (K : List V → Option α) (rs : List D) (m : Mem) : Option α :=
  match rs, m with
  | [], [_, [(0, ⟨56, [.v (.sl 62 z0) (.own (.slot 0) 62)]⟩)]] => K z0
  | _, _ => none
noncomputable def C_partKinds {R : Type} (N : Nat) (x0 : Int) (x1 : Int) (x2 : List UInt8) (x3 : Int) (x4 : Int) (x5 : Int) (x6 : Int) (x7 : Int) (x8 : List V) (x9 : Bool) (y0 : List V) (K0 : List V → Option R) : Option R :=
  br x9 (bnd1 (s_fkinds N x0 x1 x2 x3 x4 x5 x6 x7 x8 y0) fun l0 => K0 l0) (K0 y0)
noncomputable def s_partKinds (N : Nat) (x0 : Int) (x1 : Int) (x2 : List UInt8) (x3 : Int) (x4 : Int) (x5 : Int) (x6 : Int) (x7 : Int) (x8 : List V) (x9 : Bool) (y0 : List V) : Option (List V) :=
  C_partKinds N x0 x1 x2 x3 x4 x5 x6 x7 x8 x9 y0 (fun z0 => some z0)
noncomputable def cx_partKinds (N : Nat) : Cx := { T := T, isPure := tabP [], pureK := fun g ds K => tabK [] g ds K, memK := fun g dst ds m K => tabMK [⟨34, e_fkinds (s_fkinds N)⟩] g dst ds m K, meth := tabM [], keep := fun _ => [], keepX := fun _ => [], loopT := fun _ _ _ _ => none, jumps := 9 }
theorem C_partKinds_ok {R : Type} (N : Nat) (x0 : Int) (x1 : Int) (x2 : List UInt8) (x3 : Int) (x4 : Int) (x5 : Int) (x6 : Int) (x7 : Int) (x8 : List V) (x9 : Bool) (y0 : List V) (K : List V → Option R) : bodyK (cx_partKinds N) Try.f33 [.ptr 1 0 0, .agg [.v (.int .i64 x0) .no, .v (.int .i64 x1) .no, .v (.bytes x2) .no, .v (.int .i64 x3) .no, .v (.int .i64 x4) .no, .v (.int .i64 x5) .no, .v (.int .i64 x6) .no, .v (.int .i64 x7) .no, .v (.sl 48 x8) .no], .v (.bool x9) .no, .clos 34 []] [frOf 0 [⟨56, [.v (.sl 62 y0) (.own (.slot 0) 62)]⟩]] (r_partKinds K) = C_partKinds N x0 x1 x2 x3 x4 x5 x6 x7 x8 x9 y0 (fun z0 => K z0) := by
  kernel_rfl
theorem go_partKinds : Goes Try.prog 33 := goes_of Try.func33 (by kernel_rfl) (c := bodyOf Try.f33) (by kernel_rfl)
theorem eo_partKinds (s : Int → Int → List UInt8 → Int → Int → Int → Int → Int → List V → Bool → List V → Option (List V)) (hs : ∀ (x0 : Int) (x1 : Int) (x2 : List UInt8) (x3 : Int) (x4 : Int) (x5 : Int) (x6 : Int) (x7 : Int) (x8 : List V) (x9 : Bool) (y0 : List V) (z0 : List V), s x0 x1 x2 x3 x4 x5 x6 x7 x8 x9 y0 = some z0 → ViewRet Try.prog T 33 [.ptr 1 0 0, .agg [.v (.int .i64 x0) .no, .v (.int .i64 x1) .no, .v (.bytes x2) .no, .v (.int .i64 x3) .no, .v (.int .i64 x4) .no, .v (.int .i64 x5) .no, .v (.int .i64 x6) .no, .v (.int .i64 x7) .no, .v (.sl 48 x8) .no], .v (.bool x9) .no, .clos 34 []] [⟨56, [.v (.sl 62 y0) (.own (.slot 0) 62)]⟩] [] [⟨56, [.v (.sl 62 z0) (.own (.slot 0) 62)]⟩]) : MEntOK Try.prog T ⟨33, e_partKinds s⟩ := by
  refine ⟨go_partKinds, fun R dst ds m K r h => ?_⟩
  simp only [e_partKinds] at h
  split at h
  · obtain ⟨Bs, a1, a2, a3, h⟩ := viewK_some h
    split at h
    · obtain ⟨z0, h1, h2⟩ := bnd1_some h
      rw [putAllK_eq] at h2
      exact ⟨_, _, h2, hs _ _ _ _ _ _ _ _ _ _ _ _ h1 _ _ m dst a1 a2 a3 ⟨aren_ptr _ rfl, aren_agg ⟨aren_v _, aren_v _, aren_v _, aren_v _, aren_v _, aren_v _, aren_v _, aren_v _, aren_v _, trivial⟩, aren_v _, aren_clos trivial, trivial⟩⟩
    · cases h
  · cases h
theorem co_partKinds (N : Nat) : CxOK Try.prog (cx_partKinds N) :=
  cxOK_of2 (es := []) (me := [⟨34, e_fkinds (s_fkinds N)⟩]) (ms := []) T_ok trivial ⟨eo_fkinds _ (p_fkinds N), trivial⟩ trivial rfl (fun _ _ _ _ => rfl) (fun _ _ _ _ _ _ => rfl) rfl
theorem lo_partKinds (N : Nat) : LoopsOK (cx_partKinds N) Try.f33.ntmps (bodyOf Try.f33) :=
  loopsOK_of (k := 0) (by kernel_rfl) trivial
open Classical in
theorem p_partKinds (N : Nat) (x0 : Int) (x1 : Int) (x2 : List UInt8) (x3 : Int) (x4 : Int) (x5 : Int) (x6 : Int) (x7 : Int) (x8 : List V) (x9 : Bool) (y0 : List V) (z0 : List V) (h : s_partKinds N x0 x1 x2 x3 x4 x5 x6 x7 x8 x9 y0 = some z0) : ViewRet Try.prog T 33 [.ptr 1 0 0, .agg [.v (.int .i64 x0) .no, .v (.int .i64 x1) .no, .v (.bytes x2) .no, .v (.int .i64 x3) .no, .v (.int .i64 x4) .no, .v (.int .i64 x5) .no, .v (.int .i64 x6) .no, .v (.int .i64 x7) .no, .v (.sl 48 x8) .no], .v (.bool x9) .no, .clos 34 []] [⟨56, [.v (.sl 62 y0) (.own (.slot 0) 62)]⟩] [] [⟨56, [.v (.sl 62 z0) (.own (.slot 0) 62)]⟩] := by
  refine view_of (Bs := [⟨56, [.v (.sl 62 y0) (.own (.slot 0) 62)]⟩]) (Bs' := [⟨56, [.v (.sl 62 z0) (.own (.slot 0) 62)]⟩]) (cx := cx_partKinds N) (by kernel_rfl) (co_partKinds N) Try.func33 (by kernel_rfl) (by kernel_rfl) (lo_partKinds N) rfl rfl rfl rfl (rf := r_partKinds (fun z'0 => some z'0)) (r := z0) ?_ ?_
  · exact (C_partKinds_ok N x0 x1 x2 x3 x4 x5 x6 x7 x8 x9 y0 _).trans h
  · intro rs' m' hx
    unfold r_partKinds at hx
    split at hx
    · cases hx; exact ⟨rfl, rfl, _, rfl⟩
    · cases hx
noncomputable def e_partIdent {R : Type} (s : Int → Int → List UInt8 → Int → Int → Int → Int → Int → List V → Bool → List V → Option (List V)) (dst : Nat) (ds : List D) (m : Mem) (K : List D → Mem → Option R) : Option R :=
  match ds with
  | [.ptr (kv0 + 1) sv0 0, .agg [.v (.int .i64 x0) .no, .v (.int .i64 x1) .no, .v (.bytes x2) .no, .v (.int .i64 x3) .no, .v (.int .i64 x4) .no, .v (.int .i64 x5) .no, .v (.int .i64 x6) .no, .v (.int .i64 x7) .no, .v (.sl 48 x8) .no], .v (.bool x9) .no, .clos 35 []] => viewK [(kv0, sv0)] m fun Bs => (match Bs with
    | [⟨56, [.v (.sl 62 y0) (.own (.slot 0) 62)]⟩] => bnd1 (s x0 x1 x2 x3 x4 x5 x6 x7 x8 x9 y0) fun z0 => putAllK [(kv0, sv0)] [⟨56, [.v (.sl 62 z0) (.own (.slot 0) 62)]⟩] m fun m' => K [] m'
    | _ => none)
  | _ => none
noncomputable def r_partIdent {α : Type} (K : List V → Option α) (rs : List D) (m : Mem) : Option α :=
  match rs, m with
  | [], [_, [(0, ⟨56, [.v (.sl 62 z0) (.own (.slot 0) 62)]⟩)]] => K z0
  | _, _ => none
noncomputable def C_partIdent {R : Type} (N : Nat) (x0 : Int) (x1 : Int) (x2 : List UInt8) (x3 : Int) (x4 : Int) (x5 : Int) (x6 : Int) (x7 : Int) (x8 : List V) (x9 : Bool) (y0 : List V) (K0 : List V → Option R) : Option R :=
  br x9 (bnd1 (s_fident N x0 x1 x2 x3 x4 x5 x6 x7 x8 y0) fun l0 => K0 l0) (K0 y0)
noncomputable def s_partIdent (N : Nat) (x0 : Int) (x1 : Int) (x2 : List UInt8) (x3 : Int) (x4 : Int) (x5 : Int) (x6 : Int) (x7 : Int) (x8 : List V) (x9 : Bool) (y0 : List V) : Option (List V) :=
  C_partIdent N x0 x1 x2 x3 x4 x5 x6 x7 x8 x9 y0 (fun z0 => some z0)
noncomputable def cx_partIdent (N : Nat) : Cx := { T := T, isPure := tabP [], pureK := fun g ds K => tabK [] g ds K, memK := fun g dst ds m K => tabMK [⟨35, e_fident (s_fident N)⟩] g dst ds m K, meth := tabM [], keep := fun _ => [], keepX := fun _ => [], loopT := fun _ _ _ _ => none, jumps := 9 }
theorem C_partIdent_ok {R : Type} (N : Nat) (x0 : Int) (x1 : Int) (x2 : List UInt8) (x3 : Int) (x4 : Int) (x5 : Int) (x6 : Int) (x7 : Int) (x8 : List V) (x9 : Bool) (y0 : List V) (K : List V → Option R) : bodyK (cx_partIdent N) Try.f33 [.ptr 1 0 0, .agg [.v (.int .i64 x0) .no, .v (.int .i64 x1) .no, .v (.bytes x2) .no, .v (.int .i64 x3) .no, .v (.int .i64 x4) .no, .v (.int .i64 x5) .no, .v (.int .i64 x6) .no, .v (.int .i64 x7) .no, .v (.sl 48 x8) .no], .v (.bool x9) .no, .clos 35 []] [frOf 0 [⟨56, [.v (.sl 62 y0) (.own (.slot 0) 62)]⟩]] (r_partIdent K) = C_partIdent N x0 x1 x2 x3 x4 x5 x6 x7 x8 x9 y0 (fun z0 => K z0) := by
  kernel_rfl
theorem go_partIdent : Goes Try.prog 33 := goes_of Try.func33 (by kernel_rfl) (c := bodyOf Try.f33) (by kernel_rfl)
theorem eo_partIdent (s : Int → Int → List UInt8 → Int → Int → Int → Int → Int → List V → Bool → List V → Option (List V)) (hs : ∀ (x0 : Int) (x1 : Int) (x2 : List UInt8) (x3 : Int) (x4 : Int) (x5 : Int) (x6 : Int) (x7 : Int) (x8 : List V) (x9 : Bool) (y0 : List V) (z0 : List V), s x0 x1 x2 x3 x4 x5 x6 x7 x8 x9 y0 = some z0 → ViewRet Try.prog T 33 [.ptr 1 0 0, .agg [.v (.int .i64 x0) .no, .v (.int .i64 x1) .no, .v (.bytes x2) .no, .v (.int .i64 x3) .no, .v (.int .i64 x4) .no, .v (.int .i64 x5) .no, .v (.int .i64 x6) .no, .v (.int .i64 x7) .no, .v (.sl 48 x8) .no], .v (.bool x9) .no, .clos 35 []] [⟨56, [.v (.sl 62 y0) (.own (.slot 0) 62)]⟩] [] [⟨56, [.v (.sl 62 z0) (.own (.slot 0) 62)]⟩]) : MEntOK Try.prog T ⟨33, e_partIdent s⟩ := by
  refine ⟨go_partIdent, fun R dst ds m K r h => ?_⟩
  simp only [e_partIdent] at h
  split at h
  · obtain ⟨Bs, a1, a2, a3, h⟩ := viewK_some h
    split at h
    · obtain ⟨z0, h1, h2⟩ := bnd1_some h
      rw [putAllK_eq] at h2
      exact ⟨_, _, h2, hs _ _ _ _ _ _ _ _ _ _ _ _ h1 _ _ m dst a1 a2 a3 ⟨aren_ptr _ rfl, aren_agg ⟨aren_v _, aren_v _, aren_v _, aren_v _, aren_v _, aren_v _, aren_v _, aren_v _, aren_v _, trivial⟩, aren_v _, aren_clos trivial, trivial⟩⟩
    · cases h
  · cases h
theorem co_partIdent (N : Nat) : CxOK Try.prog (cx_partIdent N) :=
  cxOK_of2 (es := []) (me := [⟨35, e_fident (s_fident N)⟩]) (ms := []) T_ok trivial ⟨eo_fident _ (p_fident N), trivial⟩ trivial rfl (fun _ _ _ _ => rfl) (fun _ _ _ _ _ _ => rfl) rfl
theorem lo_partIdent (N : Nat) : LoopsOK (cx_partIdent N) Try.f33.ntmps (bodyOf Try.f33) :=
  loopsOK_of (k := 0) (by kernel_rfl) trivial
open Classical in
theorem p_partIdent (N : Nat) (x0 : Int) (x1 : Int) (x2 : List UInt8) (x3 : Int) (x4 : Int) (x5 : Int) (x6 : Int) (x7 : Int) (x8 : List V) (x9 : Bool) (y0 : List V) (z0 : List V) (h : s_partIdent N x0 x1 x2 x3 x4 x5 x6 x7 x8 x9 y0 = some z0) : ViewRet Try.prog T 33 [.ptr 1 0 0, .agg [.v (.int .i64 x0) .no, .v (.int .i64 x1) .no, .v (.bytes x2) .no, .v (.int .i64 x3) .no, .v (.int .i64 x4) .no, .v (.int .i64 x5) .no, .v (.int .i64 x6) .no, .v (.int .i64 x7) .no, .v (.sl 48 x8) .no], .v (.bool x9) .no, .clos 35 []] [⟨56, [.v (.sl 62 y0) (.own (.slot 0) 62)]⟩] [] [⟨56, [.v (.sl 62 z0) (.own (.slot 0) 62)]⟩] := by
  refine view_of (Bs := [⟨56, [.v (.sl 62 y0) (.own (.slot 0) 62)]⟩]) (Bs' := [⟨56, [.v (.sl 62 z0) (.own (.slot 0) 62)]⟩]) (cx := cx_partIdent N) (by kernel_rfl) (co_partIdent N) Try.func33 (by kernel_rfl) (by kernel_rfl) (lo_partIdent N) rfl rfl rfl rfl (rf := r_partIdent (fun z'0 => some z'0)) (r := z0) ?_ ?_
  · exact (C_partIdent_ok N x0 x1 x2 x3 x4 x5 x6 x7 x8 x9 y0 _).trans h
  · intro rs' m' hx
    unfold r_partIdent at hx
    split at hx
    · cases hx; exact ⟨rfl, rfl, _, rfl⟩
    · cases hx
noncomputable def e_partName {R : Type} (s : Int → Int → List UInt8 → Int → Int → Int → Int → Int → List V → Bool → List V → Option (List V)) (dst : Nat) (ds : List D) (m : Mem) (K : List D → Mem → Option R) : Option R :=
  match ds with
  | [.ptr (kv0 + 1) sv0 0, .agg [.v (.int .i64 x0) .no, .v (.int .i64 x1) .no, .v (.bytes x2) .no, .v (.int .i64 x3) .no, .v (.int .i64 x4) .no, .v (.int .i64 x5) .no, .v (.int .i64 x6) .no, .v (.int .i64 x7) .no, .v (.sl 48 x8) .no], .v (.bool x9) .no, .clos 36 []] => viewK [(kv0, sv0)] m fun Bs => (match Bs with
    | [⟨56, [.v (.sl 62 y0) (.own (.slot 0) 62)]⟩] => bnd1 (s x0 x1 x2 x3 x4 x5 x6 x7 x8 x9 y0) fun z0 => putAllK [(kv0, sv0)] [⟨56, [.v (.sl 62 z0) (.own (.slot 0) 62)]⟩] m fun m' => K [] m'
    | _ => none)
  | _ => none
noncomputable def r_partName {α : Type} (K : List V → Option α) (rs : List D) (m : Mem) : Option α :=
  match rs, m with
  | [], [_, [(0, ⟨56, [.v (.sl 62 z0) (.own (.slot 0) 62)]⟩)]] => K z0
  | _, _ => none
noncomputable def C_partName {R : Type} (N : Nat) (x0 : Int) (x1 : Int) (x2 : List UInt8) (x3 : Int) (x4 : Int) (x5 : Int) (x6 : Int) (x7 : Int) (x8 : List V) (x9 : Bool) (y0 : List V) (K0 : List V → Option R) : Option R :=
  br x9 (bnd1 (s_fname N x0 x1 x2 x3 x4 x5 x6 x7 x8 y0) fun l0 => K0 l0) (K0 y0)
noncomputable def s_partName (N : Nat) (x0 : Int) (x1 : Int) (x2 : List UInt8) (x3 : Int) (x4 : Int) (x5 : Int) (x6 : Int) (x7 : Int) (x8 : List V) (x9 : Bool) (y0 : List V) : Option (List V) :=
  C_partName N x0 x1 x2 x3 x4 x5 x6 x7 x8 x9 y0 (fun z0 => some z0)
noncomputable def cx_partName (N : Nat) : Cx := { T := T, isPure := tabP [], pureK := fun g ds K => tabK [] g ds K, memK := fun g dst ds m K => tabMK [⟨36, e_fname (s_fname N)⟩] g dst ds m K, meth := tabM [], keep := fun _ => [], keepX := fun _ => [], loopT := fun _ _ _ _ => none, jumps := 9 }
theorem C_partName_ok {R : Type} (N : Nat) (x0 : Int) (x1 : Int) (x2 : List UInt8) (x3 : Int) (x4 : Int) (x5 : Int) (x6 : Int) (x7 : Int) (x8 : List V) (x9 : Bool) (y0 : List V) (K : List V → Option R) : bodyK (cx_partName N) Try.f33 [.ptr 1 0 0, .agg [.v (.int .i64 x0) .no, .v (.int .i64 x1) .no, .v (.bytes x2) .no, .v (.int .i64 x3) .no, .v (.int .i64 x4) .no, .v (.int .i64 x5) .no, .v (.int .i64 x6) .no, .v (.int .i64 x7) .no, .v (.sl 48 x8) .no], .v (.bool x9) .no, .clos 36 []] [frOf 0 [⟨56, [.v (.sl 62 y0) (.own (.slot 0) 62)]⟩]] (r_partName K) = C_partName N x0 x1 x2 x3 x4 x5 x6 x7 x8 x9 y0 (fun z0 => K z0) := by
  kernel_rfl
theorem go_partName : Goes Try.prog 33 := goes_of Try.func33 (by kernel_rfl) (c := bodyOf Try.f33) (by kernel_rfl)
theorem eo_partName (s : Int → Int → List UInt8 → Int → Int → Int → Int → Int → List V → Bool → List V → Option (List V)) (hs : ∀ (x0 : Int) (x1 : Int) (x2 : List UInt8) (x3 : Int) (x4 : Int) (x5 : Int) (x6 : Int) (x7 : Int) (x8 : List V) (x9 : Bool) (y0 : List V) (z0 : List V), s x0 x1 x2 x3 x4 x5 x6 x7 x8 x9 y0 = some z0 → ViewRet Try.prog T 33 [.ptr 1 0 0, .agg [.v (.int .i64 x0) .no, .v (.int .i64 x1) .no, .v (.bytes x2) .no, .v (.int .i64 x3) .no, .v (.int .i64 x4) .no, .v (.int .i64 x5) .no, .v (.int .i64 x6) .no, .v (.int .i64 x7) .no, .v (.sl 48 x8) .no], .v (.bool x9) .no, .clos 36 []] [⟨56, [.v (.sl 62 y0) (.own (.slot 0) 62)]⟩] [] [⟨56, [.v (.sl 62 z0) (.own (.slot 0) 62)]⟩]) : MEntOK Try.prog T ⟨33, e_partName s⟩ := by
  refine ⟨go_partName, fun R dst ds m K r h => ?_⟩
  simp only [e_partName] at h
  split at h
  · obtain ⟨Bs, a1, a2, a3, h⟩ := viewK_some h
    split at h
    · obtain ⟨z0, h1, h2⟩ := bnd1_some h
      rw [putAllK_eq] at h2
      exact ⟨_, _, h2, hs _ _ _ _ _ _ _ _ _ _ _ _ h1 _ _ m dst a1 a2 a3 ⟨aren_ptr _ rfl, aren_agg ⟨aren_v _, aren_v _, aren_v _, aren_v _, aren_v _, aren_v _, aren_v _, aren_v _, aren_v _, trivial⟩, aren_v _, aren_clos trivial, trivial⟩⟩
    · cases h
  · cases h
theorem co_partName (N : Nat) : CxOK Try.prog (cx_partName N) :=
  cxOK_of2 (es := []) (me := [⟨36, e_fname (s_fname N)⟩]) (ms := []) T_ok trivial ⟨eo_fname _ (p_fname N), trivial⟩ trivial rfl (fun _ _ _ _ => rfl) (fun _ _ _ _ _ _ => rfl) rfl
theorem lo_partName (N : Nat) : LoopsOK (cx_partName N) Try.f33.ntmps (bodyOf Try.f33) :=
  loopsOK_of (k := 0) (by kernel_rfl) trivial
open Classical in
theorem p_partName (N : Nat) (x0 : Int) (x1 : Int) (x2 : List UInt8) (x3 : Int) (x4 : Int) (x5 : Int) (x6 : Int) (x7 : Int) (x8 : List V) (x9 : Bool) (y0 : List V) (z0 : List V) (h : s_partName N x0 x1 x2 x3 x4 x5 x6 x7 x8 x9 y0 = some z0) : ViewRet Try.prog T 33 [.ptr 1 0 0, .agg [.v (.int .i64 x0) .no, .v (.int .i64 x1) .no, .v (.bytes x2) .no, .v (.int .i64 x3) .no, .v (.int .i64 x4) .no, .v (.int .i64 x5) .no, .v (.int .i64 x6) .no, .v (.int .i64 x7) .no, .v (.sl 48 x8) .no], .v (.bool x9) .no, .clos 36 []] [⟨56, [.v (.sl 62 y0) (.own (.slot 0) 62)]⟩] [] [⟨56, [.v (.sl 62 z0) (.own (.slot 0) 62)]⟩] := by
  refine view_of (Bs := [⟨56, [.v (.sl 62 y0) (.own (.slot 0) 62)]⟩]) (Bs' := [⟨56, [.v (.sl 62 z0) (.own (.slot 0) 62)]⟩]) (cx := cx_partName N) (by kernel_rfl) (co_partName N) Try.func33 (by kernel_rfl) (by kernel_rfl) (lo_partName N) rfl rfl rfl rfl (rf := r_partName (fun z'0 => some z'0)) (r := z0) ?_ ?_
  · exact (C_partName_ok N x0 x1 x2 x3 x4 x5 x6 x7 x8 x9 y0 _).trans h
  · intro rs' m' hx
    unfold r_partName at hx
    split at hx
    · cases hx; exact ⟨rfl, rfl, _, rfl⟩
    · cases hx
noncomputable def e_partSize {R : Type} (s : Int → Int → List UInt8 → Int → Int → Int → Int → Int → List V → Bool → List V → Option (List V)) (dst : Nat) (ds : List D) (m : Mem) (K : List D → Mem → Option R) : Option R :=
  match ds with
  | [.ptr (kv0 + 1) sv0 0, .agg [.v (.int .i64 x0) .no, .v (.int .i64 x1) .no, .v (.bytes x2) .no, .v (.int .i64 x3) .no, .v (.int .i64 x4) .no, .v (.int .i64 x5) .no, .v (.int .i64 x6) .no, .v (.int .i64 x7) .no, .v (.sl 48 x8) .no], .v (.bool x9) .no, .clos 37 []] => viewK [(kv0, sv0)] m fun Bs => (match Bs with
    | [⟨56, [.v (.sl 62 y0) (.own (.slot 0) 62)]⟩] => bnd1 (s x0 x1 x2 x3 x4 x5 x6 x7 x8 x9 y0) fun z0 => putAllK [(kv0, sv0)] [⟨56, [.v (.sl 62 z0) (.own (.slot 0) 62)]⟩] m fun m' => K [] m'
    | _ => none)
  | _ => none
noncomputable def r_partSize {α : Type} (K : List V → Option α) (rs : List D) (m : Mem) : Option α :=
  match rs, m with
  | [], [_, [(0, ⟨56, [.v (.sl 62 z0) (.own (.slot 0) 62)]⟩)]] => K z0
  | _, _ => none
noncomputable def C_partSize {R : Type} (N : Nat) (x0 : Int) (x1 : Int) (x2 : List UInt8) (x3 : Int) (x4 : Int) (x5 : Int) (x6 : Int) (x7 : Int) (x8 : List V) (x9 : Bool) (y0 : List V) (K0 : List V → Option R) : Option R :=
  br x9 (bnd1 (s_fsize N x0 x1 x2 x3 x4 x5 x6 x7 x8 y0) fun l0 => K0 l0) (K0 y0)
noncomputable def s_partSize (N : Nat) (x0 : Int) (x1 : Int) (x2 : List UInt8) (x3 : Int) (x4 : Int) (x5 : Int) (x6 : Int) (x7 : Int) (x8 : List V) (x9 : Bool) (y0 : List V) : Option (List V) :=
  C_partSize N x0 x1 x2 x3 x4 x5 x6 x7 x8 x9 y0 (fun z0 => some z0)
noncomputable def cx_partSize (N : Nat) : Cx := { T := T, isPure := tabP [], pureK := fun g ds K => tabK [] g ds K, memK := fun g dst ds m K => tabMK [⟨37, e_fsize (s_fsize N)⟩] g dst ds m K, meth := tabM [], keep := fun _ => [], keepX := fun _ => [], loopT := fun _ _ _ _ => none, jumps := 9 }
theorem C_partSize_ok {R : Type} (N : Nat) (x0 : Int) (x1 : Int) (x2 : List UInt8) (x3 : Int) (x4 : Int) (x5 : Int) (x6 : Int) (x7 : Int) (x8 : List V) (x9 : Bool) (y0 : List V) (K : List V → Option R) : bodyK (cx_partSize N) Try.f33 [.ptr 1 0 0, .agg [.v (.int .i64 x0) .no, .v (.int .i64 x1) .no, .v (.bytes x2) .no, .v (.int .i64 x3) .no, .v (.int .i64 x4) .no, .v (.int .i64 x5) .no, .v (.int .i64 x6) .no, .v (.int .i64 x7) .no, .v (.sl 48 x8) .no], .v (.bool x9) .no, .clos 37 []] [frOf 0 [⟨56, [.v (.sl 62 y0) (.own (.slot 0) 62)]⟩]] (r_partSize K) = C_partSize N x0 x1 x2 x3 x4 x5 x6 x7 x8 x9 y0 (fun z0 => K z0) := by
  kernel_rfl
theorem go_partSize : Goes Try.prog 33 := goes_of Try.func33 (by kernel_rfl) (c := bodyOf Try.f33) (by kernel_rfl)
theorem eo_partSize (s : Int → Int → List UInt8 → Int → Int → Int → Int → Int → List V → Bool → List V → Option (List V)) (hs : ∀ (x0 : Int) (x1 : Int) (x2 : List UInt8) (x3 : Int) (x4 : Int) (x5 : Int) (x6 : Int) (x7 : Int) (x8 : List V) (x9 : Bool) (y0 : List V) (z0 : List V), s x0 x1 x2 x3 x4 x5 x6 x7 x8 x9 y0 = some z0 → ViewRet Try.prog T 33 [.ptr 1 0 0, .agg [.v (.int .i64 x0) .no, .v (.int .i64 x1) .no, .v (.bytes x2) .no, .v (.int .i64 x3) .no, .v (.int .i64 x4) .no, .v (.int .i64 x5) .no, .v (.int .i64 x6) .no, .v (.int .i64 x7) .no, .v (.sl 48 x8) .no], .v (.bool x9) .no, .clos 37 []] [⟨56, [.v (.sl 62 y0) (.own (.slot 0) 62)]⟩] [] [⟨56, [.v (.sl 62 z0) (.own (.slot 0) 62)]⟩]) : MEntOK Try.prog T ⟨33, e_partSize s⟩ := by
  refine ⟨go_partSize, fun R dst ds m K r h => ?_⟩
  simp only [e_partSize] at h
  split at h
  · obtain ⟨Bs, a1, a2, a3, h⟩ := viewK_some h
    split at h
    · obtain ⟨z0, h1, h2⟩ := bnd1_some h
      rw [putAllK_eq] at h2
      exact ⟨_, _, h2, hs _ _ _ _ _ _ _ _ _ _ _ _ h1 _ _ m dst a1 a2 a3 ⟨aren_ptr _ rfl, aren_agg ⟨aren_v _, aren_v _, aren_v _, aren_v _, aren_v _, aren_v _, aren_v _, aren_v _, aren_v _, trivial⟩, aren_v _, aren_clos trivial, trivial⟩⟩
    · cases h
  · cases h
theorem co_partSize (N : Nat) : CxOK Try.prog (cx_partSize N) :=
  cxOK_of2 (es := []) (me := [⟨37, e_fsize (s_fsize N)⟩]) (ms := []) T_ok trivial ⟨eo_fsize _ (p_fsize N), trivial⟩ trivial rfl (fun _ _ _ _ => rfl) (fun _ _ _ _ _ _ => rfl) rfl
theorem lo_partSize (N : Nat) : LoopsOK (cx_partSize N) Try.f33.ntmps (bodyOf Try.f33) :=
  loopsOK_of (k := 0) (by kernel_rfl) trivial
open Classical in
theorem p_partSize (N : Nat) (x0 : Int) (x1 : Int) (x2 : List UInt8) (x3 : Int) (x4 : Int) (x5 : Int) (x6 : Int) (x7 : Int) (x8 : List V) (x9 : Bool) (y0 : List V) (z0 : List V) (h : s_partSize N x0 x1 x2 x3 x4 x5 x6 x7 x8 x9 y0 = some z0) : ViewRet Try.prog T 33 [.ptr 1 0 0, .agg [.v (.int .i64 x0) .no, .v (.int .i64 x1) .no, .v (.bytes x2) .no, .v (.int .i64 x3) .no, .v (.int .i64 x4) .no, .v (.int .i64 x5) .no, .v (.int .i64 x6) .no, .v (.int .i64 x7) .no, .v (.sl 48 x8) .no], .v (.bool x9) .no, .clos 37 []] [⟨56, [.v (.sl 62 y0) (.own (.slot 0) 62)]⟩] [] [⟨56, [.v (.sl 62 z0) (.own (.slot 0) 62)]⟩] := by
  refine view_of (Bs := [⟨56, [.v (.sl 62 y0) (.own (.slot 0) 62)]⟩]) (Bs' := [⟨56, [.v (.sl 62 z0) (.own (.slot 0) 62)]⟩]) (cx := cx_partSize N) (by kernel_rfl) (co_partSize N) Try.func33 (by kernel_rfl) (by kernel_rfl) (lo_partSize N) rfl rfl rfl rfl (rf := r_partSize (fun z'0 => some z'0)) (r := z0) ?_ ?_
  · exact (C_partSize_ok N x0 x1 x2 x3 x4 x5 x6 x7 x8 x9 y0 _).trans h
  · intro rs' m' hx
    unfold r_partSize at hx
    split at hx
    · cases hx; exact ⟨rfl, rfl, _, rfl⟩
    · cases hx
noncomputable def e_partShort {R : Type} (s : Int → Int → List UInt8 → Int → Int → Int → Int → Int → List V → Bool → List V → Option (List V)) (dst : Nat) (ds : List D) (m : Mem) (K : List D → Mem → Option R) : Option R :=
  match ds with
  | [.ptr (kv0 + 1) sv0 0, .agg [.v (.int .i64 x0) .no, .v (.int .i64 x1) .no, .v (.bytes x2) .no, .v (.int .i64 x3) .no, .v (.int .i64 x4) .no, .v (.int .i64 x5) .no, .v (.int .i64 x6) .no, .v (.int .i64 x7) .no, .v (.sl 48 x8) .no], .v (.bool x9) .no, .clos 38 []] => viewK [(kv0, sv0)] m fun Bs => (match Bs with
    | [⟨56, [.v (.sl 62 y0) (.own (.slot 0) 62)]⟩] => bnd1 (s x0 x1 x2 x3 x4 x5 x6 x7 x8 x9 y0) fun z0 => putAllK [(kv0, sv0)] [⟨56, [.v (.sl 62 z0) (.own (.slot 0) 62)]⟩] m fun m' => K [] m'
    | _ => none)
  | _ => none
noncomputable def r_partShort {α : Type} (K : List V → Option α) (rs : List D) (m : Mem) : Option α :=
  match rs, m with
  | [], [_, [(0, ⟨56, [.v (.sl 62 z0) (.own (.slot 0) 62)]⟩)]] => K z0
  | _, _ => none
noncomputable def C_partShort {R : Type} (N : Nat) (x0 : Int) (x1 : Int) (x2 : List UInt8) (x3 : Int) (x4 : Int) (x5 : Int) (x6 : Int) (x7 : Int) (x8 : List V) (x9 : Bool) (y0 : List V) (K0 : List V → Option R) : Option R :=
  br x9 (bnd1 (s_fshort N x0 x1 x2 x3 x4 x5 x6 x7 x8 y0) fun l0 => K0 l0) (K0 y0)
noncomputable def s_partShort (N : Nat) (x0 : Int) (x1 : Int) (x2 : List UInt8) (x3 : Int) (x4 : Int) (x5 : Int) (x6 : Int) (x7 : Int) (x8 : List V) (x9 : Bool) (y0 : List V) : Option (List V) :=
  C_partShort N x0 x1 x2 x3 x4 x5 x6 x7 x8 x9 y0 (fun z0 => some z0)
noncomputable def cx_partShort (N : Nat) : Cx := { T := T, isPure := tabP [], pureK := fun g ds K => tabK [] g ds K, memK := fun g dst ds m K => tabMK [⟨38, e_fshort (s_fshort N)⟩] g dst ds m K, meth := tabM [], keep := fun _ => [], keepX := fun _ => [], loopT := fun _ _ _ _ => none, jumps := 9 }
theorem C_partShort_ok {R : Type} (N : Nat) (x0 : Int) (x1 : Int) (x2 : List UInt8) (x3 : Int) (x4 : Int) (x5 : Int) (x6 : Int) (x7 : Int) (x8 : List V) (x9 : Bool) (y0 : List V) (K : List V → Option R) : bodyK (cx_partShort N) Try.f33 [.ptr 1 0 0, .agg [.v (.int .i64 x0) .no, .v (.int .i64 x1) .no, .v (.bytes x2) .no, .v (.int .i64 x3) .no, .v (.int .i64 x4) .no, .v (.int .i64 x5) .no, .v (.int .i64 x6) .no, .v (.int .i64 x7) .no, .v (.sl 48 x8) .no], .v (.bool x9) .no, .clos 38 []] [frOf 0 [⟨56, [.v (.sl 62 y0) (.own (.slot 0) 62)]⟩]] (r_partShort K) = C_partShort N x0 x1 x2 x3 x4 x5 x6 x7 x8 x9 y0 (fun z0 => K z0) := by
  kernel_rfl
theorem go_partShort : Goes Try.prog 33 := goes_of Try.func33 (by kernel_rfl) (c := bodyOf Try.f33) (by kernel_rfl)
theorem eo_partShort (s : Int → Int → List UInt8 → Int → Int → Int → Int → Int → List V → Bool → List V → Option (List V)) (hs : ∀ (x0 : Int) (x1 : Int) (x2 : List UInt8) (x3 : Int) (x4 : Int) (x5 : Int) (x6 : Int) (x7 : Int) (x8 : List V) (x9 : Bool) (y0 : List V) (z0 : List V), s x0 x1 x2 x3 x4 x5 x6 x7 x8 x9 y0 = some z0 → ViewRet Try.prog T 33 [.ptr 1 0 0, .agg [.v (.int .i64 x0) .no, .v (.int .i64 x1) .no, .v (.bytes x2) .no, .v (.int .i64 x3) .no, .v (.int .i64 x4) .no, .v (.int .i64 x5) .no, .v (.int .i64 x6) .no, .v (.int .i64 x7) .no, .v (.sl 48 x8) .no], .v (.bool x9) .no, .clos 38 []] [⟨56, [.v (.sl 62 y0) (.own (.slot 0) 62)]⟩] [] [⟨56, [.v (.sl 62 z0) (.own (.slot 0) 62)]⟩]) : MEntOK Try.prog T ⟨33, e_partShort s⟩ := by
  refine ⟨go_partShort, fun R dst ds m K r h => ?_⟩
  simp only [e_partShort] at h
  split at h
  · obtain ⟨Bs, a1, a2, a3, h⟩ := viewK_some h
    split at h
    · obtain ⟨z0, h1, h2⟩ := bnd1_some h
      rw [putAllK_eq] at h2
      exact ⟨_, _, h2, hs _ _ _ _ _ _ _ _ _ _ _ _ h1 _ _ m dst a1 a2 a3 ⟨aren_ptr _ rfl, aren_agg ⟨aren_v _, aren_v _, aren_v _, aren_v _, aren_v _, aren_v _, aren_v _, aren_v _, aren_v _, trivial⟩, aren_v _, aren_clos trivial, trivial⟩⟩
    · cases h
  · cases h
theorem co_partShort (N : Nat) : CxOK Try.prog (cx_partShort N) :=
  cxOK_of2 (es := []) (me := [⟨38, e_fshort (s_fshort N)⟩]) (ms := []) T_ok trivial ⟨eo_fshort _ (p_fshort N), trivial⟩ trivial rfl (fun _ _ _ _ => rfl) (fun _ _ _ _ _ _ => rfl) rfl
theorem lo_partShort (N : Nat) : LoopsOK (cx_partShort N) Try.f33.ntmps (bodyOf Try.f33) :=
  loopsOK_of (k := 0) (by kernel_rfl) trivial
open Classical in
theorem p_partShort (N : Nat) (x0 : Int) (x1 : Int) (x2 : List UInt8) (x3 : Int) (x4 : Int) (x5 : Int) (x6 : Int) (x7 : Int) (x8 : List V) (x9 : Bool) (y0 : List V) (z0 : List V) (h : s_partShort N x0 x1 x2 x3 x4 x5 x6 x7 x8 x9 y0 = some z0) : ViewRet Try.prog T 33 [.ptr 1 0 0, .agg [.v (.int .i64 x0) .no, .v (.int .i64 x1) .no, .v (.bytes x2) .no, .v (.int .i64 x3) .no, .v (.int .i64 x4) .no, .v (.int .i64 x5) .no, .v (.int .i64 x6) .no, .v (.int .i64 x7) .no, .v (.sl 48 x8) .no], .v (.bool x9) .no, .clos 38 []] [⟨56, [.v (.sl 62 y0) (.own (.slot 0) 62)]⟩] [] [⟨56, [.v (.sl 62 z0) (.own (.slot 0) 62)]⟩] := by
  refine view_of (Bs := [⟨56, [.v (.sl 62 y0) (.own (.slot 0) 62)]⟩]) (Bs' := [⟨56, [.v (.sl 62 z0) (.own (.slot 0) 62)]⟩]) (cx := cx_partShort N) (by kernel_rfl) (co_partShort N) Try.func33 (by kernel_rfl) (by kernel_rfl) (lo_partShort N) rfl rfl rfl rfl (rf := r_partShort (fun z'0 => some z'0)) (r := z0) ?_ ?_
  · exact (C_partShort_ok N x0 x1 x2 x3 x4 x5 x6 x7 x8 x9 y0 _).trans h
  · intro rs' m' hx
    unfold r_partShort at hx
    split at hx
    · cases hx; exact ⟨rfl, rfl, _, rfl⟩
    · cases hx
noncomputable def e_partState {R : Type} (s : Int → Int → List UInt8 → Int → Int → Int → Int → Int → List V → Bool → List V → Option (List V)) (dst : Nat) (ds : List D) (m : Mem) (K : List D → Mem → Option R) : Option R :=
  match ds with
  | [.ptr (kv0 + 1) sv0 0, .agg [.v (.int .i64 x0) .no, .v (.int .i64 x1) .no, .v (.bytes x2) .no, .v (.int .i64 x3) .no, .v (.int .i64 x4) .no, .v (.int .i64 x5) .no, .v (.int .i64 x6) .no, .v (.int .i64 x7) .no, .v (.sl 48 x8) .no], .v (.bool x9) .no, .clos 39 []] => viewK [(kv0, sv0)] m fun Bs => (match Bs with
    | [⟨56, [.v (.sl 62 y0) (.own (.slot 0) 62)]⟩] => bnd1 (s x0 x1 x2 x3 x4 x5 x6 x7 x8 x9 y0) fun z0 => putAllK [(kv0, sv0)] [⟨56, [.v (.sl 62 z0) (.own (.slot 0) 62)]⟩] m fun m' => K [] m'
    | _ => none)
  | _ => none
noncomputable def r_partState {α : Type} (K : List V → Option α) (rs : List D) (m : Mem) : Option α :=
  match rs, m with
  | [], [_, [(0, ⟨56, [.v (.sl 62 z0) (.own (.slot 0) 62)]⟩)]] => K z0
  | _, _ => none
noncomputable def C_partState {R : Type} (N : Nat) (x0 : Int) (x1 : Int) (x2 : List UInt8) (x3 : Int) (x4 : Int) (x5 : Int) (x6 : Int) (x7 : Int) (x8 : List V) (x9 : Bool) (y0 : List V) (K0 : List V → Option R) : Option R :=
  br x9 (bnd1 (s_fstate N x0 x1 x2 x3 x4 x5 x6 x7 x8 y0) fun l0 => K0 l0) (K0 y0)
noncomputable def s_partState (N : Nat) (x0 : Int) (x1 : Int) (x2 : List UInt8) (x3 : Int) (x4 : Int) (x5 : Int) (x6 : Int) (x7 : Int) (x8 : List V) (x9 : Bool) (y0 : List V) : Option (List V) :=
  C_partState N x0 x1 x2 x3 x4 x5 x6 x7 x8 x9 y0 (fun z0 => some z0)
noncomputable def cx_partState (N : Nat) : Cx := { T := T, isPure := tabP [], pureK := fun g ds K => tabK [] g ds K, memK := fun g dst ds m K => tabMK [⟨39, e_fstate (s_fstate N)⟩] g dst ds m K, meth := tabM [], keep := fun _ => [], keepX := fun _ => [], loopT := fun _ _ _ _ => none, jumps := 9 }
theorem C_partState_ok {R : Type} (N : Nat) (x0 : Int) (x1 : Int) (x2 : List UInt8) (x3 : Int) (x4 : Int) (x5 : Int) (x6 : Int) (x7 : Int) (x8 : List V) (x9 : Bool) (y0 : List V) (K : List V → Option R) : bodyK (cx_partState N) Try.f33 [.ptr 1 0 0, .agg [.v (.int .i64 x0) .no, .v (.int .i64 x1) .no, .v (.bytes x2) .no, .v (.int .i64 x3) .no, .v (.int .i64 x4) .no, .v (.int .i64 x5) .no, .v (.int .i64 x6) .no, .v (.int .i64 x7) .no, .v (.sl 48 x8) .no], .v (.bool x9) .no, .clos 39 []] [frOf 0 [⟨56, [.v (.sl 62 y0) (.own (.slot 0) 62)]⟩]] (r_partState K) = C_partState N x0 x1 x2 x3 x4 x5 x6 x7 x8 x9 y0 (fun z0 => K z0) := by
  kernel_rfl
theorem go_partState : Goes Try.prog 33 := goes_of Try.func33 (by kernel_rfl) (c := bodyOf Try.f33) (by kernel_rfl)
theorem eo_partState (s : Int → Int → List UInt8 → Int → Int → Int → Int → Int → List V → Bool → List V → Option (List V)) (hs : ∀ (x0 : Int) (x1 : Int) (x2 : List UInt8) (x3 : Int) (x4 : Int) (x5 : Int) (x6 : Int) (x7 : Int) (x8 : List V) (x9 : Bool) (y0 : List V) (z0 : List V), s x0 x1 x2 x3 x4 x5 x6 x7 x8 x9 y0 = some z0 → ViewRet Try.prog T 33 [.ptr 1 0 0, .agg [.v (.int .i64 x0) .no, .v (.int .i64 x1) .no, .v (.bytes x2) .no, .v (.int .i64 x3) .no, .v (.int .i64 x4) .no, .v (.int .i64 x5) .no, .v (.int .i64 x6) .no, .v (.int .i64 x7) .no, .v (.sl 48 x8) .no], .v (.bool x9) .no, .clos 39 []] [⟨56, [.v (.sl 62 y0) (.own (.slot 0) 62)]⟩] [] [⟨56, [.v (.sl 62 z0) (.own (.slot 0) 62)]⟩]) : MEntOK Try.prog T ⟨33, e_partState s⟩ := by
  refine ⟨go_partState, fun R dst ds m K r h => ?_⟩
  simp only [e_partState] at h
  split at h
  · obtain ⟨Bs, a1, a2, a3, h⟩ := viewK_some h
    split at h
    · obtain ⟨z0, h1, h2⟩ := bnd1_some h
      rw [putAllK_eq] at h2
      exact ⟨_, _, h2, hs _ _ _ _ _ _ _ _ _ _ _ _ h1 _ _ m dst a1 a2 a3 ⟨aren_ptr _ rfl, aren_agg ⟨aren_v _, aren_v _, aren_v _, aren_v _, aren_v _, aren_v _, aren_v _, aren_v _, aren_v _, trivial⟩, aren_v _, aren_clos trivial, trivial⟩⟩
    · cases h
  · cases h
theorem co_partState (N : Nat) : CxOK Try.prog (cx_partState N) :=
  cxOK_of2 (es := []) (me := [⟨39, e_fstate (s_fstate N)⟩]) (ms := []) T_ok trivial ⟨eo_fstate _ (p_fstate N), trivial⟩ trivial rfl (fun _ _ _ _ => rfl) (fun _ _ _ _ _ _ => rfl) rfl
theorem lo_partState (N : Nat) : LoopsOK (cx_partState N) Try.f33.ntmps (bodyOf Try.f33) :=
  loopsOK_of (k := 0) (by kernel_rfl) trivial
open Classical in
theorem p_partState (N : Nat) (x0 : Int) (x1 : Int) (x2 : List UInt8) (x3 : Int) (x4 : Int) (x5 : Int) (x6 : Int) (x7 : Int) (x8 : List V) (x9 : Bool) (y0 : List V) (z0 : List V) (h : s_partState N x0 x1 x2 x3 x4 x5 x6 x7 x8 x9 y0 = some z0) : ViewRet Try.prog T 33 [.ptr 1 0 0, .agg [.v (.int .i64 x0) .no, .v (.int .i64 x1) .no, .v (.bytes x2) .no, .v (.int .i64 x3) .no, .v (.int .i64 x4) .no, .v (.int .i64 x5) .no, .v (.int .i64 x6) .no, .v (.int .i64 x7) .no, .v (.sl 48 x8) .no], .v (.bool x9) .no, .clos 39 []] [⟨56, [.v (.sl 62 y0) (.own (.slot 0) 62)]⟩] [] [⟨56, [.v (.sl 62 z0) (.own (.slot 0) 62)]⟩] := by
  refine view_of (Bs := [⟨56, [.v (.sl 62 y0) (.own (.slot 0) 62)]⟩]) (Bs' := [⟨56, [.v (.sl 62 z0) (.own (.slot 0) 62)]⟩]) (cx := cx_partState N) (by kernel_rfl) (co_partState N) Try.func33 (by kernel_rfl) (by kernel_rfl) (lo_partState N) rfl rfl rfl rfl (rf := r_partState (fun z'0 => some z'0)) (r := z0) ?_ ?_
  · exact (C_partState_ok N x0 x1 x2 x3 x4 x5 x6 x7 x8 x9 y0 _).trans h
  · intro rs' m' hx
    unfold r_partState at hx
    split at hx
    · cases hx; exact ⟨rfl, rfl, _, rfl⟩
    · cases hx
noncomputable def e_partRules {R : Type} (s : Int → Int → List UInt8 → Int → Int → Int → Int → Int → List V → Bool → List V → Option (List V)) (dst : Nat) (ds : List D) (m : Mem) (K : List D → Mem → Option R) : Option R :=
  match ds with
  | [.ptr (kv0 + 1) sv0 0, .agg [.v (.int .i64 x0) .no, .v (.int .i64 x1) .no, .v (.bytes x2) .no, .v (.int .i64 x3) .no, .v (.int .i64 x4) .no, .v (.int .i64 x5) .no, .v (.int .i64 x6) .no, .v (.int .i64 x7) .no, .v (.sl 48 x8) .no], .v (.bool x9) .no, .clos 40 []] => viewK [(kv0, sv0)] m fun Bs => (match Bs with
    | [⟨56, [.v (.sl 62 y0) (.own (.slot 0) 62)]⟩] => bnd1 (s x0 x1 x2 x3 x4 x5 x6 x7 x8 x9 y0) fun z0 => putAllK [(kv0, sv0)] [⟨56, [.v (.sl 62 z0) (.own (.slot 0) 62)]⟩] m fun m' => K [] m'
    | _ => none)
  | _ => none
noncomputable def r_partRules {α : Type} (K : List V → Option α) (rs : List D) (m : Mem) : Option α :=
  match rs, m with
  | [], [_, [(0, ⟨56, [.v (.sl 62 z0) (.own (.slot 0) 62)]⟩)]] => K z0
  | _, _ => none
noncomputable def C_partRules {R : Type} (N : Nat) (x0 : Int) (x1 : Int) (x2 : List UInt8) (x3 : Int) (x4 : Int) (x5 : Int) (x6 : Int) (x7 : Int) (x8 : List V) (x9 : Bool) (y0 : List V) (K0 : List V → Option R) : Option R :=
  br x9 (bnd1 (s_frules N x0 x1 x2 x3 x4 x5 x6 x7 x8 y0) fun l0 => K0 l0) (K0 y0)
noncomputable def s_partRules (N : Nat) (x0 : Int) (x1 : Int) (x2 : List UInt8) (x3 : Int) (x4 : Int) (x5 : Int) (x6 : Int) (x7 : Int) (x8 : List V) (x9 : Bool) (y0 : List V) : Option (List V) :=
  C_partRules N x0 x1 x2 x3 x4 x5 x6 x7 x8 x9 y0 (fun z0 => some z0)
noncomputable def cx_partRules (N : Nat) : Cx := { T := T, isPure := tabP [], pureK := fun g ds K => tabK [] g ds K, memK := fun g dst ds m K => tabMK [⟨40, e_frules (s_frules N)⟩] g dst ds m K, meth := tabM [], keep := fun _ => [], keepX := fun _ => [], loopT := fun _ _ _ _ => none, jumps := 9 }
theorem C_partRules_ok {R : Type} (N : Nat) (x0 : Int) (x1 : Int) (x2 : List UInt8) (x3 : Int) (x4 : Int) (x5 : Int) (x6 : Int) (x7 : Int) (x8 : List V) (x9 : Bool) (y0 : List V) (K : List V → Option R) : bodyK (cx_partRules N) Try.f33 [.ptr 1 0 0, .agg [.v (.int .i64 x0) .no, .v (.int .i64 x1) .no, .v (.bytes x2) .no, .v (.int .i64 x3) .no, .v (.int .i64 x4) .no, .v (.int .i64 x5) .no, .v (.int .i64 x6) .no, .v (.int .i64 x7) .no, .v (.sl 48 x8) .no], .v (.bool x9) .no, .clos 40 []] [frOf 0 [⟨56, [.v (.sl 62 y0) (.own (.slot 0) 62)]⟩]] (r_partRules K) = C_partRules N x0 x1 x2 x3 x4 x5 x6 x7 x8 x9 y0 (fun z0 => K z0) := by
  kernel_rfl
theorem go_partRules : Goes Try.prog 33 := goes_of Try.func33 (by kernel_rfl) (c := bodyOf Try.f33) (by kernel_rfl)
theorem eo_partRules (s : Int → Int → List UInt8 → Int → Int → Int → Int → Int → List V → Bool → List V → Option (List V)) (hs : ∀ (x0 : Int) (x1 : Int) (x2 : List UInt8) (x3 : Int) (x4 : Int) (x5 : Int) (x6 : Int) (x7 : Int) (x8 : List V) (x9 : Bool) (y0 : List V) (z0 : List V), s x0 x1 x2 x3 x4 x5 x6 x7 x8 x9 y0 = some z0 → ViewRet Try.prog T 33 [.ptr 1 0 0, .agg [.v (.int .i64 x0) .no, .v (.int .i64 x1) .no, .v (.bytes x2) .no, .v (.int .i64 x3) .no, .v (.int .i64 x4) .no, .v (.int .i64 x5) .no, .v (.int .i64 x6) .no, .v (.int .i64 x7) .no, .v (.sl 48 x8) .no], .v (.bool x9) .no, .clos 40 []] [⟨56, [.v (.sl 62 y0) (.own (.slot 0) 62)]⟩] [] [⟨56, [.v (.sl 62 z0) (.own (.slot 0) 62)]⟩]) : MEntOK Try.prog T ⟨33, e_partRules s⟩ := by
  refine ⟨go_partRules, fun R dst ds m K r h => ?_⟩
  simp only [e_partRules] at h
  split at h
  · obtain ⟨Bs, a1, a2, a3, h⟩ := viewK_some h
    split at h
    · obtain ⟨z0, h1, h2⟩ := bnd1_some h
      rw [putAllK_eq] at h2
      exact ⟨_, _, h2, hs _ _ _ _ _ _ _ _ _ _ _ _ h1 _ _ m dst a1 a2 a3 ⟨aren_ptr _ rfl, aren_agg ⟨aren_v _, aren_v _, aren_v _, aren_v _, aren_v _, aren_v _, aren_v _, aren_v _, aren_v _, trivial⟩, aren_v _, aren_clos trivial, trivial⟩⟩
    · cases h
  · cases h
theorem co_partRules (N : Nat) : CxOK Try.prog (cx_partRules N) :=
  cxOK_of2 (es := []) (me := [⟨40, e_frules (s_frules N)⟩]) (ms := []) T_ok trivial ⟨eo_frules _ (p_frules N), trivial⟩ trivial rfl (fun _ _ _ _ => rfl) (fun _ _ _ _ _ _ => rfl) rfl
theorem lo_partRules (N : Nat) : LoopsOK (cx_partRules N) Try.f33.ntmps (bodyOf Try.f33) :=
  loopsOK_of (k := 0) (by kernel_rfl) trivial
open Classical in
theorem p_partRules (N : Nat) (x0 : Int) (x1 : Int) (x2 : List UInt8) (x3 : Int) (x4 : Int) (x5 : Int) (x6 : Int) (x7 : Int) (x8 : List V) (x9 : Bool) (y0 : List V) (z0 : List V) (h : s_partRules N x0 x1 x2 x3 x4 x5 x6 x7 x8 x9 y0 = some z0) : ViewRet Try.prog T 33 [.ptr 1 0 0, .agg [.v (.int .i64 x0) .no, .v (.int .i64 x1) .no, .v (.bytes x2) .no, .v (.int .i64 x3) .no, .v (.int .i64 x4) .no, .v (.int .i64 x5) .no, .v (.int .i64 x6) .no, .v (.int .i64 x7) .no, .v (.sl 48 x8) .no], .v (.bool x9) .no, .clos 40 []] [⟨56, [.v (.sl 62 y0) (.own (.slot 0) 62)]⟩] [] [⟨56, [.v (.sl 62 z0) (.own (.slot 0) 62)]⟩] := by
  refine view_of (Bs := [⟨56, [.v (.sl 62 y0) (.own (.slot 0) 62)]⟩]) (Bs' := [⟨56, [.v (.sl 62 z0) (.own (.slot 0) 62)]⟩]) (cx := cx_partRules N) (by kernel_rfl) (co_partRules N) Try.func33 (by kernel_rfl) (by kernel_rfl) (lo_partRules N) rfl rfl rfl rfl (rf := r_partRules (fun z'0 => some z'0)) (r := z0) ?_ ?_
  · exact (C_partRules_ok N x0 x1 x2 x3 x4 x5 x6 x7 x8 x9 y0 _).trans h
  · intro rs' m' hx
    unfold r_partRules at hx
    split at hx
    · cases hx; exact ⟨rfl, rfl, _, rfl⟩
    · cases hx
noncomputable def e_fEncode {R : Type} (s : Int → Int → List UInt8 → Int → Int → Int → Int → Int → List V → Option (List UInt8 × Int)) (ds : List D) (K : List D → Option R) : Option R :=
  match ds with
  | [.agg [.v (.int .i64 x0) .no, .v (.int .i64 x1) .no, .v (.bytes x2) .no, .v (.int .i64 x3) .no, .v (.int .i64 x4) .no, .v (.int .i64 x5) .no, .v (.int .i64 x6) .no, .v (.int .i64 x7) .no, .v (.sl 48 x8) .no]] => bnd2 (s x0 x1 x2 x3 x4 x5 x6 x7 x8) fun r0 r1 => K [.v (.bytes r0) .no, .v (.int .i64 r1) .no]
  | _ => none
noncomputable def r_fEncode (rs : List D) (_ : Mem) : Option (List UInt8 × Int) :=
  match rs with
  | [.v (.bytes r0) _, .v (.int .i64 r1) _] => some (r0, r1)
  | _ => none
noncomputable def s_fEncode (N : Nat) (x0 : Int) (x1 : Int) (x2 : List UInt8) (x3 : Int) (x4 : Int) (x5 : Int) (x6 : Int) (x7 : Int) (x8 : List V) : Option (List UInt8 × Int) :=
  bnd1 (s_fCheck N x0 x1 x2 x3 x4 x5 x6 x7 x8) fun n0 =>
  br (!decide (n0 = 0)) (some ([], n0))
    (bnd1 (s_partKinds N x0 x1 x2 x3 x4 x5 x6 x7 x8 true []) fun l1 =>
      bnd1 (s_partIdent N x0 x1 x2 x3 x4 x5 x6 x7 x8 true l1) fun l2 =>
        bnd1 (s_partName N x0 x1 x2 x3 x4 x5 x6 x7 x8 (decide (0 < (↑x2.length : Int))) l2) fun l3 =>
          bnd1 (s_partSize N x0 x1 x2 x3 x4 x5 x6 x7 x8 (decide (x1 = 2)) l3) fun l4 =>
            bnd1 (s_partShort N x0 x1 x2 x3 x4 x5 x6 x7 x8 (!decide (x3 = 0)) l4) fun l5 =>
              bnd1 (s_partState N x0 x1 x2 x3 x4 x5 x6 x7 x8 true l5) fun l6 =>
                bnd1 (s_partRules N x0 x1 x2 x3 x4 x5 x6 x7 x8 (decide (0 < (↑x8.length : Int))) l6) fun l7 => bnd2 (s_Encode N [V.agg [V.int IntKind.i64 98, V.bytes [], V.sl 62 l7]]) fun l8 n9 => some (l8, n9))
noncomputable def cx_fEncode (N : Nat) : Cx := { T := T, isPure := tabP [⟨11, e_fCheck (s_fCheck N)⟩, ⟨41, e_Encode (s_Encode N)⟩], pureK := fun g ds K => tabK [⟨11, e_fCheck (s_fCheck N)⟩, ⟨41, e_Encode (s_Encode N)⟩] g ds K, memK := fun g dst ds m K => tabMK [(selM 34 ⟨33, e_partKinds (s_partKinds N)⟩ (selM 35 ⟨33, e_partIdent (s_partIdent N)⟩ (selM 36 ⟨33, e_partName (s_partName N)⟩ (selM 37 ⟨33, e_partSize (s_partSize N)⟩ (selM 38 ⟨33, e_partShort (s_partShort N)⟩ (selM 39 ⟨33, e_partState (s_partState N)⟩ ⟨33, e_partRules (s_partRules N)⟩)))))), ⟨34, e_fkinds (s_fkinds N)⟩, ⟨35, e_fident (s_fident N)⟩, ⟨36, e_fname (s_fname N)⟩, ⟨37, e_fsize (s_fsize N)⟩, ⟨38, e_fshort (s_fshort N)⟩, ⟨39, e_fstate (s_fstate N)⟩, ⟨40, e_frules (s_frules N)⟩] g dst ds m K, meth := tabM [], keep := fun _ => [], keepX := fun _ => [], loopT := fun _ _ _ _ => none, jumps := 9 }
theorem s_fEncode_ok (N : Nat) (x0 : Int) (x1 : Int) (x2 : List UInt8) (x3 : Int) (x4 : Int) (x5 : Int) (x6 : Int) (x7 : Int) (x8 : List V) : bodyK (cx_fEncode N) Try.f14 [.agg [.v (.int .i64 x0) .no, .v (.int .i64 x1) .no, .v (.bytes x2) .no, .v (.int .i64 x3) .no, .v (.int .i64 x4) .no, .v (.int .i64 x5) .no, .v (.int .i64 x6) .no, .v (.int .i64 x7) .no, .v (.sl 48 x8) .no]] [] r_fEncode = s_fEncode N x0 x1 x2 x3 x4 x5 x6 x7 x8 := by
  kernel_rfl
theorem go_fEncode : Goes Try.prog 14 := goes_of Try.func14 (by kernel_rfl) (c := bodyOf Try.f14) (by kernel_rfl)
theorem eo_fEncode (s : Int → Int → List UInt8 → Int → Int → Int → Int → Int → List V → Option (List UInt8 × Int)) (hs : ∀ (x0 : Int) (x1 : Int) (x2 : List UInt8) (x3 : Int) (x4 : Int) (x5 : Int) (x6 : Int) (x7 : Int) (x8 : List V) (r0 : List UInt8) (r1 : Int), s x0 x1 x2 x3 x4 x5 x6 x7 x8 = some (r0, r1) → PureRet Try.prog T 14 [.agg [.v (.int .i64 x0) .no, .v (.int .i64 x1) .no, .v (.bytes x2) .no, .v (.int .i64 x3) .no, .v (.int .i64 x4) .no, .v (.int .i64 x5) .no, .v (.int .i64 x6) .no, .v (.int .i64 x7) .no, .v (.sl 48 x8) .no]] [.v (.bytes r0) .no, .v (.int .i64 r1) .no]) : EntOK Try.prog T ⟨14, e_fEncode s⟩ := by
  refine ⟨go_fEncode, fun R ds K r h => ?_, fun R ds K => ?_⟩
  · simp only [e_fEncode] at h
    split at h
    · obtain ⟨r0, r1, h1, h2⟩ := bnd2_some h
      exact ⟨_, h2, hs _ _ _ _ _ _ _ _ _ _ _ h1⟩
    · cases h
  · simp only [e_fEncode]
    split
    · rw [bnd2_b]; rfl
    · rfl
theorem co_fEncode (N : Nat) : CxOK Try.prog (cx_fEncode N) :=
  cxOK_of2 (es := [⟨11, e_fCheck (s_fCheck N)⟩, ⟨41, e_Encode (s_Encode N)⟩]) (me := [(selM 34 ⟨33, e_partKinds (s_partKinds N)⟩ (selM 35 ⟨33, e_partIdent (s_partIdent N)⟩ (selM 36 ⟨33, e_partName (s_partName N)⟩ (selM 37 ⟨33, e_partSize (s_partSize N)⟩ (selM 38 ⟨33, e_partShort (s_partShort N)⟩ (selM 39 ⟨33, e_partState (s_partState N)⟩ ⟨33, e_partRules (s_partRules N)⟩)))))), ⟨34, e_fkinds (s_fkinds N)⟩, ⟨35, e_fident (s_fident N)⟩, ⟨36, e_fname (s_fname N)⟩, ⟨37, e_fsize (s_fsize N)⟩, ⟨38, e_fshort (s_fshort N)⟩, ⟨39, e_fstate (s_fstate N)⟩, ⟨40, e_frules (s_frules N)⟩]) (ms := []) T_ok ⟨eo_fCheck _ (p_fCheck N), eo_Encode _ (p_Encode N), trivial⟩ ⟨selM_ok rfl (eo_partKinds _ (p_partKinds N)) (selM_ok rfl (eo_partIdent _ (p_partIdent N)) (selM_ok rfl (eo_partName _ (p_partName N)) (selM_ok rfl (eo_partSize _ (p_partSize N)) (selM_ok rfl (eo_partShort _ (p_partShort N)) (selM_ok rfl (eo_partState _ (p_partState N)) (eo_partRules _ (p_partRules N))))))), eo_fkinds _ (p_fkinds N), eo_fident _ (p_fident N), eo_fname _ (p_fname N), eo_fsize _ (p_fsize N), eo_fshort _ (p_fshort N), eo_fstate _ (p_fstate N), eo_frules _ (p_frules N), trivial⟩ trivial rfl (fun _ _ _ _ => rfl) (fun _ _ _ _ _ _ => rfl) rfl
theorem lo_fEncode (N : Nat) : LoopsOK (cx_fEncode N) Try.f14.ntmps (bodyOf Try.f14) :=
  loopsOK_of (k := 0) (by kernel_rfl) trivial
theorem p_fEncode (N : Nat) (x0 : Int) (x1 : Int) (x2 : List UInt8) (x3 : Int) (x4 : Int) (x5 : Int) (x6 : Int) (x7 : Int) (x8 : List V) (r0 : List UInt8) (r1 : Int) (h : s_fEncode N x0 x1 x2 x3 x4 x5 x6 x7 x8 = some (r0, r1)) : PureRet Try.prog T 14 [.agg [.v (.int .i64 x0) .no, .v (.int .i64 x1) .no, .v (.bytes x2) .no, .v (.int .i64 x3) .no, .v (.int .i64 x4) .no, .v (.int .i64 x5) .no, .v (.int .i64 x6) .no, .v (.int .i64 x7) .no, .v (.sl 48 x8) .no]] [.v (.bytes r0) .no, .v (.int .i64 r1) .no] :=
  pure_of (cx := cx_fEncode N) (by kernel_rfl) (co_fEncode N) Try.func14 (by kernel_rfl) (by kernel_rfl) (lo_fEncode N) rfl rfl rfl (rf := r_fEncode) ((s_fEncode_ok N x0 x1 x2 x3 x4 x5 x6 x7 x8).trans h) (fun rs' m h => by
    unfold r_fEncode at h
    split at h
    · cases h; exact ⟨rfl, rfl⟩
    · cases h)
noncomputable def e_fBytes {R : Type} (s : Int → Int → List UInt8 → Int → Int → Int → Int → Int → List V → Option (Int)) (ds : List D) (K : List D → Option R) : Option R :=
  match ds with
  | [.agg [.v (.int .i64 x0) .no, .v (.int .i64 x1) .no, .v (.bytes x2) .no, .v (.int .i64 x3) .no, .v (.int .i64 x4) .no, .v (.int .i64 x5) .no, .v (.int .i64 x6) .no, .v (.int .i64 x7) .no, .v (.sl 48 x8) .no]] => bnd1 (s x0 x1 x2 x3 x4 x5 x6 x7 x8) fun r0 => K [.v (.int .i64 r0) .no]
  | _ => none
noncomputable def r_fBytes (rs : List D) (_ : Mem) : Option (Int) :=
  match rs with
  | [.v (.int .i64 r0) _] => some (r0)
  | _ => none
noncomputable def s_fBytes (N : Nat) (x0 : Int) (x1 : Int) (x2 : List UInt8) (x3 : Int) (x4 : Int) (x5 : Int) (x6 : Int) (x7 : Int) (x8 : List V) : Option (Int) :=
  bnd1 (s_fCheck N x0 x1 x2 x3 x4 x5 x6 x7 x8) fun n0 => br (!decide (n0 = 0)) (some 0) (some (IntKind.i64.wrap (x4 + IntKind.i64.wrap (x5 * x6))))
noncomputable def cx_fBytes (N : Nat) : Cx := { T := T, isPure := tabP [⟨11, e_fCheck (s_fCheck N)⟩], pureK := fun g ds K => tabK [⟨11, e_fCheck (s_fCheck N)⟩] g ds K, memK := fun g dst ds m K => tabMK [] g dst ds m K, meth := tabM [], keep := fun _ => [], keepX := fun _ => [], loopT := fun _ _ _ _ => none, jumps := 9 }
theorem s_fBytes_ok (N : Nat) (x0 : Int) (x1 : Int) (x2 : List UInt8) (x3 : Int) (x4 : Int) (x5 : Int) (x6 : Int) (x7 : Int) (x8 : List V) : bodyK (cx_fBytes N) Try.f17 [.agg [.v (.int .i64 x0) .no, .v (.int .i64 x1) .no, .v (.bytes x2) .no, .v (.int .i64 x3) .no, .v (.int .i64 x4) .no, .v (.int .i64 x5) .no, .v (.int .i64 x6) .no, .v (.int .i64 x7) .no, .v (.sl 48 x8) .no]] [] r_fBytes = s_fBytes N x0 x1 x2 x3 x4 x5 x6 x7 x8 := by
  kernel_rfl
theorem go_fBytes : Goes Try.prog 17 := goes_of Try.func17 (by kernel_rfl) (c := bodyOf Try.f17) (by kernel_rfl)
theorem eo_fBytes (s : Int → Int → List UInt8 → Int → Int → Int → Int → Int → List V → Option (Int)) (hs : ∀ (x0 : Int) (x1 : Int) (x2 : List UInt8) (x3 : Int) (x4 : Int) (x5 : Int) (x6 : Int) (x7 : Int) (x8 : List V) (r0 : Int), s x0 x1 x2 x3 x4 x5 x6 x7 x8 = some r0 → PureRet Try.prog T 17 [.agg [.v (.int .i64 x0) .no, .v (.int .i64 x1) .no, .v (.bytes x2) .no, .v (.int .i64 x3) .no, .v (.int .i64 x4) .no, .v (.int .i64 x5) .no, .v (.int .i64 x6) .no, .v (.int .i64 x7) .no, .v (.sl 48 x8) .no]] [.v (.int .i64 r0) .no]) : EntOK Try.prog T ⟨17, e_fBytes s⟩ := by
  refine ⟨go_fBytes, fun R ds K r h => ?_, fun R ds K => ?_⟩
  · simp only [e_fBytes] at h
    split at h
    · obtain ⟨r0, h1, h2⟩ := bnd1_some h
      exact ⟨_, h2, hs _ _ _ _ _ _ _ _ _ _ h1⟩
    · cases h
  · simp only [e_fBytes]
    split
    · rw [bnd1_b]; rfl
    · rfl
theorem co_fBytes (N : Nat) : CxOK Try.prog (cx_fBytes N) :=
  cxOK_of2 (es := [⟨11, e_fCheck (s_fCheck N)⟩]) (me := []) (ms := []) T_ok ⟨eo_fCheck _ (p_fCheck N), trivial⟩ trivial trivial rfl (fun _ _ _ _ => rfl) (fun _ _ _ _ _ _ => rfl) rfl
theorem lo_fBytes (N : Nat) : LoopsOK (cx_fBytes N) Try.f17.ntmps (bodyOf Try.f17) :=
  loopsOK_of (k := 0) (by kernel_rfl) trivial
theorem p_fBytes (N : Nat) (x0 : Int) (x1 : Int) (x2 : List UInt8) (x3 : Int) (x4 : Int) (x5 : Int) (x6 : Int) (x7 : Int) (x8 : List V) (r0 : Int) (h : s_fBytes N x0 x1 x2 x3 x4 x5 x6 x7 x8 = some r0) : PureRet Try.prog T 17 [.agg [.v (.int .i64 x0) .no, .v (.int .i64 x1) .no, .v (.bytes x2) .no, .v (.int .i64 x3) .no, .v (.int .i64 x4) .no, .v (.int .i64 x5) .no, .v (.int .i64 x6) .no, .v (.int .i64 x7) .no, .v (.sl 48 x8) .no]] [.v (.int .i64 r0) .no] :=
  pure_of (cx := cx_fBytes N) (by kernel_rfl) (co_fBytes N) Try.func17 (by kernel_rfl) (by kernel_rfl) (lo_fBytes N) rfl rfl rfl (rf := r_fBytes) ((s_fBytes_ok N x0 x1 x2 x3 x4 x5 x6 x7 x8).trans h) (fun rs' m h => by
    unfold r_fBytes at h
    split at h
    · cases h; exact ⟨rfl, rfl⟩
    · cases h)
end Go.Proofs.Ytllnklkjkjmjbaa.En

/- The printed functions, together. -/

/- The chapter's first example, as an item of the engine (written by hand after the printer's form: the printer takes too long at it). -/
namespace Go.Proofs.Ytllnklkjkjmjbaa.En
open Go Go.Proofs
set_option maxRecDepth 100000
set_option linter.unusedVariables false
noncomputable def e_vawake {R : Type} (s : Option (Bool)) (ds : List D) (K : List D → Option R) : Option R :=
  match ds with
  | [] => bnd1 (s) fun r0 => K [.v (.bool r0) .no]
  | _ => none
noncomputable def r_vawake (rs : List D) (_ : Mem) : Option (Bool) :=
  match rs with
  | [.v (.bool r0) _] => some (r0)
  | _ => none
noncomputable def s_vawake (N : Nat)  : Option (Bool) :=
  bnd2 (s_fEncode N 12033 2 [] 1 32 0 0 1 []) fun l0 n1 => bnd2 (s_fNext N 1 64) fun n2 n3 =>
  br (decide (n1 = 0))
  (bnd1 (s_oSame N l0 ([98, 17, 130, 1, 2, 131, 2, 47, 1, 128, 2, 0, 32, 136, 1, 1, 138, 1, 1] : List UInt8)) fun b4 =>
    br b4 (bnd1 (s_fBytes N 12033 2 [] 1 32 0 0 1 []) fun n5 => br (decide (n5 = 32)) (br (decide (n3 = 0)) (some (decide (n2 = 2))) (some false)) (some false)) (some false))
  (some false)
noncomputable def cx_vawake (N : Nat) : Cx := { T := T, isPure := tabP [⟨14, e_fEncode (s_fEncode N)⟩, ⟨19, e_fNext (s_fNext N)⟩, ⟨16, e_oSame (s_oSame N)⟩, ⟨17, e_fBytes (s_fBytes N)⟩], pureK := fun g ds K => tabK [⟨14, e_fEncode (s_fEncode N)⟩, ⟨19, e_fNext (s_fNext N)⟩, ⟨16, e_oSame (s_oSame N)⟩, ⟨17, e_fBytes (s_fBytes N)⟩] g ds K, memK := fun g dst ds m K => tabMK [] g dst ds m K, meth := tabM [], keep := fun _ => [], keepX := fun _ => [], loopT := fun _ _ _ _ => none, jumps := 9 }
theorem s_vawake_ok (N : Nat)  : bodyK (cx_vawake N) Try.f13 [] [] r_vawake = s_vawake N  := by
  kernel_rfl
theorem go_vawake : Goes Try.prog 13 := goes_of Try.func13 (by kernel_rfl) (c := bodyOf Try.f13) (by kernel_rfl)
theorem eo_vawake (s : Option (Bool)) (hs : ∀  (r0 : Bool), s  = some r0 → PureRet Try.prog T 13 [] [.v (.bool r0) .no]) : EntOK Try.prog T ⟨13, e_vawake s⟩ := by
  refine ⟨go_vawake, fun R ds K r h => ?_, fun R ds K => ?_⟩
  · simp only [e_vawake] at h
    split at h
    · obtain ⟨r0, h1, h2⟩ := bnd1_some h
      exact ⟨_, h2, hs _ h1⟩
    · cases h
  · simp only [e_vawake]
    split
    · rw [bnd1_b]; rfl
    · rfl
theorem co_vawake (N : Nat) : CxOK Try.prog (cx_vawake N) :=
  cxOK_of2 (es := [⟨14, e_fEncode (s_fEncode N)⟩, ⟨19, e_fNext (s_fNext N)⟩, ⟨16, e_oSame (s_oSame N)⟩, ⟨17, e_fBytes (s_fBytes N)⟩]) (me := []) (ms := []) T_ok ⟨eo_fEncode _ (p_fEncode N), eo_fNext _ (p_fNext N), eo_oSame _ (p_oSame N), eo_fBytes _ (p_fBytes N), trivial⟩ trivial trivial rfl (fun _ _ _ _ => rfl) (fun _ _ _ _ _ _ => rfl) rfl
theorem lo_vawake (N : Nat) : LoopsOK (cx_vawake N) Try.f13.ntmps (bodyOf Try.f13) :=
  loopsOK_of (k := 0) (by kernel_rfl) trivial
theorem p_vawake (N : Nat)  (r0 : Bool) (h : s_vawake N  = some r0) : PureRet Try.prog T 13 [] [.v (.bool r0) .no] :=
  pure_of (cx := cx_vawake N) (by kernel_rfl) (co_vawake N) Try.func13 (by kernel_rfl) (by kernel_rfl) (lo_vawake N) rfl rfl rfl (rf := r_vawake) ((s_vawake_ok N ).trans h) (fun rs' m h => by
    unfold r_vawake at h
    split at h
    · cases h; exact ⟨rfl, rfl⟩
    · cases h)
end Go.Proofs.Ytllnklkjkjmjbaa.En

/- Functions of the program in plain Lean, joined to the program by evaluation; printed by a program. -/
namespace Go.Proofs.Ytllnklkjkjmjbaa.En
open Go Go.Proofs
set_option maxRecDepth 100000
set_option linter.unusedVariables false
noncomputable def e_vsmall {R : Type} (s : Int → Int → List V → Int → Option (Bool)) (ds : List D) (K : List D → Option R) : Option R :=
  match ds with
  | [.agg [.v (.int .i64 x0) .no, .v (.int .i64 x1) .no, .v (.sl 46 x2) .no], .v (.int .i64 x3) .no] => bnd1 (s x0 x1 x2 x3) fun r0 => K [.v (.bool r0) .no]
  | _ => none
noncomputable def r_vsmall (rs : List D) (_ : Mem) : Option (Bool) :=
  match rs with
  | [.v (.bool r0) _] => some (r0)
  | _ => none
noncomputable def F_vsmall_4 {R : Type} (N : Nat) (f : Int → Int → List V → Int → Option (Bool)) (n0 : Int) (n2 : Int) (n3 : Int) (vs4 : List V) (Lq : Int → Option R) (K0 : Bool → Option R) (K1 : Option R) (n1 : Int) : Option R :=
  br (decide (n1 < (↑vs4.length : Int)))
  (br (decide (0 ≤ n1) && decide (n1 < (↑vs4.length : Int)))
    (at? vs4 n1.toNat fun x0 =>
      x0.unAgg fun l1 =>
        unCons l1 fun x2 l3 =>
          V.unInt IntKind.i64 x2 fun n4 =>
            unCons l3 fun x5 l6 => V.unInt IntKind.i64 x5 fun n7 => unCons l6 fun x8 l9 => V.unSl 46 x8 fun l10 => unNil l9 (bnd1 (f n4 n7 l10 (IntKind.i64.wrap (n0 - 1))) fun b11 => br (!b11) (K0 false) (Lq (IntKind.i64.wrap (n1 + 1)))))
    none)
  K1
noncomputable def S_vsmall_4 {R : Type} (N : Nat) (f : Int → Int → List V → Int → Option (Bool)) (n0 : Int) (n2 : Int) (n3 : Int) (vs4 : List V) : Nat → Int → (Bool → Option R) → (Option R) → Option R
  | 0, _, _, _ => none
  | t + 1, n1, K0, K1 => F_vsmall_4 N f n0 n2 n3 vs4 (fun n1 => S_vsmall_4 N f n0 n2 n3 vs4 t n1 K0 K1) K0 K1 n1
noncomputable def l_vsmall_4 {R : Type} (N : Nat) (f : Int → Int → List V → Int → Option (Bool)) (ds : List D) (m : Mem) (K : Ex → List D → Mem → Option R) : Option R :=
  match ds, m with
  | [(.v (.int .i64 n0) .no), (.ptr 0 2 0), (.v (.int .i64 n1) .no)], [[(2, ⟨46, [(.v (.int .i64 n2) .no), (.v (.int .i64 n3) .no), (.v (.sl 46 vs4) .no)]⟩)]] => S_vsmall_4 N f n0 n2 n3 vs4 N n1 (fun a0 => K .ret [(.ptr 0 2 0), (.v (.bool a0) .no)] [[(2, ⟨46, [(.v (.int .i64 n2) .no), (.v (.int .i64 n3) .no), (.v (.sl 46 vs4) .no)]⟩)]]) (K (.exit 0) [(.ptr 0 2 0), .any] [[(2, ⟨46, [(.v (.int .i64 n2) .no), (.v (.int .i64 n3) .no), (.v (.sl 46 vs4) .no)]⟩)]])
  | _, _ => none
noncomputable def B_vsmall (N : Nat) (f : Int → Int → List V → Int → Option (Bool)) (x0 : Int) (x1 : Int) (x2 : List V) (x3 : Int) : Option (Bool) :=
  br (decide (x3 = 0)) (some false) (br (decide (20 < (↑x2.length : Int))) (some false) (S_vsmall_4 N f x3 x0 x1 x2 N 0 (fun b0 => some b0) (some true)))
noncomputable def s_vsmall (N : Nat) : Nat → Int → Int → List V → Int → Option (Bool)
  | 0, _, _, _, _ => none
  | n + 1, x0, x1, x2, x3 => B_vsmall N (s_vsmall N n) x0 x1 x2 x3
noncomputable def cx_vsmall (N : Nat) (f : Int → Int → List V → Int → Option (Bool)) : Cx := { T := T, isPure := tabP [⟨26, e_vsmall f⟩], pureK := fun g ds K => tabK [⟨26, e_vsmall f⟩] g ds K, memK := fun g dst ds m K => tabMK [] g dst ds m K, meth := tabM [], keep := fun r => match r with | 4 => [1, 2, 5] | _ => [], keepX := fun r => match r with | 4 => [2, 4] | _ => [], loopT := fun r ds m K => match r with | 4 => l_vsmall_4 N f ds m K | _ => none, jumps := 9 }
theorem F_vsmall_4_ok {R : Type} (N : Nat) (f : Int → Int → List V → Int → Option (Bool)) (n0 : Int) (n2 : Int) (n3 : Int) (vs4 : List V) (n1 : Int) (L : List D → Mem → Option R) (K : Ex → List D → Mem → Option R) :
    roundK (fun st K => codeK (cx_vsmall N f) (loopN Try.f26 0) st K) 30 [1, 2, 5] [2, 4] L [(.v (.int .i64 n0) .no), (.ptr 0 2 0), (.v (.int .i64 n1) .no)] [[(2, ⟨46, [(.v (.int .i64 n2) .no), (.v (.int .i64 n3) .no), (.v (.sl 46 vs4) .no)]⟩)]] K = F_vsmall_4 N f n0 n2 n3 vs4 (fun n1 => L [(.v (.int .i64 n0) .no), (.ptr 0 2 0), (.v (.int .i64 n1) .no)] [[(2, ⟨46, [(.v (.int .i64 n2) .no), (.v (.int .i64 n3) .no), (.v (.sl 46 vs4) .no)]⟩)]]) (fun a0 => K .ret [(.ptr 0 2 0), (.v (.bool a0) .no)] [[(2, ⟨46, [(.v (.int .i64 n2) .no), (.v (.int .i64 n3) .no), (.v (.sl 46 vs4) .no)]⟩)]]) (K (.exit 0) [(.ptr 0 2 0), .any] [[(2, ⟨46, [(.v (.int .i64 n2) .no), (.v (.int .i64 n3) .no), (.v (.sl 46 vs4) .no)]⟩)]]) n1 := by
  kernel_rfl
theorem S_vsmall_4_ok {R : Type} (N : Nat) (f : Int → Int → List V → Int → Option (Bool)) (n0 : Int) (n2 : Int) (n3 : Int) (vs4 : List V) (K : Ex → List D → Mem → Option R) : ∀ (t : Nat) (n1 : Int),
    loopK (fun st K => codeK (cx_vsmall N f) (loopN Try.f26 0) st K) 30 [1, 2, 5] [2, 4] t [(.v (.int .i64 n0) .no), (.ptr 0 2 0), (.v (.int .i64 n1) .no)] [[(2, ⟨46, [(.v (.int .i64 n2) .no), (.v (.int .i64 n3) .no), (.v (.sl 46 vs4) .no)]⟩)]] K = S_vsmall_4 N f n0 n2 n3 vs4 t n1 (fun a0 => K .ret [(.ptr 0 2 0), (.v (.bool a0) .no)] [[(2, ⟨46, [(.v (.int .i64 n2) .no), (.v (.int .i64 n3) .no), (.v (.sl 46 vs4) .no)]⟩)]]) (K (.exit 0) [(.ptr 0 2 0), .any] [[(2, ⟨46, [(.v (.int .i64 n2) .no), (.v (.int .i64 n3) .no), (.v (.sl 46 vs4) .no)]⟩)]])
  | 0, n1 => rfl
  | t + 1, n1 => (F_vsmall_4_ok N f n0 n2 n3 vs4 n1 _ K).trans (congrArg (fun L => F_vsmall_4 N f n0 n2 n3 vs4 L (fun a0 => K .ret [(.ptr 0 2 0), (.v (.bool a0) .no)] [[(2, ⟨46, [(.v (.int .i64 n2) .no), (.v (.int .i64 n3) .no), (.v (.sl 46 vs4) .no)]⟩)]]) (K (.exit 0) [(.ptr 0 2 0), .any] [[(2, ⟨46, [(.v (.int .i64 n2) .no), (.v (.int .i64 n3) .no), (.v (.sl 46 vs4) .no)]⟩)]]) n1) (funext fun n1 => S_vsmall_4_ok N f n0 n2 n3 vs4 K t n1))
theorem B_vsmall_ok (N : Nat) (f : Int → Int → List V → Int → Option (Bool)) (x0 : Int) (x1 : Int) (x2 : List V) (x3 : Int) : bodyK (cx_vsmall N f) Try.f26 [.agg [.v (.int .i64 x0) .no, .v (.int .i64 x1) .no, .v (.sl 46 x2) .no], .v (.int .i64 x3) .no] [] r_vsmall = B_vsmall N f x0 x1 x2 x3 := by
  kernel_rfl
theorem go_vsmall : Goes Try.prog 26 := goes_of Try.func26 (by kernel_rfl) (c := bodyOf Try.f26) (by kernel_rfl)
theorem eo_vsmall (s : Int → Int → List V → Int → Option (Bool)) (hs : ∀ (x0 : Int) (x1 : Int) (x2 : List V) (x3 : Int) (r0 : Bool), s x0 x1 x2 x3 = some r0 → PureRet Try.prog T 26 [.agg [.v (.int .i64 x0) .no, .v (.int .i64 x1) .no, .v (.sl 46 x2) .no], .v (.int .i64 x3) .no] [.v (.bool r0) .no]) : EntOK Try.prog T ⟨26, e_vsmall s⟩ := by
  refine ⟨go_vsmall, fun R ds K r h => ?_, fun R ds K => ?_⟩
  · simp only [e_vsmall] at h
    split at h
    · obtain ⟨r0, h1, h2⟩ := bnd1_some h
      exact ⟨_, h2, hs _ _ _ _ _ h1⟩
    · cases h
  · simp only [e_vsmall]
    split
    · rw [bnd1_b]; rfl
    · rfl
theorem co_vsmall (N : Nat) (f : Int → Int → List V → Int → Option (Bool)) (hf : ∀ (x0 : Int) (x1 : Int) (x2 : List V) (x3 : Int) (r0 : Bool), f x0 x1 x2 x3 = some r0 → PureRet Try.prog T 26 [.agg [.v (.int .i64 x0) .no, .v (.int .i64 x1) .no, .v (.sl 46 x2) .no], .v (.int .i64 x3) .no] [.v (.bool r0) .no]) : CxOK Try.prog (cx_vsmall N f) :=
  cxOK_of2 (es := [⟨26, e_vsmall f⟩]) (me := []) (ms := []) T_ok ⟨eo_vsmall f hf, trivial⟩ trivial trivial rfl (fun _ _ _ _ => rfl) (fun _ _ _ _ _ _ => rfl) rfl
theorem lk_vsmall_4 (N : Nat) (f : Int → Int → List V → Int → Option (Bool)) : LoopOK (cx_vsmall N f) 30 (loopN Try.f26 0) := by
  refine loopOK_of (rid := 4) (by kernel_rfl) rfl rfl fun R ds m K r h => ?_
  have h : l_vsmall_4 N f ds m K = some r := h
  unfold l_vsmall_4 at h
  split at h
  · exact ⟨N, Eq.trans (S_vsmall_4_ok ..) h⟩
  · cases h
theorem lo_vsmall (N : Nat) (f : Int → Int → List V → Int → Option (Bool)) : LoopsOK (cx_vsmall N f) Try.f26.ntmps (bodyOf Try.f26) :=
  loopsOK_of (k := 1) (by kernel_rfl) ⟨trivial, lk_vsmall_4 N f⟩
theorem p_vsmall (N : Nat) : ∀ (M : Nat) (x0 : Int) (x1 : Int) (x2 : List V) (x3 : Int) (r0 : Bool), s_vsmall N M x0 x1 x2 x3 = some r0 → PureRet Try.prog T 26 [.agg [.v (.int .i64 x0) .no, .v (.int .i64 x1) .no, .v (.sl 46 x2) .no], .v (.int .i64 x3) .no] [.v (.bool r0) .no]
  | 0, _, _, _, _, _, h => by cases h
  | M + 1, x0, x1, x2, x3, r0, h => pure_of (cx := cx_vsmall N (s_vsmall N M)) (by kernel_rfl) (co_vsmall N (s_vsmall N M) (p_vsmall N M)) Try.func26 (by kernel_rfl) (by kernel_rfl) (lo_vsmall N (s_vsmall N M)) rfl rfl rfl (rf := r_vsmall) ((B_vsmall_ok N (s_vsmall N M) x0 x1 x2 x3).trans h) (fun rs' m h => by
    unfold r_vsmall at h
    split at h
    · cases h; exact ⟨rfl, rfl⟩
    · cases h)
noncomputable def e_vfew {R : Type} (s : Int → Int → List UInt8 → Int → Int → Int → Int → Int → List V → Option (Bool)) (ds : List D) (K : List D → Option R) : Option R :=
  match ds with
  | [.agg [.v (.int .i64 x0) .no, .v (.int .i64 x1) .no, .v (.bytes x2) .no, .v (.int .i64 x3) .no, .v (.int .i64 x4) .no, .v (.int .i64 x5) .no, .v (.int .i64 x6) .no, .v (.int .i64 x7) .no, .v (.sl 48 x8) .no]] => bnd1 (s x0 x1 x2 x3 x4 x5 x6 x7 x8) fun r0 => K [.v (.bool r0) .no]
  | _ => none
noncomputable def r_vfew (rs : List D) (_ : Mem) : Option (Bool) :=
  match rs with
  | [.v (.bool r0) _] => some (r0)
  | _ => none
noncomputable def F_vfew_4 {R : Type} (N : Nat) (n1 : Int) (n2 : Int) (l3 : List UInt8) (n4 : Int) (n5 : Int) (n6 : Int) (n7 : Int) (n8 : Int) (vs9 : List V) (Lq : Int → Option R) (K0 : Bool → Option R) (K1 : Option R) (n0 : Int) : Option R :=
  br (decide (n0 < (↑vs9.length : Int)))
  (br (decide (0 ≤ n0) && decide (n0 < (↑vs9.length : Int)))
    (at? vs9 n0.toNat fun x0 =>
      x0.unAgg fun l1 =>
        unCons l1 fun x2 l3 =>
          V.unInt IntKind.i64 x2 fun n4 =>
            unCons l3 fun x5 l6 =>
              V.unInt IntKind.i64 x5 fun n7 =>
                unCons l6 fun x8 l9 => V.unInt IntKind.i64 x8 fun n10 => unCons l9 fun x11 l12 => V.unSl 46 x11 fun l13 => unNil l12 (bnd1 (s_vsmall N N n7 n10 l13 12) fun b14 => br (!b14) (K0 false) (Lq (IntKind.i64.wrap (n0 + 1)))))
    none)
  K1
noncomputable def S_vfew_4 {R : Type} (N : Nat) (n1 : Int) (n2 : Int) (l3 : List UInt8) (n4 : Int) (n5 : Int) (n6 : Int) (n7 : Int) (n8 : Int) (vs9 : List V) : Nat → Int → (Bool → Option R) → (Option R) → Option R
  | 0, _, _, _ => none
  | t + 1, n0, K0, K1 => F_vfew_4 N n1 n2 l3 n4 n5 n6 n7 n8 vs9 (fun n0 => S_vfew_4 N n1 n2 l3 n4 n5 n6 n7 n8 vs9 t n0 K0 K1) K0 K1 n0
noncomputable def l_vfew_4 {R : Type} (N : Nat) (ds : List D) (m : Mem) (K : Ex → List D → Mem → Option R) : Option R :=
  match ds, m with
  | [(.ptr 0 1 0), (.v (.int .i64 n0) .no)], [[(1, ⟨25, [(.v (.int .i64 n1) .no), (.v (.int .i64 n2) .no), (.v (.bytes l3) .no), (.v (.int .i64 n4) .no), (.v (.int .i64 n5) .no), (.v (.int .i64 n6) .no), (.v (.int .i64 n7) .no), (.v (.int .i64 n8) .no), (.v (.sl 48 vs9) .no)]⟩)]] => S_vfew_4 N n1 n2 l3 n4 n5 n6 n7 n8 vs9 N n0 (fun a0 => K .ret [(.ptr 0 1 0), (.v (.bool a0) .no)] [[(1, ⟨25, [(.v (.int .i64 n1) .no), (.v (.int .i64 n2) .no), (.v (.bytes l3) .no), (.v (.int .i64 n4) .no), (.v (.int .i64 n5) .no), (.v (.int .i64 n6) .no), (.v (.int .i64 n7) .no), (.v (.int .i64 n8) .no), (.v (.sl 48 vs9) .no)]⟩)]]) (K (.exit 0) [(.ptr 0 1 0), .any] [[(1, ⟨25, [(.v (.int .i64 n1) .no), (.v (.int .i64 n2) .no), (.v (.bytes l3) .no), (.v (.int .i64 n4) .no), (.v (.int .i64 n5) .no), (.v (.int .i64 n6) .no), (.v (.int .i64 n7) .no), (.v (.int .i64 n8) .no), (.v (.sl 48 vs9) .no)]⟩)]])
  | _, _ => none
noncomputable def s_vfew (N : Nat) (x0 : Int) (x1 : Int) (x2 : List UInt8) (x3 : Int) (x4 : Int) (x5 : Int) (x6 : Int) (x7 : Int) (x8 : List V) : Option (Bool) :=
  br (decide (20 < (↑x8.length : Int))) (some false) (br (decide (60 < (↑x2.length : Int))) (some false) (S_vfew_4 N x0 x1 x2 x3 x4 x5 x6 x7 x8 N 0 (fun b0 => some b0) (some true)))
noncomputable def cx_vfew (N : Nat) : Cx := { T := T, isPure := tabP [⟨26, e_vsmall (s_vsmall N N)⟩], pureK := fun g ds K => tabK [⟨26, e_vsmall (s_vsmall N N)⟩] g ds K, memK := fun g dst ds m K => tabMK [] g dst ds m K, meth := tabM [], keep := fun r => match r with | 4 => [1, 3] | _ => [], keepX := fun r => match r with | 4 => [1, 2] | _ => [], loopT := fun r ds m K => match r with | 4 => l_vfew_4 N ds m K | _ => none, jumps := 9 }
theorem F_vfew_4_ok {R : Type} (N : Nat) (n1 : Int) (n2 : Int) (l3 : List UInt8) (n4 : Int) (n5 : Int) (n6 : Int) (n7 : Int) (n8 : Int) (vs9 : List V) (n0 : Int) (L : List D → Mem → Option R) (K : Ex → List D → Mem → Option R) :
    roundK (fun st K => codeK (cx_vfew N) (loopN Try.f10 0) st K) 29 [1, 3] [1, 2] L [(.ptr 0 1 0), (.v (.int .i64 n0) .no)] [[(1, ⟨25, [(.v (.int .i64 n1) .no), (.v (.int .i64 n2) .no), (.v (.bytes l3) .no), (.v (.int .i64 n4) .no), (.v (.int .i64 n5) .no), (.v (.int .i64 n6) .no), (.v (.int .i64 n7) .no), (.v (.int .i64 n8) .no), (.v (.sl 48 vs9) .no)]⟩)]] K = F_vfew_4 N n1 n2 l3 n4 n5 n6 n7 n8 vs9 (fun n0 => L [(.ptr 0 1 0), (.v (.int .i64 n0) .no)] [[(1, ⟨25, [(.v (.int .i64 n1) .no), (.v (.int .i64 n2) .no), (.v (.bytes l3) .no), (.v (.int .i64 n4) .no), (.v (.int .i64 n5) .no), (.v (.int .i64 n6) .no), (.v (.int .i64 n7) .no), (.v (.int .i64 n8) .no), (.v (.sl 48 vs9) .no)]⟩)]]) (fun a0 => K .ret [(.ptr 0 1 0), (.v (.bool a0) .no)] [[(1, ⟨25, [(.v (.int .i64 n1) .no), (.v (.int .i64 n2) .no), (.v (.bytes l3) .no), (.v (.int .i64 n4) .no), (.v (.int .i64 n5) .no), (.v (.int .i64 n6) .no), (.v (.int .i64 n7) .no), (.v (.int .i64 n8) .no), (.v (.sl 48 vs9) .no)]⟩)]]) (K (.exit 0) [(.ptr 0 1 0), .any] [[(1, ⟨25, [(.v (.int .i64 n1) .no), (.v (.int .i64 n2) .no), (.v (.bytes l3) .no), (.v (.int .i64 n4) .no), (.v (.int .i64 n5) .no), (.v (.int .i64 n6) .no), (.v (.int .i64 n7) .no), (.v (.int .i64 n8) .no), (.v (.sl 48 vs9) .no)]⟩)]]) n0 := by
  kernel_rfl
theorem S_vfew_4_ok {R : Type} (N : Nat) (n1 : Int) (n2 : Int) (l3 : List UInt8) (n4 : Int) (n5 : Int) (n6 : Int) (n7 : Int) (n8 : Int) (vs9 : List V) (K : Ex → List D → Mem → Option R) : ∀ (t : Nat) (n0 : Int),
    loopK (fun st K => codeK (cx_vfew N) (loopN Try.f10 0) st K) 29 [1, 3] [1, 2] t [(.ptr 0 1 0), (.v (.int .i64 n0) .no)] [[(1, ⟨25, [(.v (.int .i64 n1) .no), (.v (.int .i64 n2) .no), (.v (.bytes l3) .no), (.v (.int .i64 n4) .no), (.v (.int .i64 n5) .no), (.v (.int .i64 n6) .no), (.v (.int .i64 n7) .no), (.v (.int .i64 n8) .no), (.v (.sl 48 vs9) .no)]⟩)]] K = S_vfew_4 N n1 n2 l3 n4 n5 n6 n7 n8 vs9 t n0 (fun a0 => K .ret [(.ptr 0 1 0), (.v (.bool a0) .no)] [[(1, ⟨25, [(.v (.int .i64 n1) .no), (.v (.int .i64 n2) .no), (.v (.bytes l3) .no), (.v (.int .i64 n4) .no), (.v (.int .i64 n5) .no), (.v (.int .i64 n6) .no), (.v (.int .i64 n7) .no), (.v (.int .i64 n8) .no), (.v (.sl 48 vs9) .no)]⟩)]]) (K (.exit 0) [(.ptr 0 1 0), .any] [[(1, ⟨25, [(.v (.int .i64 n1) .no), (.v (.int .i64 n2) .no), (.v (.bytes l3) .no), (.v (.int .i64 n4) .no), (.v (.int .i64 n5) .no), (.v (.int .i64 n6) .no), (.v (.int .i64 n7) .no), (.v (.int .i64 n8) .no), (.v (.sl 48 vs9) .no)]⟩)]])
  | 0, n0 => rfl
  | t + 1, n0 => (F_vfew_4_ok N n1 n2 l3 n4 n5 n6 n7 n8 vs9 n0 _ K).trans (congrArg (fun L => F_vfew_4 N n1 n2 l3 n4 n5 n6 n7 n8 vs9 L (fun a0 => K .ret [(.ptr 0 1 0), (.v (.bool a0) .no)] [[(1, ⟨25, [(.v (.int .i64 n1) .no), (.v (.int .i64 n2) .no), (.v (.bytes l3) .no), (.v (.int .i64 n4) .no), (.v (.int .i64 n5) .no), (.v (.int .i64 n6) .no), (.v (.int .i64 n7) .no), (.v (.int .i64 n8) .no), (.v (.sl 48 vs9) .no)]⟩)]]) (K (.exit 0) [(.ptr 0 1 0), .any] [[(1, ⟨25, [(.v (.int .i64 n1) .no), (.v (.int .i64 n2) .no), (.v (.bytes l3) .no), (.v (.int .i64 n4) .no), (.v (.int .i64 n5) .no), (.v (.int .i64 n6) .no), (.v (.int .i64 n7) .no), (.v (.int .i64 n8) .no), (.v (.sl 48 vs9) .no)]⟩)]]) n0) (funext fun n0 => S_vfew_4_ok N n1 n2 l3 n4 n5 n6 n7 n8 vs9 K t n0))
theorem s_vfew_ok (N : Nat) (x0 : Int) (x1 : Int) (x2 : List UInt8) (x3 : Int) (x4 : Int) (x5 : Int) (x6 : Int) (x7 : Int) (x8 : List V) : bodyK (cx_vfew N) Try.f10 [.agg [.v (.int .i64 x0) .no, .v (.int .i64 x1) .no, .v (.bytes x2) .no, .v (.int .i64 x3) .no, .v (.int .i64 x4) .no, .v (.int .i64 x5) .no, .v (.int .i64 x6) .no, .v (.int .i64 x7) .no, .v (.sl 48 x8) .no]] [] r_vfew = s_vfew N x0 x1 x2 x3 x4 x5 x6 x7 x8 := by
  kernel_rfl
theorem go_vfew : Goes Try.prog 10 := goes_of Try.func10 (by kernel_rfl) (c := bodyOf Try.f10) (by kernel_rfl)
theorem eo_vfew (s : Int → Int → List UInt8 → Int → Int → Int → Int → Int → List V → Option (Bool)) (hs : ∀ (x0 : Int) (x1 : Int) (x2 : List UInt8) (x3 : Int) (x4 : Int) (x5 : Int) (x6 : Int) (x7 : Int) (x8 : List V) (r0 : Bool), s x0 x1 x2 x3 x4 x5 x6 x7 x8 = some r0 → PureRet Try.prog T 10 [.agg [.v (.int .i64 x0) .no, .v (.int .i64 x1) .no, .v (.bytes x2) .no, .v (.int .i64 x3) .no, .v (.int .i64 x4) .no, .v (.int .i64 x5) .no, .v (.int .i64 x6) .no, .v (.int .i64 x7) .no, .v (.sl 48 x8) .no]] [.v (.bool r0) .no]) : EntOK Try.prog T ⟨10, e_vfew s⟩ := by
  refine ⟨go_vfew, fun R ds K r h => ?_, fun R ds K => ?_⟩
  · simp only [e_vfew] at h
    split at h
    · obtain ⟨r0, h1, h2⟩ := bnd1_some h
      exact ⟨_, h2, hs _ _ _ _ _ _ _ _ _ _ h1⟩
    · cases h
  · simp only [e_vfew]
    split
    · rw [bnd1_b]; rfl
    · rfl
theorem co_vfew (N : Nat) : CxOK Try.prog (cx_vfew N) :=
  cxOK_of2 (es := [⟨26, e_vsmall (s_vsmall N N)⟩]) (me := []) (ms := []) T_ok ⟨eo_vsmall _ (p_vsmall N N), trivial⟩ trivial trivial rfl (fun _ _ _ _ => rfl) (fun _ _ _ _ _ _ => rfl) rfl
theorem lk_vfew_4 (N : Nat) : LoopOK (cx_vfew N) 29 (loopN Try.f10 0) := by
  refine loopOK_of (rid := 4) (by kernel_rfl) rfl rfl fun R ds m K r h => ?_
  have h : l_vfew_4 N ds m K = some r := h
  unfold l_vfew_4 at h
  split at h
  · exact ⟨N, Eq.trans (S_vfew_4_ok ..) h⟩
  · cases h
theorem lo_vfew (N : Nat) : LoopsOK (cx_vfew N) Try.f10.ntmps (bodyOf Try.f10) :=
  loopsOK_of (k := 1) (by kernel_rfl) ⟨trivial, lk_vfew_4 N⟩
theorem p_vfew (N : Nat) (x0 : Int) (x1 : Int) (x2 : List UInt8) (x3 : Int) (x4 : Int) (x5 : Int) (x6 : Int) (x7 : Int) (x8 : List V) (r0 : Bool) (h : s_vfew N x0 x1 x2 x3 x4 x5 x6 x7 x8 = some r0) : PureRet Try.prog T 10 [.agg [.v (.int .i64 x0) .no, .v (.int .i64 x1) .no, .v (.bytes x2) .no, .v (.int .i64 x3) .no, .v (.int .i64 x4) .no, .v (.int .i64 x5) .no, .v (.int .i64 x6) .no, .v (.int .i64 x7) .no, .v (.sl 48 x8) .no]] [.v (.bool r0) .no] :=
  pure_of (cx := cx_vfew N) (by kernel_rfl) (co_vfew N) Try.func10 (by kernel_rfl) (by kernel_rfl) (lo_vfew N) rfl rfl rfl (rf := r_vfew) ((s_vfew_ok N x0 x1 x2 x3 x4 x5 x6 x7 x8).trans h) (fun rs' m h => by
    unfold r_vfew at h
    split at h
    · cases h; exact ⟨rfl, rfl⟩
    · cases h)
noncomputable def r_vKeeps (rs : List D) (_ : Mem) : Option (Bool) :=
  match rs with
  | [.v (.bool r0) _] => some (r0)
  | _ => none
noncomputable def s_vKeeps (N : Nat) (x0 : Int) (x1 : Int) (x2 : List UInt8) (x3 : Int) (x4 : Int) (x5 : Int) (x6 : Int) (x7 : Int) (x8 : List V) (x9 : Int) (x10 : Int) (x11 : List UInt8) (x12 : Int) (x13 : Int) (x14 : Int) (x15 : Int) (x16 : Int) (x17 : List V) : Option (Bool) :=
  bnd1 (s_vfew N x0 x1 x2 x3 x4 x5 x6 x7 x8) fun b0 =>
  br (!b0) (some true)
    (bnd1 (s_vfew N x9 x10 x11 x12 x13 x14 x15 x16 x17) fun b1 =>
      br (!b1) (some true)
        (bnd2 (s_fEncode N x0 x1 x2 x3 x4 x5 x6 x7 x8) fun l2 n3 =>
          bnd2 (s_fEncode N x9 x10 x11 x12 x13 x14 x15 x16 x17) fun l4 n5 =>
            br (!decide (n3 = 0)) (bnd1 (s_vawake N) fun b6 => some b6)
              (br (!decide (n5 = 0)) (bnd1 (s_vawake N) fun b7 => some b7)
                (br (decide (x0 = x9))
                  (br (decide (x1 = x10))
                    (br (decide (x3 = x12))
                      (br (decide (x4 = x13))
                        (br (decide (x5 = x14))
                          (br (decide (x6 = x15))
                            (br (decide (x7 = x16))
                              (bnd1 (s_oSame N x2 x11) fun b8 =>
                                br b8 (bnd1 (s_qSame N x8 x17) fun b9 => bnd1 (s_oSame N l2 l4) fun b10 => br (b10 == b9) (bnd1 (s_vawake N) fun b11 => some b11) (some false))
                                  (bnd1 (s_oSame N l2 l4) fun b12 => br (b12 == false) (bnd1 (s_vawake N) fun b13 => some b13) (some false)))
                              (bnd1 (s_oSame N l2 l4) fun b14 => br (b14 == false) (bnd1 (s_vawake N) fun b15 => some b15) (some false)))
                            (bnd1 (s_oSame N l2 l4) fun b16 => br (b16 == false) (bnd1 (s_vawake N) fun b17 => some b17) (some false)))
                          (bnd1 (s_oSame N l2 l4) fun b18 => br (b18 == false) (bnd1 (s_vawake N) fun b19 => some b19) (some false)))
                        (bnd1 (s_oSame N l2 l4) fun b20 => br (b20 == false) (bnd1 (s_vawake N) fun b21 => some b21) (some false)))
                      (bnd1 (s_oSame N l2 l4) fun b22 => br (b22 == false) (bnd1 (s_vawake N) fun b23 => some b23) (some false)))
                    (bnd1 (s_oSame N l2 l4) fun b24 => br (b24 == false) (bnd1 (s_vawake N) fun b25 => some b25) (some false)))
                  (bnd1 (s_oSame N l2 l4) fun b26 => br (b26 == false) (bnd1 (s_vawake N) fun b27 => some b27) (some false))))))
noncomputable def cx_vKeeps (N : Nat) : Cx := { T := T, isPure := tabP [⟨10, e_vfew (s_vfew N)⟩, ⟨14, e_fEncode (s_fEncode N)⟩, ⟨13, e_vawake (s_vawake N)⟩, ⟨16, e_oSame (s_oSame N)⟩, ⟨21, e_qSame (s_qSame N)⟩], pureK := fun g ds K => tabK [⟨10, e_vfew (s_vfew N)⟩, ⟨14, e_fEncode (s_fEncode N)⟩, ⟨13, e_vawake (s_vawake N)⟩, ⟨16, e_oSame (s_oSame N)⟩, ⟨21, e_qSame (s_qSame N)⟩] g ds K, memK := fun g dst ds m K => tabMK [] g dst ds m K, meth := tabM [], keep := fun _ => [], keepX := fun _ => [], loopT := fun _ _ _ _ => none, jumps := 9 }
theorem s_vKeeps_ok (N : Nat) (x0 : Int) (x1 : Int) (x2 : List UInt8) (x3 : Int) (x4 : Int) (x5 : Int) (x6 : Int) (x7 : Int) (x8 : List V) (x9 : Int) (x10 : Int) (x11 : List UInt8) (x12 : Int) (x13 : Int) (x14 : Int) (x15 : Int) (x16 : Int) (x17 : List V) : bodyK (cx_vKeeps N) Try.f6 [.agg [.v (.int .i64 x0) .no, .v (.int .i64 x1) .no, .v (.bytes x2) .no, .v (.int .i64 x3) .no, .v (.int .i64 x4) .no, .v (.int .i64 x5) .no, .v (.int .i64 x6) .no, .v (.int .i64 x7) .no, .v (.sl 48 x8) .no], .agg [.v (.int .i64 x9) .no, .v (.int .i64 x10) .no, .v (.bytes x11) .no, .v (.int .i64 x12) .no, .v (.int .i64 x13) .no, .v (.int .i64 x14) .no, .v (.int .i64 x15) .no, .v (.int .i64 x16) .no, .v (.sl 48 x17) .no]] [] r_vKeeps = s_vKeeps N x0 x1 x2 x3 x4 x5 x6 x7 x8 x9 x10 x11 x12 x13 x14 x15 x16 x17 := by
  kernel_rfl
theorem co_vKeeps (N : Nat) : CxOK Try.prog (cx_vKeeps N) :=
  cxOK_of2 (es := [⟨10, e_vfew (s_vfew N)⟩, ⟨14, e_fEncode (s_fEncode N)⟩, ⟨13, e_vawake (s_vawake N)⟩, ⟨16, e_oSame (s_oSame N)⟩, ⟨21, e_qSame (s_qSame N)⟩]) (me := []) (ms := []) T_ok ⟨eo_vfew _ (p_vfew N), eo_fEncode _ (p_fEncode N), eo_vawake _ (p_vawake N), eo_oSame _ (p_oSame N), eo_qSame _ (p_qSame N), trivial⟩ trivial trivial rfl (fun _ _ _ _ => rfl) (fun _ _ _ _ _ _ => rfl) rfl
theorem lo_vKeeps (N : Nat) : LoopsOK (cx_vKeeps N) Try.f6.ntmps (bodyOf Try.f6) :=
  loopsOK_of (k := 0) (by kernel_rfl) trivial
theorem p_vKeeps (N : Nat) (x0 : Int) (x1 : Int) (x2 : List UInt8) (x3 : Int) (x4 : Int) (x5 : Int) (x6 : Int) (x7 : Int) (x8 : List V) (x9 : Int) (x10 : Int) (x11 : List UInt8) (x12 : Int) (x13 : Int) (x14 : Int) (x15 : Int) (x16 : Int) (x17 : List V) (r0 : Bool) (h : s_vKeeps N x0 x1 x2 x3 x4 x5 x6 x7 x8 x9 x10 x11 x12 x13 x14 x15 x16 x17 = some r0) : PureRet Try.prog T 6 [.agg [.v (.int .i64 x0) .no, .v (.int .i64 x1) .no, .v (.bytes x2) .no, .v (.int .i64 x3) .no, .v (.int .i64 x4) .no, .v (.int .i64 x5) .no, .v (.int .i64 x6) .no, .v (.int .i64 x7) .no, .v (.sl 48 x8) .no], .agg [.v (.int .i64 x9) .no, .v (.int .i64 x10) .no, .v (.bytes x11) .no, .v (.int .i64 x12) .no, .v (.int .i64 x13) .no, .v (.int .i64 x14) .no, .v (.int .i64 x15) .no, .v (.int .i64 x16) .no, .v (.sl 48 x17) .no]] [.v (.bool r0) .no] :=
  pure_of (cx := cx_vKeeps N) (by kernel_rfl) (co_vKeeps N) Try.func6 (by kernel_rfl) (by kernel_rfl) (lo_vKeeps N) rfl rfl rfl (rf := r_vKeeps) ((s_vKeeps_ok N x0 x1 x2 x3 x4 x5 x6 x7 x8 x9 x10 x11 x12 x13 x14 x15 x16 x17).trans h) (fun rs' m h => by
    unfold r_vKeeps at h
    split at h
    · cases h; exact ⟨rfl, rfl⟩
    · cases h)
end Go.Proofs.Ytllnklkjkjmjbaa.En

/- The printed functions, together. -/

/- Headers of files as plain data; octets compared; which headers are valid: the program and the reference. -/
namespace Go.Proofs.Ytllnklkjkjmjbaa.En
open Go
set_option linter.unusedVariables false
theorem midG {α : Type} (pre : List α) (x : α) (suf : List α) : pre ++ x :: suf = (pre ++ [x]) ++ suf := by simp
section
variable (N : Nat)
theorem oCmp_loop : ∀ (a b pre : List UInt8) (t : Nat), a.length < t → pre.length + a.length ≤ 9223372036854775807 → pre.length + b.length ≤ 9223372036854775807 →
    ∃ z, S_oCompare_2 N (pre ++ a) (pre ++ b) t (pre.length : Int) (fun n0 => some n0) (br (decide (((pre ++ a).length : Int) < ((pre ++ b).length : Int))) (some (-1)) (br (decide (((pre ++ b).length : Int) < ((pre ++ a).length : Int))) (some 1) (some 0))) = some z ∧ (z = 0 ↔ a = b)
  | a, b, pre, 0, ht, _, _ => by omega
  | [], [], pre, t + 1, ht, _, _ => by
    unfold S_oCompare_2 F_oCompare_2
    exact ⟨0, by simp [br], by simp⟩
  | [], y :: b, pre, t + 1, ht, _, _ => by
    unfold S_oCompare_2 F_oCompare_2
    refine ⟨-1, ?_, by simp⟩
    simp only [br_dec, List.append_nil]
    rw [if_neg (by omega), if_pos (by simp; omega)]
  | x :: a, [], pre, t + 1, ht, _, _ => by
    unfold S_oCompare_2 F_oCompare_2
    refine ⟨1, ?_, by simp⟩
    simp only [br_dec, List.append_nil]
    rw [if_pos (by simp; omega), if_neg (by omega), if_neg (by simp; omega), if_pos (by simp; omega)]
  | x :: a, y :: b, pre, t + 1, ht, h1, h2 => by
    simp only [List.length_cons] at ht h1 h2
    obtain ⟨z, ih1, ih2⟩ := oCmp_loop a b (pre ++ [x]) t (by omega) (by simp; omega) (by simp; omega)
    have e1 : (pre.length : Int) < ((pre ++ x :: a).length : Int) := by simp; omega
    have e2 : (pre.length : Int) < ((pre ++ y :: b).length : Int) := by simp; omega
    have e3 : (0 : Int) ≤ pre.length := by omega
    have e4 : IntKind.i64.wrap ((pre.length : Int) + 1) = ((pre ++ [x]).length : Int) := by rw [w64 (by omega) (by omega)]; simp
    unfold S_oCompare_2 F_oCompare_2
    simp only [br_t, br_f, br_dec, br_not, br_and, br_or, bnd1_mk, bnd2_mk, bnd3_mk, bnd4_mk, bnd5_mk, at_zero, at_succ, at_mid, unInt_mk, unBool_mk, unStr_mk, unBytes_mk, unSl_mk, unAgg_mk, unCons_mk, unNil_mk, e1, e2, e3, if_true, Int.toNat_natCast]
    by_cases c1 : (x.toNat : Int) < (y.toNat : Int)
    · rw [if_pos c1]
      exact ⟨-1, rfl, ⟨fun h => (by cases h), fun h => by injection h with h _; subst h; omega⟩⟩
    rw [if_neg c1]
    by_cases c2 : (y.toNat : Int) < (x.toNat : Int)
    · rw [if_pos c2]
      exact ⟨1, rfl, ⟨fun h => (by cases h), fun h => by injection h with h _; subst h; omega⟩⟩
    rw [if_neg c2]
    obtain rfl : x = y := UInt8.toNat_inj.1 (by omega)
    refine ⟨z, ?_, by rw [ih2]; simp⟩
    rw [e4]
    rw [← midG, ← midG] at ih1
    simpa only [br_dec] using ih1
theorem oSame_eq (a b : List UInt8) (h : a.length < N) (h1 : a.length ≤ 9223372036854775807) (h2 : b.length ≤ 9223372036854775807) : s_oSame N a b = some (decide (a = b)) := by
  obtain ⟨z, h3, h4⟩ := oCmp_loop N a b [] N h (by simpa using h1) (by simpa using h2)
  have h3' : s_oCompare N a b = some z := h3
  unfold s_oSame
  rw [h3', bnd1_mk]
  exact congrArg some (decide_eq_decide.2 h4)
end
/-- A header. -/
structure Fi where
  id : Int
  kind : Int
  name : List UInt8
  short : Int
  size : Int
  length : Int
  recs : Int
  state : Int
  rules : List Ru
  deriving DecidableEq
def numF (n : Int) (u : Bool) (most : Int) : Int := bif u then (if n < 1 then 2 else if most < n then 2 else 0) else (if n = 0 then 0 else 4)
def recK (k : Int) : Bool := decide (3 ≤ k) && decide (k ≤ 5)
def szF (f : Fi) : Int :=
  if numF f.size (decide (f.kind = 2)) 1024 = 0 then
    (if numF f.length (recK f.kind) 254 = 0 then
      (if numF f.recs (recK f.kind) 254 = 0 then (if 1024 < IntKind.i64.wrap (f.length * f.recs) then 3 else 0) else numF f.recs (recK f.kind) 254)
     else numF f.length (recK f.kind) 254)
  else numF f.size (decide (f.kind = 2)) 1024
def chkF3 (f : Fi) : Int := if szF f = 0 then (if f.state < 1 then 2 else if 3 < f.state then 2 else chkR f.rules) else szF f
def chkF2 (f : Fi) : Int := if f.short < 0 then 2 else if 30 < f.short then 2 else if f.short = 0 then chkF3 f else if f.kind = 1 then 4 else chkF3 f
def chkF (f : Fi) : Int :=
  if f.kind < 1 then 1 else if 5 < f.kind then 1 else if f.id < 1 then 2 else if 65534 < f.id then 2 else if f.id = 16383 then 2 else if 16 < (f.name.length : Int) then 3
  else if 0 < (f.name.length : Int) then (if f.kind = 1 then chkF2 f else 4) else chkF2 f
section
variable (N : Nat)
theorem fnumber_eq (n : Int) (u : Bool) (most : Int) : s_fnumber N n u most = some (numF n u most) := by
  unfold s_fnumber numF
  cases u <;> simp only [br_not, br_t, br_f, br_dec, cond_true, cond_false, apply_ite some]
theorem frecords_eq (k : Int) : s_frecords N k = some (recK k) := by
  unfold s_frecords recK
  rw [br_dec]
  by_cases c : 3 ≤ k
  · rw [if_pos c, decide_eq_true c, Bool.true_and]
  · rw [if_neg c, decide_eq_false c]; rfl
theorem isState_eq (k : Int) : s_fisState N k = some (decide (1 ≤ k) && decide (k ≤ 3)) := by
  unfold s_fisState
  rw [br_dec]
  by_cases c : 1 ≤ k
  · rw [if_pos c, decide_eq_true c, Bool.true_and]
  · rw [if_neg c, decide_eq_false c]; rfl
theorem chk3 {R : Type} (hN : 10 < N) (a b c : Int) (n3 n4 : Int) (l5 : List UInt8) (n6 n7 n8 n9 n10 : Int) (vs11 : List V) (K0 : Int → Option R) (K1 : Option R) :
    S_fCheck_15 N [V.int IntKind.i64 a, V.int IntKind.i64 b, V.int IntKind.i64 c] (([V.int IntKind.i64 a, V.int IntKind.i64 b, V.int IntKind.i64 c].length : Nat) : Int) n3 n4 l5 n6 n7 n8 n9 n10 vs11 N 0 K0 K1
      = if a = 0 then (if b = 0 then (if c = 0 then K1 else K0 c) else K0 b) else K0 a := by
  obtain ⟨t, ht⟩ : ∃ t, N = t + 4 := ⟨N - 4, by omega⟩
  have e1 : IntKind.i64.wrap ((0 : Int) + 1) = 1 := by decide
  have e2 : IntKind.i64.wrap ((1 : Int) + 1) = 2 := by decide
  have e3 : IntKind.i64.wrap ((2 : Int) + 1) = 3 := by decide
  have a0 : ∀ (K : V → Option R), at? [V.int IntKind.i64 a, V.int IntKind.i64 b, V.int IntKind.i64 c] (0 : Int).toNat K = K (V.int IntKind.i64 a) := fun _ => rfl
  have a1 : ∀ (K : V → Option R), at? [V.int IntKind.i64 a, V.int IntKind.i64 b, V.int IntKind.i64 c] (1 : Int).toNat K = K (V.int IntKind.i64 b) := fun _ => rfl
  have a2 : ∀ (K : V → Option R), at? [V.int IntKind.i64 a, V.int IntKind.i64 b, V.int IntKind.i64 c] (2 : Int).toNat K = K (V.int IntKind.i64 c) := fun _ => rfl
  have hs : ∀ (n : Nat), S_fCheck_15 N [V.int IntKind.i64 a, V.int IntKind.i64 b, V.int IntKind.i64 c] (([V.int IntKind.i64 a, V.int IntKind.i64 b, V.int IntKind.i64 c].length : Nat) : Int) n3 n4 l5 n6 n7 n8 n9 n10 vs11 (n + 4) 0 K0 K1
      = if a = 0 then (if b = 0 then (if c = 0 then K1 else K0 c) else K0 b) else K0 a := by
    intro n
    unfold S_fCheck_15 F_fCheck_15
    simp only [br_dec, br_and, br_not, a0, unInt_mk, e1, List.length_cons, List.length_nil]
    rw [if_pos (by decide), if_pos (by decide), if_pos (by decide)]
    congr 1
    unfold S_fCheck_15 F_fCheck_15
    simp only [br_dec, br_and, br_not, a1, unInt_mk, e2, List.length_cons, List.length_nil]
    rw [if_pos (by decide), if_pos (by decide), if_pos (by decide)]
    congr 1
    unfold S_fCheck_15 F_fCheck_15
    simp only [br_dec, br_and, br_not, a2, unInt_mk, e3, List.length_cons, List.length_nil]
    rw [if_pos (by decide), if_pos (by decide), if_pos (by decide)]
    congr 1
  have := hs t
  rw [← ht] at this
  exact this
theorem fCheck_eq (hN : 10 < N) (f : Fi) (g : GoodR N f.rules) : s_fCheck N f.id f.kind f.name f.short f.size f.length f.recs f.state (rE f.rules) = some (chkF f) := by
  unfold s_fCheck chkF chkF2 chkF3 szF
  simp only [fnumber_eq, frecords_eq, isState_eq, bnd1_mk, chk3 N hN, aCheckRules_eq N f.rules g, br_dec, br_not, br_and]
  have hst : ∀ (x y : Option Int), (if 1 ≤ f.state then (if f.state ≤ 3 then x else y) else y) = if f.state < 1 then y else if 3 < f.state then y else x := by
    intro x y
    by_cases c1 : f.state < 1
    · rw [if_pos c1, if_neg (by omega)]
    · rw [if_neg c1, if_pos (by omega)]
      by_cases c2 : 3 < f.state
      · rw [if_pos c2, if_neg (by omega)]
      · rw [if_neg c2, if_pos (by omega)]
  generalize numF f.size (decide (f.kind = 2)) 1024 = a
  generalize numF f.length (recK f.kind) 254 = b
  generalize numF f.recs (recK f.kind) 254 = c
  have tail : (if a = 0 then (if b = 0 then (if c = 0 then (if 1024 < IntKind.i64.wrap (f.length * f.recs) then some 3 else if 1 ≤ f.state then if f.state ≤ 3 then some (chkR f.rules) else some 2 else some 2) else some c) else some b) else some a)
      = some (if (if a = 0 then (if b = 0 then (if c = 0 then (if 1024 < IntKind.i64.wrap (f.length * f.recs) then 3 else 0) else c) else b) else a) = 0 then (if f.state < 1 then 2 else if 3 < f.state then 2 else chkR f.rules)
        else (if a = 0 then (if b = 0 then (if c = 0 then (if 1024 < IntKind.i64.wrap (f.length * f.recs) then 3 else 0) else c) else b) else a)) := by
    by_cases ca : a = 0
    case neg => simp [ca]
    by_cases cb : b = 0
    case neg => simp [ca, cb]
    by_cases cc : c = 0
    case neg => simp [ca, cb, cc]
    by_cases cd : 1024 < IntKind.i64.wrap (f.length * f.recs)
    · simp [ca, cb, cc, cd]
    · simp only [ca, cb, cc, cd, if_true, if_false, hst, apply_ite some]
  simp only [tail, apply_ite some]
end
end Go.Proofs.Ytllnklkjkjmjbaa.En

/- The parameters of headers: the program and the reference. -/
namespace Go.Proofs.Ytllnklkjkjmjbaa.En
open Go
set_option linter.unusedVariables false
def twoB (n : Int) : List UInt8 := [byteI (n / 256), byteI (n % 256)]
def kindB (f : Fi) : List UInt8 := bif recK f.kind then [byteI f.kind, byteI f.length, byteI f.recs] else [byteI f.kind]
def partsF (f : Fi) : List (Int × List UInt8) :=
  (130, kindB f) :: (131, twoB f.id) :: ((if 0 < (f.name.length : Int) then [(132, f.name)] else []) ++ ((if f.kind = 2 then [(128, twoB f.size)] else []) ++
    ((if f.short = 0 then [] else [(136, [byteI f.short])]) ++ ((138, [byteI f.state]) :: (if 0 < (f.rules.length : Int) then [(134, (encRu f.rules).1)] else [])))))
def pE : List (Int × List UInt8) → List V
  | [] => []
  | p :: r => .agg [.int .i64 p.1, .bytes p.2, .sl 62 []] :: pE r
def pT : List (Int × List UInt8) → Tl
  | [] => .nil
  | p :: r => .cons p.1 p.2 .nil (pT r)
theorem pT_enc : ∀ l, (pT l).enc = pE l
  | [] => rfl
  | p :: r => by simp only [pT, pE, Tl.enc, pT_enc r]
theorem pE_append : ∀ a b, pE (a ++ b) = pE a ++ pE b
  | [], b => rfl
  | p :: a, b => by simp [pE, pE_append a b]
theorem pE_len : ∀ a, (pE a).length = a.length
  | [] => rfl
  | p :: a => by simp [pE, pE_len a]
theorem numF_zero {n : Int} {u : Bool} {most : Int} (h : numF n u most = 0) : (u = true → 1 ≤ n ∧ n ≤ most) ∧ (u = false → n = 0) := by
  unfold numF at h
  cases u with
  | true =>
    simp only [cond_true] at h
    refine ⟨fun _ => ?_, fun e => (by cases e)⟩
    split at h
    · cases h
    · split at h
      · cases h
      · omega
  | false =>
    simp only [cond_false] at h
    refine ⟨fun e => (by cases e), fun _ => ?_⟩
    split at h
    · assumption
    · cases h
theorem encF_len (l : List Ru) : (encRu l).1.length ≤ 320 := by
  unfold encRu
  split
  · rename_i h
    obtain ⟨h8, hv⟩ := chkR_zero h
    obtain ⟨_, h2, _, _⟩ := rT_wt l fun r hr => (hv r hr).2.2.2.1
    simp only; omega
  · simp
/-- What is known of a valid header. -/
structure OkF (f : Fi) : Prop where
  kind : 1 ≤ f.kind ∧ f.kind ≤ 5
  id : 1 ≤ f.id ∧ f.id ≤ 65534
  name : f.name.length ≤ 16
  short : 0 ≤ f.short ∧ f.short ≤ 30
  size : numF f.size (decide (f.kind = 2)) 1024 = 0
  length : numF f.length (recK f.kind) 254 = 0
  recs : numF f.recs (recK f.kind) 254 = 0
  state : 1 ≤ f.state ∧ f.state ≤ 3
  rules : chkR f.rules = 0
theorem chkF3_zero {f : Fi} (h : chkF3 f = 0) : szF f = 0 ∧ (1 ≤ f.state ∧ f.state ≤ 3) ∧ chkR f.rules = 0 := by
  unfold chkF3 at h
  split at h
  · rename_i c
    split at h
    · cases h
    · split at h
      · cases h
      · exact ⟨c, by omega, h⟩
  · rename_i c; exact absurd h c
theorem szF_zero {f : Fi} (h : szF f = 0) : numF f.size (decide (f.kind = 2)) 1024 = 0 ∧ numF f.length (recK f.kind) 254 = 0 ∧ numF f.recs (recK f.kind) 254 = 0 := by
  unfold szF at h
  split at h
  · rename_i c1
    split at h
    · rename_i c2
      split at h
      · rename_i c3; exact ⟨c1, c2, c3⟩
      · rename_i c3; exact absurd h c3
    · rename_i c2; exact absurd h c2
  · rename_i c1; exact absurd h c1
theorem chkF2_zero {f : Fi} (h : chkF2 f = 0) : (0 ≤ f.short ∧ f.short ≤ 30) ∧ chkF3 f = 0 := by
  unfold chkF2 at h
  split at h
  · cases h
  split at h
  · cases h
  split at h
  · exact ⟨by omega, h⟩
  split at h
  · cases h
  · exact ⟨by omega, h⟩
theorem okF_of {f : Fi} (h : chkF f = 0) : OkF f := by
  unfold chkF at h
  split at h
  · cases h
  split at h
  · cases h
  split at h
  · cases h
  split at h
  · cases h
  split at h
  · cases h
  split at h
  · cases h
  have h2 : chkF2 f = 0 := by
    split at h
    · split at h
      · exact h
      · cases h
    · exact h
  obtain ⟨h3, h4⟩ := chkF2_zero h2
  obtain ⟨h5, h6, h7⟩ := chkF3_zero h4
  obtain ⟨a, b, c⟩ := szF_zero h5
  exact ⟨by omega, by omega, by omega, h3, a, b, c, h6, h7⟩
def encFi (f : Fi) : List UInt8 × Int := if chkF f = 0 then encR (.cons 98 [] (pT (partsF f)) .nil) else ([], chkF f)
theorem pT_ok : ∀ ps : List (Int × List UInt8), (∀ p ∈ ps, I64 p.1 ∧ p.2.length ≤ 400) → (pT ps).wf ∧ (pT ps).wt ≤ 401 * ps.length ∧ (pT ps).nodes = ps.length ∧ (pT ps).len = ps.length
  | [], _ => ⟨trivial, Nat.le_refl _, rfl, rfl⟩
  | p :: r, h => by
    obtain ⟨h1, h2, h3, h4⟩ := pT_ok r fun q hq => h q (by simp [hq])
    obtain ⟨h5, h6⟩ := h p (by simp)
    refine ⟨⟨h5, by omega, by simp [Tl.len], trivial, h1⟩, ?_, ?_, ?_⟩
    · simp only [pT, Tl.wt, List.length_cons]; omega
    · simp only [pT, Tl.nodes, List.length_cons]; omega
    · simp only [pT, Tl.len, List.length_cons]; omega
theorem parts_all {f : Fi} (h : OkF f) : (∀ p ∈ partsF f, I64 p.1 ∧ p.2.length ≤ 400) ∧ (partsF f).length ≤ 7 := by
  have hr := encF_len f.rules
  have hn := h.name
  have i0 : ∀ z : Int, 0 ≤ z → z < 1000 → I64 z := fun z a b => ⟨by omega, by omega⟩
  constructor
  · intro p hp
    unfold partsF at hp
    simp only [List.mem_cons, List.mem_append] at hp
    rcases hp with rfl | rfl | hp | hp | hp | rfl | hp
    · exact ⟨i0 _ (by omega) (by omega), by simp only [kindB]; cases recK f.kind <;> simp⟩
    · exact ⟨i0 _ (by omega) (by omega), by simp [twoB]⟩
    · split at hp
      · simp at hp; subst hp; exact ⟨i0 _ (by omega) (by omega), by simp only; omega⟩
      · cases hp
    · split at hp
      · simp at hp; subst hp; exact ⟨i0 _ (by omega) (by omega), by simp [twoB]⟩
      · cases hp
    · split at hp
      · cases hp
      · simp at hp; subst hp; exact ⟨i0 _ (by omega) (by omega), by simp⟩
    · exact ⟨i0 _ (by omega) (by omega), by simp⟩
    · split at hp
      · simp at hp; subst hp; exact ⟨i0 _ (by omega) (by omega), by simp only; omega⟩
      · cases hp
  · unfold partsF
    simp only [List.length_cons, List.length_append]
    have l1 : ∀ (c : Prop) [Decidable c] (x : Int × List UInt8), (if c then [x] else []).length ≤ 1 := fun c _ x => by split <;> simp
    have l2 : (if f.short = 0 then ([] : List (Int × List UInt8)) else [(136, [byteI f.short])]).length ≤ 1 := by split <;> simp
    have a := l1 (0 < (f.name.length : Int)) (132, f.name)
    have b := l1 (f.kind = 2) (128, twoB f.size)
    have c := l1 (0 < (f.rules.length : Int)) (134, (encRu f.rules).1)
    omega
section
variable (N : Nat)
theorem fput_eq (t : Int) (b : List UInt8) (ps : List (Int × List UInt8)) (h : ps.length ≤ 100) : s_fput N t b (pE ps) = some (pE (ps ++ [(t, b)])) := by
  unfold s_fput
  rw [pE_len, if_pos (by omega), pE_append]; rfl
theorem Put_eq {n : Int} (h : 0 ≤ n ∧ n ≤ 65535) : s_Put N n 2 = some (twoB n, 0) := by
  unfold s_Put twoB byteI
  rw [if_pos rfl, if_neg (by omega)]
  rw [show n / 256 % 256 = n / 256 by omega, show n % 256 % 256 = n % 256 by omega]
theorem fEncode_eq (hN : 10000 < N) (f : Fi) (g : GoodR N f.rules) : s_fEncode N f.id f.kind f.name f.short f.size f.length f.recs f.state (rE f.rules) = some (encFi f) := by
  unfold s_fEncode encFi
  rw [fCheck_eq N (by omega) f g, bnd1_mk, br_not, br_dec]
  by_cases c : chkF f = 0
  case neg => rw [if_neg c, if_neg c]
  have ok := okF_of c
  have hsz : f.kind = 2 → 0 ≤ f.size ∧ f.size ≤ 65535 := fun e => by
    have := (numF_zero ok.size).1 (by simp [e])
    omega
  have kinds : s_partKinds N f.id f.kind f.name f.short f.size f.length f.recs f.state (rE f.rules) true [] = some (pE [(130, kindB f)]) := by
    unfold s_partKinds C_partKinds s_fkinds C_fkinds kindB
    rw [br_t, frecords_eq, bnd1_mk]
    cases recK f.kind with
    | true =>
      rw [br_t]
      have := fput_eq N 130 [byteI f.kind, byteI f.length, byteI f.recs] [] (by simp)
      rw [bI, bI, bI]
      have e : pE [] = [] := rfl
      rw [e] at this
      rw [this]; rfl
    | false =>
      rw [br_f]
      have := fput_eq N 130 [byteI f.kind] [] (by simp)
      rw [bI]
      have e : pE [] = [] := rfl
      rw [e] at this
      rw [this]; rfl
  have ident : ∀ ps : List (Int × List UInt8), ps.length ≤ 100 → s_partIdent N f.id f.kind f.name f.short f.size f.length f.recs f.state (rE f.rules) true (pE ps) = some (pE (ps ++ [(131, twoB f.id)])) := fun ps h => by
    unfold s_partIdent C_partIdent s_fident C_fident s_fwide C_fwide
    rw [br_t, Put_eq N (by have := ok.id; omega), bnd2_mk, fput_eq N _ _ ps h]; rfl
  have name : ∀ ps : List (Int × List UInt8), ps.length ≤ 100 → s_partName N f.id f.kind f.name f.short f.size f.length f.recs f.state (rE f.rules) (decide (0 < (f.name.length : Int))) (pE ps) = some (pE (ps ++ (if 0 < (f.name.length : Int) then [(132, f.name)] else []))) := fun ps h => by
    unfold s_partName C_partName s_fname C_fname s_clone
    rw [br_dec]
    by_cases hc : 0 < (f.name.length : Int)
    · rw [if_pos hc, if_pos hc, br_dec, if_pos (by have := ok.name; omega), bnd1_mk, fput_eq N _ _ ps h]; rfl
    · rw [if_neg hc, if_neg hc, List.append_nil]
  have size : ∀ ps : List (Int × List UInt8), ps.length ≤ 100 → s_partSize N f.id f.kind f.name f.short f.size f.length f.recs f.state (rE f.rules) (decide (f.kind = 2)) (pE ps) = some (pE (ps ++ (if f.kind = 2 then [(128, twoB f.size)] else []))) := fun ps h => by
    unfold s_partSize C_partSize s_fsize C_fsize s_fwide C_fwide
    rw [br_dec]
    by_cases hc : f.kind = 2
    · rw [if_pos hc, if_pos hc, Put_eq N (hsz hc), bnd2_mk, fput_eq N _ _ ps h]; rfl
    · rw [if_neg hc, if_neg hc, List.append_nil]
  have short : ∀ ps : List (Int × List UInt8), ps.length ≤ 100 → s_partShort N f.id f.kind f.name f.short f.size f.length f.recs f.state (rE f.rules) (!decide (f.short = 0)) (pE ps) = some (pE (ps ++ (if f.short = 0 then [] else [(136, [byteI f.short])]))) := fun ps h => by
    unfold s_partShort C_partShort s_fshort C_fshort
    rw [br_not, br_dec]
    by_cases hc : f.short = 0
    · rw [if_pos hc, if_pos hc, List.append_nil]
    · rw [if_neg hc, if_neg hc, bI, fput_eq N _ _ ps h]; rfl
  have state : ∀ ps : List (Int × List UInt8), ps.length ≤ 100 → s_partState N f.id f.kind f.name f.short f.size f.length f.recs f.state (rE f.rules) true (pE ps) = some (pE (ps ++ [(138, [byteI f.state])])) := fun ps h => by
    unfold s_partState C_partState s_fstate C_fstate
    rw [br_t, bI, fput_eq N _ _ ps h]; rfl
  have rules : ∀ ps : List (Int × List UInt8), ps.length ≤ 100 → s_partRules N f.id f.kind f.name f.short f.size f.length f.recs f.state (rE f.rules) (decide (0 < ((rE f.rules).length : Int))) (pE ps) = some (pE (ps ++ (if 0 < (f.rules.length : Int) then [(134, (encRu f.rules).1)] else []))) := fun ps h => by
    unfold s_partRules C_partRules s_frules C_frules
    rw [br_dec, rE_len]
    by_cases hc : 0 < (f.rules.length : Int)
    · rw [if_pos hc, if_pos hc, aEncode_eq N f.rules g]
      show bnd1 (bnd1 (s_fput N 134 (encRu f.rules).1 (pE ps)) _) _ = _
      rw [fput_eq N _ _ ps h]; rfl
    · rw [if_neg hc, if_neg hc, List.append_nil]
  obtain ⟨hp1, hp2⟩ := parts_all ok
  have hpl := hp2
  unfold partsF at hpl
  simp only [List.length_cons, List.length_append] at hpl
  rw [if_pos c, if_pos c, kinds, bnd1_mk, ident _ (by simp), bnd1_mk, name _ (by simp), bnd1_mk, size _ (by simp only [List.length_append, List.length_cons, List.length_nil]; omega), bnd1_mk, short _ (by simp only [List.length_append, List.length_cons, List.length_nil]; omega), bnd1_mk,
    state _ (by simp only [List.length_append, List.length_cons, List.length_nil]; omega), bnd1_mk, rules _ (by simp only [List.length_append, List.length_cons, List.length_nil]; omega), bnd1_mk]
  have e : ∀ (a b c d e g : List (Int × List UInt8)), [(130, kindB f)] ++ a ++ b ++ c ++ d ++ e ++ g = (130, kindB f) :: (a ++ (b ++ (c ++ (d ++ (e ++ g))))) := fun a b c d e g => by simp
  rw [e]
  obtain ⟨q1, q2, q3, q4⟩ := pT_ok (partsF f) hp1
  have hE := Encode_eq N (.cons 98 [] (pT (partsF f)) .nil) (by simp only [Tl.nodes]; omega) ⟨⟨by omega, by omega⟩, by simp, by omega, q1, trivial⟩ (by show 1 ≤ 9223372036854775807; omega) (by simp only [Tl.wt, List.length_nil]; omega)
  have hE' : s_Encode N [V.agg [V.int IntKind.i64 98, V.bytes [], V.sl 62 (pE (partsF f))]] = some (encR (.cons 98 [] (pT (partsF f)) .nil)) := by
    rw [← pT_enc]; exact hE
  show bnd2 (s_Encode N [V.agg [V.int IntKind.i64 98, V.bytes [], V.sl 62 (pE (partsF f))]]) _ = _
  rw [hE']; rfl
end
end Go.Proofs.Ytllnklkjkjmjbaa.En

/- Headers: the byte count, the states, equality, which are small; the statements without decoding. -/
namespace Go.Proofs.Ytllnklkjkjmjbaa.En
open Go
set_option linter.unusedVariables false
def allC (p : Cl → Bool) : Cl → Bool
  | .nil => true
  | .cons _ _ k r => p k && allC p r
def sm : Nat → Cl → Bool
  | 0, _ => false
  | d + 1, k => decide (k.len ≤ 20) && allC (sm d) k
def smB : Nat → Nat
  | 0 => 0
  | 1 => 0
  | d + 2 => 20 * (smB (d + 1) + 1)
theorem allC_nodes {p : Cl → Bool} {b : Nat} (hp : ∀ k, p k = true → k.nodes ≤ b) : ∀ k, allC p k = true → k.nodes ≤ k.len * (b + 1)
  | .nil, _ => by simp [Cl.nodes]
  | .cons o m k r, h => by
    unfold allC at h
    rw [Bool.and_eq_true] at h
    have h1 := hp k h.1
    have h2 := allC_nodes hp r h.2
    simp only [Cl.nodes, Cl.len, Nat.add_mul]
    omega
theorem sm_nodes : ∀ (d : Nat) (k : Cl), sm d k = true → k.nodes ≤ smB d
  | 0, k, h => by cases h
  | 1, .nil, h => Nat.le_refl _
  | 1, .cons o m k r, h => by
    have e : sm 1 (.cons o m k r) = (decide ((Cl.cons o m k r).len ≤ 20) && (false && allC (sm 0) r)) := rfl
    rw [e, Bool.false_and, Bool.and_false] at h
    cases h
  | d + 2, k, h => by
    unfold sm at h
    rw [Bool.and_eq_true, decide_eq_true_eq] at h
    have h2 := allC_nodes (sm_nodes (d + 1)) k h.2
    have h3 := Nat.mul_le_mul_right (smB (d + 1) + 1) h.1
    unfold smB
    omega
theorem wrapW (n : Int) : IntKind.i64.wrap (IntKind.i64.wrap n) = IntKind.i64.wrap n := by
  have h := wrap_range n
  exact w64 h.1 h.2
def fewF (f : Fi) : Bool := decide (f.rules.length ≤ 20) && (decide (f.name.length ≤ 60) && f.rules.all fun r => sm 12 r.k)
section
variable (N : Nat)
theorem vsmall_loop {R : Type} (f : Int → Int → List V → Int → Option Bool) (p : Cl → Bool) (n : Nat) (d o' m' : Int) (hf : ∀ (o m : Int) (k : Cl), k.nodes < n → k.wf → K63 k → f o m k.enc (IntKind.i64.wrap (d - 1)) = some (p k)) (K0 : Bool → Option R) (K1 : Option R) :
    ∀ (l : Cl) (pre : List V) (t : Nat), l.len < t → l.nodes ≤ n → l.wf → pre.length + l.len ≤ 9223372036854775807 →
      S_vsmall_4 N f d o' m' (pre ++ l.enc) t (pre.length : Int) K0 K1 = if allC p l = true then K1 else K0 false
  | l, pre, 0, ht, _, _, _ => by omega
  | .nil, pre, t + 1, ht, _, _, _ => by
    unfold S_vsmall_4 F_vsmall_4
    simp only [Cl.enc, br_t, br_f, br_dec, br_not, br_and, br_or, bnd1_mk, bnd2_mk, bnd3_mk, bnd4_mk, bnd5_mk, at_zero, at_succ, at_mid, unInt_mk, unBool_mk, unStr_mk, unBytes_mk, unSl_mk, unAgg_mk, unCons_mk, unNil_mk, endI, if_false, allC, if_true]
  | .cons o m k r, pre, t + 1, ht, hn, hw, hl => by
    simp only [Cl.len, Cl.nodes] at ht hn hl
    obtain ⟨_, _, hk1, hk2, hr⟩ := hw
    obtain ⟨h1, h2, h3, h4⟩ := stepC pre (ce o m k) r hl
    have ih := vsmall_loop f p n d o' m' hf K0 K1 r (pre ++ [ce o m k]) t (by omega) (by omega) hr (by simp; omega)
    rw [← mid, ← h3] at ih
    unfold S_vsmall_4 F_vsmall_4
    simp only [enc_cons, br_t, br_f, br_dec, br_not, br_and, br_or, bnd1_mk, bnd2_mk, bnd3_mk, bnd4_mk, bnd5_mk, at_zero, at_succ, at_mid, unInt_mk, unBool_mk, unStr_mk, unBytes_mk, unSl_mk, unAgg_mk, unCons_mk, unNil_mk, h1, h2, if_true, Int.toNat_natCast, hf o m k (by omega) hk2 hk1]
    rw [ih, show allC p (.cons o m k r) = (p k && allC p r) from rfl]
    cases p k <;> rfl
theorem vsmall_eq : ∀ (M d : Nat) (o m : Int) (k : Cl), d ≤ 100 → k.nodes < M → k.nodes < N → k.wf → K63 k → s_vsmall N M o m k.enc (d : Int) = some (sm d k)
  | 0, d, o, m, k, _, h, _, _, _ => by omega
  | M + 1, 0, o, m, k, _, h, hN, hw, hl => by
    unfold s_vsmall B_vsmall
    rw [br_dec, if_pos (by omega)]; rfl
  | M + 1, d + 1, o, m, k, hd, h, hN, hw, hl => by
    have hln := Cl.len_le k
    have e0 : IntKind.i64.wrap (((d + 1 : Nat) : Int) - 1) = (d : Int) := by rw [w64 (by omega) (by omega)]; omega
    have hf := fun (o m : Int) (k1 : Cl) (a1 : k1.nodes < k.nodes) (a2 : k1.wf) (a3 : K63 k1) => vsmall_eq M d o m k1 (by omega) (by omega) (by omega) a2 a3
    have hL : S_vsmall_4 N (s_vsmall N M) ((d + 1 : Nat) : Int) o m k.enc N 0 (fun b => some b) (some true) = if allC (sm d) k = true then some true else some false :=
      vsmall_loop N (s_vsmall N M) (sm d) k.nodes ((d + 1 : Nat) : Int) o m (by rw [e0]; exact hf) (fun b => some b) (some true) k [] N (by omega) (Nat.le_refl _) hw (by simpa using hl)
    unfold s_vsmall B_vsmall sm
    rw [br_dec, if_neg (by omega), Cl.enc_len, br_dec, hL]
    by_cases c : k.len ≤ 20
    · rw [if_neg (by omega), decide_eq_true c, Bool.true_and]
      cases allC (sm d) k <;> rfl
    · rw [if_pos (by omega), decide_eq_false c]; rfl
theorem vfew_loop {R : Type} (n1 n2 : Int) (l3 : List UInt8) (n4 n5 n6 n7 n8 : Int) (K0 : Bool → Option R) (K1 : Option R) : ∀ (l : List Ru) (pre : List V) (t : Nat), l.length < t → (∀ r ∈ l, InC N r.k) → pre.length + l.length ≤ 9223372036854775807 →
      S_vfew_4 N n1 n2 l3 n4 n5 n6 n7 n8 (pre ++ rE l) t (pre.length : Int) K0 K1 = if (l.all fun r => sm 12 r.k) = true then K1 else K0 false
  | l, pre, 0, ht, _, _ => by omega
  | [], pre, t + 1, ht, _, _ => by
    unfold S_vfew_4 F_vfew_4
    simp only [rE, br_t, br_f, br_dec, br_not, br_and, br_or, bnd1_mk, bnd2_mk, bnd3_mk, bnd4_mk, bnd5_mk, at_zero, at_succ, at_mid, unInt_mk, unBool_mk, unStr_mk, unBytes_mk, unSl_mk, unAgg_mk, unCons_mk, unNil_mk, endI, if_false, List.all_nil, if_true]
  | r :: l, pre, t + 1, ht, hg, hl => by
    simp only [List.length_cons] at ht hl
    obtain ⟨h1, h2, h3, h4⟩ := stepR pre (.agg [.int .i64 r.ops, .int .i64 r.o, .int .i64 r.m, .sl 46 r.k.enc]) l hl
    have ih := vfew_loop n1 n2 l3 n4 n5 n6 n7 n8 K0 K1 l (pre ++ [.agg [.int .i64 r.ops, .int .i64 r.o, .int .i64 r.m, .sl 46 r.k.enc]]) t (by omega) (fun r hr => hg r (by simp [hr])) (by simp; omega)
    rw [← mid, ← h3] at ih
    have g := hg r (by simp)
    have hf : s_vsmall N N r.o r.m r.k.enc 12 = some (sm 12 r.k) := vsmall_eq N N 12 r.o r.m r.k (by omega) g.fuel g.fuel g.wf g.len
    unfold S_vfew_4 F_vfew_4
    simp only [rE, br_t, br_f, br_dec, br_not, br_and, br_or, bnd1_mk, bnd2_mk, bnd3_mk, bnd4_mk, bnd5_mk, at_zero, at_succ, at_mid, unInt_mk, unBool_mk, unStr_mk, unBytes_mk, unSl_mk, unAgg_mk, unCons_mk, unNil_mk, h1, h2, if_true, Int.toNat_natCast, hf, ih, List.all_cons]
    have key : ∀ b c : Bool, br b (if c = true then K1 else K0 false) (K0 false) = if (b && c) = true then K1 else K0 false := fun b c => by cases b <;> rfl
    exact key _ _
/-- A header that came in. -/
structure ArgF (N : Nat) (f : Fi) : Prop where
  big : 200000 < N
  rules : ∀ r ∈ f.rules, InC N r.k
  fuel : f.rules.length < N
  len : f.rules.length ≤ 9223372036854775807
  name : f.name.length ≤ 9223372036854775807
theorem vfew_eq (f : Fi) (g : ArgF N f) : s_vfew N f.id f.kind f.name f.short f.size f.length f.recs f.state (rE f.rules) = some (fewF f) := by
  have hL : S_vfew_4 N f.id f.kind f.name f.short f.size f.length f.recs f.state (rE f.rules) N 0 (fun b => some b) (some true) = if (f.rules.all fun r => sm 12 r.k) = true then some true else some false :=
    vfew_loop N f.id f.kind f.name f.short f.size f.length f.recs f.state (fun b => some b) (some true) f.rules [] N g.fuel g.rules (by simpa using g.len)
  unfold s_vfew fewF
  rw [rE_len, br_dec, br_dec, hL]
  by_cases c : f.rules.length ≤ 20
  · rw [if_neg (by omega), decide_eq_true c, Bool.true_and]
    by_cases c' : f.name.length ≤ 60
    · rw [if_neg (by omega), decide_eq_true c', Bool.true_and]
      cases (f.rules.all fun r => sm 12 r.k) <;> rfl
    · rw [if_pos (by omega), decide_eq_false c']; rfl
  · rw [if_pos (by omega), decide_eq_false c]; rfl
theorem goodF {f : Fi} (g : ArgF N f) (h : fewF f = true) : GoodR N f.rules ∧ f.name.length ≤ 60 := by
  unfold fewF at h
  simp only [Bool.and_eq_true, decide_eq_true_eq, List.all_eq_true] at h
  have hb := g.big
  refine ⟨⟨by omega, by omega, fun r hr => ?_⟩, h.2.1⟩
  have h1 := sm_nodes 12 r.k (h.2.2 r hr)
  have h2 : smB 12 ≤ 1000000000000000 := by decide
  exact (g.rules r hr).good N (by omega)
def byF (f : Fi) : Int := if chkF f = 0 then (if f.kind = 2 then f.size else IntKind.i64.wrap (f.length * f.recs)) else 0
theorem fBytes_eq (hN : 10 < N) (f : Fi) (g : GoodR N f.rules) : s_fBytes N f.id f.kind f.name f.short f.size f.length f.recs f.state (rE f.rules) = some (byF f) := by
  unfold s_fBytes byF
  rw [fCheck_eq N hN f g, bnd1_mk, br_not, br_dec]
  by_cases c : chkF f = 0
  case neg => rw [if_neg c, if_neg c]
  have ok := okF_of c
  rw [if_pos c, if_pos c]
  congr 1
  by_cases c2 : f.kind = 2
  · rw [if_pos c2]
    have hs := (numF_zero ok.size).1 (by simp [c2])
    have e : recK f.kind = false := by rw [c2]; rfl
    have h1 := (numF_zero ok.length).2 e
    rw [h1, Int.zero_mul, show IntKind.i64.wrap 0 = 0 by decide, Int.add_zero, w64 (by omega) (by omega)]
  · rw [if_neg c2]
    have h1 := (numF_zero ok.size).2 (by simp [c2])
    rw [h1, Int.zero_add]
    exact wrapW _
def nextF (s o : Int) : Int × Int :=
  if o = 32 then (if 1 ≤ s ∧ s ≤ 3 then (if s = 2 then (1, 0) else (0, 14)) else (0, 2))
  else if o = 64 then (if 1 ≤ s ∧ s ≤ 3 then (if s = 1 then (2, 0) else (0, 14)) else (0, 2))
  else if o = 128 then (if 1 ≤ s ∧ s ≤ 3 then (if s = 3 then (0, 14) else (3, 0)) else (0, 2))
  else (0, 1)
theorem fNext_eq (s o : Int) : s_fNext N s o = some (nextF s o) := by
  unfold s_fNext nextF
  simp only [isState_eq, bnd1_mk, br_dec, br_not, br_and]
  by_cases c1 : o = 32
  · rw [if_pos c1, if_pos c1]
    by_cases c : 1 ≤ s ∧ s ≤ 3
    · rw [if_pos c, if_pos c.1, if_pos c.2]
      by_cases d1 : s = 1
      · subst d1; rfl
      by_cases d2 : s = 3
      · subst d2; rfl
      rw [if_neg d1, if_neg d2, if_pos (by omega)]
    · rw [if_neg c]
      by_cases e : 1 ≤ s
      · rw [if_pos e, if_neg (by omega)]
      · rw [if_neg e]
  rw [if_neg c1, if_neg c1]
  by_cases c2 : o = 64
  · rw [if_pos c2, if_pos c2]
    by_cases c : 1 ≤ s ∧ s ≤ 3
    · rw [if_pos c, if_pos c.1, if_pos c.2]
      by_cases d1 : s = 2
      · subst d1; rfl
      by_cases d2 : s = 3
      · subst d2; rfl
      rw [if_neg d1, if_neg d2, if_pos (by omega)]
    · rw [if_neg c]
      by_cases e : 1 ≤ s
      · rw [if_pos e, if_neg (by omega)]
      · rw [if_neg e]
  rw [if_neg c2, if_neg c2]
  by_cases c3 : o = 128
  · rw [if_pos c3, if_pos c3]
    by_cases c : 1 ≤ s ∧ s ≤ 3
    · rw [if_pos c, if_pos c.1, if_pos c.2]
      by_cases d2 : s = 3
      · subst d2; rfl
      rw [if_neg d2, if_neg d2, if_neg d2]
    · rw [if_neg c]
      by_cases e : 1 ≤ s
      · rw [if_pos e, if_neg (by omega)]
      · rw [if_neg e]
  rw [if_neg c3, if_neg c3]
def exF : Fi := ⟨12033, 2, [], 1, 32, 0, 0, 1, []⟩
theorem awake_eq (hN : 200000 < N) : s_vawake N = some true := by
  have gx : GoodR N exF.rules := ⟨by decide, by omega, by intro r hr; cases hr⟩
  have e1 : s_fEncode N 12033 2 [] 1 32 0 0 1 [] = some ([98, 17, 130, 1, 2, 131, 2, 47, 1, 128, 2, 0, 32, 136, 1, 1, 138, 1, 1], 0) := by
    have := fEncode_eq N (by omega) exF gx
    rw [show encFi exF = ([98, 17, 130, 1, 2, 131, 2, 47, 1, 128, 2, 0, 32, 136, 1, 1, 138, 1, 1], 0) by decide +kernel] at this
    exact this
  have e2 : s_fNext N 1 64 = some (2, 0) := fNext_eq N 1 64
  have e3 : s_fBytes N 12033 2 [] 1 32 0 0 1 [] = some 32 := by
    have := fBytes_eq N (by omega) exF gx
    rw [show byF exF = 32 by decide +kernel] at this
    exact this
  unfold s_vawake
  rw [e1, bnd2_mk, e2, bnd2_mk, br_dec, if_pos rfl, oSame_eq N _ _ (by show (19 : Nat) < N; omega) (by show (19 : Nat) ≤ _; omega) (by show (19 : Nat) ≤ _; omega), bnd1_mk, decide_eq_true rfl, br_t, e3, bnd1_mk]
  rfl
theorem encR_max (l : Tl) : (encR l).1.length ≤ 4096 := by
  unfold encR
  split
  · split
    · assumption
    · exact Nat.zero_le _
  · exact Nat.zero_le _
theorem encFi_max (f : Fi) : (encFi f).1.length ≤ 4096 := by
  unfold encFi
  split
  · exact encR_max _
  · exact Nat.zero_le _
end
end Go.Proofs.Ytllnklkjkjmjbaa.En

/- The engine, part 2s: rows: arguments that came in, what a law's function leaves. -/
namespace Go.Proofs.Ytllnklkjkjmjbaa.En
open Go Go.RowKit Go.WideShapes
set_option linter.unusedVariables false
theorem own : ownKnob Try.prog.godebug = none := by kernel_rfl
theorem laidOut : laidOutB Try.prog = true := by kernel_rfl
section
variable {P : Program} {T : TypeId → Option Ty} {f : FuncId} {w : World}
def noEnv : Env := { d := 0, dom := fun _ _ => False }
theorem walk_of {ds : List D} (hp : PureRet P T f ds [.v (.bool true) .no]) {us : List Value} (hr : RepDs noEnv (immG T) w [] ds us) :
    Calls P f us.toArray w fun e w' => e = .returned (.bool true) ∧ Below w.heap.size w w' := by
  refine (hp noEnv (immG T) w us rfl hr).mono ?_
  rintro e w' ⟨us', g', rfl, h1, h2⟩
  obtain ⟨l, hr'⟩ := h1 noEnv
  match us', l with
  | [u], _ =>
  have := hr' 0 _ rfl
  simp only [List.getD_cons_zero] at this
  cases this with
  | v x a v h ha =>
  cases h
  exact ⟨rfl, ⟨h2.grows.os, h2.grows.tape, h2.grows.output, h2.grows.size, h2.grows.old⟩⟩
theorem reps_nil : RepDs noEnv (immG T) w [] [] [] := ⟨rfl, fun k y h => by simp at h⟩
theorem reps_cons {d : D} {u : Value} {ds : List D} {us : List Value} (h : RepD noEnv (immG T) w [] d u) (hs : RepDs noEnv (immG T) w [] ds us) : RepDs noEnv (immG T) w [] (d :: ds) (u :: us) :=
  ⟨by simp [hs.1], fun k y hk => by
    rcases k with _ | k
    · simp at hk; subst hk; exact h
    · simpa using hs.2 k y (by simpa using hk)⟩
theorem rep_agg {cs : List V} {u : Value} (h : RepV (immG T) w (.agg cs) u) : RepD noEnv (immG T) w [] (.agg (cs.map vD)) u := by
  cases h with
  | agg cs us hn hr =>
    refine .agg _ us (by simpa using hn) fun k y hk => ?_
    rw [List.getElem?_map, Option.map_eq_some_iff] at hk
    obtain ⟨z, hz, rfl⟩ := hk
    exact .v _ _ _ (hr k z hz) trivial
variable {H : Type} {enc : TypeId × Value → H} {base : Nat} {spare : Nat → Bool} {held : Bool} {r : Reach} {b0 : Nat} {t : TypeId} {v : Value} {d : DataW H} {ps : List MemPlace} {l : List TypeId}
theorem row_of (hT : TypesOK P T) {desc : TypeDesc} (ht : P.underlying t = some desc) {ty : Ty} (h : T t = some ty) : ty.desc = desc := by
  have := (hT t ty h).desc
  rw [ht] at this
  injection this with this
  exact this.symm
theorem arg_struct (hT : TypesOK P T) (hl : closedT T l = true) (hm : t ∈ l) {fs : Array Field} (ht : P.underlying t = some (.struct fs)) (hv : Value.okWide P w r b0 t v) (hd : DataW.Trod enc P w base spare held t v d ps) :
    ∃ n cs, Fits T n t cs ∧ RepV (immG T) w (.agg cs) v := by
  obtain ⟨cs, rfl, _⟩ := okWide_struct ht hv
  obtain ⟨n, x, h1, h2, h3⟩ := arg_rep hT hl hm (fun ty hty => ⟨fun _ => ⟨cs, rfl⟩, fun hr => (by rw [Ty.row, row_of hT ht hty] at hr; cases hr)⟩) hd
  cases h2 with
  | agg ys us a b => exact ⟨n, ys, h1, .agg ys _ a b⟩
/-- What fits a type of one cell. -/
theorem fits_int {k : IntKind} {ty : Ty} (h : T t = some ty) (hd : ty.desc = .int k) {n : Nat} {xs : List V} (hf : Fits T n t xs) : ∃ i, xs = [.int k i] ∧ k.min ≤ i ∧ i ≤ k.max := by
  cases n with
  | zero => cases hf
  | succ n => unfold Fits at hf; rw [h] at hf; simp only [hd] at hf; exact hf
theorem fits_bytes {e e' : TypeId} {ty : Ty} (h : T t = some ty) (hd : ty.desc = .slice e) (hc : ty.cks = [.bytes e']) {n : Nat} {xs : List V} (hf : Fits T n t xs) : ∃ s, xs = [.bytes s] ∧ s.length ≤ maxLen := by
  cases n with
  | zero => cases hf
  | succ n => unfold Fits at hf; rw [h] at hf; simp only [hd, hc] at hf; exact hf
theorem fits_slice {e e' : TypeId} {ty te : Ty} (h : T t = some ty) (hd : ty.desc = .slice e) (hc : ty.cks = [.slc e']) (he : T e = some te) {n : Nat} {xs : List V} (hf : Fits T n t xs) :
    ∃ m ys, n = m + 1 ∧ xs = [.sl e ys] ∧ ys.length ≤ maxLen ∧ ∀ y ∈ ys, ∃ cs, y = mkEl te.row cs ∧ Fits T m e cs := by
  cases n with
  | zero => cases hf
  | succ n =>
    unfold Fits at hf; rw [h] at hf; simp only [hd, hc] at hf
    obtain ⟨rfl, ys, h1, h2, h3⟩ := hf
    refine ⟨n, ys, rfl, h1, h2, fun y hy => ?_⟩
    obtain ⟨te', cs, h4, h5, h6⟩ := h3 y hy
    rw [he] at h4
    injection h4 with h4
    subst h4
    exact ⟨cs, h5, h6⟩
theorem fits_struct {fs : Array Field} {ty : Ty} (h : T t = some ty) (hd : ty.desc = .struct fs) {n : Nat} {xs : List V} (hf : Fits T n t xs) : ∃ m, n = m + 1 ∧ FitsFs (Fits T m) fs.toList xs := by
  cases n with
  | zero => cases hf
  | succ n => unfold Fits at hf; rw [h] at hf; simp only [hd] at hf; exact ⟨n, rfl, hf⟩
end
end Go.Proofs.Ytllnklkjkjmjbaa.En

/- What the arguments of chapter 15 read as. -/
namespace Go.Proofs.Ytllnklkjkjmjbaa.En
open Go Go.RowKit
set_option linter.unusedVariables false
/-- A condition that came in. -/
structure ArgC (o m : Int) (k : Cl) : Prop where
  o : I64 o
  m : I64 m
  wf : k.wf
  len : K63 k
/-- Rules that came in. -/
structure ArgR (l : List Ru) : Prop where
  all : ∀ r ∈ l, ArgC r.o r.m r.k ∧ I64 r.ops
  len : l.length ≤ 9223372036854775807
def sumR : List Ru → Nat
  | [] => 0
  | r :: l => r.k.nodes + 1 + sumR l
theorem sumR_mem : ∀ {l : List Ru} {r : Ru}, r ∈ l → r.k.nodes + 1 ≤ sumR l
  | a :: l, r, h => by
    unfold sumR
    rcases List.mem_cons.1 h with rfl | h
    · omega
    · have := sumR_mem h; omega
theorem sumR_len : ∀ l : List Ru, l.length ≤ sumR l
  | [] => Nat.le_refl _
  | r :: l => by have := sumR_len l; simp only [List.length_cons, sumR]; omega
theorem T_int : T 3 = some ty3 := by kernel_rfl
theorem T_bytes : T 22 = some ty22 := by kernel_rfl
theorem T_cond : T 46 = some ty46 := by kernel_rfl
theorem T_conds : T 44 = some ty44 := by kernel_rfl
theorem T_rule : T 48 = some ty48 := by kernel_rfl
theorem T_rules : T 23 = some ty23 := by kernel_rfl
theorem T_file : T 25 = some ty25 := by kernel_rfl
theorem max63 {n : Nat} (h : n ≤ maxLen) : n ≤ 9223372036854775807 := by unfold maxLen at h; omega
theorem cl_of : ∀ (n : Nat) (ys : List V), (∀ y ∈ ys, ∃ cs, y = mkEl true cs ∧ Fits T n 46 cs) → ys.length ≤ maxLen → ∃ l : Cl, ys = l.enc ∧ l.wf ∧ K63 l := by
  intro n
  induction n using Nat.strongRecOn with
  | ind n IH =>
    intro ys
    induction ys with
    | nil => intro _ _; exact ⟨.nil, rfl, trivial, Nat.zero_le _⟩
    | cons y ys ih =>
      intro hy hl
      obtain ⟨r, h1, h2, _⟩ := ih (fun z hz => hy z (List.mem_cons_of_mem _ hz)) (by simp at hl; omega)
      obtain ⟨cs, rfl, hc⟩ := hy y (by simp)
      obtain ⟨m, rfl, a, r1, rfl, ha, b, r2, rfl, hb, c, r3, rfl, hcc, rfl⟩ := fits_struct T_cond rfl hc
      obtain ⟨t, rfl, t1, t2⟩ := fits_int T_int rfl ha
      obtain ⟨v, rfl, v1, v2⟩ := fits_int T_int rfl hb
      obtain ⟨m', ks, rfl, rfl, k1, k2⟩ := fits_slice T_conds rfl rfl T_cond hcc
      obtain ⟨k, rfl, k3, k4⟩ := IH m' (by omega) ks k2 k1
      refine ⟨.cons t v k r, by rw [h1]; rfl, ⟨⟨t1, t2⟩, ⟨v1, v2⟩, k4, k3, h2⟩, ?_⟩
      show r.len + 1 ≤ _
      rw [h1] at hl
      simp only [List.length_cons, Cl.enc_len] at hl
      exact max63 hl
theorem cond_arg {n : Nat} {cs : List V} (h : Fits T n 46 cs) : ∃ (o m : Int) (k : Cl), cs = [.int .i64 o, .int .i64 m, .sl 46 k.enc] ∧ ArgC o m k := by
  obtain ⟨m, rfl, a, r1, rfl, ha, b, r2, rfl, hb, c, r3, rfl, hcc, rfl⟩ := fits_struct T_cond rfl h
  obtain ⟨t, rfl, t1, t2⟩ := fits_int T_int rfl ha
  obtain ⟨v, rfl, v1, v2⟩ := fits_int T_int rfl hb
  obtain ⟨m', ks, rfl, rfl, k1, k2⟩ := fits_slice T_conds rfl rfl T_cond hcc
  obtain ⟨k, rfl, k3, k4⟩ := cl_of m' ks k2 k1
  exact ⟨t, v, k, rfl, ⟨t1, t2⟩, ⟨v1, v2⟩, k3, k4⟩
theorem rules_of (n : Nat) : ∀ (ys : List V), (∀ y ∈ ys, ∃ cs, y = mkEl true cs ∧ Fits T n 48 cs) → ∃ l : List Ru, ys = rE l ∧ ∀ r ∈ l, ArgC r.o r.m r.k ∧ I64 r.ops
  | [], _ => ⟨[], rfl, by simp⟩
  | y :: ys, h => by
    obtain ⟨l, h1, h2⟩ := rules_of n ys fun z hz => h z (List.mem_cons_of_mem _ hz)
    obtain ⟨cs, rfl, hc⟩ := h y (by simp)
    obtain ⟨m, rfl, a, r1, rfl, ha, b, r2, rfl, hb, rfl⟩ := fits_struct T_rule rfl hc
    obtain ⟨i, rfl, i1, i2⟩ := fits_int T_int rfl ha
    obtain ⟨o, m', k, rfl, g⟩ := cond_arg hb
    refine ⟨⟨i, o, m', k⟩ :: l, by rw [h1]; rfl, fun r hr => ?_⟩
    rcases List.mem_cons.1 hr with rfl | hr
    · exact ⟨g, i1, i2⟩
    · exact h2 r hr
/-- A header that came in. -/
structure ArgH (f : Fi) : Prop where
  rules : ArgR f.rules
  name : f.name.length ≤ 9223372036854775807
theorem ArgH.argF {f : Fi} (g : ArgH f) {N : Nat} (h : 200000 < N) (h' : sumR f.rules < N) : ArgF N f := by
  have := sumR_len f.rules
  refine ⟨h, fun r hr => ?_, by omega, g.rules.len, g.name⟩
  have := sumR_mem hr
  obtain ⟨ga, gb⟩ := g.rules.all r hr
  exact ⟨ga.wf, ga.len, by omega⟩
def Fi.cells (f : Fi) : List V := [.int .i64 f.id, .int .i64 f.kind, .bytes f.name, .int .i64 f.short, .int .i64 f.size, .int .i64 f.length, .int .i64 f.recs, .int .i64 f.state, .sl 48 (rE f.rules)]
theorem file_arg {n : Nat} {cs : List V} (h : Fits T n 25 cs) : ∃ f : Fi, cs = [.int .i64 f.id, .int .i64 f.kind, .bytes f.name, .int .i64 f.short, .int .i64 f.size, .int .i64 f.length, .int .i64 f.recs, .int .i64 f.state, .sl 48 (rE f.rules)] ∧ ArgH f := by
  obtain ⟨m, rfl, a1, r1, rfl, h1, a2, r2, rfl, h2, a3, r3, rfl, h3, a4, r4, rfl, h4, a5, r5, rfl, h5, a6, r6, rfl, h6, a7, r7, rfl, h7, a8, r8, rfl, h8, a9, r9, rfl, h9, rfl⟩ := fits_struct T_file rfl h
  obtain ⟨v1, rfl, _⟩ := fits_int T_int rfl h1
  obtain ⟨v2, rfl, _⟩ := fits_int T_int rfl h2
  obtain ⟨v3, rfl, b3⟩ := fits_bytes T_bytes rfl rfl h3
  obtain ⟨v4, rfl, _⟩ := fits_int T_int rfl h4
  obtain ⟨v5, rfl, _⟩ := fits_int T_int rfl h5
  obtain ⟨v6, rfl, _⟩ := fits_int T_int rfl h6
  obtain ⟨v7, rfl, _⟩ := fits_int T_int rfl h7
  obtain ⟨v8, rfl, _⟩ := fits_int T_int rfl h8
  obtain ⟨m', ys, rfl, rfl, k1, k2⟩ := fits_slice T_rules rfl rfl T_rule h9
  obtain ⟨l, rfl, k3⟩ := rules_of m' ys k2
  rw [rE_len] at k1
  exact ⟨⟨v1, v2, v3, v4, v5, v6, v7, v8, l⟩, rfl, ⟨k3, max63 k1⟩, max63 b3⟩
/-- The types that the arguments lead to. -/
def argTys : List TypeId := [44, 46, 48, 23, 25, 3, 22, 5]
theorem argTys_ok : closedT T argTys = true := by kernel_rfl
end Go.Proofs.Ytllnklkjkjmjbaa.En

/- Headers: their encoding tells them apart. -/
namespace Go.Proofs.Ytllnklkjkjmjbaa.En
open Go
set_option linter.unusedVariables false
theorem pT_inj : ∀ a b : List (Int × List UInt8), pT a = pT b → a = b
  | [], [], _ => rfl
  | [], p :: b, h => by simp [pT] at h
  | p :: a, [], h => by simp [pT] at h
  | (p1, p2) :: a, (q1, q2) :: b, h => by
    simp only [pT, Tl.cons.injEq] at h
    obtain ⟨h1, h2, _, h4⟩ := h
    subst h1; subst h2
    rw [pT_inj a b h4]
def lookP (t : Int) : List (Int × List UInt8) → Option (List UInt8)
  | [] => none
  | p :: r => if p.1 = t then some p.2 else lookP t r
theorem lookP_skip {t u : Int} (h : u ≠ t) (b : List UInt8) (r : List (Int × List UInt8)) : lookP t ((u, b) :: r) = lookP t r := by
  show (if u = t then some b else lookP t r) = lookP t r
  rw [if_neg h]
theorem lookP_hit (t : Int) (b : List UInt8) (r : List (Int × List UInt8)) : lookP t ((t, b) :: r) = some b := by
  show (if t = t then some b else lookP t r) = some b
  rw [if_pos rfl]
theorem lookP_app {t : Int} : ∀ (a r : List (Int × List UInt8)), (∀ p ∈ a, p.1 ≠ t) → lookP t (a ++ r) = lookP t r
  | [], r, _ => rfl
  | p :: a, r, h => by
    rw [List.cons_append, lookP_skip (u := p.1) (b := p.2) (h p (by simp))]
    exact lookP_app a r fun q hq => h q (by simp [hq])
theorem opt_ne {c : Prop} [Decidable c] {u t : Int} {b : List UInt8} (h : u ≠ t) : ∀ p ∈ (if c then [(u, b)] else []), p.1 ≠ t := by
  intro p hp
  split at hp
  · simp at hp; subst hp; exact h
  · cases hp
theorem opt_ne' {c : Prop} [Decidable c] {u t : Int} {b : List UInt8} (h : u ≠ t) : ∀ p ∈ (if c then ([] : List (Int × List UInt8)) else [(u, b)]), p.1 ≠ t := by
  intro p hp
  split at hp
  · cases hp
  · simp at hp; subst hp; exact h
theorem look130 (f : Fi) : lookP 130 (partsF f) = some (kindB f) := lookP_hit _ _ _
theorem look131 (f : Fi) : lookP 131 (partsF f) = some (twoB f.id) := by
  unfold partsF
  rw [lookP_skip (by decide), lookP_hit]
theorem look132 (f : Fi) : lookP 132 (partsF f) = if 0 < (f.name.length : Int) then some f.name else none := by
  unfold partsF
  rw [lookP_skip (by decide), lookP_skip (by decide)]
  by_cases c : 0 < (f.name.length : Int)
  · rw [if_pos c, if_pos c, List.cons_append, lookP_hit]
  · rw [if_neg c, if_neg c, List.nil_append, lookP_app _ _ (opt_ne (by decide)), lookP_app _ _ (opt_ne' (by decide)), lookP_skip (by decide)]
    by_cases d : 0 < (f.rules.length : Int)
    · rw [if_pos d, lookP_skip (by decide)]; rfl
    · rw [if_neg d]; rfl
theorem look128 (f : Fi) : lookP 128 (partsF f) = if f.kind = 2 then some (twoB f.size) else none := by
  unfold partsF
  rw [lookP_skip (by decide), lookP_skip (by decide), lookP_app _ _ (opt_ne (by decide))]
  by_cases c : f.kind = 2
  · rw [if_pos c, if_pos c, List.cons_append, lookP_hit]
  · rw [if_neg c, if_neg c, List.nil_append, lookP_app _ _ (opt_ne' (by decide)), lookP_skip (by decide)]
    by_cases d : 0 < (f.rules.length : Int)
    · rw [if_pos d, lookP_skip (by decide)]; rfl
    · rw [if_neg d]; rfl
theorem look136 (f : Fi) : lookP 136 (partsF f) = if f.short = 0 then none else some [byteI f.short] := by
  unfold partsF
  rw [lookP_skip (by decide), lookP_skip (by decide), lookP_app _ _ (opt_ne (by decide)), lookP_app _ _ (opt_ne (by decide))]
  by_cases c : f.short = 0
  · rw [if_pos c, if_pos c, List.nil_append, lookP_skip (by decide)]
    by_cases d : 0 < (f.rules.length : Int)
    · rw [if_pos d, lookP_skip (by decide)]; rfl
    · rw [if_neg d]; rfl
  · rw [if_neg c, if_neg c, List.cons_append, lookP_hit]
theorem look138 (f : Fi) : lookP 138 (partsF f) = some [byteI f.state] := by
  unfold partsF
  rw [lookP_skip (by decide), lookP_skip (by decide), lookP_app _ _ (opt_ne (by decide)), lookP_app _ _ (opt_ne (by decide)), lookP_app _ _ (opt_ne' (by decide)), lookP_hit]
theorem look134 (f : Fi) : lookP 134 (partsF f) = if 0 < (f.rules.length : Int) then some (encRu f.rules).1 else none := by
  unfold partsF
  rw [lookP_skip (by decide), lookP_skip (by decide), lookP_app _ _ (opt_ne (by decide)), lookP_app _ _ (opt_ne (by decide)), lookP_app _ _ (opt_ne' (by decide)), lookP_skip (by decide)]
  by_cases d : 0 < (f.rules.length : Int)
  · rw [if_pos d, if_pos d, lookP_hit]
  · rw [if_neg d, if_neg d]; rfl
theorem byte_inj {a b : Int} (h : byteI a = byteI b) : a % 256 = b % 256 := by rw [← byteI_toNat, ← byteI_toNat, h]
theorem two_inj {a b : Int} (ha : 0 ≤ a ∧ a ≤ 65535) (hb : 0 ≤ b ∧ b ≤ 65535) (h : twoB a = twoB b) : a = b := by
  unfold twoB at h
  injection h with h1 h2
  injection h2 with h2 _
  have e1 := byte_inj h1
  have e2 := byte_inj h2
  omega
theorem encFi_ok {f : Fi} (h : (encFi f).2 = 0) : OkF f ∧ okL 1 (.cons 98 [] (pT (partsF f)) .nil) = true ∧ (encL (.cons 98 [] (pT (partsF f)) .nil)).length ≤ 4096 ∧ (encFi f).1 = encL (.cons 98 [] (pT (partsF f)) .nil) := by
  unfold encFi at h ⊢
  by_cases c : chkF f = 0
  case neg => rw [if_neg c] at h; exact absurd h c
  rw [if_pos c] at h ⊢
  refine ⟨okF_of c, ?_⟩
  unfold encR at h ⊢
  split at h
  · rename_i c1
    split at h
    · rename_i c2
      rw [if_pos c1, if_pos c2]
      exact ⟨c1, c2, rfl⟩
    · exact absurd h (by decide)
  · exact absurd h (by decide)
theorem encF_inj {f g : Fi} (hf : (encFi f).2 = 0) (hg : (encFi g).2 = 0) (h : (encFi f).1 = (encFi g).1) : f = g := by
  obtain ⟨of, a1, a2, a3⟩ := encFi_ok hf
  obtain ⟨og, b1, b2, b3⟩ := encFi_ok hg
  have hp : partsF f = partsF g := by
    have h1 := decT_put a1 a2
    have h2 := decT_put b1 b2
    rw [← a3, h, b3, h2] at h1
    have h3 := Except.ok.inj h1
    rw [Tl.cons.injEq] at h3
    exact (pT_inj _ _ h3.2.2.1).symm
  have kB : kindB f = kindB g := by have := look130 f; rw [hp, look130 g] at this; exact (Option.some.inj this).symm
  have iB : twoB f.id = twoB g.id := by have := look131 f; rw [hp, look131 g] at this; exact (Option.some.inj this).symm
  have sB : [byteI f.state] = [byteI g.state] := by have := look138 f; rw [hp, look138 g] at this; exact (Option.some.inj this).symm
  have nB := look132 f
  rw [hp, look132 g] at nB
  have zB := look128 f
  rw [hp, look128 g] at zB
  have shB := look136 f
  rw [hp, look136 g] at shB
  have rB := look134 f
  rw [hp, look134 g] at rB
  have fk := of.kind
  have gk := og.kind
  have fi := of.id
  have gi := og.id
  have fst := of.state
  have gst := og.state
  have fsh := of.short
  have gsh := og.short
  have e_id : f.id = g.id := two_inj (by omega) (by omega) iB
  have e_state : f.state = g.state := by
    injection sB with sB _
    have := byte_inj sB; omega
  have e_kind : f.kind = g.kind := by
    unfold kindB at kB
    have : byteI f.kind = byteI g.kind := by
      cases hfr : recK f.kind <;> cases hgr : recK g.kind <;> simp only [hfr, hgr, cond_true, cond_false, List.cons.injEq] at kB <;> exact kB.1
    have := byte_inj this; omega
  have e_recs : f.length = g.length ∧ f.recs = g.recs := by
    unfold kindB at kB
    rw [← e_kind] at kB
    cases hr : recK f.kind with
    | true =>
      have hr' : recK g.kind = true := by rw [← e_kind]; exact hr
      rw [hr] at kB
      simp only [cond_true, List.cons.injEq] at kB
      have l1 := (numF_zero of.length).1 hr
      have l2 := (numF_zero og.length).1 hr'
      have r1 := (numF_zero of.recs).1 hr
      have r2 := (numF_zero og.recs).1 hr'
      have q1 := byte_inj kB.2.1
      have q2 := byte_inj kB.2.2.1
      omega
    | false =>
      have hr' : recK g.kind = false := by rw [← e_kind]; exact hr
      rw [(numF_zero of.length).2 hr, (numF_zero og.length).2 hr', (numF_zero of.recs).2 hr, (numF_zero og.recs).2 hr']
      exact ⟨rfl, rfl⟩
  have e_size : f.size = g.size := by
    rw [← e_kind] at zB
    by_cases c : f.kind = 2
    · rw [if_pos c, if_pos c] at zB
      have s1 := (numF_zero of.size).1 (by simp [c])
      have s2 := (numF_zero og.size).1 (by simp [← e_kind, c])
      exact (two_inj (by omega) (by omega) (Option.some.inj zB)).symm
    · rw [(numF_zero of.size).2 (by simp [c]), (numF_zero og.size).2 (by simp [← e_kind, c])]
  have e_name : f.name = g.name := by
    by_cases c : 0 < (f.name.length : Int) <;> by_cases d : 0 < (g.name.length : Int)
    · rw [if_pos c, if_pos d] at nB; exact (Option.some.inj nB).symm
    · rw [if_pos c, if_neg d] at nB; cases nB
    · rw [if_neg c, if_pos d] at nB; cases nB
    · rw [List.length_eq_zero_iff.1 (by omega : f.name.length = 0), List.length_eq_zero_iff.1 (by omega : g.name.length = 0)]
  have e_short : f.short = g.short := by
    by_cases c : f.short = 0 <;> by_cases d : g.short = 0
    · omega
    · rw [if_pos c, if_neg d] at shB; cases shB
    · rw [if_neg c, if_pos d] at shB; cases shB
    · rw [if_neg c, if_neg d] at shB
      have := Option.some.inj shB
      injection this with this _
      have := byte_inj this; omega
  have e_rules : f.rules = g.rules := by
    by_cases c : 0 < (f.rules.length : Int) <;> by_cases d : 0 < (g.rules.length : Int)
    · rw [if_pos c, if_pos d] at rB
      have q := Option.some.inj rB
      unfold encRu at q
      rw [if_pos og.rules, if_pos of.rules] at q
      have q : encL (rT g.rules) = encL (rT f.rules) := q
      have q1 := decRu_put of.rules
      rw [← q, decRu_put og.rules] at q1
      injection q1 with q1 _
      exact q1.symm
    · rw [if_pos c, if_neg d] at rB; cases rB
    · rw [if_neg c, if_pos d] at rB; cases rB
    · rw [List.length_eq_zero_iff.1 (by omega : f.rules.length = 0), List.length_eq_zero_iff.1 (by omega : g.rules.length = 0)]
  obtain ⟨a1, a2, a3, a4, a5, a6, a7, a8, a9⟩ := f
  obtain ⟨b1, b2, b3, b4, b5, b6, b7, b8, b9⟩ := g
  simp only at e_id e_state e_kind e_recs e_size e_name e_short e_rules
  rw [e_id, e_state, e_kind, e_recs.1, e_recs.2, e_size, e_name, e_short, e_rules]
section
variable (N : Nat)
theorem vKeeps_eq (f f' : Fi) (g : ArgF N f) (g' : ArgF N f') :
    s_vKeeps N f.id f.kind f.name f.short f.size f.length f.recs f.state (rE f.rules) f'.id f'.kind f'.name f'.short f'.size f'.length f'.recs f'.state (rE f'.rules) = some true := by
  have hb := g.big
  unfold s_vKeeps
  rw [vfew_eq N f g, vfew_eq N f' g', bnd1_mk, awake_eq N hb]
  cases h : fewF f with
  | false => rfl
  | true =>
    rw [br_not, br_t, bnd1_mk]
    cases h' : fewF f' with
    | false => rfl
    | true =>
      obtain ⟨g1, n1⟩ := goodF N g h
      obtain ⟨g2, n2⟩ := goodF N g' h'
      have m1 := encFi_max f
      have m2 := encFi_max f'
      have hl := g1.len
      have hf := g1.fuel
      rw [fEncode_eq N (by omega) f g1, fEncode_eq N (by omega) f' g2, oSame_eq N f.name f'.name (by omega) (by omega) (by omega),
        qSame_eq N f.rules f'.rules (by omega) (by omega) (fun r hr => ⟨(g1.good r hr).wf, (g1.good r hr).len, (g1.good r hr).fuel⟩) (fun r hr => ⟨(g2.good r hr).wf, (g2.good r hr).len, (g2.good r hr).fuel⟩)]
      have e2 : ∀ {R : Type} (x : List UInt8 × Int) (K : List UInt8 → Int → Option R), bnd2 (some x) K = K x.1 x.2 := fun x K => rfl
      rw [e2, e2, br_not, br_not, br_not, br_dec, br_dec, br_t, bnd1_mk, bnd1_mk]
      by_cases z1 : (encFi f).2 = 0
      case neg => rw [if_neg z1]; rfl
      by_cases z2 : (encFi f').2 = 0
      case neg => rw [if_pos z1, if_neg z2]; rfl
      rw [if_pos z1, if_pos z2, oSame_eq N (encFi f).1 (encFi f').1 (by omega) (by omega) (by omega),
        show decide ((encFi f).1 = (encFi f').1) = decide (f = f') from decide_eq_decide.2 ⟨encF_inj z1 z2, fun e => by rw [e]⟩]
      clear g g' h h' g1 g2 n1 n2 m1 m2 hl z1 z2
      simp only [bnd1_mk, br_dec]
      obtain ⟨a1, a2, a3, a4, a5, a6, a7, a8, a9⟩ := f
      obtain ⟨b1, b2, b3, b4, b5, b6, b7, b8, b9⟩ := f'
      simp only [Fi.mk.injEq]
      by_cases c1 : a1 = b1 <;> by_cases c2 : a2 = b2 <;> by_cases c3 : a3 = b3 <;> by_cases c4 : a4 = b4 <;> by_cases c5 : a5 = b5 <;> by_cases c6 : a6 = b6 <;> by_cases c7 : a7 = b7 <;> by_cases c8 : a8 = b8 <;> simp [c1, c2, c3, c4, c5, c6, c7, c8, br]
end
end Go.Proofs.Ytllnklkjkjmjbaa.En
