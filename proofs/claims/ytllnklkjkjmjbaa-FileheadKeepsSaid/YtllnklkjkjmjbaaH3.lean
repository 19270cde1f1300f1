/- Several texts in one. -/
import Derived.Test.YtllnklkjkjmjbaaH2
import Derived.Deep.LoopGhost
import Derived.Deep.DeepMust
import Derived.Lib.AppendZeros
import Derived.Lib.SliceRun
import Derived.ProofKit
import Derived.OpenShut
import Derived.ChangeOld
import Derived.Below

set_option linter.unusedSimpArgs false
set_option linter.unusedVariables false
set_option linter.unusedSectionVars false
/- slices.Clone and slices.Concat of bytes: the walks; as entries of the engine. -/
namespace Go.Proofs.Ytllnklkjkjmjbaa.En
open Go Go.RowKit
set_option linter.unusedVariables false
theorem info8 : (Try.prog.info? 5).map (fun i => (i.zero, i.size, i.bytes)) = some (some (.int .u8 0), 1, 1) := by kernel_rfl
section
variable {T : TypeId → Option Ty} {E : Env} {g : G} {w w' : World} {A : Option Addr} {n c B : Nat} {xs : List UInt8}
theorem own_lit {w : World} {B : Nat} {e : TypeId} (vs : List Value) (hB : B ≤ w.heap.size) (hm : vs.length ≤ 1000) : Own (w.alloc (.cells vs.toArray e)) B e (some ⟨w.heap.size, 0, none⟩) vs.length vs.length vs := by
  have h := World.ownsRow_lit (base := B) (e := e) (size := 1) w vs.toArray vs.length hB (by unfold maxLen; omega) (by simp)
  simpa using h
/-- Bytes, as the walks have them. -/
theorem isB_of_rep {u : Value} (h : RepV g w (.bytes xs) u) : ∃ A n c, u = .slice A n c ∧ IsB w A n c xs := by
  cases h with
  | bytes xs A n c hn hc hm h =>
    refine ⟨A, n, c, rfl, ⟨by simp [hn], hc, hm, fun k v hv => ?_⟩⟩
    rw [List.getElem?_map, Option.map_eq_some_iff] at hv
    obtain ⟨x, hx, rfl⟩ := hv
    obtain ⟨b, off, e, _, h2⟩ := h k x hx
    exact ⟨b, off, e, h2⟩
/-- What a call leaves that makes one row of bytes. -/
theorem pure_of_own (hb : Below w.heap.size w w') {A : Option Addr} {n c : Nat} (ho : Own w' w.heap.size 5 A n c (xs.map u8)) :
    ∃ us' g', Ending.returned (.slice A n c) = .returned (retV us') ∧ (∀ E' : Env, RepDs E' g' w' [] [.v (.bytes xs) .no] us') ∧ PureTr g w g' w' := by
  refine ⟨[.slice A n c], { g with Γ := fun b => if b < w.heap.size then g.Γ b else .imm }, rfl, fun E' => ⟨rfl, fun k y hk => ?_⟩, ⟨⟨hb.os, hb.tape, hb.output, hb.size, hb.block⟩, fun b hlt => if_pos hlt, fun b hge => by
    show Perm.still (if b < w.heap.size then g.Γ b else .imm) = true
    rw [if_neg (by omega)]; rfl, rfl, rfl⟩⟩
  rcases k with _ | k
  · simp at hk
    subst hk
    have hr := ho.rd
    refine .v _ _ _ (.bytes xs A n c (by simpa using hr.len) hr.cap hr.max fun k x hx => ?_) trivial
    obtain ⟨b, off, e, h2⟩ := hr.at_ k (u8 x) (by simp [hx])
    refine ⟨b, off, e, ?_, h2⟩
    have hge : w.heap.size ≤ b := ho.block b (by subst e; rfl)
    unfold Stable
    show (match (if b < w.heap.size then g.Γ b else .imm) with | .imm => True | .low n => off + k < n | .own _ n => off + k < n | .box _ _ => False)
    rw [if_neg (by omega)]; trivial
  · simp at hk
end
set_option maxHeartbeats 400000 in
theorem clone_any (A : Option Addr) (n c : Nat) (xs : List UInt8) (w : World) (h : IsB w A n c xs) (hn : xs.length ≤ 1000000) :
    Calls Try.prog 61 #[.slice A n c] w fun e w' => ∃ A' n' c', e = .returned (.slice A' n' c') ∧ Own w' w.heap.size 5 A' n' c' (xs.map u8) ∧ Below w.heap.size w w' := by
  obtain ⟨i0, hi0, hz0, hz1, hz2⟩ := info_parts info8
  have hl := IsB.len h
  have H := Lib.hid h
  have HI := Lib.hid (And.intro hi0 (And.intro hz0 (And.intro hz1 hz2)))
  have HL := Lib.hid hl
  clear h hi0 hz0 hz1 hz2 hl
  have qT : ∀ (w : World) (a : Option Addr) (n c n' c' : Nat), (binOp .eql 22 (.slice a n c) (.slice none n' c')).run Try.prog w = .ok (.bool a.isNone) w := fun w a n c n' c' => Lib.run_eql_slice_nil w _ _ a n c n' c' Try.underlying22
  cases A with
  | none =>
    have h0 : xs = [] := by
      have hr := H.out
      rcases xs with _ | ⟨x, xs⟩
      · rfl
      · obtain ⟨b, off, hA, _⟩ := Rd.at_ hr 0 (u8 x) rfl
        cases hA
    subst h0
    go_enter Try.func61, Try.ntmps61
    go_wp2_with fail
    go_ret
    exact ⟨none, 0, 0, rfl, Own.nil _ _, Below.refl _ _⟩
  | some a =>
    go_enter Try.func61, Try.ntmps61
    have hown := own_lit (w := w) (B := w.heap.size) (e := 5) [] (Nat.le_refl _) (by simp)
    have HO := Lib.hid hown
    clear hown
    have hn' : n ≤ 1000000 := by have := HL.out; omega
    go_wp2_with (at_builtin; refine wpList_append_rd _ rfl (.tmp 5) (.tmp 6) 22 rfl w.heap.size 5 i0 _ 1 Try.underlying22 HI.out.1 HI.out.2.1 HI.out.2.2.1 HI.out.2.2.2 rfl (some ⟨w.heap.size, 0, none⟩) 0 0 [] rfl HO.out (some a) n c _ rfl (H.out.alloc _) (u8_one _) ?_ (by omega) (by simp) ?_)
    case _ => omega
    intro A3 c3 w3 hown3 hg3 _
    have hb3 : Below w.heap.size w w3 := ((Below.refl _ _).alloc (Nat.le_refl _) _).grown hg3 (by simp) (by simp [Value.ownBlock])
    go_wp2
    go_ret
    exact ⟨A3, 0 + n, c3, by simp, by simpa using hown3, hb3⟩
noncomputable def s_clone (N : Nat) (l : List UInt8) : Option (List UInt8) := br (decide (l.length ≤ 1000000)) (some l) none
theorem p_clone (N : Nat) (x0 r0 : List UInt8) (h : s_clone N x0 = some r0) : PureRet Try.prog T 61 [.v (.bytes x0) .no] [.v (.bytes r0) .no] := by
  have hn : x0.length ≤ 1000000 ∧ r0 = x0 := by
    unfold s_clone br at h
    by_cases hx : x0.length ≤ 1000000
    · simp [hx] at h; exact ⟨hx, h.symm⟩
    · simp [hx] at h
  obtain ⟨hn, rfl⟩ := hn
  intro E g w us hsz hus
  obtain ⟨hl, hr⟩ := hus
  match us, hl with
  | [u], _ =>
  have hu := hr 0 _ rfl
  simp only [List.getD_cons_zero] at hu
  cases hu with
  | v x a v hv ha =>
  obtain ⟨A, n, c, rfl, hB⟩ := isB_of_rep hv
  refine (clone_any A n c r0 w hB hn).mono ?_
  rintro e w' ⟨A', n', c', rfl, ho, hb⟩
  exact pure_of_own hb ho
set_option maxHeartbeats 1000000 in
set_option maxRecDepth 100000 in
theorem grow_nil (k : Nat) (w : World) (hk : k ≤ 1000000) :
    Calls Try.prog 111 #[.slice none 0 0, .int .i64 k] w fun e w' => ∃ A n c, e = .returned (.slice A 0 c) ∧ n = 0 ∧ Own w' w.heap.size 5 A n c [] ∧ Below w.heap.size w w' := by
  obtain ⟨i0, hi0, hz0, hz1, hz2⟩ := info_parts info8
  have mixed : Try.prog.follows .mixedOrders = true := by kernel_rfl
  by_cases h0 : k = 0
  · subst h0
    clear hi0 hz0 hz1 hz2
    go_enter Try.func111, Try.ntmps111
    go_wp2
    go_ret
    exact ⟨none, 0, 0, rfl, rfl, Own.nil _ _, Below.refl _ _⟩
  · have hrz : ∀ ty, (Builtin.append_ #[22, 3] ty #[.slice none 0 0, .int .i64 (k : Int)]).run Try.prog w = _ := fun ty =>
      Lib.run_append_nil_zeros w 22 3 ty 5 i0 _ .i64 .i64 Try.underlying22 Try.underlying3 hi0 hz0 k (by omega) (by omega) (by omega) (by rw [hz2]; omega)
    have hG1 : k ≤ grownCap w k 0 5 := grownCap_ge w _ _ _
    have hG2 := grownCap_le_maxLen w k 0 5 (by unfold maxLen; omega)
    generalize grownCap w k 0 5 = G at hrz hG1 hG2
    have hG63 : G ≤ 9223372036854775807 := by unfold maxLen at hG2; omega
    have h1 : ¬ ((k : Int) < 0) := by omega
    have h4 : (k : Int) > 0 := by omega
    have h5 : k ≤ 9223372036854775807 := by omega
    have HI := Lib.hid (And.intro hi0 (And.intro hz0 (And.intro hz1 hz2)))
    have HK := Lib.hid (And.intro hk (And.intro h0 hG2))
    clear hi0 hz0 hz1 hz2 hk h0 hG2
    go_enter Try.func111, Try.ntmps111
    go_wp2_with (at_builtin; refine Lib.wpList_append_run _ rfl _ _ _ _ rfl _ _ rfl rfl _ _ (hrz _) ?_)
    all_goals (go_ret)
    all_goals (
      refine ⟨some ⟨w.heap.size, 0, none⟩, 0, G, rfl, rfl, ⟨rfl, .inr ⟨w.heap.size, G, _, rfl, Nat.le_refl _, heap_alloc_new w _, by omega, HK.out.2.2, ?_, by simp⟩⟩, ((Below.refl _ _).alloc (Nat.le_refl _) _).drew⟩
      simp [Array.size_append, size_zeroCells]
      omega)
theorem flatten_take_le (ls : List (List UInt8)) (k : Nat) : (ls.take k).flatten.length ≤ ls.flatten.length := by
  conv => rhs; rw [← List.take_append_drop k ls]
  rw [List.flatten_append, List.length_append]
  omega
theorem flatten_take_succ (ls : List (List UInt8)) (k : Nat) (h : k < ls.length) : (ls.take (k + 1)).flatten = (ls.take k).flatten ++ ls[k] := by
  rw [List.take_succ_eq_append_getElem h, List.flatten_append]; simp
set_option maxHeartbeats 1000000 in
set_option maxRecDepth 100000 in
theorem concat_any (A : Option Addr) (n c : Nat) (ls : List (List UInt8)) (w : World) (h : IsBB w A n c ls) (hn : ls.flatten.length ≤ 1000000) :
    Calls Try.prog 94 #[.slice A n c] w fun e w' => ∃ A' n' c', e = .returned (.slice A' n' c') ∧ Own w' w.heap.size 5 A' n' c' (ls.flatten.map u8) ∧ Below w.heap.size w w' := by
  obtain ⟨i0, hi0, hz0, hz1, hz2⟩ := info_parts info8
  have hcap : n ≤ 9223372036854775807 := by have h1 := h.cap; have h2 := h.max; unfold maxLen at h2; omega
  have H := Lib.hid h
  have HI := Lib.hid (And.intro hi0 (And.intro hz0 (And.intro hz1 hz2)))
  clear h hi0 hz0 hz1 hz2
  go_enter Try.func94, Try.ntmps94
  go_wp2
  go_loopg [3, 11] n (fun g v i wr => ∃ k : Nat, k ≤ n ∧ g = n - k ∧ i = .int .i64 (k : Int) ∧ v = .int .i64 (((ls.take k).flatten.length : Nat) : Int) ∧ wr = w)
  case atStart => exact ⟨0, by omega, rfl, rfl, by simp, rfl⟩
  case round =>
    obtain ⟨k, hk, hg, rfl, rfl, hww⟩ := hrel
    obtain rfl : w = wr := hww.symm
    by_cases hlt : k < n
    · have hl : k < ls.length := by have := H.out.len; omega
      obtain ⟨A2, n2, c2, ⟨b, off, rfl, hc⟩, hr⟩ := H.out.at_ k _ (List.getElem?_eq_getElem hl)
      have hle := flatten_take_le ls (k + 1)
      have hsucc := flatten_take_succ ls k hl
      have hn2 : n2 = ls[k].length := (IsB.len hr).symm
      have hsum : (ls.take k).flatten.length + n2 ≤ 1000000 := by rw [hsucc, List.length_append] at hle; omega
      have Hs := Lib.hid (And.intro hsucc hn2)
      generalize hm : (ls.take k).flatten.length = m at hsum
      have Hm := Lib.hid hm
      have h7 : ¬ ((m : Int) + (n2 : Int) < 0) := by omega
      clear hsucc hle hn2 hm
      go_wp2
      go_roundg (n - (k + 1))
      case measure => omega
      case rel =>
        refine ⟨k + 1, by omega, rfl, by go_num, ?_, rfl⟩
        rw [Hs.out.1, List.length_append, Hm.out, ← Hs.out.2]
        go_num
    · have hkn : (ls.take k).flatten = ls.flatten := by
        have : k = ls.length := by have := H.out.len; omega
        rw [this, List.take_length]
      rw [hkn]
      generalize hm : ls.flatten.length = m at hn
      have Hm := Lib.hid hm
      clear hkn hm
      go_wp2_with fail
      refine (grow_nil m _ hn).mono ?_
      rintro e w1 ⟨A1, n1, c1, rfl, rfl, ho1, hb1⟩
      go_wp2_with fail
      have H1 := Lib.hid (And.intro ho1 hb1)
      clear ho1 hb1
      go_loopg [6, 27] n (fun g v i wr => ∃ k A' n' c', k ≤ n ∧ g = n - k ∧ i = .int .i64 (k : Int) ∧ v = .slice A' n' c' ∧ Own wr w.heap.size 5 A' n' c' ((ls.take k).flatten.map u8) ∧ Below w.heap.size w wr)
      case atStart => exact ⟨0, A1, 0, c1, by omega, rfl, rfl, rfl, by simpa using H1.out.1, H1.out.2⟩
      case round =>
        obtain ⟨k, A', n', c', hk, hg, rfl, rfl, hown, hb⟩ := hrel
        by_cases hlt : k < n
        · have hl : k < ls.length := by have := H.out.len; omega
          obtain ⟨A2, n2, c2, ⟨b, off, rfl, hc⟩, hr⟩ := H.out.at_ k _ (List.getElem?_eq_getElem hl)
          have hc2 : wr.cell? ⟨b, off + k, none⟩ = some (.slice A2 n2 c2) := by
            rw [hb.cell (p := ⟨b, off + k, none⟩) (World.block_lt_of_cell? w _ hc)]; exact hc
          have hr2 : Rd wr A2 n2 c2 (ls[k].map Go.Proofs.Ytllnklkjkjmjbaa.u8) := hr.below hb
          have hle := flatten_take_le ls (k + 1)
          have hsucc := flatten_take_succ ls k hl
          have hn' : n' = (ls.take k).flatten.length := by have := hown.1; rw [List.length_map] at this; omega
          have hn2 : n2 = ls[k].length := by have := hr2.len; rw [List.length_map] at this; omega
          have hsum : n' + n2 ≤ 1000000 := by rw [hsucc, List.length_append, Hm.out] at hle; omega
          have Hs := Lib.hid hsucc
          have Hn := Lib.hid (And.intro hn' hn2)
          clear hsucc hle hn' hn2
          go_wp2_with (at_builtin; refine wpList_append_rd _ rfl (.tmp 31) (.tmp 32) 22 rfl w.heap.size 5 i0 _ 1 Try.underlying22 HI.out.1 HI.out.2.1 HI.out.2.2.1 HI.out.2.2.2 rfl A' n' c' _ rfl hown A2 n2 c2 _ rfl hr2 (u8_one _) ?_ (by omega) hb.size ?_)
          case _ => omega
          intro A3 c3 w3 hown3 hg3 _
          have hb3 := hb.grown hg3 hb.size (hown.block)
          go_wp2
          go_roundg (n - (k + 1))
          case measure => omega
          case rel =>
            refine ⟨k + 1, A3, n' + n2, c3, by omega, rfl, by go_num, rfl, ?_, hb3⟩
            rw [Hs.out]; simpa using hown3
        · go_wp2
          go_ret
          refine ⟨A', n', c', rfl, ?_, hb⟩
          have : k = ls.length := by have := H.out.len; omega
          rw [this, List.take_length] at hown
          exact hown
/-- The bytes of a list of strings of bytes. -/
def flatB : List V → Option (List UInt8)
  | [] => some []
  | .bytes l :: r => (match flatB r with | some m => some (l ++ m) | none => none)
  | _ :: _ => none
theorem flatB_some : ∀ (vs : List V) (l : List UInt8), flatB vs = some l → ∃ ls : List (List UInt8), vs = ls.map V.bytes ∧ l = ls.flatten
  | [], l, h => ⟨[], rfl, by simpa [flatB] using h.symm⟩
  | .bytes x :: r, l, h => by
    unfold flatB at h
    cases hm : flatB r with
    | none => rw [hm] at h; cases h
    | some m =>
      rw [hm] at h
      injection h with h
      obtain ⟨ls, h1, h2⟩ := flatB_some r m hm
      exact ⟨x :: ls, by rw [h1]; rfl, by rw [← h, h2]; rfl⟩
  | .bool _ :: _, l, h => by cases h
  | .int _ _ :: _, l, h => by cases h
  | .str _ :: _, l, h => by cases h
  | .sl _ _ :: _, l, h => by cases h
  | .agg _ :: _, l, h => by cases h
  | .iface _ _ :: _, l, h => by cases h
  | .nilI :: _, l, h => by cases h
theorem flatMap_bytes (ls : List (List UInt8)) : (ls.map V.bytes).flatMap V.cells = ls.map V.bytes := by
  induction ls with
  | nil => rfl
  | cons l ls ih => simp only [List.map_cons, List.flatMap_cons, ih]; rfl
theorem isBB_of_rep {g : G} {w : World} {e : TypeId} {ls : List (List UInt8)} {u : Value} (h : RepV g w (.sl e (ls.map V.bytes)) u) : ∃ A n c, u = .slice A n c ∧ IsBB w A n c ls := by
  cases h with
  | sl e xs A n c us hn hc hm hs h hr =>
    rw [flatMap_bytes] at h hr
    refine ⟨A, n, c, rfl, ⟨by simpa using hn, hc, hm, fun k l hl => ?_⟩⟩
    have hk : (ls.map V.bytes)[k]? = some (.bytes l) := by simp [hl]
    obtain ⟨b, off, e1, _, e2⟩ := h k _ hk
    obtain ⟨A', n', c', e3, h4⟩ := isB_of_rep (hr k _ hk)
    exact ⟨A', n', c', ⟨b, off, e1, by rw [e2, e3]⟩, h4⟩
noncomputable def s_concat (N : Nat) (vs : List V) : Option (List UInt8) := (flatB vs).bind fun l => br (decide (l.length ≤ 1000000)) (some l) none
theorem p_concat (N : Nat) (x0 : List V) (r0 : List UInt8) (h : s_concat N x0 = some r0) : PureRet Try.prog T 94 [.v (.sl 22 x0) .no] [.v (.bytes r0) .no] := by
  unfold s_concat at h
  obtain ⟨l, h1, h2⟩ := Option.bind_eq_some_iff.1 h
  have hn : l.length ≤ 1000000 ∧ r0 = l := by
    unfold br at h2
    by_cases hx : l.length ≤ 1000000
    · simp [hx] at h2; exact ⟨hx, h2.symm⟩
    · simp [hx] at h2
  obtain ⟨hn, rfl⟩ := hn
  obtain ⟨ls, rfl, rfl⟩ := flatB_some x0 _ h1
  intro E g w us hsz hus
  obtain ⟨hl, hr⟩ := hus
  match us, hl with
  | [u], _ =>
  have hu := hr 0 _ rfl
  simp only [List.getD_cons_zero] at hu
  cases hu with
  | v x a v hv ha =>
  obtain ⟨A, n, c, rfl, hB⟩ := isBB_of_rep hv
  refine (concat_any A n c ls w hB hn).mono ?_
  rintro e w' ⟨A', n', c', rfl, ho, hb⟩
  exact pure_of_own hb ho
end Go.Proofs.Ytllnklkjkjmjbaa.En

/- The engine, part 2l: several entries of one function, told apart by the closure that it is given. -/
namespace Go.Proofs.Ytllnklkjkjmjbaa.En
open Go
set_option linter.unusedVariables false
def hasClos (g : Nat) : List D → Bool
  | [] => false
  | d :: r => match d with
    | .clos f _ => cond (Nat.beq f g) true (hasClos g r)
    | _ => hasClos g r
def selM (g : Nat) (a b : MEnt) : MEnt := ⟨a.f, fun dst ds m K => cond (hasClos g ds) (a.k dst ds m K) (b.k dst ds m K)⟩
section
variable {P : Program} {T : TypeId → Option Ty}
theorem selM_ok {g : Nat} {a b : MEnt} (h : a.f = b.f) (ha : MEntOK P T a) (hb : MEntOK P T b) : MEntOK P T (selM g a b) := by
  refine ⟨ha.goes, fun R dst ds m K r e => ?_⟩
  change cond (hasClos g ds) (a.k dst ds m K) (b.k dst ds m K) = some r at e
  cases hc : hasClos g ds with
  | true => rw [hc] at e; exact ha.ret R dst ds m K r e
  | false =>
    rw [hc] at e
    obtain ⟨rs, m', h1, h2⟩ := hb.ret R dst ds m K r e
    exact ⟨rs, m', h1, by rw [← h] at h2; exact h2⟩
end
end Go.Proofs.Ytllnklkjkjmjbaa.En

/- The hand-made entries of the engine, together. -/

/- Functions of the program in plain Lean, joined to the program by evaluation; printed by a program. -/
namespace Go.Proofs.Ytllnklkjkjmjbaa.En
open Go Go.Proofs
set_option maxRecDepth 100000
set_option linter.unusedVariables false
noncomputable def e_Valid {R : Type} (s : Int → Option (Bool)) (ds : List D) (K : List D → Option R) : Option R :=
  match ds with
  | [.v (.int .i64 x0) .no] => bnd1 (s x0) fun r0 => K [.v (.bool r0) .no]
  | _ => none
noncomputable def r_Valid (rs : List D) (_ : Mem) : Option (Bool) :=
  match rs with
  | [.v (.bool r0) _] => some (r0)
  | _ => none
noncomputable def s_Valid (N : Nat) (x0 : Int) : Option (Bool) :=
  br (decide (x0 < 256)) (br (decide (0 < x0)) (some !decide (bitsI BinOp.and IntKind.i64 x0 31 = 31)) (some false))
  (br (decide (shrI IntKind.i64 x0 8 ≤ 255))
    (br (decide (bitsI BinOp.and IntKind.i64 (shrI IntKind.i64 x0 8) 31 = 31)) (br (decide (31 ≤ bitsI BinOp.and IntKind.i64 x0 255)) (some (decide (bitsI BinOp.and IntKind.i64 x0 255 ≤ 127))) (some false)) (some false)) (some false))
noncomputable def cx_Valid (N : Nat) : Cx := { T := T, isPure := tabP [], pureK := fun g ds K => tabK [] g ds K, memK := fun g dst ds m K => tabMK [] g dst ds m K, meth := tabM [], keep := fun _ => [], keepX := fun _ => [], loopT := fun _ _ _ _ => none, jumps := 9 }
theorem s_Valid_ok (N : Nat) (x0 : Int) : bodyK (cx_Valid N) Try.f90 [.v (.int .i64 x0) .no] [] r_Valid = s_Valid N x0 := by
  kernel_rfl
theorem go_Valid : Goes Try.prog 90 := goes_of Try.func90 (by kernel_rfl) (c := bodyOf Try.f90) (by kernel_rfl)
theorem eo_Valid (s : Int → Option (Bool)) (hs : ∀ (x0 : Int) (r0 : Bool), s x0 = some r0 → PureRet Try.prog T 90 [.v (.int .i64 x0) .no] [.v (.bool r0) .no]) : EntOK Try.prog T ⟨90, e_Valid s⟩ := by
  refine ⟨go_Valid, fun R ds K r h => ?_, fun R ds K => ?_⟩
  · simp only [e_Valid] at h
    split at h
    · obtain ⟨r0, h1, h2⟩ := bnd1_some h
      exact ⟨_, h2, hs _ _ h1⟩
    · cases h
  · simp only [e_Valid]
    split
    · rw [bnd1_b]; rfl
    · rfl
theorem co_Valid (N : Nat) : CxOK Try.prog (cx_Valid N) :=
  cxOK_of2 (es := []) (me := []) (ms := []) T_ok trivial trivial trivial rfl (fun _ _ _ _ => rfl) (fun _ _ _ _ _ _ => rfl) rfl
theorem lo_Valid (N : Nat) : LoopsOK (cx_Valid N) Try.f90.ntmps (bodyOf Try.f90) :=
  loopsOK_of (k := 0) (by kernel_rfl) trivial
theorem p_Valid (N : Nat) (x0 : Int) (r0 : Bool) (h : s_Valid N x0 = some r0) : PureRet Try.prog T 90 [.v (.int .i64 x0) .no] [.v (.bool r0) .no] :=
  pure_of (cx := cx_Valid N) (by kernel_rfl) (co_Valid N) Try.func90 (by kernel_rfl) (by kernel_rfl) (lo_Valid N) rfl rfl rfl (rf := r_Valid) ((s_Valid_ok N x0).trans h) (fun rs' m h => by
    unfold r_Valid at h
    split at h
    · cases h; exact ⟨rfl, rfl⟩
    · cases h)
noncomputable def e_Constructed {R : Type} (s : Int → Option (Bool)) (ds : List D) (K : List D → Option R) : Option R :=
  match ds with
  | [.v (.int .i64 x0) .no] => bnd1 (s x0) fun r0 => K [.v (.bool r0) .no]
  | _ => none
noncomputable def r_Constructed (rs : List D) (_ : Mem) : Option (Bool) :=
  match rs with
  | [.v (.bool r0) _] => some (r0)
  | _ => none
noncomputable def s_Constructed (N : Nat) (x0 : Int) : Option (Bool) :=
  br (decide (255 < x0)) (bnd1 (s_Valid N x0) fun b0 => br b0 (some !decide (bitsI BinOp.and IntKind.i64 (shrI IntKind.i64 x0 8) 32 = 0)) (some false))
  (bnd1 (s_Valid N x0) fun b1 => br b1 (some !decide (bitsI BinOp.and IntKind.i64 x0 32 = 0)) (some false))
noncomputable def cx_Constructed (N : Nat) : Cx := { T := T, isPure := tabP [⟨90, e_Valid (s_Valid N)⟩], pureK := fun g ds K => tabK [⟨90, e_Valid (s_Valid N)⟩] g ds K, memK := fun g dst ds m K => tabMK [] g dst ds m K, meth := tabM [], keep := fun _ => [], keepX := fun _ => [], loopT := fun _ _ _ _ => none, jumps := 9 }
theorem s_Constructed_ok (N : Nat) (x0 : Int) : bodyK (cx_Constructed N) Try.f91 [.v (.int .i64 x0) .no] [] r_Constructed = s_Constructed N x0 := by
  kernel_rfl
theorem go_Constructed : Goes Try.prog 91 := goes_of Try.func91 (by kernel_rfl) (c := bodyOf Try.f91) (by kernel_rfl)
theorem eo_Constructed (s : Int → Option (Bool)) (hs : ∀ (x0 : Int) (r0 : Bool), s x0 = some r0 → PureRet Try.prog T 91 [.v (.int .i64 x0) .no] [.v (.bool r0) .no]) : EntOK Try.prog T ⟨91, e_Constructed s⟩ := by
  refine ⟨go_Constructed, fun R ds K r h => ?_, fun R ds K => ?_⟩
  · simp only [e_Constructed] at h
    split at h
    · obtain ⟨r0, h1, h2⟩ := bnd1_some h
      exact ⟨_, h2, hs _ _ h1⟩
    · cases h
  · simp only [e_Constructed]
    split
    · rw [bnd1_b]; rfl
    · rfl
theorem co_Constructed (N : Nat) : CxOK Try.prog (cx_Constructed N) :=
  cxOK_of2 (es := [⟨90, e_Valid (s_Valid N)⟩]) (me := []) (ms := []) T_ok ⟨eo_Valid _ (p_Valid N), trivial⟩ trivial trivial rfl (fun _ _ _ _ => rfl) (fun _ _ _ _ _ _ => rfl) rfl
theorem lo_Constructed (N : Nat) : LoopsOK (cx_Constructed N) Try.f91.ntmps (bodyOf Try.f91) :=
  loopsOK_of (k := 0) (by kernel_rfl) trivial
theorem p_Constructed (N : Nat) (x0 : Int) (r0 : Bool) (h : s_Constructed N x0 = some r0) : PureRet Try.prog T 91 [.v (.int .i64 x0) .no] [.v (.bool r0) .no] :=
  pure_of (cx := cx_Constructed N) (by kernel_rfl) (co_Constructed N) Try.func91 (by kernel_rfl) (by kernel_rfl) (lo_Constructed N) rfl rfl rfl (rf := r_Constructed) ((s_Constructed_ok N x0).trans h) (fun rs' m h => by
    unfold r_Constructed at h
    split at h
    · cases h; exact ⟨rfl, rfl⟩
    · cases h)
noncomputable def e_tagBytes {R : Type} (s : Int → Option (List UInt8)) (ds : List D) (K : List D → Option R) : Option R :=
  match ds with
  | [.v (.int .i64 x0) .no] => bnd1 (s x0) fun r0 => K [.v (.bytes r0) .no]
  | _ => none
noncomputable def r_tagBytes (rs : List D) (_ : Mem) : Option (List UInt8) :=
  match rs with
  | [.v (.bytes r0) _] => some (r0)
  | _ => none
noncomputable def s_tagBytes (N : Nat) (x0 : Int) : Option (List UInt8) :=
  br (decide (255 < x0)) (some [UInt8.ofNat (IntKind.u8.wrap (shrI IntKind.i64 x0 8)).toNat, UInt8.ofNat (IntKind.u8.wrap x0).toNat]) (some [UInt8.ofNat (IntKind.u8.wrap x0).toNat])
noncomputable def cx_tagBytes (N : Nat) : Cx := { T := T, isPure := tabP [], pureK := fun g ds K => tabK [] g ds K, memK := fun g dst ds m K => tabMK [] g dst ds m K, meth := tabM [], keep := fun _ => [], keepX := fun _ => [], loopT := fun _ _ _ _ => none, jumps := 9 }
theorem s_tagBytes_ok (N : Nat) (x0 : Int) : bodyK (cx_tagBytes N) Try.f92 [.v (.int .i64 x0) .no] [] r_tagBytes = s_tagBytes N x0 := by
  kernel_rfl
theorem go_tagBytes : Goes Try.prog 92 := goes_of Try.func92 (by kernel_rfl) (c := bodyOf Try.f92) (by kernel_rfl)
theorem eo_tagBytes (s : Int → Option (List UInt8)) (hs : ∀ (x0 : Int) (r0 : List UInt8), s x0 = some r0 → PureRet Try.prog T 92 [.v (.int .i64 x0) .no] [.v (.bytes r0) .no]) : EntOK Try.prog T ⟨92, e_tagBytes s⟩ := by
  refine ⟨go_tagBytes, fun R ds K r h => ?_, fun R ds K => ?_⟩
  · simp only [e_tagBytes] at h
    split at h
    · obtain ⟨r0, h1, h2⟩ := bnd1_some h
      exact ⟨_, h2, hs _ _ h1⟩
    · cases h
  · simp only [e_tagBytes]
    split
    · rw [bnd1_b]; rfl
    · rfl
theorem co_tagBytes (N : Nat) : CxOK Try.prog (cx_tagBytes N) :=
  cxOK_of2 (es := []) (me := []) (ms := []) T_ok trivial trivial trivial rfl (fun _ _ _ _ => rfl) (fun _ _ _ _ _ _ => rfl) rfl
theorem lo_tagBytes (N : Nat) : LoopsOK (cx_tagBytes N) Try.f92.ntmps (bodyOf Try.f92) :=
  loopsOK_of (k := 0) (by kernel_rfl) trivial
theorem p_tagBytes (N : Nat) (x0 : Int) (r0 : List UInt8) (h : s_tagBytes N x0 = some r0) : PureRet Try.prog T 92 [.v (.int .i64 x0) .no] [.v (.bytes r0) .no] :=
  pure_of (cx := cx_tagBytes N) (by kernel_rfl) (co_tagBytes N) Try.func92 (by kernel_rfl) (by kernel_rfl) (lo_tagBytes N) rfl rfl rfl (rf := r_tagBytes) ((s_tagBytes_ok N x0).trans h) (fun rs' m h => by
    unfold r_tagBytes at h
    split at h
    · cases h; exact ⟨rfl, rfl⟩
    · cases h)
noncomputable def e_lengthBytes {R : Type} (s : Int → Option (List UInt8)) (ds : List D) (K : List D → Option R) : Option R :=
  match ds with
  | [.v (.int .i64 x0) .no] => bnd1 (s x0) fun r0 => K [.v (.bytes r0) .no]
  | _ => none
noncomputable def r_lengthBytes (rs : List D) (_ : Mem) : Option (List UInt8) :=
  match rs with
  | [.v (.bytes r0) _] => some (r0)
  | _ => none
noncomputable def s_lengthBytes (N : Nat) (x0 : Int) : Option (List UInt8) :=
  br (decide (x0 < 128)) (some [UInt8.ofNat (IntKind.u8.wrap x0).toNat])
  (br (decide (x0 < 256)) (some [UInt8.ofNat (Int.toNat 129), UInt8.ofNat (IntKind.u8.wrap x0).toNat])
    (some [UInt8.ofNat (Int.toNat 130), UInt8.ofNat (IntKind.u8.wrap (shrI IntKind.i64 x0 8)).toNat, UInt8.ofNat (IntKind.u8.wrap x0).toNat]))
noncomputable def cx_lengthBytes (N : Nat) : Cx := { T := T, isPure := tabP [], pureK := fun g ds K => tabK [] g ds K, memK := fun g dst ds m K => tabMK [] g dst ds m K, meth := tabM [], keep := fun _ => [], keepX := fun _ => [], loopT := fun _ _ _ _ => none, jumps := 9 }
theorem s_lengthBytes_ok (N : Nat) (x0 : Int) : bodyK (cx_lengthBytes N) Try.f93 [.v (.int .i64 x0) .no] [] r_lengthBytes = s_lengthBytes N x0 := by
  kernel_rfl
theorem go_lengthBytes : Goes Try.prog 93 := goes_of Try.func93 (by kernel_rfl) (c := bodyOf Try.f93) (by kernel_rfl)
theorem eo_lengthBytes (s : Int → Option (List UInt8)) (hs : ∀ (x0 : Int) (r0 : List UInt8), s x0 = some r0 → PureRet Try.prog T 93 [.v (.int .i64 x0) .no] [.v (.bytes r0) .no]) : EntOK Try.prog T ⟨93, e_lengthBytes s⟩ := by
  refine ⟨go_lengthBytes, fun R ds K r h => ?_, fun R ds K => ?_⟩
  · simp only [e_lengthBytes] at h
    split at h
    · obtain ⟨r0, h1, h2⟩ := bnd1_some h
      exact ⟨_, h2, hs _ _ h1⟩
    · cases h
  · simp only [e_lengthBytes]
    split
    · rw [bnd1_b]; rfl
    · rfl
theorem co_lengthBytes (N : Nat) : CxOK Try.prog (cx_lengthBytes N) :=
  cxOK_of2 (es := []) (me := []) (ms := []) T_ok trivial trivial trivial rfl (fun _ _ _ _ => rfl) (fun _ _ _ _ _ _ => rfl) rfl
theorem lo_lengthBytes (N : Nat) : LoopsOK (cx_lengthBytes N) Try.f93.ntmps (bodyOf Try.f93) :=
  loopsOK_of (k := 0) (by kernel_rfl) trivial
theorem p_lengthBytes (N : Nat) (x0 : Int) (r0 : List UInt8) (h : s_lengthBytes N x0 = some r0) : PureRet Try.prog T 93 [.v (.int .i64 x0) .no] [.v (.bytes r0) .no] :=
  pure_of (cx := cx_lengthBytes N) (by kernel_rfl) (co_lengthBytes N) Try.func93 (by kernel_rfl) (by kernel_rfl) (lo_lengthBytes N) rfl rfl rfl (rf := r_lengthBytes) ((s_lengthBytes_ok N x0).trans h) (fun rs' m h => by
    unfold r_lengthBytes at h
    split at h
    · cases h; exact ⟨rfl, rfl⟩
    · cases h)
noncomputable def e_valid {R : Type} (s : List V → Int → Option (Bool)) (ds : List D) (K : List D → Option R) : Option R :=
  match ds with
  | [.v (.sl 62 x0) .no, .v (.int .i64 x1) .no] => bnd1 (s x0 x1) fun r0 => K [.v (.bool r0) .no]
  | _ => none
noncomputable def e_valid1 {R : Type} (s : Int → List UInt8 → List V → Int → Option (Bool)) (dst : Nat) (ds : List D) (m : Mem) (K : List D → Mem → Option R) : Option R :=
  match ds with
  | [.agg [.v (.int .i64 x0) .no, .v (.bytes x1) .no, .v (.sl 62 x2) .no], .ptr (kv0 + 1) sv0 0] => viewK [(kv0, sv0)] m fun Bs => (match Bs with
    | [⟨3, [.v (.int .i64 y0) .no]⟩] => bnd1 (s x0 x1 x2 y0) fun r0 => putAllK [(kv0, sv0)] [⟨3, [.v (.int .i64 y0) .no]⟩] m fun m' => K [.v (.bool r0) .no] m'
    | _ => none)
  | _ => none
noncomputable def r_valid1 {α : Type} (K : Bool → Int → Option α) (rs : List D) (m : Mem) : Option α :=
  match rs, m with
  | [.v (.bool r0) _], [_, [(0, ⟨3, [.v (.int .i64 z0) .no]⟩)]] => K r0 z0
  | _, _ => none
noncomputable def C_valid1 {R : Type} (N : Nat) (f : List V → Int → Option (Bool)) (x0 : Int) (x1 : List UInt8) (x2 : List V) (y0 : Int) (K0 : Bool → Option R) : Option R :=
  br (decide (8 < y0)) (K0 true)
  (bnd1 (s_Valid N x0) fun b0 =>
    br (!b0) (K0 true) (bnd1 (s_Constructed N x0) fun b1 => br b1 (br (decide (0 < (↑x1.length : Int))) (K0 true) (bnd1 (f x2 (IntKind.i64.wrap (y0 + 1))) fun b2 => K0 !b2)) (K0 (decide (0 < (↑x2.length : Int))))))
noncomputable def s_valid1 (N : Nat) (f : List V → Int → Option (Bool)) (x0 : Int) (x1 : List UInt8) (x2 : List V) (y0 : Int) : Option (Bool) :=
  C_valid1 N f x0 x1 x2 y0 (fun r0 => some r0)
noncomputable def cx_valid1 (N : Nat) (f : List V → Int → Option (Bool)) : Cx := { T := T, isPure := tabP [⟨90, e_Valid (s_Valid N)⟩, ⟨91, e_Constructed (s_Constructed N)⟩, ⟨63, e_valid f⟩], pureK := fun g ds K => tabK [⟨90, e_Valid (s_Valid N)⟩, ⟨91, e_Constructed (s_Constructed N)⟩, ⟨63, e_valid f⟩] g ds K, memK := fun g dst ds m K => tabMK [] g dst ds m K, meth := tabM [], keep := fun _ => [], keepX := fun _ => [], loopT := fun _ _ _ _ => none, jumps := 9 }
theorem C_valid1_ok {R : Type} (N : Nat) (f : List V → Int → Option (Bool)) (x0 : Int) (x1 : List UInt8) (x2 : List V) (y0 : Int) (K : Bool → Int → Option R) : bodyK (cx_valid1 N f) Try.f89 [.agg [.v (.int .i64 x0) .no, .v (.bytes x1) .no, .v (.sl 62 x2) .no], .ptr 1 0 0] [frOf 0 [⟨3, [.v (.int .i64 y0) .no]⟩]] (r_valid1 K) = C_valid1 N f x0 x1 x2 y0 (fun r0 => K r0 y0) := by
  kernel_rfl
theorem go_valid : Goes Try.prog 63 := goes_of Try.func63 (by kernel_rfl) (c := bodyOf Try.f63) (by kernel_rfl)
theorem eo_valid (s : List V → Int → Option (Bool)) (hs : ∀ (x0 : List V) (x1 : Int) (r0 : Bool), s x0 x1 = some r0 → PureRet Try.prog T 63 [.v (.sl 62 x0) .no, .v (.int .i64 x1) .no] [.v (.bool r0) .no]) : EntOK Try.prog T ⟨63, e_valid s⟩ := by
  refine ⟨go_valid, fun R ds K r h => ?_, fun R ds K => ?_⟩
  · simp only [e_valid] at h
    split at h
    · obtain ⟨r0, h1, h2⟩ := bnd1_some h
      exact ⟨_, h2, hs _ _ _ h1⟩
    · cases h
  · simp only [e_valid]
    split
    · rw [bnd1_b]; rfl
    · rfl
theorem go_valid1 : Goes Try.prog 89 := goes_of Try.func89 (by kernel_rfl) (c := bodyOf Try.f89) (by kernel_rfl)
theorem eo_valid1 (s : Int → List UInt8 → List V → Int → Option (Bool)) (hs : ∀ (x0 : Int) (x1 : List UInt8) (x2 : List V) (y0 : Int) (r0 : Bool), s x0 x1 x2 y0 = some r0 → ViewRet Try.prog T 89 [.agg [.v (.int .i64 x0) .no, .v (.bytes x1) .no, .v (.sl 62 x2) .no], .ptr 1 0 0] [⟨3, [.v (.int .i64 y0) .no]⟩] [.v (.bool r0) .no] [⟨3, [.v (.int .i64 y0) .no]⟩]) : MEntOK Try.prog T ⟨89, e_valid1 s⟩ := by
  refine ⟨go_valid1, fun R dst ds m K r h => ?_⟩
  simp only [e_valid1] at h
  split at h
  · obtain ⟨Bs, a1, a2, a3, h⟩ := viewK_some h
    split at h
    · obtain ⟨r0, h1, h2⟩ := bnd1_some h
      rw [putAllK_eq] at h2
      exact ⟨_, _, h2, hs _ _ _ _ _ h1 _ _ m dst a1 a2 a3 ⟨aren_agg ⟨aren_v _, aren_v _, aren_v _, trivial⟩, aren_ptr _ rfl, trivial⟩⟩
    · cases h
  · cases h
theorem co_valid1 (N : Nat) (f : List V → Int → Option (Bool)) (hf : ∀ (x0 : List V) (x1 : Int) (r0 : Bool), f x0 x1 = some r0 → PureRet Try.prog T 63 [.v (.sl 62 x0) .no, .v (.int .i64 x1) .no] [.v (.bool r0) .no]) : CxOK Try.prog (cx_valid1 N f) :=
  cxOK_of2 (es := [⟨90, e_Valid (s_Valid N)⟩, ⟨91, e_Constructed (s_Constructed N)⟩, ⟨63, e_valid f⟩]) (me := []) (ms := []) T_ok ⟨eo_Valid _ (p_Valid N), eo_Constructed _ (p_Constructed N), eo_valid f hf, trivial⟩ trivial trivial rfl (fun _ _ _ _ => rfl) (fun _ _ _ _ _ _ => rfl) rfl
theorem lo_valid1 (N : Nat) (f : List V → Int → Option (Bool)) : LoopsOK (cx_valid1 N f) Try.f89.ntmps (bodyOf Try.f89) :=
  loopsOK_of (k := 0) (by kernel_rfl) trivial
open Classical in
theorem p_valid1 (N : Nat) (f : List V → Int → Option (Bool)) (hf : ∀ (x0 : List V) (x1 : Int) (r0 : Bool), f x0 x1 = some r0 → PureRet Try.prog T 63 [.v (.sl 62 x0) .no, .v (.int .i64 x1) .no] [.v (.bool r0) .no]) (x0 : Int) (x1 : List UInt8) (x2 : List V) (y0 : Int) (r0 : Bool) (h : s_valid1 N f x0 x1 x2 y0 = some r0) : ViewRet Try.prog T 89 [.agg [.v (.int .i64 x0) .no, .v (.bytes x1) .no, .v (.sl 62 x2) .no], .ptr 1 0 0] [⟨3, [.v (.int .i64 y0) .no]⟩] [.v (.bool r0) .no] [⟨3, [.v (.int .i64 y0) .no]⟩] := by
  refine view_of (Bs := [⟨3, [.v (.int .i64 y0) .no]⟩]) (Bs' := [⟨3, [.v (.int .i64 y0) .no]⟩]) (cx := cx_valid1 N f) (by kernel_rfl) (co_valid1 N f hf) Try.func89 (by kernel_rfl) (by kernel_rfl) (lo_valid1 N f) rfl rfl rfl rfl (rf := r_valid1 (fun r0' z'0 => if z'0 = y0 then some r0' else none)) (r := r0) ?_ ?_
  · exact (C_valid1_ok N f x0 x1 x2 y0 _).trans ((congrArg (fun K => C_valid1 N f x0 x1 x2 y0 K) (funext fun r0' => if_pos rfl)).trans h)
  · intro rs' m' hx
    unfold r_valid1 at hx
    split at hx
    · dsimp only at hx
      split at hx
      · rename_i hk
        subst hk
        cases hx; exact ⟨rfl, rfl, _, rfl⟩
      · cases hx
    · cases hx
noncomputable def e_IndexFuncV {R : Type} (s : List V → Int → Option (Int)) (dst : Nat) (ds : List D) (m : Mem) (K : List D → Mem → Option R) : Option R :=
  match ds with
  | [.v (.sl 62 x0) .no, .clos 89 [.ptr (kv0 + 1) sv0 0]] => viewK [(kv0, sv0)] m fun Bs => (match Bs with
    | [⟨3, [.v (.int .i64 y0) .no]⟩] => bnd1 (s x0 y0) fun r0 => putAllK [(kv0, sv0)] [⟨3, [.v (.int .i64 y0) .no]⟩] m fun m' => K [.v (.int .i64 r0) .no] m'
    | _ => none)
  | _ => none
noncomputable def r_IndexFuncV {α : Type} (K : Int → Int → Option α) (rs : List D) (m : Mem) : Option α :=
  match rs, m with
  | [.v (.int .i64 r0) _], [_, [(0, ⟨3, [.v (.int .i64 z0) .no]⟩)]] => K r0 z0
  | _, _ => none
noncomputable def F_IndexFuncV_2 {R : Type} (N : Nat) (f : List V → Int → Option (Bool)) (vs0 : List V) (n1 : Int) (n3 : Int) (Lq : Int → Option R) (K0 : Int → Option R) (K1 : Option R) (n2 : Int) : Option R :=
  br (decide (n2 < n1))
  (br (decide (0 ≤ n2) && decide (n2 < (↑vs0.length : Int)))
    (at? vs0 n2.toNat fun x0 =>
      x0.unAgg fun l1 =>
        unCons l1 fun x2 l3 =>
          V.unInt IntKind.i64 x2 fun n4 => unCons l3 fun x5 l6 => x5.unBytes fun l7 => unCons l6 fun x8 l9 => V.unSl 62 x8 fun l10 => unNil l9 (bnd1 (s_valid1 N f n4 l7 l10 n3) fun b11 => br b11 (K0 n2) (Lq (IntKind.i64.wrap (n2 + 1)))))
    none)
  K1
noncomputable def S_IndexFuncV_2 {R : Type} (N : Nat) (f : List V → Int → Option (Bool)) (vs0 : List V) (n1 : Int) (n3 : Int) : Nat → Int → (Int → Option R) → (Option R) → Option R
  | 0, _, _, _ => none
  | t + 1, n2, K0, K1 => F_IndexFuncV_2 N f vs0 n1 n3 (fun n2 => S_IndexFuncV_2 N f vs0 n1 n3 t n2 K0 K1) K0 K1 n2
noncomputable def l_IndexFuncV_2 {R : Type} (N : Nat) (f : List V → Int → Option (Bool)) (ds : List D) (m : Mem) (K : Ex → List D → Mem → Option R) : Option R :=
  match ds, m with
  | [(.v (.sl 62 vs0) .no), (.clos 89 [(.ptr 1 0 0)]), (.v (.int .i64 n1) .no), (.v (.int .i64 n2) .no)], [[], [(0, ⟨3, [(.v (.int .i64 n3) .no)]⟩)]] => S_IndexFuncV_2 N f vs0 n1 n3 N n2 (fun a0 => K .ret [(.v (.int .i64 a0) .no)] [[], [(0, ⟨3, [(.v (.int .i64 n3) .no)]⟩)]]) (K (.exit 0) [.any] [[], [(0, ⟨3, [(.v (.int .i64 n3) .no)]⟩)]])
  | _, _ => none
noncomputable def C_IndexFuncV {R : Type} (N : Nat) (f : List V → Int → Option (Bool)) (x0 : List V) (y0 : Int) (K0 : Int → Option R) : Option R :=
  S_IndexFuncV_2 N f x0 (↑x0.length : Int) y0 N 0 (fun n0 => K0 n0) (K0 (-1))
noncomputable def s_IndexFuncV (N : Nat) (f : List V → Int → Option (Bool)) (x0 : List V) (y0 : Int) : Option (Int) :=
  C_IndexFuncV N f x0 y0 (fun r0 => some r0)
noncomputable def cx_IndexFuncV (N : Nat) (f : List V → Int → Option (Bool)) : Cx := { T := T, isPure := tabP [], pureK := fun g ds K => tabK [] g ds K, memK := fun g dst ds m K => tabMK [⟨89, e_valid1 (s_valid1 N f)⟩] g dst ds m K, meth := tabM [], keep := fun r => match r with | 2 => [0, 1, 7, 8] | _ => [], keepX := fun r => match r with | 2 => [4] | _ => [], loopT := fun r ds m K => match r with | 2 => l_IndexFuncV_2 N f ds m K | _ => none, jumps := 9 }
theorem F_IndexFuncV_2_ok {R : Type} (N : Nat) (f : List V → Int → Option (Bool)) (vs0 : List V) (n1 : Int) (n3 : Int) (n2 : Int) (L : List D → Mem → Option R) (K : Ex → List D → Mem → Option R) :
    roundK (fun st K => codeK (cx_IndexFuncV N f) (loopN Try.f110 0) st K) 19 [0, 1, 7, 8] [4] L [(.v (.sl 62 vs0) .no), (.clos 89 [(.ptr 1 0 0)]), (.v (.int .i64 n1) .no), (.v (.int .i64 n2) .no)] [[], [(0, ⟨3, [(.v (.int .i64 n3) .no)]⟩)]] K = F_IndexFuncV_2 N f vs0 n1 n3 (fun n2 => L [(.v (.sl 62 vs0) .no), (.clos 89 [(.ptr 1 0 0)]), (.v (.int .i64 n1) .no), (.v (.int .i64 n2) .no)] [[], [(0, ⟨3, [(.v (.int .i64 n3) .no)]⟩)]]) (fun a0 => K .ret [(.v (.int .i64 a0) .no)] [[], [(0, ⟨3, [(.v (.int .i64 n3) .no)]⟩)]]) (K (.exit 0) [.any] [[], [(0, ⟨3, [(.v (.int .i64 n3) .no)]⟩)]]) n2 := by
  kernel_rfl
theorem S_IndexFuncV_2_ok {R : Type} (N : Nat) (f : List V → Int → Option (Bool)) (vs0 : List V) (n1 : Int) (n3 : Int) (K : Ex → List D → Mem → Option R) : ∀ (t : Nat) (n2 : Int),
    loopK (fun st K => codeK (cx_IndexFuncV N f) (loopN Try.f110 0) st K) 19 [0, 1, 7, 8] [4] t [(.v (.sl 62 vs0) .no), (.clos 89 [(.ptr 1 0 0)]), (.v (.int .i64 n1) .no), (.v (.int .i64 n2) .no)] [[], [(0, ⟨3, [(.v (.int .i64 n3) .no)]⟩)]] K = S_IndexFuncV_2 N f vs0 n1 n3 t n2 (fun a0 => K .ret [(.v (.int .i64 a0) .no)] [[], [(0, ⟨3, [(.v (.int .i64 n3) .no)]⟩)]]) (K (.exit 0) [.any] [[], [(0, ⟨3, [(.v (.int .i64 n3) .no)]⟩)]])
  | 0, n2 => rfl
  | t + 1, n2 => (F_IndexFuncV_2_ok N f vs0 n1 n3 n2 _ K).trans (congrArg (fun L => F_IndexFuncV_2 N f vs0 n1 n3 L (fun a0 => K .ret [(.v (.int .i64 a0) .no)] [[], [(0, ⟨3, [(.v (.int .i64 n3) .no)]⟩)]]) (K (.exit 0) [.any] [[], [(0, ⟨3, [(.v (.int .i64 n3) .no)]⟩)]]) n2) (funext fun n2 => S_IndexFuncV_2_ok N f vs0 n1 n3 K t n2))
theorem C_IndexFuncV_ok {R : Type} (N : Nat) (f : List V → Int → Option (Bool)) (x0 : List V) (y0 : Int) (K : Int → Int → Option R) : bodyK (cx_IndexFuncV N f) Try.f110 [.v (.sl 62 x0) .no, .clos 89 [.ptr 1 0 0]] [frOf 0 [⟨3, [.v (.int .i64 y0) .no]⟩]] (r_IndexFuncV K) = C_IndexFuncV N f x0 y0 (fun r0 => K r0 y0) := by
  kernel_rfl
theorem go_IndexFuncV : Goes Try.prog 110 := goes_of Try.func110 (by kernel_rfl) (c := bodyOf Try.f110) (by kernel_rfl)
theorem eo_IndexFuncV (s : List V → Int → Option (Int)) (hs : ∀ (x0 : List V) (y0 : Int) (r0 : Int), s x0 y0 = some r0 → ViewRet Try.prog T 110 [.v (.sl 62 x0) .no, .clos 89 [.ptr 1 0 0]] [⟨3, [.v (.int .i64 y0) .no]⟩] [.v (.int .i64 r0) .no] [⟨3, [.v (.int .i64 y0) .no]⟩]) : MEntOK Try.prog T ⟨110, e_IndexFuncV s⟩ := by
  refine ⟨go_IndexFuncV, fun R dst ds m K r h => ?_⟩
  simp only [e_IndexFuncV] at h
  split at h
  · obtain ⟨Bs, a1, a2, a3, h⟩ := viewK_some h
    split at h
    · obtain ⟨r0, h1, h2⟩ := bnd1_some h
      rw [putAllK_eq] at h2
      exact ⟨_, _, h2, hs _ _ _ h1 _ _ m dst a1 a2 a3 ⟨aren_v _, aren_clos ⟨aren_ptr _ rfl, trivial⟩, trivial⟩⟩
    · cases h
  · cases h
theorem co_IndexFuncV (N : Nat) (f : List V → Int → Option (Bool)) (hf : ∀ (x0 : List V) (x1 : Int) (r0 : Bool), f x0 x1 = some r0 → PureRet Try.prog T 63 [.v (.sl 62 x0) .no, .v (.int .i64 x1) .no] [.v (.bool r0) .no]) : CxOK Try.prog (cx_IndexFuncV N f) :=
  cxOK_of2 (es := []) (me := [⟨89, e_valid1 (s_valid1 N f)⟩]) (ms := []) T_ok trivial ⟨eo_valid1 _ (p_valid1 N f hf), trivial⟩ trivial rfl (fun _ _ _ _ => rfl) (fun _ _ _ _ _ _ => rfl) rfl
theorem lk_IndexFuncV_2 (N : Nat) (f : List V → Int → Option (Bool)) : LoopOK (cx_IndexFuncV N f) 19 (loopN Try.f110 0) := by
  refine loopOK_of (rid := 2) (by kernel_rfl) rfl rfl fun R ds m K r h => ?_
  have h : l_IndexFuncV_2 N f ds m K = some r := h
  unfold l_IndexFuncV_2 at h
  split at h
  · exact ⟨N, Eq.trans (S_IndexFuncV_2_ok ..) h⟩
  · cases h
theorem lo_IndexFuncV (N : Nat) (f : List V → Int → Option (Bool)) : LoopsOK (cx_IndexFuncV N f) Try.f110.ntmps (bodyOf Try.f110) :=
  loopsOK_of (k := 1) (by kernel_rfl) ⟨trivial, lk_IndexFuncV_2 N f⟩
open Classical in
theorem p_IndexFuncV (N : Nat) (f : List V → Int → Option (Bool)) (hf : ∀ (x0 : List V) (x1 : Int) (r0 : Bool), f x0 x1 = some r0 → PureRet Try.prog T 63 [.v (.sl 62 x0) .no, .v (.int .i64 x1) .no] [.v (.bool r0) .no]) (x0 : List V) (y0 : Int) (r0 : Int) (h : s_IndexFuncV N f x0 y0 = some r0) : ViewRet Try.prog T 110 [.v (.sl 62 x0) .no, .clos 89 [.ptr 1 0 0]] [⟨3, [.v (.int .i64 y0) .no]⟩] [.v (.int .i64 r0) .no] [⟨3, [.v (.int .i64 y0) .no]⟩] := by
  refine view_of (Bs := [⟨3, [.v (.int .i64 y0) .no]⟩]) (Bs' := [⟨3, [.v (.int .i64 y0) .no]⟩]) (cx := cx_IndexFuncV N f) (by kernel_rfl) (co_IndexFuncV N f hf) Try.func110 (by kernel_rfl) (by kernel_rfl) (lo_IndexFuncV N f) rfl rfl rfl rfl (rf := r_IndexFuncV (fun r0' z'0 => if z'0 = y0 then some r0' else none)) (r := r0) ?_ ?_
  · exact (C_IndexFuncV_ok N f x0 y0 _).trans ((congrArg (fun K => C_IndexFuncV N f x0 y0 K) (funext fun r0' => if_pos rfl)).trans h)
  · intro rs' m' hx
    unfold r_IndexFuncV at hx
    split at hx
    · dsimp only at hx
      split at hx
      · rename_i hk
        subst hk
        cases hx; exact ⟨rfl, rfl, _, rfl⟩
      · cases hx
    · cases hx
noncomputable def e_ContainsFuncV {R : Type} (s : List V → Int → Option (Bool)) (dst : Nat) (ds : List D) (m : Mem) (K : List D → Mem → Option R) : Option R :=
  match ds with
  | [.v (.sl 62 x0) .no, .clos 89 [.ptr (kv0 + 1) sv0 0]] => viewK [(kv0, sv0)] m fun Bs => (match Bs with
    | [⟨3, [.v (.int .i64 y0) .no]⟩] => bnd1 (s x0 y0) fun r0 => putAllK [(kv0, sv0)] [⟨3, [.v (.int .i64 y0) .no]⟩] m fun m' => K [.v (.bool r0) .no] m'
    | _ => none)
  | _ => none
noncomputable def r_ContainsFuncV {α : Type} (K : Bool → Int → Option α) (rs : List D) (m : Mem) : Option α :=
  match rs, m with
  | [.v (.bool r0) _], [_, [(0, ⟨3, [.v (.int .i64 z0) .no]⟩)]] => K r0 z0
  | _, _ => none
noncomputable def C_ContainsFuncV {R : Type} (N : Nat) (f : List V → Int → Option (Bool)) (x0 : List V) (y0 : Int) (K0 : Bool → Option R) : Option R :=
  bnd1 (s_IndexFuncV N f x0 y0) fun n0 => K0 (decide (0 ≤ n0))
noncomputable def s_ContainsFuncV (N : Nat) (f : List V → Int → Option (Bool)) (x0 : List V) (y0 : Int) : Option (Bool) :=
  C_ContainsFuncV N f x0 y0 (fun r0 => some r0)
noncomputable def cx_ContainsFuncV (N : Nat) (f : List V → Int → Option (Bool)) : Cx := { T := T, isPure := tabP [], pureK := fun g ds K => tabK [] g ds K, memK := fun g dst ds m K => tabMK [⟨110, e_IndexFuncV (s_IndexFuncV N f)⟩] g dst ds m K, meth := tabM [], keep := fun _ => [], keepX := fun _ => [], loopT := fun _ _ _ _ => none, jumps := 9 }
theorem C_ContainsFuncV_ok {R : Type} (N : Nat) (f : List V → Int → Option (Bool)) (x0 : List V) (y0 : Int) (K : Bool → Int → Option R) : bodyK (cx_ContainsFuncV N f) Try.f88 [.v (.sl 62 x0) .no, .clos 89 [.ptr 1 0 0]] [frOf 0 [⟨3, [.v (.int .i64 y0) .no]⟩]] (r_ContainsFuncV K) = C_ContainsFuncV N f x0 y0 (fun r0 => K r0 y0) := by
  kernel_rfl
theorem go_ContainsFuncV : Goes Try.prog 88 := goes_of Try.func88 (by kernel_rfl) (c := bodyOf Try.f88) (by kernel_rfl)
theorem eo_ContainsFuncV (s : List V → Int → Option (Bool)) (hs : ∀ (x0 : List V) (y0 : Int) (r0 : Bool), s x0 y0 = some r0 → ViewRet Try.prog T 88 [.v (.sl 62 x0) .no, .clos 89 [.ptr 1 0 0]] [⟨3, [.v (.int .i64 y0) .no]⟩] [.v (.bool r0) .no] [⟨3, [.v (.int .i64 y0) .no]⟩]) : MEntOK Try.prog T ⟨88, e_ContainsFuncV s⟩ := by
  refine ⟨go_ContainsFuncV, fun R dst ds m K r h => ?_⟩
  simp only [e_ContainsFuncV] at h
  split at h
  · obtain ⟨Bs, a1, a2, a3, h⟩ := viewK_some h
    split at h
    · obtain ⟨r0, h1, h2⟩ := bnd1_some h
      rw [putAllK_eq] at h2
      exact ⟨_, _, h2, hs _ _ _ h1 _ _ m dst a1 a2 a3 ⟨aren_v _, aren_clos ⟨aren_ptr _ rfl, trivial⟩, trivial⟩⟩
    · cases h
  · cases h
theorem co_ContainsFuncV (N : Nat) (f : List V → Int → Option (Bool)) (hf : ∀ (x0 : List V) (x1 : Int) (r0 : Bool), f x0 x1 = some r0 → PureRet Try.prog T 63 [.v (.sl 62 x0) .no, .v (.int .i64 x1) .no] [.v (.bool r0) .no]) : CxOK Try.prog (cx_ContainsFuncV N f) :=
  cxOK_of2 (es := []) (me := [⟨110, e_IndexFuncV (s_IndexFuncV N f)⟩]) (ms := []) T_ok trivial ⟨eo_IndexFuncV _ (p_IndexFuncV N f hf), trivial⟩ trivial rfl (fun _ _ _ _ => rfl) (fun _ _ _ _ _ _ => rfl) rfl
theorem lo_ContainsFuncV (N : Nat) (f : List V → Int → Option (Bool)) : LoopsOK (cx_ContainsFuncV N f) Try.f88.ntmps (bodyOf Try.f88) :=
  loopsOK_of (k := 0) (by kernel_rfl) trivial
open Classical in
theorem p_ContainsFuncV (N : Nat) (f : List V → Int → Option (Bool)) (hf : ∀ (x0 : List V) (x1 : Int) (r0 : Bool), f x0 x1 = some r0 → PureRet Try.prog T 63 [.v (.sl 62 x0) .no, .v (.int .i64 x1) .no] [.v (.bool r0) .no]) (x0 : List V) (y0 : Int) (r0 : Bool) (h : s_ContainsFuncV N f x0 y0 = some r0) : ViewRet Try.prog T 88 [.v (.sl 62 x0) .no, .clos 89 [.ptr 1 0 0]] [⟨3, [.v (.int .i64 y0) .no]⟩] [.v (.bool r0) .no] [⟨3, [.v (.int .i64 y0) .no]⟩] := by
  refine view_of (Bs := [⟨3, [.v (.int .i64 y0) .no]⟩]) (Bs' := [⟨3, [.v (.int .i64 y0) .no]⟩]) (cx := cx_ContainsFuncV N f) (by kernel_rfl) (co_ContainsFuncV N f hf) Try.func88 (by kernel_rfl) (by kernel_rfl) (lo_ContainsFuncV N f) rfl rfl rfl rfl (rf := r_ContainsFuncV (fun r0' z'0 => if z'0 = y0 then some r0' else none)) (r := r0) ?_ ?_
  · exact (C_ContainsFuncV_ok N f x0 y0 _).trans ((congrArg (fun K => C_ContainsFuncV N f x0 y0 K) (funext fun r0' => if_pos rfl)).trans h)
  · intro rs' m' hx
    unfold r_ContainsFuncV at hx
    split at hx
    · dsimp only at hx
      split at hx
      · rename_i hk
        subst hk
        cases hx; exact ⟨rfl, rfl, _, rfl⟩
      · cases hx
    · cases hx
noncomputable def r_valid (rs : List D) (_ : Mem) : Option (Bool) :=
  match rs with
  | [.v (.bool r0) _] => some (r0)
  | _ => none
noncomputable def B_valid (N : Nat) (f : List V → Int → Option (Bool)) (x0 : List V) (x1 : Int) : Option (Bool) :=
  bnd1 (s_ContainsFuncV N f x0 x1) fun b0 => some !b0
noncomputable def s_valid (N : Nat) : Nat → List V → Int → Option (Bool)
  | 0, _, _ => none
  | n + 1, x0, x1 => B_valid N (s_valid N n) x0 x1
noncomputable def cx_valid (N : Nat) (f : List V → Int → Option (Bool)) : Cx := { T := T, isPure := tabP [⟨63, e_valid f⟩], pureK := fun g ds K => tabK [⟨63, e_valid f⟩] g ds K, memK := fun g dst ds m K => tabMK [⟨88, e_ContainsFuncV (s_ContainsFuncV N f)⟩, ⟨89, e_valid1 (s_valid1 N f)⟩] g dst ds m K, meth := tabM [], keep := fun _ => [], keepX := fun _ => [], loopT := fun _ _ _ _ => none, jumps := 9 }
theorem B_valid_ok (N : Nat) (f : List V → Int → Option (Bool)) (x0 : List V) (x1 : Int) : bodyK (cx_valid N f) Try.f63 [.v (.sl 62 x0) .no, .v (.int .i64 x1) .no] [] r_valid = B_valid N f x0 x1 := by
  kernel_rfl
theorem co_valid (N : Nat) (f : List V → Int → Option (Bool)) (hf : ∀ (x0 : List V) (x1 : Int) (r0 : Bool), f x0 x1 = some r0 → PureRet Try.prog T 63 [.v (.sl 62 x0) .no, .v (.int .i64 x1) .no] [.v (.bool r0) .no]) : CxOK Try.prog (cx_valid N f) :=
  cxOK_of2 (es := [⟨63, e_valid f⟩]) (me := [⟨88, e_ContainsFuncV (s_ContainsFuncV N f)⟩, ⟨89, e_valid1 (s_valid1 N f)⟩]) (ms := []) T_ok ⟨eo_valid f hf, trivial⟩ ⟨eo_ContainsFuncV _ (p_ContainsFuncV N f hf), eo_valid1 _ (p_valid1 N f hf), trivial⟩ trivial rfl (fun _ _ _ _ => rfl) (fun _ _ _ _ _ _ => rfl) rfl
theorem lo_valid (N : Nat) (f : List V → Int → Option (Bool)) : LoopsOK (cx_valid N f) Try.f63.ntmps (bodyOf Try.f63) :=
  loopsOK_of (k := 0) (by kernel_rfl) trivial
theorem p_valid (N : Nat) : ∀ (M : Nat) (x0 : List V) (x1 : Int) (r0 : Bool), s_valid N M x0 x1 = some r0 → PureRet Try.prog T 63 [.v (.sl 62 x0) .no, .v (.int .i64 x1) .no] [.v (.bool r0) .no]
  | 0, _, _, _, h => by cases h
  | M + 1, x0, x1, r0, h => pure_of (cx := cx_valid N (s_valid N M)) (by kernel_rfl) (co_valid N (s_valid N M) (p_valid N M)) Try.func63 (by kernel_rfl) (by kernel_rfl) (lo_valid N (s_valid N M)) rfl rfl rfl (rf := r_valid) ((B_valid_ok N (s_valid N M) x0 x1).trans h) (fun rs' m h => by
    unfold r_valid at h
    split at h
    · cases h; exact ⟨rfl, rfl⟩
    · cases h)
noncomputable def e_size {R : Type} (s : List V → Option (Int)) (ds : List D) (K : List D → Option R) : Option R :=
  match ds with
  | [.v (.sl 62 x0) .no] => bnd1 (s x0) fun r0 => K [.v (.int .i64 r0) .no]
  | _ => none
noncomputable def r_size (rs : List D) (_ : Mem) : Option (Int) :=
  match rs with
  | [.v (.int .i64 r0) _] => some (r0)
  | _ => none
noncomputable def F_size_3 {R : Type} (N : Nat) (f : List V → Option (Int)) (vs1 : List V) (n2 : Int) (Lq : Int → Int → Option R) (K0 : Int → Option R) (n0 : Int) (n3 : Int) : Option R :=
  br (decide (n3 < n2))
  (br (decide (0 ≤ n3) && decide (n3 < (↑vs1.length : Int)))
    (at? vs1 n3.toNat fun x0 =>
      x0.unAgg fun l1 =>
        unCons l1 fun x2 l3 =>
          V.unInt IntKind.i64 x2 fun n4 =>
            unCons l3 fun x5 l6 =>
              x5.unBytes fun l7 =>
                unCons l6 fun x8 l9 =>
                  V.unSl 62 x8 fun l10 =>
                    unNil l9
                      (bnd1 (f l10) fun n11 =>
                        bnd1 (s_tagBytes N n4) fun l12 =>
                          bnd1 (s_lengthBytes N (IntKind.i64.wrap ((↑l7.length : Int) + n11))) fun l13 =>
                            br (decide (4096 < IntKind.i64.wrap (n0 + IntKind.i64.wrap (IntKind.i64.wrap ((↑l12.length : Int) + (↑l13.length : Int)) + IntKind.i64.wrap ((↑l7.length : Int) + n11)))))
                              (K0 (IntKind.i64.wrap (n0 + IntKind.i64.wrap (IntKind.i64.wrap ((↑l12.length : Int) + (↑l13.length : Int)) + IntKind.i64.wrap ((↑l7.length : Int) + n11)))))
                              (Lq (IntKind.i64.wrap (n0 + IntKind.i64.wrap (IntKind.i64.wrap ((↑l12.length : Int) + (↑l13.length : Int)) + IntKind.i64.wrap ((↑l7.length : Int) + n11)))) (IntKind.i64.wrap (n3 + 1)))))
    none)
  (K0 n0)
noncomputable def S_size_3 {R : Type} (N : Nat) (f : List V → Option (Int)) (vs1 : List V) (n2 : Int) : Nat → Int → Int → (Int → Option R) → Option R
  | 0, _, _, _ => none
  | t + 1, n0, n3, K0 => F_size_3 N f vs1 n2 (fun n0 n3 => S_size_3 N f vs1 n2 t n0 n3 K0) K0 n0 n3
noncomputable def l_size_3 {R : Type} (N : Nat) (f : List V → Option (Int)) (ds : List D) (m : Mem) (K : Ex → List D → Mem → Option R) : Option R :=
  match ds, m with
  | [(.v (.int .i64 n0) .no), (.v (.sl 62 vs1) .no), (.v (.int .i64 n2) .no), (.v (.int .i64 n3) .no)], [[]] => S_size_3 N f vs1 n2 N n0 n3 (fun a0 => K (.exit 0) [(.v (.int .i64 a0) .no)] [[]])
  | _, _ => none
noncomputable def B_size (N : Nat) (f : List V → Option (Int)) (x0 : List V) : Option (Int) :=
  S_size_3 N f x0 (↑x0.length : Int) N 0 0 fun n0 => some n0
noncomputable def s_size (N : Nat) : Nat → List V → Option (Int)
  | 0, _ => none
  | n + 1, x0 => B_size N (s_size N n) x0
noncomputable def cx_size (N : Nat) (f : List V → Option (Int)) : Cx := { T := T, isPure := tabP [⟨64, e_size f⟩, ⟨92, e_tagBytes (s_tagBytes N)⟩, ⟨93, e_lengthBytes (s_lengthBytes N)⟩], pureK := fun g ds K => tabK [⟨64, e_size f⟩, ⟨92, e_tagBytes (s_tagBytes N)⟩, ⟨93, e_lengthBytes (s_lengthBytes N)⟩] g ds K, memK := fun g dst ds m K => tabMK [] g dst ds m K, meth := tabM [], keep := fun r => match r with | 3 => [3, 7, 8, 9] | _ => [], keepX := fun r => match r with | 3 => [3] | _ => [], loopT := fun r ds m K => match r with | 3 => l_size_3 N f ds m K | _ => none, jumps := 9 }
theorem F_size_3_ok {R : Type} (N : Nat) (f : List V → Option (Int)) (vs1 : List V) (n2 : Int) (n0 : Int) (n3 : Int) (L : List D → Mem → Option R) (K : Ex → List D → Mem → Option R) :
    roundK (fun st K => codeK (cx_size N f) (loopN Try.f64 0) st K) 36 [3, 7, 8, 9] [3] L [(.v (.int .i64 n0) .no), (.v (.sl 62 vs1) .no), (.v (.int .i64 n2) .no), (.v (.int .i64 n3) .no)] [[]] K = F_size_3 N f vs1 n2 (fun n0 n3 => L [(.v (.int .i64 n0) .no), (.v (.sl 62 vs1) .no), (.v (.int .i64 n2) .no), (.v (.int .i64 n3) .no)] [[]]) (fun a0 => K (.exit 0) [(.v (.int .i64 a0) .no)] [[]]) n0 n3 := by
  kernel_rfl
theorem S_size_3_ok {R : Type} (N : Nat) (f : List V → Option (Int)) (vs1 : List V) (n2 : Int) (K : Ex → List D → Mem → Option R) : ∀ (t : Nat) (n0 : Int) (n3 : Int),
    loopK (fun st K => codeK (cx_size N f) (loopN Try.f64 0) st K) 36 [3, 7, 8, 9] [3] t [(.v (.int .i64 n0) .no), (.v (.sl 62 vs1) .no), (.v (.int .i64 n2) .no), (.v (.int .i64 n3) .no)] [[]] K = S_size_3 N f vs1 n2 t n0 n3 (fun a0 => K (.exit 0) [(.v (.int .i64 a0) .no)] [[]])
  | 0, n0, n3 => rfl
  | t + 1, n0, n3 => (F_size_3_ok N f vs1 n2 n0 n3 _ K).trans (congrArg (fun L => F_size_3 N f vs1 n2 L (fun a0 => K (.exit 0) [(.v (.int .i64 a0) .no)] [[]]) n0 n3) (funext fun n0 => funext fun n3 => S_size_3_ok N f vs1 n2 K t n0 n3))
theorem B_size_ok (N : Nat) (f : List V → Option (Int)) (x0 : List V) : bodyK (cx_size N f) Try.f64 [.v (.sl 62 x0) .no] [] r_size = B_size N f x0 := by
  kernel_rfl
theorem go_size : Goes Try.prog 64 := goes_of Try.func64 (by kernel_rfl) (c := bodyOf Try.f64) (by kernel_rfl)
theorem eo_size (s : List V → Option (Int)) (hs : ∀ (x0 : List V) (r0 : Int), s x0 = some r0 → PureRet Try.prog T 64 [.v (.sl 62 x0) .no] [.v (.int .i64 r0) .no]) : EntOK Try.prog T ⟨64, e_size s⟩ := by
  refine ⟨go_size, fun R ds K r h => ?_, fun R ds K => ?_⟩
  · simp only [e_size] at h
    split at h
    · obtain ⟨r0, h1, h2⟩ := bnd1_some h
      exact ⟨_, h2, hs _ _ h1⟩
    · cases h
  · simp only [e_size]
    split
    · rw [bnd1_b]; rfl
    · rfl
theorem co_size (N : Nat) (f : List V → Option (Int)) (hf : ∀ (x0 : List V) (r0 : Int), f x0 = some r0 → PureRet Try.prog T 64 [.v (.sl 62 x0) .no] [.v (.int .i64 r0) .no]) : CxOK Try.prog (cx_size N f) :=
  cxOK_of2 (es := [⟨64, e_size f⟩, ⟨92, e_tagBytes (s_tagBytes N)⟩, ⟨93, e_lengthBytes (s_lengthBytes N)⟩]) (me := []) (ms := []) T_ok ⟨eo_size f hf, eo_tagBytes _ (p_tagBytes N), eo_lengthBytes _ (p_lengthBytes N), trivial⟩ trivial trivial rfl (fun _ _ _ _ => rfl) (fun _ _ _ _ _ _ => rfl) rfl
theorem lk_size_3 (N : Nat) (f : List V → Option (Int)) : LoopOK (cx_size N f) 36 (loopN Try.f64 0) := by
  refine loopOK_of (rid := 3) (by kernel_rfl) rfl rfl fun R ds m K r h => ?_
  have h : l_size_3 N f ds m K = some r := h
  unfold l_size_3 at h
  split at h
  · exact ⟨N, Eq.trans (S_size_3_ok ..) h⟩
  · cases h
theorem lo_size (N : Nat) (f : List V → Option (Int)) : LoopsOK (cx_size N f) Try.f64.ntmps (bodyOf Try.f64) :=
  loopsOK_of (k := 1) (by kernel_rfl) ⟨trivial, lk_size_3 N f⟩
theorem p_size (N : Nat) : ∀ (M : Nat) (x0 : List V) (r0 : Int), s_size N M x0 = some r0 → PureRet Try.prog T 64 [.v (.sl 62 x0) .no] [.v (.int .i64 r0) .no]
  | 0, _, _, h => by cases h
  | M + 1, x0, r0, h => pure_of (cx := cx_size N (s_size N M)) (by kernel_rfl) (co_size N (s_size N M) (p_size N M)) Try.func64 (by kernel_rfl) (by kernel_rfl) (lo_size N (s_size N M)) rfl rfl rfl (rf := r_size) ((B_size_ok N (s_size N M) x0).trans h) (fun rs' m h => by
    unfold r_size at h
    split at h
    · cases h; exact ⟨rfl, rfl⟩
    · cases h)
noncomputable def e_clone {R : Type} (s : List UInt8 → Option (List UInt8)) (ds : List D) (K : List D → Option R) : Option R :=
  match ds with
  | [.v (.bytes x0) .no] => bnd1 (s x0) fun r0 => K [.v (.bytes r0) .no]
  | _ => none
theorem go_clone : Goes Try.prog 61 := goes_of Try.func61 (by kernel_rfl) (c := bodyOf Try.f61) (by kernel_rfl)
theorem eo_clone (s : List UInt8 → Option (List UInt8)) (hs : ∀ (x0 : List UInt8) (r0 : List UInt8), s x0 = some r0 → PureRet Try.prog T 61 [.v (.bytes x0) .no] [.v (.bytes r0) .no]) : EntOK Try.prog T ⟨61, e_clone s⟩ := by
  refine ⟨go_clone, fun R ds K r h => ?_, fun R ds K => ?_⟩
  · simp only [e_clone] at h
    split at h
    · obtain ⟨r0, h1, h2⟩ := bnd1_some h
      exact ⟨_, h2, hs _ _ h1⟩
    · cases h
  · simp only [e_clone]
    split
    · rw [bnd1_b]; rfl
    · rfl
noncomputable def e_concat {R : Type} (s : List V → Option (List UInt8)) (ds : List D) (K : List D → Option R) : Option R :=
  match ds with
  | [.v (.sl 22 x0) .no] => bnd1 (s x0) fun r0 => K [.v (.bytes r0) .no]
  | _ => none
theorem go_concat : Goes Try.prog 94 := goes_of Try.func94 (by kernel_rfl) (c := bodyOf Try.f94) (by kernel_rfl)
theorem eo_concat (s : List V → Option (List UInt8)) (hs : ∀ (x0 : List V) (r0 : List UInt8), s x0 = some r0 → PureRet Try.prog T 94 [.v (.sl 22 x0) .no] [.v (.bytes r0) .no]) : EntOK Try.prog T ⟨94, e_concat s⟩ := by
  refine ⟨go_concat, fun R ds K r h => ?_, fun R ds K => ?_⟩
  · simp only [e_concat] at h
    split at h
    · obtain ⟨r0, h1, h2⟩ := bnd1_some h
      exact ⟨_, h2, hs _ _ h1⟩
    · cases h
  · simp only [e_concat]
    split
    · rw [bnd1_b]; rfl
    · rfl
noncomputable def e_encode {R : Type} (s : List V → Option (List UInt8)) (ds : List D) (K : List D → Option R) : Option R :=
  match ds with
  | [.v (.sl 62 x0) .no] => bnd1 (s x0) fun r0 => K [.v (.bytes r0) .no]
  | _ => none
noncomputable def r_encode (rs : List D) (_ : Mem) : Option (List UInt8) :=
  match rs with
  | [.v (.bytes r0) _] => some (r0)
  | _ => none
noncomputable def F_encode_3 {R : Type} (N : Nat) (f : List V → Option (List UInt8)) (vs1 : List V) (n2 : Int) (Lq : List UInt8 → Int → Option R) (K0 : List UInt8 → Option R) (l0 : List UInt8) (n3 : Int) : Option R :=
  br (decide (n3 < n2))
  (br (decide (0 ≤ n3) && decide (n3 < (↑vs1.length : Int)))
    (at? vs1 n3.toNat fun x0 =>
      x0.unAgg fun l1 =>
        unCons l1 fun x2 l3 =>
          V.unInt IntKind.i64 x2 fun n4 =>
            unCons l3 fun x5 l6 =>
              x5.unBytes fun l7 =>
                unCons l6 fun x8 l9 =>
                  V.unSl 62 x8 fun l10 =>
                    unNil l9
                      (bnd1 (s_Constructed N n4) fun b11 =>
                        br b11
                          (bnd1 (f l10) fun l12 =>
                            bnd1 (s_tagBytes N n4) fun l13 => bnd1 (s_lengthBytes N (↑l12.length : Int)) fun l14 => bnd1 (s_concat N [V.bytes l0, V.bytes l13, V.bytes l14, V.bytes l12]) fun l15 => Lq l15 (IntKind.i64.wrap (n3 + 1)))
                          (bnd1 (s_tagBytes N n4) fun l16 => bnd1 (s_lengthBytes N (↑l7.length : Int)) fun l17 => bnd1 (s_concat N [V.bytes l0, V.bytes l16, V.bytes l17, V.bytes l7]) fun l18 => Lq l18 (IntKind.i64.wrap (n3 + 1)))))
    none)
  (K0 l0)
noncomputable def S_encode_3 {R : Type} (N : Nat) (f : List V → Option (List UInt8)) (vs1 : List V) (n2 : Int) : Nat → List UInt8 → Int → (List UInt8 → Option R) → Option R
  | 0, _, _, _ => none
  | t + 1, l0, n3, K0 => F_encode_3 N f vs1 n2 (fun l0 n3 => S_encode_3 N f vs1 n2 t l0 n3 K0) K0 l0 n3
noncomputable def l_encode_3 {R : Type} (N : Nat) (f : List V → Option (List UInt8)) (ds : List D) (m : Mem) (K : Ex → List D → Mem → Option R) : Option R :=
  match ds, m with
  | [(.v (.bytes l0) .no), (.v (.sl 62 vs1) .no), (.v (.int .i64 n2) .no), (.v (.int .i64 n3) .no), .any], [[]] => S_encode_3 N f vs1 n2 N l0 n3 (fun a0 => K (.exit 0) [(.v (.bytes a0) .no)] [[]])
  | _, _ => none
noncomputable def B_encode (N : Nat) (f : List V → Option (List UInt8)) (x0 : List V) : Option (List UInt8) :=
  S_encode_3 N f x0 (↑x0.length : Int) N [] 0 fun l0 => some l0
noncomputable def s_encode (N : Nat) : Nat → List V → Option (List UInt8)
  | 0, _ => none
  | n + 1, x0 => B_encode N (s_encode N n) x0
noncomputable def cx_encode (N : Nat) (f : List V → Option (List UInt8)) : Cx := { T := T, isPure := tabP [⟨65, e_encode f⟩, ⟨91, e_Constructed (s_Constructed N)⟩, ⟨92, e_tagBytes (s_tagBytes N)⟩, ⟨93, e_lengthBytes (s_lengthBytes N)⟩, ⟨94, e_concat (s_concat N)⟩], pureK := fun g ds K => tabK [⟨65, e_encode f⟩, ⟨91, e_Constructed (s_Constructed N)⟩, ⟨92, e_tagBytes (s_tagBytes N)⟩, ⟨93, e_lengthBytes (s_lengthBytes N)⟩, ⟨94, e_concat (s_concat N)⟩] g ds K, memK := fun g dst ds m K => tabMK [] g dst ds m K, meth := tabM [], keep := fun r => match r with | 3 => [3, 7, 8, 9, 200003] | _ => [], keepX := fun r => match r with | 3 => [3] | _ => [], loopT := fun r ds m K => match r with | 3 => l_encode_3 N f ds m K | _ => none, jumps := 9 }
theorem F_encode_3_ok {R : Type} (N : Nat) (f : List V → Option (List UInt8)) (vs1 : List V) (n2 : Int) (l0 : List UInt8) (n3 : Int) (L : List D → Mem → Option R) (K : Ex → List D → Mem → Option R) :
    roundK (fun st K => codeK (cx_encode N f) (loopN Try.f65 0) st K) 33 [3, 7, 8, 9, 200003] [3] L [(.v (.bytes l0) .no), (.v (.sl 62 vs1) .no), (.v (.int .i64 n2) .no), (.v (.int .i64 n3) .no), .any] [[]] K = F_encode_3 N f vs1 n2 (fun l0 n3 => L [(.v (.bytes l0) .no), (.v (.sl 62 vs1) .no), (.v (.int .i64 n2) .no), (.v (.int .i64 n3) .no), .any] [[]]) (fun a0 => K (.exit 0) [(.v (.bytes a0) .no)] [[]]) l0 n3 := by
  kernel_rfl
theorem S_encode_3_ok {R : Type} (N : Nat) (f : List V → Option (List UInt8)) (vs1 : List V) (n2 : Int) (K : Ex → List D → Mem → Option R) : ∀ (t : Nat) (l0 : List UInt8) (n3 : Int),
    loopK (fun st K => codeK (cx_encode N f) (loopN Try.f65 0) st K) 33 [3, 7, 8, 9, 200003] [3] t [(.v (.bytes l0) .no), (.v (.sl 62 vs1) .no), (.v (.int .i64 n2) .no), (.v (.int .i64 n3) .no), .any] [[]] K = S_encode_3 N f vs1 n2 t l0 n3 (fun a0 => K (.exit 0) [(.v (.bytes a0) .no)] [[]])
  | 0, l0, n3 => rfl
  | t + 1, l0, n3 => (F_encode_3_ok N f vs1 n2 l0 n3 _ K).trans (congrArg (fun L => F_encode_3 N f vs1 n2 L (fun a0 => K (.exit 0) [(.v (.bytes a0) .no)] [[]]) l0 n3) (funext fun l0 => funext fun n3 => S_encode_3_ok N f vs1 n2 K t l0 n3))
theorem B_encode_ok (N : Nat) (f : List V → Option (List UInt8)) (x0 : List V) : bodyK (cx_encode N f) Try.f65 [.v (.sl 62 x0) .no] [] r_encode = B_encode N f x0 := by
  kernel_rfl
theorem go_encode : Goes Try.prog 65 := goes_of Try.func65 (by kernel_rfl) (c := bodyOf Try.f65) (by kernel_rfl)
theorem eo_encode (s : List V → Option (List UInt8)) (hs : ∀ (x0 : List V) (r0 : List UInt8), s x0 = some r0 → PureRet Try.prog T 65 [.v (.sl 62 x0) .no] [.v (.bytes r0) .no]) : EntOK Try.prog T ⟨65, e_encode s⟩ := by
  refine ⟨go_encode, fun R ds K r h => ?_, fun R ds K => ?_⟩
  · simp only [e_encode] at h
    split at h
    · obtain ⟨r0, h1, h2⟩ := bnd1_some h
      exact ⟨_, h2, hs _ _ h1⟩
    · cases h
  · simp only [e_encode]
    split
    · rw [bnd1_b]; rfl
    · rfl
theorem co_encode (N : Nat) (f : List V → Option (List UInt8)) (hf : ∀ (x0 : List V) (r0 : List UInt8), f x0 = some r0 → PureRet Try.prog T 65 [.v (.sl 62 x0) .no] [.v (.bytes r0) .no]) : CxOK Try.prog (cx_encode N f) :=
  cxOK_of2 (es := [⟨65, e_encode f⟩, ⟨91, e_Constructed (s_Constructed N)⟩, ⟨92, e_tagBytes (s_tagBytes N)⟩, ⟨93, e_lengthBytes (s_lengthBytes N)⟩, ⟨94, e_concat (s_concat N)⟩]) (me := []) (ms := []) T_ok ⟨eo_encode f hf, eo_Constructed _ (p_Constructed N), eo_tagBytes _ (p_tagBytes N), eo_lengthBytes _ (p_lengthBytes N), eo_concat _ (p_concat N), trivial⟩ trivial trivial rfl (fun _ _ _ _ => rfl) (fun _ _ _ _ _ _ => rfl) rfl
theorem lk_encode_3 (N : Nat) (f : List V → Option (List UInt8)) : LoopOK (cx_encode N f) 33 (loopN Try.f65 0) := by
  refine loopOK_of (rid := 3) (by kernel_rfl) rfl rfl fun R ds m K r h => ?_
  have h : l_encode_3 N f ds m K = some r := h
  unfold l_encode_3 at h
  split at h
  · exact ⟨N, Eq.trans (S_encode_3_ok ..) h⟩
  · cases h
theorem lo_encode (N : Nat) (f : List V → Option (List UInt8)) : LoopsOK (cx_encode N f) Try.f65.ntmps (bodyOf Try.f65) :=
  loopsOK_of (k := 1) (by kernel_rfl) ⟨trivial, lk_encode_3 N f⟩
theorem p_encode (N : Nat) : ∀ (M : Nat) (x0 : List V) (r0 : List UInt8), s_encode N M x0 = some r0 → PureRet Try.prog T 65 [.v (.sl 62 x0) .no] [.v (.bytes r0) .no]
  | 0, _, _, h => by cases h
  | M + 1, x0, r0, h => pure_of (cx := cx_encode N (s_encode N M)) (by kernel_rfl) (co_encode N (s_encode N M) (p_encode N M)) Try.func65 (by kernel_rfl) (by kernel_rfl) (lo_encode N (s_encode N M)) rfl rfl rfl (rf := r_encode) ((B_encode_ok N (s_encode N M) x0).trans h) (fun rs' m h => by
    unfold r_encode at h
    split at h
    · cases h; exact ⟨rfl, rfl⟩
    · cases h)
noncomputable def e_Encode {R : Type} (s : List V → Option (List UInt8 × Int)) (ds : List D) (K : List D → Option R) : Option R :=
  match ds with
  | [.v (.sl 62 x0) .no] => bnd2 (s x0) fun r0 r1 => K [.v (.bytes r0) .no, .v (.int .i64 r1) .no]
  | _ => none
noncomputable def r_Encode (rs : List D) (_ : Mem) : Option (List UInt8 × Int) :=
  match rs with
  | [.v (.bytes r0) _, .v (.int .i64 r1) _] => some (r0, r1)
  | _ => none
noncomputable def s_Encode (N : Nat) (x0 : List V) : Option (List UInt8 × Int) :=
  bnd1 (s_valid N N x0 1) fun b0 => br (!b0) (some ([], 1)) (bnd1 (s_size N N x0) fun n1 => br (decide (4096 < n1)) (some ([], 3)) (bnd1 (s_encode N N x0) fun l2 => some (l2, 0)))
noncomputable def cx_Encode (N : Nat) : Cx := { T := T, isPure := tabP [⟨63, e_valid (s_valid N N)⟩, ⟨64, e_size (s_size N N)⟩, ⟨65, e_encode (s_encode N N)⟩], pureK := fun g ds K => tabK [⟨63, e_valid (s_valid N N)⟩, ⟨64, e_size (s_size N N)⟩, ⟨65, e_encode (s_encode N N)⟩] g ds K, memK := fun g dst ds m K => tabMK [] g dst ds m K, meth := tabM [], keep := fun _ => [], keepX := fun _ => [], loopT := fun _ _ _ _ => none, jumps := 9 }
theorem s_Encode_ok (N : Nat) (x0 : List V) : bodyK (cx_Encode N) Try.f41 [.v (.sl 62 x0) .no] [] r_Encode = s_Encode N x0 := by
  kernel_rfl
theorem go_Encode : Goes Try.prog 41 := goes_of Try.func41 (by kernel_rfl) (c := bodyOf Try.f41) (by kernel_rfl)
theorem eo_Encode (s : List V → Option (List UInt8 × Int)) (hs : ∀ (x0 : List V) (r0 : List UInt8) (r1 : Int), s x0 = some (r0, r1) → PureRet Try.prog T 41 [.v (.sl 62 x0) .no] [.v (.bytes r0) .no, .v (.int .i64 r1) .no]) : EntOK Try.prog T ⟨41, e_Encode s⟩ := by
  refine ⟨go_Encode, fun R ds K r h => ?_, fun R ds K => ?_⟩
  · simp only [e_Encode] at h
    split at h
    · obtain ⟨r0, r1, h1, h2⟩ := bnd2_some h
      exact ⟨_, h2, hs _ _ _ h1⟩
    · cases h
  · simp only [e_Encode]
    split
    · rw [bnd2_b]; rfl
    · rfl
theorem co_Encode (N : Nat) : CxOK Try.prog (cx_Encode N) :=
  cxOK_of2 (es := [⟨63, e_valid (s_valid N N)⟩, ⟨64, e_size (s_size N N)⟩, ⟨65, e_encode (s_encode N N)⟩]) (me := []) (ms := []) T_ok ⟨eo_valid _ (p_valid N N), eo_size _ (p_size N N), eo_encode _ (p_encode N N), trivial⟩ trivial trivial rfl (fun _ _ _ _ => rfl) (fun _ _ _ _ _ _ => rfl) rfl
theorem lo_Encode (N : Nat) : LoopsOK (cx_Encode N) Try.f41.ntmps (bodyOf Try.f41) :=
  loopsOK_of (k := 0) (by kernel_rfl) trivial
theorem p_Encode (N : Nat) (x0 : List V) (r0 : List UInt8) (r1 : Int) (h : s_Encode N x0 = some (r0, r1)) : PureRet Try.prog T 41 [.v (.sl 62 x0) .no] [.v (.bytes r0) .no, .v (.int .i64 r1) .no] :=
  pure_of (cx := cx_Encode N) (by kernel_rfl) (co_Encode N) Try.func41 (by kernel_rfl) (by kernel_rfl) (lo_Encode N) rfl rfl rfl (rf := r_Encode) ((s_Encode_ok N x0).trans h) (fun rs' m h => by
    unfold r_Encode at h
    split at h
    · cases h; exact ⟨rfl, rfl⟩
    · cases h)
noncomputable def e_forms {R : Type} (s : Option Unit) (ds : List D) (K : List D → Option R) : Option R :=
  match ds with
  | [] => bnd1 s fun _ => K [D.agg
    [D.v (V.str ([110, 101, 118, 101, 114] : List UInt8)) Att.no, D.v (V.bool false) Att.no, D.v (V.bool false) Att.no, D.v (V.int IntKind.i64 0) Att.no, D.v (V.int IntKind.i64 0) Att.no, D.v (V.str ([97, 108, 119, 97, 121, 115] : List UInt8)) Att.no,
      D.v (V.bool false) Att.no, D.v (V.bool false) Att.no, D.v (V.int IntKind.i64 0) Att.no, D.v (V.int IntKind.i64 0) Att.no, D.v (V.str ([112, 105, 110] : List UInt8)) Att.no, D.v (V.bool true) Att.no, D.v (V.bool false) Att.no,
      D.v (V.int IntKind.i64 1) Att.no, D.v (V.int IntKind.i64 8) Att.no, D.v (V.str ([107, 101, 121] : List UInt8)) Att.no, D.v (V.bool true) Att.no, D.v (V.bool false) Att.no, D.v (V.int IntKind.i64 1) Att.no, D.v (V.int IntKind.i64 8) Att.no,
      D.v (V.str ([115, 116, 97, 116, 101] : List UInt8)) Att.no, D.v (V.bool true) Att.no, D.v (V.bool false) Att.no, D.v (V.int IntKind.i64 1) Att.no, D.v (V.int IntKind.i64 5) Att.no, D.v (V.str ([108, 101, 118, 101, 108] : List UInt8)) Att.no,
      D.v (V.bool true) Att.no, D.v (V.bool false) Att.no, D.v (V.int IntKind.i64 1) Att.no, D.v (V.int IntKind.i64 51) Att.no, D.v (V.str ([97, 110, 100] : List UInt8)) Att.no, D.v (V.bool false) Att.no, D.v (V.bool true) Att.no,
      D.v (V.int IntKind.i64 0) Att.no, D.v (V.int IntKind.i64 0) Att.no, D.v (V.str ([111, 114] : List UInt8)) Att.no, D.v (V.bool false) Att.no, D.v (V.bool true) Att.no, D.v (V.int IntKind.i64 0) Att.no, D.v (V.int IntKind.i64 0) Att.no]]
  | _ => none
noncomputable def s_forms (N : Nat) : Option Unit := some ()
noncomputable def cx_forms (N : Nat) : Cx := { T := T, isPure := tabP [], pureK := fun g ds K => tabK [] g ds K, memK := fun g dst ds m K => tabMK [] g dst ds m K, meth := tabM [], keep := fun _ => [], keepX := fun _ => [], loopT := fun _ _ _ _ => none, jumps := 9 }
theorem b_forms_ok {R : Type} (N : Nat) (K : List D → Mem → Option R) : bodyK (cx_forms N) Try.f103 [] [] K = K [D.agg
    [D.v (V.str ([110, 101, 118, 101, 114] : List UInt8)) Att.no, D.v (V.bool false) Att.no, D.v (V.bool false) Att.no, D.v (V.int IntKind.i64 0) Att.no, D.v (V.int IntKind.i64 0) Att.no, D.v (V.str ([97, 108, 119, 97, 121, 115] : List UInt8)) Att.no,
      D.v (V.bool false) Att.no, D.v (V.bool false) Att.no, D.v (V.int IntKind.i64 0) Att.no, D.v (V.int IntKind.i64 0) Att.no, D.v (V.str ([112, 105, 110] : List UInt8)) Att.no, D.v (V.bool true) Att.no, D.v (V.bool false) Att.no,
      D.v (V.int IntKind.i64 1) Att.no, D.v (V.int IntKind.i64 8) Att.no, D.v (V.str ([107, 101, 121] : List UInt8)) Att.no, D.v (V.bool true) Att.no, D.v (V.bool false) Att.no, D.v (V.int IntKind.i64 1) Att.no, D.v (V.int IntKind.i64 8) Att.no,
      D.v (V.str ([115, 116, 97, 116, 101] : List UInt8)) Att.no, D.v (V.bool true) Att.no, D.v (V.bool false) Att.no, D.v (V.int IntKind.i64 1) Att.no, D.v (V.int IntKind.i64 5) Att.no, D.v (V.str ([108, 101, 118, 101, 108] : List UInt8)) Att.no,
      D.v (V.bool true) Att.no, D.v (V.bool false) Att.no, D.v (V.int IntKind.i64 1) Att.no, D.v (V.int IntKind.i64 51) Att.no, D.v (V.str ([97, 110, 100] : List UInt8)) Att.no, D.v (V.bool false) Att.no, D.v (V.bool true) Att.no,
      D.v (V.int IntKind.i64 0) Att.no, D.v (V.int IntKind.i64 0) Att.no, D.v (V.str ([111, 114] : List UInt8)) Att.no, D.v (V.bool false) Att.no, D.v (V.bool true) Att.no, D.v (V.int IntKind.i64 0) Att.no, D.v (V.int IntKind.i64 0) Att.no]] [[(0,
      { ty := 114,
        cells :=
          [D.v (V.str ([110, 101, 118, 101, 114] : List UInt8)) Att.no, D.v (V.bool false) Att.no, D.v (V.bool false) Att.no, D.v (V.int IntKind.i64 0) Att.no, D.v (V.int IntKind.i64 0) Att.no, D.v (V.str ([97, 108, 119, 97, 121, 115] : List UInt8)) Att.no,
            D.v (V.bool false) Att.no, D.v (V.bool false) Att.no, D.v (V.int IntKind.i64 0) Att.no, D.v (V.int IntKind.i64 0) Att.no, D.v (V.str ([112, 105, 110] : List UInt8)) Att.no, D.v (V.bool true) Att.no, D.v (V.bool false) Att.no,
            D.v (V.int IntKind.i64 1) Att.no, D.v (V.int IntKind.i64 8) Att.no, D.v (V.str ([107, 101, 121] : List UInt8)) Att.no, D.v (V.bool true) Att.no, D.v (V.bool false) Att.no, D.v (V.int IntKind.i64 1) Att.no, D.v (V.int IntKind.i64 8) Att.no,
            D.v (V.str ([115, 116, 97, 116, 101] : List UInt8)) Att.no, D.v (V.bool true) Att.no, D.v (V.bool false) Att.no, D.v (V.int IntKind.i64 1) Att.no, D.v (V.int IntKind.i64 5) Att.no, D.v (V.str ([108, 101, 118, 101, 108] : List UInt8)) Att.no,
            D.v (V.bool true) Att.no, D.v (V.bool false) Att.no, D.v (V.int IntKind.i64 1) Att.no, D.v (V.int IntKind.i64 51) Att.no, D.v (V.str ([97, 110, 100] : List UInt8)) Att.no, D.v (V.bool false) Att.no, D.v (V.bool true) Att.no,
            D.v (V.int IntKind.i64 0) Att.no, D.v (V.int IntKind.i64 0) Att.no, D.v (V.str ([111, 114] : List UInt8)) Att.no, D.v (V.bool false) Att.no, D.v (V.bool true) Att.no, D.v (V.int IntKind.i64 0) Att.no, D.v (V.int IntKind.i64 0) Att.no] })]] := by
  kernel_rfl
theorem go_forms : Goes Try.prog 103 := goes_of Try.func103 (by kernel_rfl) (c := bodyOf Try.f103) (by kernel_rfl)
theorem co_forms (N : Nat) : CxOK Try.prog (cx_forms N) :=
  cxOK_of2 (es := []) (me := []) (ms := []) T_ok trivial trivial trivial rfl (fun _ _ _ _ => rfl) (fun _ _ _ _ _ _ => rfl) rfl
theorem lo_forms (N : Nat) : LoopsOK (cx_forms N) Try.f103.ntmps (bodyOf Try.f103) :=
  loopsOK_of (k := 0) (by kernel_rfl) trivial
open Classical in
theorem p_forms (N : Nat) : PureRet Try.prog T 103 [] [D.agg
    [D.v (V.str ([110, 101, 118, 101, 114] : List UInt8)) Att.no, D.v (V.bool false) Att.no, D.v (V.bool false) Att.no, D.v (V.int IntKind.i64 0) Att.no, D.v (V.int IntKind.i64 0) Att.no, D.v (V.str ([97, 108, 119, 97, 121, 115] : List UInt8)) Att.no,
      D.v (V.bool false) Att.no, D.v (V.bool false) Att.no, D.v (V.int IntKind.i64 0) Att.no, D.v (V.int IntKind.i64 0) Att.no, D.v (V.str ([112, 105, 110] : List UInt8)) Att.no, D.v (V.bool true) Att.no, D.v (V.bool false) Att.no,
      D.v (V.int IntKind.i64 1) Att.no, D.v (V.int IntKind.i64 8) Att.no, D.v (V.str ([107, 101, 121] : List UInt8)) Att.no, D.v (V.bool true) Att.no, D.v (V.bool false) Att.no, D.v (V.int IntKind.i64 1) Att.no, D.v (V.int IntKind.i64 8) Att.no,
      D.v (V.str ([115, 116, 97, 116, 101] : List UInt8)) Att.no, D.v (V.bool true) Att.no, D.v (V.bool false) Att.no, D.v (V.int IntKind.i64 1) Att.no, D.v (V.int IntKind.i64 5) Att.no, D.v (V.str ([108, 101, 118, 101, 108] : List UInt8)) Att.no,
      D.v (V.bool true) Att.no, D.v (V.bool false) Att.no, D.v (V.int IntKind.i64 1) Att.no, D.v (V.int IntKind.i64 51) Att.no, D.v (V.str ([97, 110, 100] : List UInt8)) Att.no, D.v (V.bool false) Att.no, D.v (V.bool true) Att.no,
      D.v (V.int IntKind.i64 0) Att.no, D.v (V.int IntKind.i64 0) Att.no, D.v (V.str ([111, 114] : List UInt8)) Att.no, D.v (V.bool false) Att.no, D.v (V.bool true) Att.no, D.v (V.int IntKind.i64 0) Att.no, D.v (V.int IntKind.i64 0) Att.no]] :=
  pure_of (cx := cx_forms N) (by kernel_rfl) (co_forms N) Try.func103 (by kernel_rfl) (by kernel_rfl) (lo_forms N) rfl rfl rfl (rf := fun rs _ => if rs = [D.agg
    [D.v (V.str ([110, 101, 118, 101, 114] : List UInt8)) Att.no, D.v (V.bool false) Att.no, D.v (V.bool false) Att.no, D.v (V.int IntKind.i64 0) Att.no, D.v (V.int IntKind.i64 0) Att.no, D.v (V.str ([97, 108, 119, 97, 121, 115] : List UInt8)) Att.no,
      D.v (V.bool false) Att.no, D.v (V.bool false) Att.no, D.v (V.int IntKind.i64 0) Att.no, D.v (V.int IntKind.i64 0) Att.no, D.v (V.str ([112, 105, 110] : List UInt8)) Att.no, D.v (V.bool true) Att.no, D.v (V.bool false) Att.no,
      D.v (V.int IntKind.i64 1) Att.no, D.v (V.int IntKind.i64 8) Att.no, D.v (V.str ([107, 101, 121] : List UInt8)) Att.no, D.v (V.bool true) Att.no, D.v (V.bool false) Att.no, D.v (V.int IntKind.i64 1) Att.no, D.v (V.int IntKind.i64 8) Att.no,
      D.v (V.str ([115, 116, 97, 116, 101] : List UInt8)) Att.no, D.v (V.bool true) Att.no, D.v (V.bool false) Att.no, D.v (V.int IntKind.i64 1) Att.no, D.v (V.int IntKind.i64 5) Att.no, D.v (V.str ([108, 101, 118, 101, 108] : List UInt8)) Att.no,
      D.v (V.bool true) Att.no, D.v (V.bool false) Att.no, D.v (V.int IntKind.i64 1) Att.no, D.v (V.int IntKind.i64 51) Att.no, D.v (V.str ([97, 110, 100] : List UInt8)) Att.no, D.v (V.bool false) Att.no, D.v (V.bool true) Att.no,
      D.v (V.int IntKind.i64 0) Att.no, D.v (V.int IntKind.i64 0) Att.no, D.v (V.str ([111, 114] : List UInt8)) Att.no, D.v (V.bool false) Att.no, D.v (V.bool true) Att.no, D.v (V.int IntKind.i64 0) Att.no, D.v (V.int IntKind.i64 0) Att.no]] then some () else none) (r := ()) ((b_forms_ok N _).trans (if_pos rfl)) (fun rs' m h => by
    split at h
    · rename_i e; subst e; exact ⟨by kernel_rfl, by kernel_rfl⟩
    · cases h)
theorem eo_forms (s : Option Unit) (hs : PureRet Try.prog T 103 [] [D.agg
    [D.v (V.str ([110, 101, 118, 101, 114] : List UInt8)) Att.no, D.v (V.bool false) Att.no, D.v (V.bool false) Att.no, D.v (V.int IntKind.i64 0) Att.no, D.v (V.int IntKind.i64 0) Att.no, D.v (V.str ([97, 108, 119, 97, 121, 115] : List UInt8)) Att.no,
      D.v (V.bool false) Att.no, D.v (V.bool false) Att.no, D.v (V.int IntKind.i64 0) Att.no, D.v (V.int IntKind.i64 0) Att.no, D.v (V.str ([112, 105, 110] : List UInt8)) Att.no, D.v (V.bool true) Att.no, D.v (V.bool false) Att.no,
      D.v (V.int IntKind.i64 1) Att.no, D.v (V.int IntKind.i64 8) Att.no, D.v (V.str ([107, 101, 121] : List UInt8)) Att.no, D.v (V.bool true) Att.no, D.v (V.bool false) Att.no, D.v (V.int IntKind.i64 1) Att.no, D.v (V.int IntKind.i64 8) Att.no,
      D.v (V.str ([115, 116, 97, 116, 101] : List UInt8)) Att.no, D.v (V.bool true) Att.no, D.v (V.bool false) Att.no, D.v (V.int IntKind.i64 1) Att.no, D.v (V.int IntKind.i64 5) Att.no, D.v (V.str ([108, 101, 118, 101, 108] : List UInt8)) Att.no,
      D.v (V.bool true) Att.no, D.v (V.bool false) Att.no, D.v (V.int IntKind.i64 1) Att.no, D.v (V.int IntKind.i64 51) Att.no, D.v (V.str ([97, 110, 100] : List UInt8)) Att.no, D.v (V.bool false) Att.no, D.v (V.bool true) Att.no,
      D.v (V.int IntKind.i64 0) Att.no, D.v (V.int IntKind.i64 0) Att.no, D.v (V.str ([111, 114] : List UInt8)) Att.no, D.v (V.bool false) Att.no, D.v (V.bool true) Att.no, D.v (V.int IntKind.i64 0) Att.no, D.v (V.int IntKind.i64 0) Att.no]]) : EntOK Try.prog T ⟨103, e_forms s⟩ := by
  refine ⟨go_forms, fun R ds K r h => ?_, fun R ds K => ?_⟩
  · simp only [e_forms] at h
    split at h
    · obtain ⟨_, h1, h2⟩ := bnd1_some h
      exact ⟨_, h2, hs⟩
    · cases h
  · simp only [e_forms]
    split
    · rw [bnd1_b]; rfl
    · rfl
noncomputable def e_avalid {R : Type} (s : Int → Int → List V → Int → Option (Bool)) (ds : List D) (K : List D → Option R) : Option R :=
  match ds with
  | [.agg [.v (.int .i64 x0) .no, .v (.int .i64 x1) .no, .v (.sl 46 x2) .no], .v (.int .i64 x3) .no] => bnd1 (s x0 x1 x2 x3) fun r0 => K [.v (.bool r0) .no]
  | _ => none
noncomputable def e_avalid1 {R : Type} (s : Int → Int → List V → Int → Option (Bool)) (dst : Nat) (ds : List D) (m : Mem) (K : List D → Mem → Option R) : Option R :=
  match ds with
  | [.agg [.v (.int .i64 x0) .no, .v (.int .i64 x1) .no, .v (.sl 46 x2) .no], .ptr (kv0 + 1) sv0 0] => viewK [(kv0, sv0)] m fun Bs => (match Bs with
    | [⟨3, [.v (.int .i64 y0) .no]⟩] => bnd1 (s x0 x1 x2 y0) fun r0 => putAllK [(kv0, sv0)] [⟨3, [.v (.int .i64 y0) .no]⟩] m fun m' => K [.v (.bool r0) .no] m'
    | _ => none)
  | _ => none
noncomputable def r_avalid1 {α : Type} (K : Bool → Int → Option α) (rs : List D) (m : Mem) : Option α :=
  match rs, m with
  | [.v (.bool r0) _], [_, [(0, ⟨3, [.v (.int .i64 z0) .no]⟩)]] => K r0 z0
  | _, _ => none
noncomputable def C_avalid1 {R : Type} (N : Nat) (f : Int → Int → List V → Int → Option (Bool)) (x0 : Int) (x1 : Int) (x2 : List V) (y0 : Int) (K0 : Bool → Option R) : Option R :=
  bnd1 (f x0 x1 x2 (IntKind.i64.wrap (y0 + 1))) fun b0 => K0 !b0
noncomputable def s_avalid1 (N : Nat) (f : Int → Int → List V → Int → Option (Bool)) (x0 : Int) (x1 : Int) (x2 : List V) (y0 : Int) : Option (Bool) :=
  C_avalid1 N f x0 x1 x2 y0 (fun r0 => some r0)
noncomputable def cx_avalid1 (N : Nat) (f : Int → Int → List V → Int → Option (Bool)) : Cx := { T := T, isPure := tabP [⟨81, e_avalid f⟩], pureK := fun g ds K => tabK [⟨81, e_avalid f⟩] g ds K, memK := fun g dst ds m K => tabMK [] g dst ds m K, meth := tabM [], keep := fun _ => [], keepX := fun _ => [], loopT := fun _ _ _ _ => none, jumps := 9 }
theorem C_avalid1_ok {R : Type} (N : Nat) (f : Int → Int → List V → Int → Option (Bool)) (x0 : Int) (x1 : Int) (x2 : List V) (y0 : Int) (K : Bool → Int → Option R) : bodyK (cx_avalid1 N f) Try.f108 [.agg [.v (.int .i64 x0) .no, .v (.int .i64 x1) .no, .v (.sl 46 x2) .no], .ptr 1 0 0] [frOf 0 [⟨3, [.v (.int .i64 y0) .no]⟩]] (r_avalid1 K) = C_avalid1 N f x0 x1 x2 y0 (fun r0 => K r0 y0) := by
  kernel_rfl
theorem go_avalid : Goes Try.prog 81 := goes_of Try.func81 (by kernel_rfl) (c := bodyOf Try.f81) (by kernel_rfl)
theorem eo_avalid (s : Int → Int → List V → Int → Option (Bool)) (hs : ∀ (x0 : Int) (x1 : Int) (x2 : List V) (x3 : Int) (r0 : Bool), s x0 x1 x2 x3 = some r0 → PureRet Try.prog T 81 [.agg [.v (.int .i64 x0) .no, .v (.int .i64 x1) .no, .v (.sl 46 x2) .no], .v (.int .i64 x3) .no] [.v (.bool r0) .no]) : EntOK Try.prog T ⟨81, e_avalid s⟩ := by
  refine ⟨go_avalid, fun R ds K r h => ?_, fun R ds K => ?_⟩
  · simp only [e_avalid] at h
    split at h
    · obtain ⟨r0, h1, h2⟩ := bnd1_some h
      exact ⟨_, h2, hs _ _ _ _ _ h1⟩
    · cases h
  · simp only [e_avalid]
    split
    · rw [bnd1_b]; rfl
    · rfl
theorem go_avalid1 : Goes Try.prog 108 := goes_of Try.func108 (by kernel_rfl) (c := bodyOf Try.f108) (by kernel_rfl)
theorem eo_avalid1 (s : Int → Int → List V → Int → Option (Bool)) (hs : ∀ (x0 : Int) (x1 : Int) (x2 : List V) (y0 : Int) (r0 : Bool), s x0 x1 x2 y0 = some r0 → ViewRet Try.prog T 108 [.agg [.v (.int .i64 x0) .no, .v (.int .i64 x1) .no, .v (.sl 46 x2) .no], .ptr 1 0 0] [⟨3, [.v (.int .i64 y0) .no]⟩] [.v (.bool r0) .no] [⟨3, [.v (.int .i64 y0) .no]⟩]) : MEntOK Try.prog T ⟨108, e_avalid1 s⟩ := by
  refine ⟨go_avalid1, fun R dst ds m K r h => ?_⟩
  simp only [e_avalid1] at h
  split at h
  · obtain ⟨Bs, a1, a2, a3, h⟩ := viewK_some h
    split at h
    · obtain ⟨r0, h1, h2⟩ := bnd1_some h
      rw [putAllK_eq] at h2
      exact ⟨_, _, h2, hs _ _ _ _ _ h1 _ _ m dst a1 a2 a3 ⟨aren_agg ⟨aren_v _, aren_v _, aren_v _, trivial⟩, aren_ptr _ rfl, trivial⟩⟩
    · cases h
  · cases h
theorem co_avalid1 (N : Nat) (f : Int → Int → List V → Int → Option (Bool)) (hf : ∀ (x0 : Int) (x1 : Int) (x2 : List V) (x3 : Int) (r0 : Bool), f x0 x1 x2 x3 = some r0 → PureRet Try.prog T 81 [.agg [.v (.int .i64 x0) .no, .v (.int .i64 x1) .no, .v (.sl 46 x2) .no], .v (.int .i64 x3) .no] [.v (.bool r0) .no]) : CxOK Try.prog (cx_avalid1 N f) :=
  cxOK_of2 (es := [⟨81, e_avalid f⟩]) (me := []) (ms := []) T_ok ⟨eo_avalid f hf, trivial⟩ trivial trivial rfl (fun _ _ _ _ => rfl) (fun _ _ _ _ _ _ => rfl) rfl
theorem lo_avalid1 (N : Nat) (f : Int → Int → List V → Int → Option (Bool)) : LoopsOK (cx_avalid1 N f) Try.f108.ntmps (bodyOf Try.f108) :=
  loopsOK_of (k := 0) (by kernel_rfl) trivial
open Classical in
theorem p_avalid1 (N : Nat) (f : Int → Int → List V → Int → Option (Bool)) (hf : ∀ (x0 : Int) (x1 : Int) (x2 : List V) (x3 : Int) (r0 : Bool), f x0 x1 x2 x3 = some r0 → PureRet Try.prog T 81 [.agg [.v (.int .i64 x0) .no, .v (.int .i64 x1) .no, .v (.sl 46 x2) .no], .v (.int .i64 x3) .no] [.v (.bool r0) .no]) (x0 : Int) (x1 : Int) (x2 : List V) (y0 : Int) (r0 : Bool) (h : s_avalid1 N f x0 x1 x2 y0 = some r0) : ViewRet Try.prog T 108 [.agg [.v (.int .i64 x0) .no, .v (.int .i64 x1) .no, .v (.sl 46 x2) .no], .ptr 1 0 0] [⟨3, [.v (.int .i64 y0) .no]⟩] [.v (.bool r0) .no] [⟨3, [.v (.int .i64 y0) .no]⟩] := by
  refine view_of (Bs := [⟨3, [.v (.int .i64 y0) .no]⟩]) (Bs' := [⟨3, [.v (.int .i64 y0) .no]⟩]) (cx := cx_avalid1 N f) (by kernel_rfl) (co_avalid1 N f hf) Try.func108 (by kernel_rfl) (by kernel_rfl) (lo_avalid1 N f) rfl rfl rfl rfl (rf := r_avalid1 (fun r0' z'0 => if z'0 = y0 then some r0' else none)) (r := r0) ?_ ?_
  · exact (C_avalid1_ok N f x0 x1 x2 y0 _).trans ((congrArg (fun K => C_avalid1 N f x0 x1 x2 y0 K) (funext fun r0' => if_pos rfl)).trans h)
  · intro rs' m' hx
    unfold r_avalid1 at hx
    split at hx
    · dsimp only at hx
      split at hx
      · rename_i hk
        subst hk
        cases hx; exact ⟨rfl, rfl, _, rfl⟩
      · cases hx
    · cases hx
noncomputable def e_IndexFuncA {R : Type} (s : List V → Int → Option (Int)) (dst : Nat) (ds : List D) (m : Mem) (K : List D → Mem → Option R) : Option R :=
  match ds with
  | [.v (.sl 46 x0) .no, .clos 108 [.ptr (kv0 + 1) sv0 0]] => viewK [(kv0, sv0)] m fun Bs => (match Bs with
    | [⟨3, [.v (.int .i64 y0) .no]⟩] => bnd1 (s x0 y0) fun r0 => putAllK [(kv0, sv0)] [⟨3, [.v (.int .i64 y0) .no]⟩] m fun m' => K [.v (.int .i64 r0) .no] m'
    | _ => none)
  | _ => none
noncomputable def r_IndexFuncA {α : Type} (K : Int → Int → Option α) (rs : List D) (m : Mem) : Option α :=
  match rs, m with
  | [.v (.int .i64 r0) _], [_, [(0, ⟨3, [.v (.int .i64 z0) .no]⟩)]] => K r0 z0
  | _, _ => none
noncomputable def F_IndexFuncA_2 {R : Type} (N : Nat) (f : Int → Int → List V → Int → Option (Bool)) (vs0 : List V) (n1 : Int) (n3 : Int) (Lq : Int → Option R) (K0 : Int → Option R) (K1 : Option R) (n2 : Int) : Option R :=
  br (decide (n2 < n1))
  (br (decide (0 ≤ n2) && decide (n2 < (↑vs0.length : Int)))
    (at? vs0 n2.toNat fun x0 =>
      x0.unAgg fun l1 =>
        unCons l1 fun x2 l3 =>
          V.unInt IntKind.i64 x2 fun n4 =>
            unCons l3 fun x5 l6 => V.unInt IntKind.i64 x5 fun n7 => unCons l6 fun x8 l9 => V.unSl 46 x8 fun l10 => unNil l9 (bnd1 (s_avalid1 N f n4 n7 l10 n3) fun b11 => br b11 (K0 n2) (Lq (IntKind.i64.wrap (n2 + 1)))))
    none)
  K1
noncomputable def S_IndexFuncA_2 {R : Type} (N : Nat) (f : Int → Int → List V → Int → Option (Bool)) (vs0 : List V) (n1 : Int) (n3 : Int) : Nat → Int → (Int → Option R) → (Option R) → Option R
  | 0, _, _, _ => none
  | t + 1, n2, K0, K1 => F_IndexFuncA_2 N f vs0 n1 n3 (fun n2 => S_IndexFuncA_2 N f vs0 n1 n3 t n2 K0 K1) K0 K1 n2
noncomputable def l_IndexFuncA_2 {R : Type} (N : Nat) (f : Int → Int → List V → Int → Option (Bool)) (ds : List D) (m : Mem) (K : Ex → List D → Mem → Option R) : Option R :=
  match ds, m with
  | [(.v (.sl 46 vs0) .no), (.clos 108 [(.ptr 1 0 0)]), (.v (.int .i64 n1) .no), (.v (.int .i64 n2) .no)], [[], [(0, ⟨3, [(.v (.int .i64 n3) .no)]⟩)]] => S_IndexFuncA_2 N f vs0 n1 n3 N n2 (fun a0 => K .ret [(.v (.int .i64 a0) .no)] [[], [(0, ⟨3, [(.v (.int .i64 n3) .no)]⟩)]]) (K (.exit 0) [.any] [[], [(0, ⟨3, [(.v (.int .i64 n3) .no)]⟩)]])
  | _, _ => none
noncomputable def C_IndexFuncA {R : Type} (N : Nat) (f : Int → Int → List V → Int → Option (Bool)) (x0 : List V) (y0 : Int) (K0 : Int → Option R) : Option R :=
  S_IndexFuncA_2 N f x0 (↑x0.length : Int) y0 N 0 (fun n0 => K0 n0) (K0 (-1))
noncomputable def s_IndexFuncA (N : Nat) (f : Int → Int → List V → Int → Option (Bool)) (x0 : List V) (y0 : Int) : Option (Int) :=
  C_IndexFuncA N f x0 y0 (fun r0 => some r0)
noncomputable def cx_IndexFuncA (N : Nat) (f : Int → Int → List V → Int → Option (Bool)) : Cx := { T := T, isPure := tabP [], pureK := fun g ds K => tabK [] g ds K, memK := fun g dst ds m K => tabMK [⟨108, e_avalid1 (s_avalid1 N f)⟩] g dst ds m K, meth := tabM [], keep := fun r => match r with | 2 => [0, 1, 7, 8] | _ => [], keepX := fun r => match r with | 2 => [4] | _ => [], loopT := fun r ds m K => match r with | 2 => l_IndexFuncA_2 N f ds m K | _ => none, jumps := 9 }
theorem F_IndexFuncA_2_ok {R : Type} (N : Nat) (f : Int → Int → List V → Int → Option (Bool)) (vs0 : List V) (n1 : Int) (n3 : Int) (n2 : Int) (L : List D → Mem → Option R) (K : Ex → List D → Mem → Option R) :
    roundK (fun st K => codeK (cx_IndexFuncA N f) (loopN Try.f114 0) st K) 19 [0, 1, 7, 8] [4] L [(.v (.sl 46 vs0) .no), (.clos 108 [(.ptr 1 0 0)]), (.v (.int .i64 n1) .no), (.v (.int .i64 n2) .no)] [[], [(0, ⟨3, [(.v (.int .i64 n3) .no)]⟩)]] K = F_IndexFuncA_2 N f vs0 n1 n3 (fun n2 => L [(.v (.sl 46 vs0) .no), (.clos 108 [(.ptr 1 0 0)]), (.v (.int .i64 n1) .no), (.v (.int .i64 n2) .no)] [[], [(0, ⟨3, [(.v (.int .i64 n3) .no)]⟩)]]) (fun a0 => K .ret [(.v (.int .i64 a0) .no)] [[], [(0, ⟨3, [(.v (.int .i64 n3) .no)]⟩)]]) (K (.exit 0) [.any] [[], [(0, ⟨3, [(.v (.int .i64 n3) .no)]⟩)]]) n2 := by
  kernel_rfl
theorem S_IndexFuncA_2_ok {R : Type} (N : Nat) (f : Int → Int → List V → Int → Option (Bool)) (vs0 : List V) (n1 : Int) (n3 : Int) (K : Ex → List D → Mem → Option R) : ∀ (t : Nat) (n2 : Int),
    loopK (fun st K => codeK (cx_IndexFuncA N f) (loopN Try.f114 0) st K) 19 [0, 1, 7, 8] [4] t [(.v (.sl 46 vs0) .no), (.clos 108 [(.ptr 1 0 0)]), (.v (.int .i64 n1) .no), (.v (.int .i64 n2) .no)] [[], [(0, ⟨3, [(.v (.int .i64 n3) .no)]⟩)]] K = S_IndexFuncA_2 N f vs0 n1 n3 t n2 (fun a0 => K .ret [(.v (.int .i64 a0) .no)] [[], [(0, ⟨3, [(.v (.int .i64 n3) .no)]⟩)]]) (K (.exit 0) [.any] [[], [(0, ⟨3, [(.v (.int .i64 n3) .no)]⟩)]])
  | 0, n2 => rfl
  | t + 1, n2 => (F_IndexFuncA_2_ok N f vs0 n1 n3 n2 _ K).trans (congrArg (fun L => F_IndexFuncA_2 N f vs0 n1 n3 L (fun a0 => K .ret [(.v (.int .i64 a0) .no)] [[], [(0, ⟨3, [(.v (.int .i64 n3) .no)]⟩)]]) (K (.exit 0) [.any] [[], [(0, ⟨3, [(.v (.int .i64 n3) .no)]⟩)]]) n2) (funext fun n2 => S_IndexFuncA_2_ok N f vs0 n1 n3 K t n2))
theorem C_IndexFuncA_ok {R : Type} (N : Nat) (f : Int → Int → List V → Int → Option (Bool)) (x0 : List V) (y0 : Int) (K : Int → Int → Option R) : bodyK (cx_IndexFuncA N f) Try.f114 [.v (.sl 46 x0) .no, .clos 108 [.ptr 1 0 0]] [frOf 0 [⟨3, [.v (.int .i64 y0) .no]⟩]] (r_IndexFuncA K) = C_IndexFuncA N f x0 y0 (fun r0 => K r0 y0) := by
  kernel_rfl
theorem go_IndexFuncA : Goes Try.prog 114 := goes_of Try.func114 (by kernel_rfl) (c := bodyOf Try.f114) (by kernel_rfl)
theorem eo_IndexFuncA (s : List V → Int → Option (Int)) (hs : ∀ (x0 : List V) (y0 : Int) (r0 : Int), s x0 y0 = some r0 → ViewRet Try.prog T 114 [.v (.sl 46 x0) .no, .clos 108 [.ptr 1 0 0]] [⟨3, [.v (.int .i64 y0) .no]⟩] [.v (.int .i64 r0) .no] [⟨3, [.v (.int .i64 y0) .no]⟩]) : MEntOK Try.prog T ⟨114, e_IndexFuncA s⟩ := by
  refine ⟨go_IndexFuncA, fun R dst ds m K r h => ?_⟩
  simp only [e_IndexFuncA] at h
  split at h
  · obtain ⟨Bs, a1, a2, a3, h⟩ := viewK_some h
    split at h
    · obtain ⟨r0, h1, h2⟩ := bnd1_some h
      rw [putAllK_eq] at h2
      exact ⟨_, _, h2, hs _ _ _ h1 _ _ m dst a1 a2 a3 ⟨aren_v _, aren_clos ⟨aren_ptr _ rfl, trivial⟩, trivial⟩⟩
    · cases h
  · cases h
theorem co_IndexFuncA (N : Nat) (f : Int → Int → List V → Int → Option (Bool)) (hf : ∀ (x0 : Int) (x1 : Int) (x2 : List V) (x3 : Int) (r0 : Bool), f x0 x1 x2 x3 = some r0 → PureRet Try.prog T 81 [.agg [.v (.int .i64 x0) .no, .v (.int .i64 x1) .no, .v (.sl 46 x2) .no], .v (.int .i64 x3) .no] [.v (.bool r0) .no]) : CxOK Try.prog (cx_IndexFuncA N f) :=
  cxOK_of2 (es := []) (me := [⟨108, e_avalid1 (s_avalid1 N f)⟩]) (ms := []) T_ok trivial ⟨eo_avalid1 _ (p_avalid1 N f hf), trivial⟩ trivial rfl (fun _ _ _ _ => rfl) (fun _ _ _ _ _ _ => rfl) rfl
theorem lk_IndexFuncA_2 (N : Nat) (f : Int → Int → List V → Int → Option (Bool)) : LoopOK (cx_IndexFuncA N f) 19 (loopN Try.f114 0) := by
  refine loopOK_of (rid := 2) (by kernel_rfl) rfl rfl fun R ds m K r h => ?_
  have h : l_IndexFuncA_2 N f ds m K = some r := h
  unfold l_IndexFuncA_2 at h
  split at h
  · exact ⟨N, Eq.trans (S_IndexFuncA_2_ok ..) h⟩
  · cases h
theorem lo_IndexFuncA (N : Nat) (f : Int → Int → List V → Int → Option (Bool)) : LoopsOK (cx_IndexFuncA N f) Try.f114.ntmps (bodyOf Try.f114) :=
  loopsOK_of (k := 1) (by kernel_rfl) ⟨trivial, lk_IndexFuncA_2 N f⟩
open Classical in
theorem p_IndexFuncA (N : Nat) (f : Int → Int → List V → Int → Option (Bool)) (hf : ∀ (x0 : Int) (x1 : Int) (x2 : List V) (x3 : Int) (r0 : Bool), f x0 x1 x2 x3 = some r0 → PureRet Try.prog T 81 [.agg [.v (.int .i64 x0) .no, .v (.int .i64 x1) .no, .v (.sl 46 x2) .no], .v (.int .i64 x3) .no] [.v (.bool r0) .no]) (x0 : List V) (y0 : Int) (r0 : Int) (h : s_IndexFuncA N f x0 y0 = some r0) : ViewRet Try.prog T 114 [.v (.sl 46 x0) .no, .clos 108 [.ptr 1 0 0]] [⟨3, [.v (.int .i64 y0) .no]⟩] [.v (.int .i64 r0) .no] [⟨3, [.v (.int .i64 y0) .no]⟩] := by
  refine view_of (Bs := [⟨3, [.v (.int .i64 y0) .no]⟩]) (Bs' := [⟨3, [.v (.int .i64 y0) .no]⟩]) (cx := cx_IndexFuncA N f) (by kernel_rfl) (co_IndexFuncA N f hf) Try.func114 (by kernel_rfl) (by kernel_rfl) (lo_IndexFuncA N f) rfl rfl rfl rfl (rf := r_IndexFuncA (fun r0' z'0 => if z'0 = y0 then some r0' else none)) (r := r0) ?_ ?_
  · exact (C_IndexFuncA_ok N f x0 y0 _).trans ((congrArg (fun K => C_IndexFuncA N f x0 y0 K) (funext fun r0' => if_pos rfl)).trans h)
  · intro rs' m' hx
    unfold r_IndexFuncA at hx
    split at hx
    · dsimp only at hx
      split at hx
      · rename_i hk
        subst hk
        cases hx; exact ⟨rfl, rfl, _, rfl⟩
      · cases hx
    · cases hx
noncomputable def e_ContainsFuncA {R : Type} (s : List V → Int → Option (Bool)) (dst : Nat) (ds : List D) (m : Mem) (K : List D → Mem → Option R) : Option R :=
  match ds with
  | [.v (.sl 46 x0) .no, .clos 108 [.ptr (kv0 + 1) sv0 0]] => viewK [(kv0, sv0)] m fun Bs => (match Bs with
    | [⟨3, [.v (.int .i64 y0) .no]⟩] => bnd1 (s x0 y0) fun r0 => putAllK [(kv0, sv0)] [⟨3, [.v (.int .i64 y0) .no]⟩] m fun m' => K [.v (.bool r0) .no] m'
    | _ => none)
  | _ => none
noncomputable def r_ContainsFuncA {α : Type} (K : Bool → Int → Option α) (rs : List D) (m : Mem) : Option α :=
  match rs, m with
  | [.v (.bool r0) _], [_, [(0, ⟨3, [.v (.int .i64 z0) .no]⟩)]] => K r0 z0
  | _, _ => none
noncomputable def C_ContainsFuncA {R : Type} (N : Nat) (f : Int → Int → List V → Int → Option (Bool)) (x0 : List V) (y0 : Int) (K0 : Bool → Option R) : Option R :=
  bnd1 (s_IndexFuncA N f x0 y0) fun n0 => K0 (decide (0 ≤ n0))
noncomputable def s_ContainsFuncA (N : Nat) (f : Int → Int → List V → Int → Option (Bool)) (x0 : List V) (y0 : Int) : Option (Bool) :=
  C_ContainsFuncA N f x0 y0 (fun r0 => some r0)
noncomputable def cx_ContainsFuncA (N : Nat) (f : Int → Int → List V → Int → Option (Bool)) : Cx := { T := T, isPure := tabP [], pureK := fun g ds K => tabK [] g ds K, memK := fun g dst ds m K => tabMK [⟨114, e_IndexFuncA (s_IndexFuncA N f)⟩] g dst ds m K, meth := tabM [], keep := fun _ => [], keepX := fun _ => [], loopT := fun _ _ _ _ => none, jumps := 9 }
theorem C_ContainsFuncA_ok {R : Type} (N : Nat) (f : Int → Int → List V → Int → Option (Bool)) (x0 : List V) (y0 : Int) (K : Bool → Int → Option R) : bodyK (cx_ContainsFuncA N f) Try.f107 [.v (.sl 46 x0) .no, .clos 108 [.ptr 1 0 0]] [frOf 0 [⟨3, [.v (.int .i64 y0) .no]⟩]] (r_ContainsFuncA K) = C_ContainsFuncA N f x0 y0 (fun r0 => K r0 y0) := by
  kernel_rfl
theorem go_ContainsFuncA : Goes Try.prog 107 := goes_of Try.func107 (by kernel_rfl) (c := bodyOf Try.f107) (by kernel_rfl)
theorem eo_ContainsFuncA (s : List V → Int → Option (Bool)) (hs : ∀ (x0 : List V) (y0 : Int) (r0 : Bool), s x0 y0 = some r0 → ViewRet Try.prog T 107 [.v (.sl 46 x0) .no, .clos 108 [.ptr 1 0 0]] [⟨3, [.v (.int .i64 y0) .no]⟩] [.v (.bool r0) .no] [⟨3, [.v (.int .i64 y0) .no]⟩]) : MEntOK Try.prog T ⟨107, e_ContainsFuncA s⟩ := by
  refine ⟨go_ContainsFuncA, fun R dst ds m K r h => ?_⟩
  simp only [e_ContainsFuncA] at h
  split at h
  · obtain ⟨Bs, a1, a2, a3, h⟩ := viewK_some h
    split at h
    · obtain ⟨r0, h1, h2⟩ := bnd1_some h
      rw [putAllK_eq] at h2
      exact ⟨_, _, h2, hs _ _ _ h1 _ _ m dst a1 a2 a3 ⟨aren_v _, aren_clos ⟨aren_ptr _ rfl, trivial⟩, trivial⟩⟩
    · cases h
  · cases h
theorem co_ContainsFuncA (N : Nat) (f : Int → Int → List V → Int → Option (Bool)) (hf : ∀ (x0 : Int) (x1 : Int) (x2 : List V) (x3 : Int) (r0 : Bool), f x0 x1 x2 x3 = some r0 → PureRet Try.prog T 81 [.agg [.v (.int .i64 x0) .no, .v (.int .i64 x1) .no, .v (.sl 46 x2) .no], .v (.int .i64 x3) .no] [.v (.bool r0) .no]) : CxOK Try.prog (cx_ContainsFuncA N f) :=
  cxOK_of2 (es := []) (me := [⟨114, e_IndexFuncA (s_IndexFuncA N f)⟩]) (ms := []) T_ok trivial ⟨eo_IndexFuncA _ (p_IndexFuncA N f hf), trivial⟩ trivial rfl (fun _ _ _ _ => rfl) (fun _ _ _ _ _ _ => rfl) rfl
theorem lo_ContainsFuncA (N : Nat) (f : Int → Int → List V → Int → Option (Bool)) : LoopsOK (cx_ContainsFuncA N f) Try.f107.ntmps (bodyOf Try.f107) :=
  loopsOK_of (k := 0) (by kernel_rfl) trivial
open Classical in
theorem p_ContainsFuncA (N : Nat) (f : Int → Int → List V → Int → Option (Bool)) (hf : ∀ (x0 : Int) (x1 : Int) (x2 : List V) (x3 : Int) (r0 : Bool), f x0 x1 x2 x3 = some r0 → PureRet Try.prog T 81 [.agg [.v (.int .i64 x0) .no, .v (.int .i64 x1) .no, .v (.sl 46 x2) .no], .v (.int .i64 x3) .no] [.v (.bool r0) .no]) (x0 : List V) (y0 : Int) (r0 : Bool) (h : s_ContainsFuncA N f x0 y0 = some r0) : ViewRet Try.prog T 107 [.v (.sl 46 x0) .no, .clos 108 [.ptr 1 0 0]] [⟨3, [.v (.int .i64 y0) .no]⟩] [.v (.bool r0) .no] [⟨3, [.v (.int .i64 y0) .no]⟩] := by
  refine view_of (Bs := [⟨3, [.v (.int .i64 y0) .no]⟩]) (Bs' := [⟨3, [.v (.int .i64 y0) .no]⟩]) (cx := cx_ContainsFuncA N f) (by kernel_rfl) (co_ContainsFuncA N f hf) Try.func107 (by kernel_rfl) (by kernel_rfl) (lo_ContainsFuncA N f) rfl rfl rfl rfl (rf := r_ContainsFuncA (fun r0' z'0 => if z'0 = y0 then some r0' else none)) (r := r0) ?_ ?_
  · exact (C_ContainsFuncA_ok N f x0 y0 _).trans ((congrArg (fun K => C_ContainsFuncA N f x0 y0 K) (funext fun r0' => if_pos rfl)).trans h)
  · intro rs' m' hx
    unfold r_ContainsFuncA at hx
    split at hx
    · dsimp only at hx
      split at hx
      · rename_i hk
        subst hk
        cases hx; exact ⟨rfl, rfl, _, rfl⟩
      · cases hx
    · cases hx
noncomputable def r_avalid (rs : List D) (_ : Mem) : Option (Bool) :=
  match rs with
  | [.v (.bool r0) _] => some (r0)
  | _ => none
noncomputable def B_avalid (N : Nat) (f : Int → Int → List V → Int → Option (Bool)) (x0 : Int) (x1 : Int) (x2 : List V) (x3 : Int) : Option (Bool) :=
  br (decide (x0 < 0)) (some false)
  (br (decide (7 < x0)) (some false)
    (bnd1 (s_forms N) fun x0_1 =>
      br (decide (x0 = 0))
        (br (!decide (x1 = 0)) (some false)
          (br (decide (0 < (↑x2.length : Int))) (some false)
            (br (decide (x0 = 5)) (br (!decide (bitsI BinOp.andNot IntKind.i64 x1 51 = 0)) (some false) (bnd1 (s_ContainsFuncA N f x2 x3) fun b1 => some !b1)) (bnd1 (s_ContainsFuncA N f x2 x3) fun b2 => some !b2))))
        (br (decide (x0 = 1))
          (br (!decide (x1 = 0)) (some false)
            (br (decide (0 < (↑x2.length : Int))) (some false)
              (br (decide (x0 = 5)) (br (!decide (bitsI BinOp.andNot IntKind.i64 x1 51 = 0)) (some false) (bnd1 (s_ContainsFuncA N f x2 x3) fun b3 => some !b3)) (bnd1 (s_ContainsFuncA N f x2 x3) fun b4 => some !b4))))
          (br (decide (x0 = 2))
            (br (decide (x1 < 1)) (some false)
              (br (decide (8 < x1)) (some false)
                (br (decide (0 < (↑x2.length : Int))) (some false)
                  (br (decide (x0 = 5)) (br (!decide (bitsI BinOp.andNot IntKind.i64 x1 51 = 0)) (some false) (bnd1 (s_ContainsFuncA N f x2 x3) fun b5 => some !b5)) (bnd1 (s_ContainsFuncA N f x2 x3) fun b6 => some !b6)))))
            (br (decide (x0 = 3))
              (br (decide (x1 < 1)) (some false)
                (br (decide (8 < x1)) (some false)
                  (br (decide (0 < (↑x2.length : Int))) (some false)
                    (br (decide (x0 = 5)) (br (!decide (bitsI BinOp.andNot IntKind.i64 x1 51 = 0)) (some false) (bnd1 (s_ContainsFuncA N f x2 x3) fun b7 => some !b7)) (bnd1 (s_ContainsFuncA N f x2 x3) fun b8 => some !b8)))))
              (br (decide (x0 = 4))
                (br (decide (x1 < 1)) (some false)
                  (br (decide (5 < x1)) (some false)
                    (br (decide (0 < (↑x2.length : Int))) (some false)
                      (br (decide (x0 = 5)) (br (!decide (bitsI BinOp.andNot IntKind.i64 x1 51 = 0)) (some false) (bnd1 (s_ContainsFuncA N f x2 x3) fun b9 => some !b9)) (bnd1 (s_ContainsFuncA N f x2 x3) fun b10 => some !b10)))))
                (br (decide (x0 = 5))
                  (br (decide (x1 < 1)) (some false)
                    (br (decide (51 < x1)) (some false)
                      (br (decide (0 < (↑x2.length : Int))) (some false)
                        (br (decide (x0 = 5)) (br (!decide (bitsI BinOp.andNot IntKind.i64 x1 51 = 0)) (some false) (bnd1 (s_ContainsFuncA N f x2 x3) fun b11 => some !b11)) (bnd1 (s_ContainsFuncA N f x2 x3) fun b12 => some !b12)))))
                  (br (decide (x0 = 6))
                    (br (!decide (x1 = 0)) (some false)
                      (br (decide ((↑x2.length : Int) = 0)) (some false)
                        (br (decide (x0 = 5)) (br (!decide (bitsI BinOp.andNot IntKind.i64 x1 51 = 0)) (some false) (bnd1 (s_ContainsFuncA N f x2 x3) fun b13 => some !b13)) (bnd1 (s_ContainsFuncA N f x2 x3) fun b14 => some !b14))))
                    (br (decide (x0 = 7))
                      (br (!decide (x1 = 0)) (some false)
                        (br (decide ((↑x2.length : Int) = 0)) (some false)
                          (br (decide (x0 = 5)) (br (!decide (bitsI BinOp.andNot IntKind.i64 x1 51 = 0)) (some false) (bnd1 (s_ContainsFuncA N f x2 x3) fun b15 => some !b15)) (bnd1 (s_ContainsFuncA N f x2 x3) fun b16 => some !b16))))
                      none)))))))))
noncomputable def s_avalid (N : Nat) : Nat → Int → Int → List V → Int → Option (Bool)
  | 0, _, _, _, _ => none
  | n + 1, x0, x1, x2, x3 => B_avalid N (s_avalid N n) x0 x1 x2 x3
noncomputable def cx_avalid (N : Nat) (f : Int → Int → List V → Int → Option (Bool)) : Cx := { T := T, isPure := tabP [⟨81, e_avalid f⟩, ⟨103, e_forms (s_forms N)⟩], pureK := fun g ds K => tabK [⟨81, e_avalid f⟩, ⟨103, e_forms (s_forms N)⟩] g ds K, memK := fun g dst ds m K => tabMK [⟨107, e_ContainsFuncA (s_ContainsFuncA N f)⟩, ⟨108, e_avalid1 (s_avalid1 N f)⟩] g dst ds m K, meth := tabM [], keep := fun _ => [], keepX := fun _ => [], loopT := fun _ _ _ _ => none, jumps := 9 }
theorem B_avalid_ok (N : Nat) (f : Int → Int → List V → Int → Option (Bool)) (x0 : Int) (x1 : Int) (x2 : List V) (x3 : Int) : bodyK (cx_avalid N f) Try.f81 [.agg [.v (.int .i64 x0) .no, .v (.int .i64 x1) .no, .v (.sl 46 x2) .no], .v (.int .i64 x3) .no] [] r_avalid = B_avalid N f x0 x1 x2 x3 := by
  kernel_rfl
theorem co_avalid (N : Nat) (f : Int → Int → List V → Int → Option (Bool)) (hf : ∀ (x0 : Int) (x1 : Int) (x2 : List V) (x3 : Int) (r0 : Bool), f x0 x1 x2 x3 = some r0 → PureRet Try.prog T 81 [.agg [.v (.int .i64 x0) .no, .v (.int .i64 x1) .no, .v (.sl 46 x2) .no], .v (.int .i64 x3) .no] [.v (.bool r0) .no]) : CxOK Try.prog (cx_avalid N f) :=
  cxOK_of2 (es := [⟨81, e_avalid f⟩, ⟨103, e_forms (s_forms N)⟩]) (me := [⟨107, e_ContainsFuncA (s_ContainsFuncA N f)⟩, ⟨108, e_avalid1 (s_avalid1 N f)⟩]) (ms := []) T_ok ⟨eo_avalid f hf, eo_forms _ (p_forms N), trivial⟩ ⟨eo_ContainsFuncA _ (p_ContainsFuncA N f hf), eo_avalid1 _ (p_avalid1 N f hf), trivial⟩ trivial rfl (fun _ _ _ _ => rfl) (fun _ _ _ _ _ _ => rfl) rfl
theorem lo_avalid (N : Nat) (f : Int → Int → List V → Int → Option (Bool)) : LoopsOK (cx_avalid N f) Try.f81.ntmps (bodyOf Try.f81) :=
  loopsOK_of (k := 0) (by kernel_rfl) trivial
theorem p_avalid (N : Nat) : ∀ (M : Nat) (x0 : Int) (x1 : Int) (x2 : List V) (x3 : Int) (r0 : Bool), s_avalid N M x0 x1 x2 x3 = some r0 → PureRet Try.prog T 81 [.agg [.v (.int .i64 x0) .no, .v (.int .i64 x1) .no, .v (.sl 46 x2) .no], .v (.int .i64 x3) .no] [.v (.bool r0) .no]
  | 0, _, _, _, _, _, h => by cases h
  | M + 1, x0, x1, x2, x3, r0, h => pure_of (cx := cx_avalid N (s_avalid N M)) (by kernel_rfl) (co_avalid N (s_avalid N M) (p_avalid N M)) Try.func81 (by kernel_rfl) (by kernel_rfl) (lo_avalid N (s_avalid N M)) rfl rfl rfl (rf := r_avalid) ((B_avalid_ok N (s_avalid N M) x0 x1 x2 x3).trans h) (fun rs' m h => by
    unfold r_avalid at h
    split at h
    · cases h; exact ⟨rfl, rfl⟩
    · cases h)
noncomputable def e_measure {R : Type} (s : Int → Int → List V → Option (Int × Int)) (ds : List D) (K : List D → Option R) : Option R :=
  match ds with
  | [.agg [.v (.int .i64 x0) .no, .v (.int .i64 x1) .no, .v (.sl 46 x2) .no]] => bnd2 (s x0 x1 x2) fun r0 r1 => K [.v (.int .i64 r0) .no, .v (.int .i64 r1) .no]
  | _ => none
noncomputable def r_measure (rs : List D) (_ : Mem) : Option (Int × Int) :=
  match rs with
  | [.v (.int .i64 r0) _, .v (.int .i64 r1) _] => some (r0, r1)
  | _ => none
noncomputable def F_measure_3 {R : Type} (N : Nat) (f : Int → Int → List V → Option (Int × Int)) (vs2 : List V) (n3 : Int) (n5 : Int) (n6 : Int) (vs7 : List V) (Lq : Int → Int → Int → Option R) (K0 : Int → Int → Option R) (n0 : Int) (n1 : Int) (n4 : Int) : Option R :=
  br (decide (n4 < n3))
  (br (decide (0 ≤ n4) && decide (n4 < (↑vs2.length : Int)))
    (at? vs2 n4.toNat fun x0 =>
      x0.unAgg fun l1 =>
        unCons l1 fun x2 l3 =>
          V.unInt IntKind.i64 x2 fun n4_1 =>
            unCons l3 fun x5 l6 =>
              V.unInt IntKind.i64 x5 fun n7 =>
                unCons l6 fun x8 l9 =>
                  V.unSl 46 x8 fun l10 =>
                    unNil l9
                      (bnd2 (f n4_1 n7 l10) fun n11 n12 =>
                        Lq (IntKind.i64.wrap (n0 + n11))
                          (match true with
                          | true => max n1 n12
                          | false => min n1 n12)
                          (IntKind.i64.wrap (n4 + 1))))
    none)
  (K0 n0 n1)
noncomputable def S_measure_3 {R : Type} (N : Nat) (f : Int → Int → List V → Option (Int × Int)) (vs2 : List V) (n3 : Int) (n5 : Int) (n6 : Int) (vs7 : List V) : Nat → Int → Int → Int → (Int → Int → Option R) → Option R
  | 0, _, _, _, _ => none
  | t + 1, n0, n1, n4, K0 => F_measure_3 N f vs2 n3 n5 n6 vs7 (fun n0 n1 n4 => S_measure_3 N f vs2 n3 n5 n6 vs7 t n0 n1 n4 K0) K0 n0 n1 n4
noncomputable def l_measure_3 {R : Type} (N : Nat) (f : Int → Int → List V → Option (Int × Int)) (ds : List D) (m : Mem) (K : Ex → List D → Mem → Option R) : Option R :=
  match ds, m with
  | [(.ptr 0 1 0), (.v (.int .i64 n0) .no), (.v (.int .i64 n1) .no), (.v (.sl 46 vs2) .no), (.v (.int .i64 n3) .no), (.v (.int .i64 n4) .no)], [[(1, ⟨46, [(.v (.int .i64 n5) .no), (.v (.int .i64 n6) .no), (.v (.sl 46 vs7) .no)]⟩)]] => S_measure_3 N f vs2 n3 n5 n6 vs7 N n0 n1 n4 (fun a0 a1 => K (.exit 0) [(.ptr 0 1 0), (.v (.int .i64 a0) .no), (.v (.int .i64 a1) .no)] [[(1, ⟨46, [(.v (.int .i64 n5) .no), (.v (.int .i64 n6) .no), (.v (.sl 46 vs7) .no)]⟩)]])
  | _, _ => none
noncomputable def B_measure (N : Nat) (f : Int → Int → List V → Option (Int × Int)) (x0 : Int) (x1 : Int) (x2 : List V) : Option (Int × Int) :=
  S_measure_3 N f x2 (↑x2.length : Int) x0 x1 x2 N 1 0 0 fun n0 n1 => some (n0, IntKind.i64.wrap (n1 + 1))
noncomputable def s_measure (N : Nat) : Nat → Int → Int → List V → Option (Int × Int)
  | 0, _, _, _ => none
  | n + 1, x0, x1, x2 => B_measure N (s_measure N n) x0 x1 x2
noncomputable def cx_measure (N : Nat) (f : Int → Int → List V → Option (Int × Int)) : Cx := { T := T, isPure := tabP [⟨82, e_measure f⟩], pureK := fun g ds K => tabK [⟨82, e_measure f⟩] g ds K, memK := fun g dst ds m K => tabMK [] g dst ds m K, meth := tabM [], keep := fun r => match r with | 3 => [1, 4, 5, 11, 12, 13] | _ => [], keepX := fun r => match r with | 3 => [1, 4, 5] | _ => [], loopT := fun r ds m K => match r with | 3 => l_measure_3 N f ds m K | _ => none, jumps := 9 }
theorem F_measure_3_ok {R : Type} (N : Nat) (f : Int → Int → List V → Option (Int × Int)) (vs2 : List V) (n3 : Int) (n5 : Int) (n6 : Int) (vs7 : List V) (n0 : Int) (n1 : Int) (n4 : Int) (L : List D → Mem → Option R) (K : Ex → List D → Mem → Option R) :
    roundK (fun st K => codeK (cx_measure N f) (loopN Try.f82 0) st K) 32 [1, 4, 5, 11, 12, 13] [1, 4, 5] L [(.ptr 0 1 0), (.v (.int .i64 n0) .no), (.v (.int .i64 n1) .no), (.v (.sl 46 vs2) .no), (.v (.int .i64 n3) .no), (.v (.int .i64 n4) .no)] [[(1, ⟨46, [(.v (.int .i64 n5) .no), (.v (.int .i64 n6) .no), (.v (.sl 46 vs7) .no)]⟩)]] K = F_measure_3 N f vs2 n3 n5 n6 vs7 (fun n0 n1 n4 => L [(.ptr 0 1 0), (.v (.int .i64 n0) .no), (.v (.int .i64 n1) .no), (.v (.sl 46 vs2) .no), (.v (.int .i64 n3) .no), (.v (.int .i64 n4) .no)] [[(1, ⟨46, [(.v (.int .i64 n5) .no), (.v (.int .i64 n6) .no), (.v (.sl 46 vs7) .no)]⟩)]]) (fun a0 a1 => K (.exit 0) [(.ptr 0 1 0), (.v (.int .i64 a0) .no), (.v (.int .i64 a1) .no)] [[(1, ⟨46, [(.v (.int .i64 n5) .no), (.v (.int .i64 n6) .no), (.v (.sl 46 vs7) .no)]⟩)]]) n0 n1 n4 := by
  kernel_rfl
theorem S_measure_3_ok {R : Type} (N : Nat) (f : Int → Int → List V → Option (Int × Int)) (vs2 : List V) (n3 : Int) (n5 : Int) (n6 : Int) (vs7 : List V) (K : Ex → List D → Mem → Option R) : ∀ (t : Nat) (n0 : Int) (n1 : Int) (n4 : Int),
    loopK (fun st K => codeK (cx_measure N f) (loopN Try.f82 0) st K) 32 [1, 4, 5, 11, 12, 13] [1, 4, 5] t [(.ptr 0 1 0), (.v (.int .i64 n0) .no), (.v (.int .i64 n1) .no), (.v (.sl 46 vs2) .no), (.v (.int .i64 n3) .no), (.v (.int .i64 n4) .no)] [[(1, ⟨46, [(.v (.int .i64 n5) .no), (.v (.int .i64 n6) .no), (.v (.sl 46 vs7) .no)]⟩)]] K = S_measure_3 N f vs2 n3 n5 n6 vs7 t n0 n1 n4 (fun a0 a1 => K (.exit 0) [(.ptr 0 1 0), (.v (.int .i64 a0) .no), (.v (.int .i64 a1) .no)] [[(1, ⟨46, [(.v (.int .i64 n5) .no), (.v (.int .i64 n6) .no), (.v (.sl 46 vs7) .no)]⟩)]])
  | 0, n0, n1, n4 => rfl
  | t + 1, n0, n1, n4 => (F_measure_3_ok N f vs2 n3 n5 n6 vs7 n0 n1 n4 _ K).trans (congrArg (fun L => F_measure_3 N f vs2 n3 n5 n6 vs7 L (fun a0 a1 => K (.exit 0) [(.ptr 0 1 0), (.v (.int .i64 a0) .no), (.v (.int .i64 a1) .no)] [[(1, ⟨46, [(.v (.int .i64 n5) .no), (.v (.int .i64 n6) .no), (.v (.sl 46 vs7) .no)]⟩)]]) n0 n1 n4) (funext fun n0 => funext fun n1 => funext fun n4 => S_measure_3_ok N f vs2 n3 n5 n6 vs7 K t n0 n1 n4))
theorem B_measure_ok (N : Nat) (f : Int → Int → List V → Option (Int × Int)) (x0 : Int) (x1 : Int) (x2 : List V) : bodyK (cx_measure N f) Try.f82 [.agg [.v (.int .i64 x0) .no, .v (.int .i64 x1) .no, .v (.sl 46 x2) .no]] [] r_measure = B_measure N f x0 x1 x2 := by
  kernel_rfl
theorem go_measure : Goes Try.prog 82 := goes_of Try.func82 (by kernel_rfl) (c := bodyOf Try.f82) (by kernel_rfl)
theorem eo_measure (s : Int → Int → List V → Option (Int × Int)) (hs : ∀ (x0 : Int) (x1 : Int) (x2 : List V) (r0 : Int) (r1 : Int), s x0 x1 x2 = some (r0, r1) → PureRet Try.prog T 82 [.agg [.v (.int .i64 x0) .no, .v (.int .i64 x1) .no, .v (.sl 46 x2) .no]] [.v (.int .i64 r0) .no, .v (.int .i64 r1) .no]) : EntOK Try.prog T ⟨82, e_measure s⟩ := by
  refine ⟨go_measure, fun R ds K r h => ?_, fun R ds K => ?_⟩
  · simp only [e_measure] at h
    split at h
    · obtain ⟨r0, r1, h1, h2⟩ := bnd2_some h
      exact ⟨_, h2, hs _ _ _ _ _ h1⟩
    · cases h
  · simp only [e_measure]
    split
    · rw [bnd2_b]; rfl
    · rfl
theorem co_measure (N : Nat) (f : Int → Int → List V → Option (Int × Int)) (hf : ∀ (x0 : Int) (x1 : Int) (x2 : List V) (r0 : Int) (r1 : Int), f x0 x1 x2 = some (r0, r1) → PureRet Try.prog T 82 [.agg [.v (.int .i64 x0) .no, .v (.int .i64 x1) .no, .v (.sl 46 x2) .no]] [.v (.int .i64 r0) .no, .v (.int .i64 r1) .no]) : CxOK Try.prog (cx_measure N f) :=
  cxOK_of2 (es := [⟨82, e_measure f⟩]) (me := []) (ms := []) T_ok ⟨eo_measure f hf, trivial⟩ trivial trivial rfl (fun _ _ _ _ => rfl) (fun _ _ _ _ _ _ => rfl) rfl
theorem lk_measure_3 (N : Nat) (f : Int → Int → List V → Option (Int × Int)) : LoopOK (cx_measure N f) 32 (loopN Try.f82 0) := by
  refine loopOK_of (rid := 3) (by kernel_rfl) rfl rfl fun R ds m K r h => ?_
  have h : l_measure_3 N f ds m K = some r := h
  unfold l_measure_3 at h
  split at h
  · exact ⟨N, Eq.trans (S_measure_3_ok ..) h⟩
  · cases h
theorem lo_measure (N : Nat) (f : Int → Int → List V → Option (Int × Int)) : LoopsOK (cx_measure N f) Try.f82.ntmps (bodyOf Try.f82) :=
  loopsOK_of (k := 1) (by kernel_rfl) ⟨trivial, lk_measure_3 N f⟩
theorem p_measure (N : Nat) : ∀ (M : Nat) (x0 : Int) (x1 : Int) (x2 : List V) (r0 : Int) (r1 : Int), s_measure N M x0 x1 x2 = some (r0, r1) → PureRet Try.prog T 82 [.agg [.v (.int .i64 x0) .no, .v (.int .i64 x1) .no, .v (.sl 46 x2) .no]] [.v (.int .i64 r0) .no, .v (.int .i64 r1) .no]
  | 0, _, _, _, _, _, h => by cases h
  | M + 1, x0, x1, x2, r0, r1, h => pure_of (cx := cx_measure N (s_measure N M)) (by kernel_rfl) (co_measure N (s_measure N M) (p_measure N M)) Try.func82 (by kernel_rfl) (by kernel_rfl) (lo_measure N (s_measure N M)) rfl rfl rfl (rf := r_measure) ((B_measure_ok N (s_measure N M) x0 x1 x2).trans h) (fun rs' m h => by
    unfold r_measure at h
    split at h
    · cases h; exact ⟨rfl, rfl⟩
    · cases h)
noncomputable def e_aCheck {R : Type} (s : Int → Int → List V → Option (Int)) (ds : List D) (K : List D → Option R) : Option R :=
  match ds with
  | [.agg [.v (.int .i64 x0) .no, .v (.int .i64 x1) .no, .v (.sl 46 x2) .no]] => bnd1 (s x0 x1 x2) fun r0 => K [.v (.int .i64 r0) .no]
  | _ => none
noncomputable def r_aCheck (rs : List D) (_ : Mem) : Option (Int) :=
  match rs with
  | [.v (.int .i64 r0) _] => some (r0)
  | _ => none
noncomputable def s_aCheck (N : Nat) (x0 : Int) (x1 : Int) (x2 : List V) : Option (Int) :=
  bnd1 (s_avalid N N x0 x1 x2 1) fun b0 => br (!b0) (some 1) (bnd2 (s_measure N N x0 x1 x2) fun n1 n2 => br (decide (16 < n1)) (some 3) (br (decide (8 < n2)) (some 3) (some 0)))
noncomputable def cx_aCheck (N : Nat) : Cx := { T := T, isPure := tabP [⟨81, e_avalid (s_avalid N N)⟩, ⟨82, e_measure (s_measure N N)⟩], pureK := fun g ds K => tabK [⟨81, e_avalid (s_avalid N N)⟩, ⟨82, e_measure (s_measure N N)⟩] g ds K, memK := fun g dst ds m K => tabMK [] g dst ds m K, meth := tabM [], keep := fun _ => [], keepX := fun _ => [], loopT := fun _ _ _ _ => none, jumps := 9 }
theorem s_aCheck_ok (N : Nat) (x0 : Int) (x1 : Int) (x2 : List V) : bodyK (cx_aCheck N) Try.f55 [.agg [.v (.int .i64 x0) .no, .v (.int .i64 x1) .no, .v (.sl 46 x2) .no]] [] r_aCheck = s_aCheck N x0 x1 x2 := by
  kernel_rfl
theorem go_aCheck : Goes Try.prog 55 := goes_of Try.func55 (by kernel_rfl) (c := bodyOf Try.f55) (by kernel_rfl)
theorem eo_aCheck (s : Int → Int → List V → Option (Int)) (hs : ∀ (x0 : Int) (x1 : Int) (x2 : List V) (r0 : Int), s x0 x1 x2 = some r0 → PureRet Try.prog T 55 [.agg [.v (.int .i64 x0) .no, .v (.int .i64 x1) .no, .v (.sl 46 x2) .no]] [.v (.int .i64 r0) .no]) : EntOK Try.prog T ⟨55, e_aCheck s⟩ := by
  refine ⟨go_aCheck, fun R ds K r h => ?_, fun R ds K => ?_⟩
  · simp only [e_aCheck] at h
    split at h
    · obtain ⟨r0, h1, h2⟩ := bnd1_some h
      exact ⟨_, h2, hs _ _ _ _ h1⟩
    · cases h
  · simp only [e_aCheck]
    split
    · rw [bnd1_b]; rfl
    · rfl
theorem co_aCheck (N : Nat) : CxOK Try.prog (cx_aCheck N) :=
  cxOK_of2 (es := [⟨81, e_avalid (s_avalid N N)⟩, ⟨82, e_measure (s_measure N N)⟩]) (me := []) (ms := []) T_ok ⟨eo_avalid _ (p_avalid N N), eo_measure _ (p_measure N N), trivial⟩ trivial trivial rfl (fun _ _ _ _ => rfl) (fun _ _ _ _ _ _ => rfl) rfl
theorem lo_aCheck (N : Nat) : LoopsOK (cx_aCheck N) Try.f55.ntmps (bodyOf Try.f55) :=
  loopsOK_of (k := 0) (by kernel_rfl) trivial
theorem p_aCheck (N : Nat) (x0 : Int) (x1 : Int) (x2 : List V) (r0 : Int) (h : s_aCheck N x0 x1 x2 = some r0) : PureRet Try.prog T 55 [.agg [.v (.int .i64 x0) .no, .v (.int .i64 x1) .no, .v (.sl 46 x2) .no]] [.v (.int .i64 r0) .no] :=
  pure_of (cx := cx_aCheck N) (by kernel_rfl) (co_aCheck N) Try.func55 (by kernel_rfl) (by kernel_rfl) (lo_aCheck N) rfl rfl rfl (rf := r_aCheck) ((s_aCheck_ok N x0 x1 x2).trans h) (fun rs' m h => by
    unfold r_aCheck at h
    split at h
    · cases h; exact ⟨rfl, rfl⟩
    · cases h)
noncomputable def e_aCheckRules {R : Type} (s : List V → Option (Int)) (ds : List D) (K : List D → Option R) : Option R :=
  match ds with
  | [.v (.sl 48 x0) .no] => bnd1 (s x0) fun r0 => K [.v (.int .i64 r0) .no]
  | _ => none
noncomputable def r_aCheckRules (rs : List D) (_ : Mem) : Option (Int) :=
  match rs with
  | [.v (.int .i64 r0) _] => some (r0)
  | _ => none
noncomputable def F_aCheckRules_4 {R : Type} (N : Nat) (vs0 : List V) (n1 : Int) (Lq : Int → Option R) (K0 : Int → Option R) (K1 : Option R) (n2 : Int) : Option R :=
  br (decide (n2 < n1))
  (br (decide (0 ≤ n2) && decide (n2 < (↑vs0.length : Int)))
    (at? vs0 n2.toNat fun x0 =>
      x0.unAgg fun l1 =>
        unCons l1 fun x2 l3 =>
          V.unInt IntKind.i64 x2 fun n4 =>
            unCons l3 fun x5 l6 =>
              V.unInt IntKind.i64 x5 fun n7 =>
                unCons l6 fun x8 l9 =>
                  V.unInt IntKind.i64 x8 fun n10 =>
                    unCons l9 fun x11 l12 =>
                      V.unSl 46 x11 fun l13 => unNil l12 (br (decide (n4 < 1)) (K0 1) (br (decide (255 < n4)) (K0 1) (bnd1 (s_aCheck N n7 n10 l13) fun n14 => br (!decide (n14 = 0)) (K0 n14) (Lq (IntKind.i64.wrap (n2 + 1)))))))
    none)
  K1
noncomputable def S_aCheckRules_4 {R : Type} (N : Nat) (vs0 : List V) (n1 : Int) : Nat → Int → (Int → Option R) → (Option R) → Option R
  | 0, _, _, _ => none
  | t + 1, n2, K0, K1 => F_aCheckRules_4 N vs0 n1 (fun n2 => S_aCheckRules_4 N vs0 n1 t n2 K0 K1) K0 K1 n2
noncomputable def l_aCheckRules_4 {R : Type} (N : Nat) (ds : List D) (m : Mem) (K : Ex → List D → Mem → Option R) : Option R :=
  match ds, m with
  | [(.v (.sl 48 vs0) .no), (.v (.int .i64 n1) .no), (.v (.int .i64 n2) .no)], [[]] => S_aCheckRules_4 N vs0 n1 N n2 (fun a0 => K .ret [(.v (.int .i64 a0) .no)] [[]]) (K (.exit 0) [.any] [[]])
  | _, _ => none
noncomputable def s_aCheckRules (N : Nat) (x0 : List V) : Option (Int) :=
  br (decide (8 < (↑x0.length : Int))) (some 3) (S_aCheckRules_4 N x0 (↑x0.length : Int) N 0 (fun n0 => some n0) (some 0))
noncomputable def cx_aCheckRules (N : Nat) : Cx := { T := T, isPure := tabP [⟨55, e_aCheck (s_aCheck N)⟩], pureK := fun g ds K => tabK [⟨55, e_aCheck (s_aCheck N)⟩] g ds K, memK := fun g dst ds m K => tabMK [] g dst ds m K, meth := tabM [], keep := fun r => match r with | 4 => [9, 10, 11] | _ => [], keepX := fun r => match r with | 4 => [2] | _ => [], loopT := fun r ds m K => match r with | 4 => l_aCheckRules_4 N ds m K | _ => none, jumps := 9 }
theorem F_aCheckRules_4_ok {R : Type} (N : Nat) (vs0 : List V) (n1 : Int) (n2 : Int) (L : List D → Mem → Option R) (K : Ex → List D → Mem → Option R) :
    roundK (fun st K => codeK (cx_aCheckRules N) (loopN Try.f30 0) st K) 30 [9, 10, 11] [2] L [(.v (.sl 48 vs0) .no), (.v (.int .i64 n1) .no), (.v (.int .i64 n2) .no)] [[]] K = F_aCheckRules_4 N vs0 n1 (fun n2 => L [(.v (.sl 48 vs0) .no), (.v (.int .i64 n1) .no), (.v (.int .i64 n2) .no)] [[]]) (fun a0 => K .ret [(.v (.int .i64 a0) .no)] [[]]) (K (.exit 0) [.any] [[]]) n2 := by
  kernel_rfl
theorem S_aCheckRules_4_ok {R : Type} (N : Nat) (vs0 : List V) (n1 : Int) (K : Ex → List D → Mem → Option R) : ∀ (t : Nat) (n2 : Int),
    loopK (fun st K => codeK (cx_aCheckRules N) (loopN Try.f30 0) st K) 30 [9, 10, 11] [2] t [(.v (.sl 48 vs0) .no), (.v (.int .i64 n1) .no), (.v (.int .i64 n2) .no)] [[]] K = S_aCheckRules_4 N vs0 n1 t n2 (fun a0 => K .ret [(.v (.int .i64 a0) .no)] [[]]) (K (.exit 0) [.any] [[]])
  | 0, n2 => rfl
  | t + 1, n2 => (F_aCheckRules_4_ok N vs0 n1 n2 _ K).trans (congrArg (fun L => F_aCheckRules_4 N vs0 n1 L (fun a0 => K .ret [(.v (.int .i64 a0) .no)] [[]]) (K (.exit 0) [.any] [[]]) n2) (funext fun n2 => S_aCheckRules_4_ok N vs0 n1 K t n2))
theorem s_aCheckRules_ok (N : Nat) (x0 : List V) : bodyK (cx_aCheckRules N) Try.f30 [.v (.sl 48 x0) .no] [] r_aCheckRules = s_aCheckRules N x0 := by
  kernel_rfl
theorem go_aCheckRules : Goes Try.prog 30 := goes_of Try.func30 (by kernel_rfl) (c := bodyOf Try.f30) (by kernel_rfl)
theorem eo_aCheckRules (s : List V → Option (Int)) (hs : ∀ (x0 : List V) (r0 : Int), s x0 = some r0 → PureRet Try.prog T 30 [.v (.sl 48 x0) .no] [.v (.int .i64 r0) .no]) : EntOK Try.prog T ⟨30, e_aCheckRules s⟩ := by
  refine ⟨go_aCheckRules, fun R ds K r h => ?_, fun R ds K => ?_⟩
  · simp only [e_aCheckRules] at h
    split at h
    · obtain ⟨r0, h1, h2⟩ := bnd1_some h
      exact ⟨_, h2, hs _ _ h1⟩
    · cases h
  · simp only [e_aCheckRules]
    split
    · rw [bnd1_b]; rfl
    · rfl
theorem co_aCheckRules (N : Nat) : CxOK Try.prog (cx_aCheckRules N) :=
  cxOK_of2 (es := [⟨55, e_aCheck (s_aCheck N)⟩]) (me := []) (ms := []) T_ok ⟨eo_aCheck _ (p_aCheck N), trivial⟩ trivial trivial rfl (fun _ _ _ _ => rfl) (fun _ _ _ _ _ _ => rfl) rfl
theorem lk_aCheckRules_4 (N : Nat) : LoopOK (cx_aCheckRules N) 30 (loopN Try.f30 0) := by
  refine loopOK_of (rid := 4) (by kernel_rfl) rfl rfl fun R ds m K r h => ?_
  have h : l_aCheckRules_4 N ds m K = some r := h
  unfold l_aCheckRules_4 at h
  split at h
  · exact ⟨N, Eq.trans (S_aCheckRules_4_ok ..) h⟩
  · cases h
theorem lo_aCheckRules (N : Nat) : LoopsOK (cx_aCheckRules N) Try.f30.ntmps (bodyOf Try.f30) :=
  loopsOK_of (k := 1) (by kernel_rfl) ⟨trivial, lk_aCheckRules_4 N⟩
theorem p_aCheckRules (N : Nat) (x0 : List V) (r0 : Int) (h : s_aCheckRules N x0 = some r0) : PureRet Try.prog T 30 [.v (.sl 48 x0) .no] [.v (.int .i64 r0) .no] :=
  pure_of (cx := cx_aCheckRules N) (by kernel_rfl) (co_aCheckRules N) Try.func30 (by kernel_rfl) (by kernel_rfl) (lo_aCheckRules N) rfl rfl rfl (rf := r_aCheckRules) ((s_aCheckRules_ok N x0).trans h) (fun rs' m h => by
    unfold r_aCheckRules at h
    split at h
    · cases h; exact ⟨rfl, rfl⟩
    · cases h)
noncomputable def e_aencode {R : Type} (s : Int → Int → List V → Option (List UInt8)) (ds : List D) (K : List D → Option R) : Option R :=
  match ds with
  | [.agg [.v (.int .i64 x0) .no, .v (.int .i64 x1) .no, .v (.sl 46 x2) .no]] => bnd1 (s x0 x1 x2) fun r0 => K [.v (.bytes r0) .no]
  | _ => none
noncomputable def r_aencode (rs : List D) (_ : Mem) : Option (List UInt8) :=
  match rs with
  | [.v (.bytes r0) _] => some (r0)
  | _ => none
noncomputable def F_aencode_8 {R : Type} (N : Nat) (f : Int → Int → List V → Option (List UInt8)) (vs1 : List V) (n2 : Int) (n4 : Int) (n5 : Int) (vs6 : List V) (l7 : List UInt8) (b8 : Bool) (b9 : Bool) (n10 : Int) (n11 : Int) (Lq : List UInt8 → Int → Option R) (K0 : List UInt8 → Option R) (l0 : List UInt8) (n3 : Int) : Option R :=
  br (decide (n3 < n2))
  (br (decide (0 ≤ n3) && decide (n3 < (↑vs1.length : Int)))
    (at? vs1 n3.toNat fun x0 =>
      x0.unAgg fun l1 =>
        unCons l1 fun x2 l3 =>
          V.unInt IntKind.i64 x2 fun n4 =>
            unCons l3 fun x5 l6 =>
              V.unInt IntKind.i64 x5 fun n7 =>
                unCons l6 fun x8 l9 => V.unSl 46 x8 fun l10 => unNil l9 (bnd1 (f n4 n7 l10) fun l11 => br (decide ((l0.length + l11.length) * 1 ≤ 140737488355328)) (Lq (l0 ++ l11) (IntKind.i64.wrap (n3 + 1))) none))
    none)
  (K0 l0)
noncomputable def S_aencode_8 {R : Type} (N : Nat) (f : Int → Int → List V → Option (List UInt8)) (vs1 : List V) (n2 : Int) (n4 : Int) (n5 : Int) (vs6 : List V) (l7 : List UInt8) (b8 : Bool) (b9 : Bool) (n10 : Int) (n11 : Int) : Nat → List UInt8 → Int → (List UInt8 → Option R) → Option R
  | 0, _, _, _ => none
  | t + 1, l0, n3, K0 => F_aencode_8 N f vs1 n2 n4 n5 vs6 l7 b8 b9 n10 n11 (fun l0 n3 => S_aencode_8 N f vs1 n2 n4 n5 vs6 l7 b8 b9 n10 n11 t l0 n3 K0) K0 l0 n3
noncomputable def l_aencode_8 {R : Type} (N : Nat) (f : Int → Int → List V → Option (List UInt8)) (ds : List D) (m : Mem) (K : Ex → List D → Mem → Option R) : Option R :=
  match ds, m with
  | [(.ptr 0 1 0), (.ptr 0 3 0), (.v (.bytes l0) (.own (.slot 4) 5)), (.v (.sl 46 vs1) .no), (.v (.int .i64 n2) .no), (.v (.int .i64 n3) .no)], [[(1, ⟨46, [(.v (.int .i64 n4) .no), (.v (.int .i64 n5) .no), (.v (.sl 46 vs6) .no)]⟩), (3, ⟨113, [(.v (.str l7) .no), (.v (.bool b8) .no), (.v (.bool b9) .no), (.v (.int .i64 n10) .no), (.v (.int .i64 n11) .no)]⟩)]] => S_aencode_8 N f vs1 n2 n4 n5 vs6 l7 b8 b9 n10 n11 N l0 n3 (fun a0 => K (.exit 0) [(.ptr 0 1 0), (.ptr 0 3 0), (.v (.bytes a0) (.own (.slot 4) 5))] [[(1, ⟨46, [(.v (.int .i64 n4) .no), (.v (.int .i64 n5) .no), (.v (.sl 46 vs6) .no)]⟩), (3, ⟨113, [(.v (.str l7) .no), (.v (.bool b8) .no), (.v (.bool b9) .no), (.v (.int .i64 n10) .no), (.v (.int .i64 n11) .no)]⟩)]])
  | _, _ => none
noncomputable def B_aencode (N : Nat) (f : Int → Int → List V → Option (List UInt8)) (x0 : Int) (x1 : Int) (x2 : List V) : Option (List UInt8) :=
  bnd1 (s_forms N) fun x0_1 =>
  br (decide (x0 = 0)) (S_aencode_8 N f x2 (↑x2.length : Int) x0 x1 x2 ([110, 101, 118, 101, 114] : List UInt8) false false 0 0 N [UInt8.ofNat (IntKind.u8.wrap x0).toNat] 0 fun l1 => some l1)
    (br (decide (x0 = 1)) (S_aencode_8 N f x2 (↑x2.length : Int) x0 x1 x2 ([97, 108, 119, 97, 121, 115] : List UInt8) false false 0 0 N [UInt8.ofNat (IntKind.u8.wrap x0).toNat] 0 fun l2 => some l2)
      (br (decide (x0 = 2)) (S_aencode_8 N f x2 (↑x2.length : Int) x0 x1 x2 ([112, 105, 110] : List UInt8) true false 1 8 N [UInt8.ofNat (IntKind.u8.wrap x0).toNat, UInt8.ofNat (IntKind.u8.wrap x1).toNat] 0 fun l3 => some l3)
        (br (decide (x0 = 3)) (S_aencode_8 N f x2 (↑x2.length : Int) x0 x1 x2 ([107, 101, 121] : List UInt8) true false 1 8 N [UInt8.ofNat (IntKind.u8.wrap x0).toNat, UInt8.ofNat (IntKind.u8.wrap x1).toNat] 0 fun l4 => some l4)
          (br (decide (x0 = 4)) (S_aencode_8 N f x2 (↑x2.length : Int) x0 x1 x2 ([115, 116, 97, 116, 101] : List UInt8) true false 1 5 N [UInt8.ofNat (IntKind.u8.wrap x0).toNat, UInt8.ofNat (IntKind.u8.wrap x1).toNat] 0 fun l5 => some l5)
            (br (decide (x0 = 5)) (S_aencode_8 N f x2 (↑x2.length : Int) x0 x1 x2 ([108, 101, 118, 101, 108] : List UInt8) true false 1 51 N [UInt8.ofNat (IntKind.u8.wrap x0).toNat, UInt8.ofNat (IntKind.u8.wrap x1).toNat] 0 fun l6 => some l6)
              (br (decide (x0 = 6)) (S_aencode_8 N f x2 (↑x2.length : Int) x0 x1 x2 ([97, 110, 100] : List UInt8) false true 0 0 N [UInt8.ofNat (IntKind.u8.wrap x0).toNat, UInt8.ofNat (IntKind.u8.wrap (↑x2.length : Int)).toNat] 0 fun l7 => some l7)
                (br (decide (x0 = 7)) (S_aencode_8 N f x2 (↑x2.length : Int) x0 x1 x2 ([111, 114] : List UInt8) false true 0 0 N [UInt8.ofNat (IntKind.u8.wrap x0).toNat, UInt8.ofNat (IntKind.u8.wrap (↑x2.length : Int)).toNat] 0 fun l8 => some l8)
                  none)))))))
noncomputable def s_aencode (N : Nat) : Nat → Int → Int → List V → Option (List UInt8)
  | 0, _, _, _ => none
  | n + 1, x0, x1, x2 => B_aencode N (s_aencode N n) x0 x1 x2
noncomputable def cx_aencode (N : Nat) (f : Int → Int → List V → Option (List UInt8)) : Cx := { T := T, isPure := tabP [⟨87, e_aencode f⟩, ⟨103, e_forms (s_forms N)⟩], pureK := fun g ds K => tabK [⟨87, e_aencode f⟩, ⟨103, e_forms (s_forms N)⟩] g ds K, memK := fun g dst ds m K => tabMK [] g dst ds m K, meth := tabM [], keep := fun r => match r with | 8 => [1, 3, 4, 33, 34, 35] | _ => [], keepX := fun r => match r with | 8 => [1, 3, 4] | _ => [], loopT := fun r ds m K => match r with | 8 => l_aencode_8 N f ds m K | _ => none, jumps := 9 }
theorem F_aencode_8_ok {R : Type} (N : Nat) (f : Int → Int → List V → Option (List UInt8)) (vs1 : List V) (n2 : Int) (n4 : Int) (n5 : Int) (vs6 : List V) (l7 : List UInt8) (b8 : Bool) (b9 : Bool) (n10 : Int) (n11 : Int) (l0 : List UInt8) (n3 : Int) (L : List D → Mem → Option R) (K : Ex → List D → Mem → Option R) :
    roundK (fun st K => codeK (cx_aencode N f) (loopN Try.f87 0) st K) 45 [1, 3, 4, 33, 34, 35] [1, 3, 4] L [(.ptr 0 1 0), (.ptr 0 3 0), (.v (.bytes l0) (.own (.slot 4) 5)), (.v (.sl 46 vs1) .no), (.v (.int .i64 n2) .no), (.v (.int .i64 n3) .no)] [[(1, ⟨46, [(.v (.int .i64 n4) .no), (.v (.int .i64 n5) .no), (.v (.sl 46 vs6) .no)]⟩), (3, ⟨113, [(.v (.str l7) .no), (.v (.bool b8) .no), (.v (.bool b9) .no), (.v (.int .i64 n10) .no), (.v (.int .i64 n11) .no)]⟩)]] K = F_aencode_8 N f vs1 n2 n4 n5 vs6 l7 b8 b9 n10 n11 (fun l0 n3 => L [(.ptr 0 1 0), (.ptr 0 3 0), (.v (.bytes l0) (.own (.slot 4) 5)), (.v (.sl 46 vs1) .no), (.v (.int .i64 n2) .no), (.v (.int .i64 n3) .no)] [[(1, ⟨46, [(.v (.int .i64 n4) .no), (.v (.int .i64 n5) .no), (.v (.sl 46 vs6) .no)]⟩), (3, ⟨113, [(.v (.str l7) .no), (.v (.bool b8) .no), (.v (.bool b9) .no), (.v (.int .i64 n10) .no), (.v (.int .i64 n11) .no)]⟩)]]) (fun a0 => K (.exit 0) [(.ptr 0 1 0), (.ptr 0 3 0), (.v (.bytes a0) (.own (.slot 4) 5))] [[(1, ⟨46, [(.v (.int .i64 n4) .no), (.v (.int .i64 n5) .no), (.v (.sl 46 vs6) .no)]⟩), (3, ⟨113, [(.v (.str l7) .no), (.v (.bool b8) .no), (.v (.bool b9) .no), (.v (.int .i64 n10) .no), (.v (.int .i64 n11) .no)]⟩)]]) l0 n3 := by
  kernel_rfl
theorem S_aencode_8_ok {R : Type} (N : Nat) (f : Int → Int → List V → Option (List UInt8)) (vs1 : List V) (n2 : Int) (n4 : Int) (n5 : Int) (vs6 : List V) (l7 : List UInt8) (b8 : Bool) (b9 : Bool) (n10 : Int) (n11 : Int) (K : Ex → List D → Mem → Option R) : ∀ (t : Nat) (l0 : List UInt8) (n3 : Int),
    loopK (fun st K => codeK (cx_aencode N f) (loopN Try.f87 0) st K) 45 [1, 3, 4, 33, 34, 35] [1, 3, 4] t [(.ptr 0 1 0), (.ptr 0 3 0), (.v (.bytes l0) (.own (.slot 4) 5)), (.v (.sl 46 vs1) .no), (.v (.int .i64 n2) .no), (.v (.int .i64 n3) .no)] [[(1, ⟨46, [(.v (.int .i64 n4) .no), (.v (.int .i64 n5) .no), (.v (.sl 46 vs6) .no)]⟩), (3, ⟨113, [(.v (.str l7) .no), (.v (.bool b8) .no), (.v (.bool b9) .no), (.v (.int .i64 n10) .no), (.v (.int .i64 n11) .no)]⟩)]] K = S_aencode_8 N f vs1 n2 n4 n5 vs6 l7 b8 b9 n10 n11 t l0 n3 (fun a0 => K (.exit 0) [(.ptr 0 1 0), (.ptr 0 3 0), (.v (.bytes a0) (.own (.slot 4) 5))] [[(1, ⟨46, [(.v (.int .i64 n4) .no), (.v (.int .i64 n5) .no), (.v (.sl 46 vs6) .no)]⟩), (3, ⟨113, [(.v (.str l7) .no), (.v (.bool b8) .no), (.v (.bool b9) .no), (.v (.int .i64 n10) .no), (.v (.int .i64 n11) .no)]⟩)]])
  | 0, l0, n3 => rfl
  | t + 1, l0, n3 => (F_aencode_8_ok N f vs1 n2 n4 n5 vs6 l7 b8 b9 n10 n11 l0 n3 _ K).trans (congrArg (fun L => F_aencode_8 N f vs1 n2 n4 n5 vs6 l7 b8 b9 n10 n11 L (fun a0 => K (.exit 0) [(.ptr 0 1 0), (.ptr 0 3 0), (.v (.bytes a0) (.own (.slot 4) 5))] [[(1, ⟨46, [(.v (.int .i64 n4) .no), (.v (.int .i64 n5) .no), (.v (.sl 46 vs6) .no)]⟩), (3, ⟨113, [(.v (.str l7) .no), (.v (.bool b8) .no), (.v (.bool b9) .no), (.v (.int .i64 n10) .no), (.v (.int .i64 n11) .no)]⟩)]]) l0 n3) (funext fun l0 => funext fun n3 => S_aencode_8_ok N f vs1 n2 n4 n5 vs6 l7 b8 b9 n10 n11 K t l0 n3))
theorem B_aencode_ok (N : Nat) (f : Int → Int → List V → Option (List UInt8)) (x0 : Int) (x1 : Int) (x2 : List V) : bodyK (cx_aencode N f) Try.f87 [.agg [.v (.int .i64 x0) .no, .v (.int .i64 x1) .no, .v (.sl 46 x2) .no]] [] r_aencode = B_aencode N f x0 x1 x2 := by
  kernel_rfl
theorem go_aencode : Goes Try.prog 87 := goes_of Try.func87 (by kernel_rfl) (c := bodyOf Try.f87) (by kernel_rfl)
theorem eo_aencode (s : Int → Int → List V → Option (List UInt8)) (hs : ∀ (x0 : Int) (x1 : Int) (x2 : List V) (r0 : List UInt8), s x0 x1 x2 = some r0 → PureRet Try.prog T 87 [.agg [.v (.int .i64 x0) .no, .v (.int .i64 x1) .no, .v (.sl 46 x2) .no]] [.v (.bytes r0) .no]) : EntOK Try.prog T ⟨87, e_aencode s⟩ := by
  refine ⟨go_aencode, fun R ds K r h => ?_, fun R ds K => ?_⟩
  · simp only [e_aencode] at h
    split at h
    · obtain ⟨r0, h1, h2⟩ := bnd1_some h
      exact ⟨_, h2, hs _ _ _ _ h1⟩
    · cases h
  · simp only [e_aencode]
    split
    · rw [bnd1_b]; rfl
    · rfl
theorem co_aencode (N : Nat) (f : Int → Int → List V → Option (List UInt8)) (hf : ∀ (x0 : Int) (x1 : Int) (x2 : List V) (r0 : List UInt8), f x0 x1 x2 = some r0 → PureRet Try.prog T 87 [.agg [.v (.int .i64 x0) .no, .v (.int .i64 x1) .no, .v (.sl 46 x2) .no]] [.v (.bytes r0) .no]) : CxOK Try.prog (cx_aencode N f) :=
  cxOK_of2 (es := [⟨87, e_aencode f⟩, ⟨103, e_forms (s_forms N)⟩]) (me := []) (ms := []) T_ok ⟨eo_aencode f hf, eo_forms _ (p_forms N), trivial⟩ trivial trivial rfl (fun _ _ _ _ => rfl) (fun _ _ _ _ _ _ => rfl) rfl
theorem lk_aencode_8 (N : Nat) (f : Int → Int → List V → Option (List UInt8)) : LoopOK (cx_aencode N f) 45 (loopN Try.f87 0) := by
  refine loopOK_of (rid := 8) (by kernel_rfl) rfl rfl fun R ds m K r h => ?_
  have h : l_aencode_8 N f ds m K = some r := h
  unfold l_aencode_8 at h
  split at h
  · exact ⟨N, Eq.trans (S_aencode_8_ok ..) h⟩
  · cases h
theorem lo_aencode (N : Nat) (f : Int → Int → List V → Option (List UInt8)) : LoopsOK (cx_aencode N f) Try.f87.ntmps (bodyOf Try.f87) :=
  loopsOK_of (k := 1) (by kernel_rfl) ⟨trivial, lk_aencode_8 N f⟩
theorem p_aencode (N : Nat) : ∀ (M : Nat) (x0 : Int) (x1 : Int) (x2 : List V) (r0 : List UInt8), s_aencode N M x0 x1 x2 = some r0 → PureRet Try.prog T 87 [.agg [.v (.int .i64 x0) .no, .v (.int .i64 x1) .no, .v (.sl 46 x2) .no]] [.v (.bytes r0) .no]
  | 0, _, _, _, _, h => by cases h
  | M + 1, x0, x1, x2, r0, h => pure_of (cx := cx_aencode N (s_aencode N M)) (by kernel_rfl) (co_aencode N (s_aencode N M) (p_aencode N M)) Try.func87 (by kernel_rfl) (by kernel_rfl) (lo_aencode N (s_aencode N M)) rfl rfl rfl (rf := r_aencode) ((B_aencode_ok N (s_aencode N M) x0 x1 x2).trans h) (fun rs' m h => by
    unfold r_aencode at h
    split at h
    · cases h; exact ⟨rfl, rfl⟩
    · cases h)
end Go.Proofs.Ytllnklkjkjmjbaa.En

/- Functions of the program in plain Lean, joined to the program by evaluation; printed by a program. -/
namespace Go.Proofs.Ytllnklkjkjmjbaa.En
open Go Go.Proofs
set_option maxRecDepth 100000
set_option linter.unusedVariables false
noncomputable def e_aEncode {R : Type} (s : List V → Option (List UInt8 × Int)) (ds : List D) (K : List D → Option R) : Option R :=
  match ds with
  | [.v (.sl 48 x0) .no] => bnd2 (s x0) fun r0 r1 => K [.v (.bytes r0) .no, .v (.int .i64 r1) .no]
  | _ => none
noncomputable def r_aEncode (rs : List D) (_ : Mem) : Option (List UInt8 × Int) :=
  match rs with
  | [.v (.bytes r0) _, .v (.int .i64 r1) _] => some (r0, r1)
  | _ => none
noncomputable def F_aEncode_6 {R : Type} (N : Nat) (vs1 : List V) (n2 : Int) (Lq : List V → Int → Option R) (K0 : List V → Option R) (vs0 : List V) (n3 : Int) : Option R :=
  br (decide (n3 < n2))
  (br (decide (0 ≤ n3) && decide (n3 < (↑vs1.length : Int)))
    (at? vs1 n3.toNat fun x0 =>
      x0.unAgg fun l1 =>
        unCons l1 fun x2 l3 =>
          V.unInt IntKind.i64 x2 fun n4 =>
            unCons l3 fun x5 l6 =>
              V.unInt IntKind.i64 x5 fun n7 =>
                unCons l6 fun x8 l9 =>
                  V.unInt IntKind.i64 x8 fun n10 =>
                    unCons l9 fun x11 l12 =>
                      V.unSl 46 x11 fun l13 =>
                        unNil l12
                          (bnd1 (s_aencode N N n7 n10 l13) fun l14 =>
                            br (decide (([UInt8.ofNat (IntKind.u8.wrap n4).toNat].length + l14.length) * 1 ≤ 140737488355328))
                              (br (decide ((vs0.length + [V.agg [V.int IntKind.i64 128, V.bytes (UInt8.ofNat (IntKind.u8.wrap n4).toNat :: [].append l14), V.sl 62 []]].length) * 56 ≤ 140737488355328))
                                (Lq (vs0 ++ [V.agg [V.int IntKind.i64 128, V.bytes (UInt8.ofNat (IntKind.u8.wrap n4).toNat :: [].append l14), V.sl 62 []]]) (IntKind.i64.wrap (n3 + 1))) none)
                              none))
    none)
  (K0 vs0)
noncomputable def S_aEncode_6 {R : Type} (N : Nat) (vs1 : List V) (n2 : Int) : Nat → List V → Int → (List V → Option R) → Option R
  | 0, _, _, _ => none
  | t + 1, vs0, n3, K0 => F_aEncode_6 N vs1 n2 (fun vs0 n3 => S_aEncode_6 N vs1 n2 t vs0 n3 K0) K0 vs0 n3
noncomputable def l_aEncode_6 {R : Type} (N : Nat) (ds : List D) (m : Mem) (K : Ex → List D → Mem → Option R) : Option R :=
  match ds, m with
  | [(.v (.sl 62 vs0) (.own (.slot 5) 62)), (.v (.sl 48 vs1) .no), (.v (.int .i64 n2) .no), (.v (.int .i64 n3) .no)], [[]] => S_aEncode_6 N vs1 n2 N vs0 n3 (fun a0 => K (.exit 0) [(.v (.sl 62 a0) (.own (.slot 5) 62))] [[]])
  | _, _ => none
noncomputable def s_aEncode (N : Nat) (x0 : List V) : Option (List UInt8 × Int) :=
  bnd1 (s_aCheckRules N x0) fun n0 => br (!decide (n0 = 0)) (some ([], n0)) (S_aEncode_6 N x0 (↑x0.length : Int) N [] 0 fun l1 => bnd2 (s_Encode N l1) fun l2 n3 => some (l2, n3))
noncomputable def cx_aEncode (N : Nat) : Cx := { T := T, isPure := tabP [⟨30, e_aCheckRules (s_aCheckRules N)⟩, ⟨87, e_aencode (s_aencode N N)⟩, ⟨41, e_Encode (s_Encode N)⟩], pureK := fun g ds K => tabK [⟨30, e_aCheckRules (s_aCheckRules N)⟩, ⟨87, e_aencode (s_aencode N N)⟩, ⟨41, e_Encode (s_Encode N)⟩] g ds K, memK := fun g dst ds m K => tabMK [] g dst ds m K, meth := tabM [], keep := fun r => match r with | 6 => [5, 13, 14, 15] | _ => [], keepX := fun r => match r with | 6 => [5] | _ => [], loopT := fun r ds m K => match r with | 6 => l_aEncode_6 N ds m K | _ => none, jumps := 9 }
theorem F_aEncode_6_ok {R : Type} (N : Nat) (vs1 : List V) (n2 : Int) (vs0 : List V) (n3 : Int) (L : List D → Mem → Option R) (K : Ex → List D → Mem → Option R) :
    roundK (fun st K => codeK (cx_aEncode N) (loopN Try.f62 0) st K) 36 [5, 13, 14, 15] [5] L [(.v (.sl 62 vs0) (.own (.slot 5) 62)), (.v (.sl 48 vs1) .no), (.v (.int .i64 n2) .no), (.v (.int .i64 n3) .no)] [[]] K = F_aEncode_6 N vs1 n2 (fun vs0 n3 => L [(.v (.sl 62 vs0) (.own (.slot 5) 62)), (.v (.sl 48 vs1) .no), (.v (.int .i64 n2) .no), (.v (.int .i64 n3) .no)] [[]]) (fun a0 => K (.exit 0) [(.v (.sl 62 a0) (.own (.slot 5) 62))] [[]]) vs0 n3 := by
  kernel_rfl
theorem S_aEncode_6_ok {R : Type} (N : Nat) (vs1 : List V) (n2 : Int) (K : Ex → List D → Mem → Option R) : ∀ (t : Nat) (vs0 : List V) (n3 : Int),
    loopK (fun st K => codeK (cx_aEncode N) (loopN Try.f62 0) st K) 36 [5, 13, 14, 15] [5] t [(.v (.sl 62 vs0) (.own (.slot 5) 62)), (.v (.sl 48 vs1) .no), (.v (.int .i64 n2) .no), (.v (.int .i64 n3) .no)] [[]] K = S_aEncode_6 N vs1 n2 t vs0 n3 (fun a0 => K (.exit 0) [(.v (.sl 62 a0) (.own (.slot 5) 62))] [[]])
  | 0, vs0, n3 => rfl
  | t + 1, vs0, n3 => (F_aEncode_6_ok N vs1 n2 vs0 n3 _ K).trans (congrArg (fun L => F_aEncode_6 N vs1 n2 L (fun a0 => K (.exit 0) [(.v (.sl 62 a0) (.own (.slot 5) 62))] [[]]) vs0 n3) (funext fun vs0 => funext fun n3 => S_aEncode_6_ok N vs1 n2 K t vs0 n3))
theorem s_aEncode_ok (N : Nat) (x0 : List V) : bodyK (cx_aEncode N) Try.f62 [.v (.sl 48 x0) .no] [] r_aEncode = s_aEncode N x0 := by
  kernel_rfl
theorem go_aEncode : Goes Try.prog 62 := goes_of Try.func62 (by kernel_rfl) (c := bodyOf Try.f62) (by kernel_rfl)
theorem eo_aEncode (s : List V → Option (List UInt8 × Int)) (hs : ∀ (x0 : List V) (r0 : List UInt8) (r1 : Int), s x0 = some (r0, r1) → PureRet Try.prog T 62 [.v (.sl 48 x0) .no] [.v (.bytes r0) .no, .v (.int .i64 r1) .no]) : EntOK Try.prog T ⟨62, e_aEncode s⟩ := by
  refine ⟨go_aEncode, fun R ds K r h => ?_, fun R ds K => ?_⟩
  · simp only [e_aEncode] at h
    split at h
    · obtain ⟨r0, r1, h1, h2⟩ := bnd2_some h
      exact ⟨_, h2, hs _ _ _ h1⟩
    · cases h
  · simp only [e_aEncode]
    split
    · rw [bnd2_b]; rfl
    · rfl
theorem co_aEncode (N : Nat) : CxOK Try.prog (cx_aEncode N) :=
  cxOK_of2 (es := [⟨30, e_aCheckRules (s_aCheckRules N)⟩, ⟨87, e_aencode (s_aencode N N)⟩, ⟨41, e_Encode (s_Encode N)⟩]) (me := []) (ms := []) T_ok ⟨eo_aCheckRules _ (p_aCheckRules N), eo_aencode _ (p_aencode N N), eo_Encode _ (p_Encode N), trivial⟩ trivial trivial rfl (fun _ _ _ _ => rfl) (fun _ _ _ _ _ _ => rfl) rfl
theorem lk_aEncode_6 (N : Nat) : LoopOK (cx_aEncode N) 36 (loopN Try.f62 0) := by
  refine loopOK_of (rid := 6) (by kernel_rfl) rfl rfl fun R ds m K r h => ?_
  have h : l_aEncode_6 N ds m K = some r := h
  unfold l_aEncode_6 at h
  split at h
  · exact ⟨N, Eq.trans (S_aEncode_6_ok ..) h⟩
  · cases h
theorem lo_aEncode (N : Nat) : LoopsOK (cx_aEncode N) Try.f62.ntmps (bodyOf Try.f62) :=
  loopsOK_of (k := 1) (by kernel_rfl) ⟨trivial, lk_aEncode_6 N⟩
theorem p_aEncode (N : Nat) (x0 : List V) (r0 : List UInt8) (r1 : Int) (h : s_aEncode N x0 = some (r0, r1)) : PureRet Try.prog T 62 [.v (.sl 48 x0) .no] [.v (.bytes r0) .no, .v (.int .i64 r1) .no] :=
  pure_of (cx := cx_aEncode N) (by kernel_rfl) (co_aEncode N) Try.func62 (by kernel_rfl) (by kernel_rfl) (lo_aEncode N) rfl rfl rfl (rf := r_aEncode) ((s_aEncode_ok N x0).trans h) (fun rs' m h => by
    unfold r_aEncode at h
    split at h
    · cases h; exact ⟨rfl, rfl⟩
    · cases h)
noncomputable def e_qSameCond {R : Type} (s : Int → Int → List V → Int → Int → List V → Option (Bool)) (ds : List D) (K : List D → Option R) : Option R :=
  match ds with
  | [.agg [.v (.int .i64 x0) .no, .v (.int .i64 x1) .no, .v (.sl 46 x2) .no], .agg [.v (.int .i64 x3) .no, .v (.int .i64 x4) .no, .v (.sl 46 x5) .no]] => bnd1 (s x0 x1 x2 x3 x4 x5) fun r0 => K [.v (.bool r0) .no]
  | _ => none
noncomputable def r_qSameCond (rs : List D) (_ : Mem) : Option (Bool) :=
  match rs with
  | [.v (.bool r0) _] => some (r0)
  | _ => none
noncomputable def F_qSameCond_4 {R : Type} (N : Nat) (f : Int → Int → List V → Int → Int → List V → Option (Bool)) (n1 : Int) (n2 : Int) (vs3 : List V) (n4 : Int) (n5 : Int) (vs6 : List V) (Lq : Int → Option R) (K0 : Bool → Option R) (K1 : Option R) (n0 : Int) : Option R :=
  br (decide (n0 < (↑vs3.length : Int)))
  (br (decide (0 ≤ n0) && decide (n0 < (↑vs3.length : Int)))
    (at? vs3 n0.toNat fun x0 =>
      x0.unAgg fun l1 =>
        unCons l1 fun x2 l3 =>
          V.unInt IntKind.i64 x2 fun n4 =>
            unCons l3 fun x5 l6 =>
              V.unInt IntKind.i64 x5 fun n7 =>
                unCons l6 fun x8 l9 =>
                  V.unSl 46 x8 fun l10 =>
                    unNil l9
                      (br (decide (0 ≤ n0) && decide (n0 < (↑vs6.length : Int)))
                        (at? vs6 n0.toNat fun x11 =>
                          x11.unAgg fun l12 =>
                            unCons l12 fun x13 l14 =>
                              V.unInt IntKind.i64 x13 fun n15 =>
                                unCons l14 fun x16 l17 =>
                                  V.unInt IntKind.i64 x16 fun n18 => unCons l17 fun x19 l20 => V.unSl 46 x19 fun l21 => unNil l20 (bnd1 (f n4 n7 l10 n15 n18 l21) fun b22 => br (!b22) (K0 false) (Lq (IntKind.i64.wrap (n0 + 1)))))
                        none))
    none)
  K1
noncomputable def S_qSameCond_4 {R : Type} (N : Nat) (f : Int → Int → List V → Int → Int → List V → Option (Bool)) (n1 : Int) (n2 : Int) (vs3 : List V) (n4 : Int) (n5 : Int) (vs6 : List V) : Nat → Int → (Bool → Option R) → (Option R) → Option R
  | 0, _, _, _ => none
  | t + 1, n0, K0, K1 => F_qSameCond_4 N f n1 n2 vs3 n4 n5 vs6 (fun n0 => S_qSameCond_4 N f n1 n2 vs3 n4 n5 vs6 t n0 K0 K1) K0 K1 n0
noncomputable def l_qSameCond_4 {R : Type} (N : Nat) (f : Int → Int → List V → Int → Int → List V → Option (Bool)) (ds : List D) (m : Mem) (K : Ex → List D → Mem → Option R) : Option R :=
  match ds, m with
  | [(.ptr 0 2 0), (.ptr 0 3 0), (.v (.int .i64 n0) .no)], [[(2, ⟨46, [(.v (.int .i64 n1) .no), (.v (.int .i64 n2) .no), (.v (.sl 46 vs3) .no)]⟩), (3, ⟨46, [(.v (.int .i64 n4) .no), (.v (.int .i64 n5) .no), (.v (.sl 46 vs6) .no)]⟩)]] => S_qSameCond_4 N f n1 n2 vs3 n4 n5 vs6 N n0 (fun a0 => K .ret [(.ptr 0 2 0), (.ptr 0 3 0), (.v (.bool a0) .no)] [[(2, ⟨46, [(.v (.int .i64 n1) .no), (.v (.int .i64 n2) .no), (.v (.sl 46 vs3) .no)]⟩), (3, ⟨46, [(.v (.int .i64 n4) .no), (.v (.int .i64 n5) .no), (.v (.sl 46 vs6) .no)]⟩)]]) (K (.exit 0) [(.ptr 0 2 0), (.ptr 0 3 0), .any] [[(2, ⟨46, [(.v (.int .i64 n1) .no), (.v (.int .i64 n2) .no), (.v (.sl 46 vs3) .no)]⟩), (3, ⟨46, [(.v (.int .i64 n4) .no), (.v (.int .i64 n5) .no), (.v (.sl 46 vs6) .no)]⟩)]])
  | _, _ => none
noncomputable def B_qSameCond (N : Nat) (f : Int → Int → List V → Int → Int → List V → Option (Bool)) (x0 : Int) (x1 : Int) (x2 : List V) (x3 : Int) (x4 : Int) (x5 : List V) : Option (Bool) :=
  br (!decide (x0 = x3)) (some false) (br (!decide (x1 = x4)) (some false) (br (!decide ((↑x2.length : Int) = (↑x5.length : Int))) (some false) (S_qSameCond_4 N f x0 x1 x2 x3 x4 x5 N 0 (fun b0 => some b0) (some true))))
noncomputable def s_qSameCond (N : Nat) : Nat → Int → Int → List V → Int → Int → List V → Option (Bool)
  | 0, _, _, _, _, _, _ => none
  | n + 1, x0, x1, x2, x3, x4, x5 => B_qSameCond N (s_qSameCond N n) x0 x1 x2 x3 x4 x5
noncomputable def cx_qSameCond (N : Nat) (f : Int → Int → List V → Int → Int → List V → Option (Bool)) : Cx := { T := T, isPure := tabP [⟨45, e_qSameCond f⟩], pureK := fun g ds K => tabK [⟨45, e_qSameCond f⟩] g ds K, memK := fun g dst ds m K => tabMK [] g dst ds m K, meth := tabM [], keep := fun r => match r with | 4 => [2, 3, 5] | _ => [], keepX := fun r => match r with | 4 => [2, 3, 4] | _ => [], loopT := fun r ds m K => match r with | 4 => l_qSameCond_4 N f ds m K | _ => none, jumps := 9 }
theorem F_qSameCond_4_ok {R : Type} (N : Nat) (f : Int → Int → List V → Int → Int → List V → Option (Bool)) (n1 : Int) (n2 : Int) (vs3 : List V) (n4 : Int) (n5 : Int) (vs6 : List V) (n0 : Int) (L : List D → Mem → Option R) (K : Ex → List D → Mem → Option R) :
    roundK (fun st K => codeK (cx_qSameCond N f) (loopN Try.f45 0) st K) 46 [2, 3, 5] [2, 3, 4] L [(.ptr 0 2 0), (.ptr 0 3 0), (.v (.int .i64 n0) .no)] [[(2, ⟨46, [(.v (.int .i64 n1) .no), (.v (.int .i64 n2) .no), (.v (.sl 46 vs3) .no)]⟩), (3, ⟨46, [(.v (.int .i64 n4) .no), (.v (.int .i64 n5) .no), (.v (.sl 46 vs6) .no)]⟩)]] K = F_qSameCond_4 N f n1 n2 vs3 n4 n5 vs6 (fun n0 => L [(.ptr 0 2 0), (.ptr 0 3 0), (.v (.int .i64 n0) .no)] [[(2, ⟨46, [(.v (.int .i64 n1) .no), (.v (.int .i64 n2) .no), (.v (.sl 46 vs3) .no)]⟩), (3, ⟨46, [(.v (.int .i64 n4) .no), (.v (.int .i64 n5) .no), (.v (.sl 46 vs6) .no)]⟩)]]) (fun a0 => K .ret [(.ptr 0 2 0), (.ptr 0 3 0), (.v (.bool a0) .no)] [[(2, ⟨46, [(.v (.int .i64 n1) .no), (.v (.int .i64 n2) .no), (.v (.sl 46 vs3) .no)]⟩), (3, ⟨46, [(.v (.int .i64 n4) .no), (.v (.int .i64 n5) .no), (.v (.sl 46 vs6) .no)]⟩)]]) (K (.exit 0) [(.ptr 0 2 0), (.ptr 0 3 0), .any] [[(2, ⟨46, [(.v (.int .i64 n1) .no), (.v (.int .i64 n2) .no), (.v (.sl 46 vs3) .no)]⟩), (3, ⟨46, [(.v (.int .i64 n4) .no), (.v (.int .i64 n5) .no), (.v (.sl 46 vs6) .no)]⟩)]]) n0 := by
  kernel_rfl
theorem S_qSameCond_4_ok {R : Type} (N : Nat) (f : Int → Int → List V → Int → Int → List V → Option (Bool)) (n1 : Int) (n2 : Int) (vs3 : List V) (n4 : Int) (n5 : Int) (vs6 : List V) (K : Ex → List D → Mem → Option R) : ∀ (t : Nat) (n0 : Int),
    loopK (fun st K => codeK (cx_qSameCond N f) (loopN Try.f45 0) st K) 46 [2, 3, 5] [2, 3, 4] t [(.ptr 0 2 0), (.ptr 0 3 0), (.v (.int .i64 n0) .no)] [[(2, ⟨46, [(.v (.int .i64 n1) .no), (.v (.int .i64 n2) .no), (.v (.sl 46 vs3) .no)]⟩), (3, ⟨46, [(.v (.int .i64 n4) .no), (.v (.int .i64 n5) .no), (.v (.sl 46 vs6) .no)]⟩)]] K = S_qSameCond_4 N f n1 n2 vs3 n4 n5 vs6 t n0 (fun a0 => K .ret [(.ptr 0 2 0), (.ptr 0 3 0), (.v (.bool a0) .no)] [[(2, ⟨46, [(.v (.int .i64 n1) .no), (.v (.int .i64 n2) .no), (.v (.sl 46 vs3) .no)]⟩), (3, ⟨46, [(.v (.int .i64 n4) .no), (.v (.int .i64 n5) .no), (.v (.sl 46 vs6) .no)]⟩)]]) (K (.exit 0) [(.ptr 0 2 0), (.ptr 0 3 0), .any] [[(2, ⟨46, [(.v (.int .i64 n1) .no), (.v (.int .i64 n2) .no), (.v (.sl 46 vs3) .no)]⟩), (3, ⟨46, [(.v (.int .i64 n4) .no), (.v (.int .i64 n5) .no), (.v (.sl 46 vs6) .no)]⟩)]])
  | 0, n0 => rfl
  | t + 1, n0 => (F_qSameCond_4_ok N f n1 n2 vs3 n4 n5 vs6 n0 _ K).trans (congrArg (fun L => F_qSameCond_4 N f n1 n2 vs3 n4 n5 vs6 L (fun a0 => K .ret [(.ptr 0 2 0), (.ptr 0 3 0), (.v (.bool a0) .no)] [[(2, ⟨46, [(.v (.int .i64 n1) .no), (.v (.int .i64 n2) .no), (.v (.sl 46 vs3) .no)]⟩), (3, ⟨46, [(.v (.int .i64 n4) .no), (.v (.int .i64 n5) .no), (.v (.sl 46 vs6) .no)]⟩)]]) (K (.exit 0) [(.ptr 0 2 0), (.ptr 0 3 0), .any] [[(2, ⟨46, [(.v (.int .i64 n1) .no), (.v (.int .i64 n2) .no), (.v (.sl 46 vs3) .no)]⟩), (3, ⟨46, [(.v (.int .i64 n4) .no), (.v (.int .i64 n5) .no), (.v (.sl 46 vs6) .no)]⟩)]]) n0) (funext fun n0 => S_qSameCond_4_ok N f n1 n2 vs3 n4 n5 vs6 K t n0))
theorem B_qSameCond_ok (N : Nat) (f : Int → Int → List V → Int → Int → List V → Option (Bool)) (x0 : Int) (x1 : Int) (x2 : List V) (x3 : Int) (x4 : Int) (x5 : List V) : bodyK (cx_qSameCond N f) Try.f45 [.agg [.v (.int .i64 x0) .no, .v (.int .i64 x1) .no, .v (.sl 46 x2) .no], .agg [.v (.int .i64 x3) .no, .v (.int .i64 x4) .no, .v (.sl 46 x5) .no]] [] r_qSameCond = B_qSameCond N f x0 x1 x2 x3 x4 x5 := by
  kernel_rfl
theorem go_qSameCond : Goes Try.prog 45 := goes_of Try.func45 (by kernel_rfl) (c := bodyOf Try.f45) (by kernel_rfl)
theorem eo_qSameCond (s : Int → Int → List V → Int → Int → List V → Option (Bool)) (hs : ∀ (x0 : Int) (x1 : Int) (x2 : List V) (x3 : Int) (x4 : Int) (x5 : List V) (r0 : Bool), s x0 x1 x2 x3 x4 x5 = some r0 → PureRet Try.prog T 45 [.agg [.v (.int .i64 x0) .no, .v (.int .i64 x1) .no, .v (.sl 46 x2) .no], .agg [.v (.int .i64 x3) .no, .v (.int .i64 x4) .no, .v (.sl 46 x5) .no]] [.v (.bool r0) .no]) : EntOK Try.prog T ⟨45, e_qSameCond s⟩ := by
  refine ⟨go_qSameCond, fun R ds K r h => ?_, fun R ds K => ?_⟩
  · simp only [e_qSameCond] at h
    split at h
    · obtain ⟨r0, h1, h2⟩ := bnd1_some h
      exact ⟨_, h2, hs _ _ _ _ _ _ _ h1⟩
    · cases h
  · simp only [e_qSameCond]
    split
    · rw [bnd1_b]; rfl
    · rfl
theorem co_qSameCond (N : Nat) (f : Int → Int → List V → Int → Int → List V → Option (Bool)) (hf : ∀ (x0 : Int) (x1 : Int) (x2 : List V) (x3 : Int) (x4 : Int) (x5 : List V) (r0 : Bool), f x0 x1 x2 x3 x4 x5 = some r0 → PureRet Try.prog T 45 [.agg [.v (.int .i64 x0) .no, .v (.int .i64 x1) .no, .v (.sl 46 x2) .no], .agg [.v (.int .i64 x3) .no, .v (.int .i64 x4) .no, .v (.sl 46 x5) .no]] [.v (.bool r0) .no]) : CxOK Try.prog (cx_qSameCond N f) :=
  cxOK_of2 (es := [⟨45, e_qSameCond f⟩]) (me := []) (ms := []) T_ok ⟨eo_qSameCond f hf, trivial⟩ trivial trivial rfl (fun _ _ _ _ => rfl) (fun _ _ _ _ _ _ => rfl) rfl
theorem lk_qSameCond_4 (N : Nat) (f : Int → Int → List V → Int → Int → List V → Option (Bool)) : LoopOK (cx_qSameCond N f) 46 (loopN Try.f45 0) := by
  refine loopOK_of (rid := 4) (by kernel_rfl) rfl rfl fun R ds m K r h => ?_
  have h : l_qSameCond_4 N f ds m K = some r := h
  unfold l_qSameCond_4 at h
  split at h
  · exact ⟨N, Eq.trans (S_qSameCond_4_ok ..) h⟩
  · cases h
theorem lo_qSameCond (N : Nat) (f : Int → Int → List V → Int → Int → List V → Option (Bool)) : LoopsOK (cx_qSameCond N f) Try.f45.ntmps (bodyOf Try.f45) :=
  loopsOK_of (k := 1) (by kernel_rfl) ⟨trivial, lk_qSameCond_4 N f⟩
theorem p_qSameCond (N : Nat) : ∀ (M : Nat) (x0 : Int) (x1 : Int) (x2 : List V) (x3 : Int) (x4 : Int) (x5 : List V) (r0 : Bool), s_qSameCond N M x0 x1 x2 x3 x4 x5 = some r0 → PureRet Try.prog T 45 [.agg [.v (.int .i64 x0) .no, .v (.int .i64 x1) .no, .v (.sl 46 x2) .no], .agg [.v (.int .i64 x3) .no, .v (.int .i64 x4) .no, .v (.sl 46 x5) .no]] [.v (.bool r0) .no]
  | 0, _, _, _, _, _, _, _, h => by cases h
  | M + 1, x0, x1, x2, x3, x4, x5, r0, h => pure_of (cx := cx_qSameCond N (s_qSameCond N M)) (by kernel_rfl) (co_qSameCond N (s_qSameCond N M) (p_qSameCond N M)) Try.func45 (by kernel_rfl) (by kernel_rfl) (lo_qSameCond N (s_qSameCond N M)) rfl rfl rfl (rf := r_qSameCond) ((B_qSameCond_ok N (s_qSameCond N M) x0 x1 x2 x3 x4 x5).trans h) (fun rs' m h => by
    unfold r_qSameCond at h
    split at h
    · cases h; exact ⟨rfl, rfl⟩
    · cases h)
noncomputable def e_qSame {R : Type} (s : List V → List V → Option (Bool)) (ds : List D) (K : List D → Option R) : Option R :=
  match ds with
  | [.v (.sl 48 x0) .no, .v (.sl 48 x1) .no] => bnd1 (s x0 x1) fun r0 => K [.v (.bool r0) .no]
  | _ => none
noncomputable def r_qSame (rs : List D) (_ : Mem) : Option (Bool) :=
  match rs with
  | [.v (.bool r0) _] => some (r0)
  | _ => none
noncomputable def F_qSame_4 {R : Type} (N : Nat) (vs0 : List V) (vs1 : List V) (Lq : Int → Option R) (K0 : Bool → Option R) (K1 : Option R) (n2 : Int) : Option R :=
  br (decide (n2 < (↑vs0.length : Int)))
  (br (decide (0 ≤ n2) && decide (n2 < (↑vs0.length : Int)))
    (at? vs0 n2.toNat fun x0 =>
      x0.unAgg fun l1 =>
        unCons l1 fun x2 l3 =>
          V.unInt IntKind.i64 x2 fun n4 =>
            unCons l3 fun x5 l6 =>
              V.unInt IntKind.i64 x5 fun n7 =>
                unCons l6 fun x8 l9 =>
                  V.unInt IntKind.i64 x8 fun n10 =>
                    unCons l9 fun x11 l12 =>
                      V.unSl 46 x11 fun l13 =>
                        unNil l12
                          (br (decide (0 ≤ n2) && decide (n2 < (↑vs1.length : Int)))
                            (at? vs1 n2.toNat fun x14 =>
                              x14.unAgg fun l15 =>
                                unCons l15 fun x16 l17 =>
                                  V.unInt IntKind.i64 x16 fun n18 =>
                                    unCons l17 fun x19 l20 =>
                                      V.unInt IntKind.i64 x19 fun n21 =>
                                        unCons l20 fun x22 l23 =>
                                          V.unInt IntKind.i64 x22 fun n24 =>
                                            unCons l23 fun x25 l26 =>
                                              V.unSl 46 x25 fun l27 =>
                                                unNil l26
                                                  (br (!decide (n4 = n18)) (K0 false)
                                                    (br (decide (0 ≤ n2) && decide (n2 < (↑vs0.length : Int)))
                                                      (at? vs0 n2.toNat fun x28 =>
                                                        x28.unAgg fun l29 =>
                                                          unCons l29 fun x30 l31 =>
                                                            V.unInt IntKind.i64 x30 fun n32 =>
                                                              unCons l31 fun x33 l34 =>
                                                                V.unInt IntKind.i64 x33 fun n35 =>
                                                                  unCons l34 fun x36 l37 =>
                                                                    V.unInt IntKind.i64 x36 fun n38 =>
                                                                      unCons l37 fun x39 l40 =>
                                                                        V.unSl 46 x39 fun l41 =>
                                                                          unNil l40
                                                                            (br (decide (0 ≤ n2) && decide (n2 < (↑vs1.length : Int)))
                                                                              (at? vs1 n2.toNat fun x42 =>
                                                                                x42.unAgg fun l43 =>
                                                                                  unCons l43 fun x44 l45 =>
                                                                                    V.unInt IntKind.i64 x44 fun n46 =>
                                                                                      unCons l45 fun x47 l48 =>
                                                                                        V.unInt IntKind.i64 x47 fun n49 =>
                                                                                          unCons l48 fun x50 l51 =>
                                                                                            V.unInt IntKind.i64 x50 fun n52 =>
                                                                                              unCons l51 fun x53 l54 =>
                                                                                                V.unSl 46 x53 fun l55 =>
                                                                                                  unNil l54 (bnd1 (s_qSameCond N N n35 n38 l41 n49 n52 l55) fun b56 => br (!b56) (K0 false) (Lq (IntKind.i64.wrap (n2 + 1)))))
                                                                              none))
                                                      none)))
                            none))
    none)
  K1
noncomputable def S_qSame_4 {R : Type} (N : Nat) (vs0 : List V) (vs1 : List V) : Nat → Int → (Bool → Option R) → (Option R) → Option R
  | 0, _, _, _ => none
  | t + 1, n2, K0, K1 => F_qSame_4 N vs0 vs1 (fun n2 => S_qSame_4 N vs0 vs1 t n2 K0 K1) K0 K1 n2
noncomputable def l_qSame_4 {R : Type} (N : Nat) (ds : List D) (m : Mem) (K : Ex → List D → Mem → Option R) : Option R :=
  match ds, m with
  | [(.v (.sl 48 vs0) .no), (.v (.sl 48 vs1) .no), (.v (.int .i64 n2) .no)], [[]] => S_qSame_4 N vs0 vs1 N n2 (fun a0 => K .ret [(.v (.bool a0) .no)] [[]]) (K (.exit 0) [.any] [[]])
  | _, _ => none
noncomputable def s_qSame (N : Nat) (x0 : List V) (x1 : List V) : Option (Bool) :=
  br (!decide ((↑x0.length : Int) = (↑x1.length : Int))) (some false) (S_qSame_4 N x0 x1 N 0 (fun b0 => some b0) (some true))
noncomputable def cx_qSame (N : Nat) : Cx := { T := T, isPure := tabP [⟨45, e_qSameCond (s_qSameCond N N)⟩], pureK := fun g ds K => tabK [⟨45, e_qSameCond (s_qSameCond N N)⟩] g ds K, memK := fun g dst ds m K => tabMK [] g dst ds m K, meth := tabM [], keep := fun r => match r with | 4 => [0, 1, 5] | _ => [], keepX := fun r => match r with | 4 => [4] | _ => [], loopT := fun r ds m K => match r with | 4 => l_qSame_4 N ds m K | _ => none, jumps := 9 }
theorem F_qSame_4_ok {R : Type} (N : Nat) (vs0 : List V) (vs1 : List V) (n2 : Int) (L : List D → Mem → Option R) (K : Ex → List D → Mem → Option R) :
    roundK (fun st K => codeK (cx_qSame N) (loopN Try.f21 0) st K) 42 [0, 1, 5] [4] L [(.v (.sl 48 vs0) .no), (.v (.sl 48 vs1) .no), (.v (.int .i64 n2) .no)] [[]] K = F_qSame_4 N vs0 vs1 (fun n2 => L [(.v (.sl 48 vs0) .no), (.v (.sl 48 vs1) .no), (.v (.int .i64 n2) .no)] [[]]) (fun a0 => K .ret [(.v (.bool a0) .no)] [[]]) (K (.exit 0) [.any] [[]]) n2 := by
  kernel_rfl
theorem S_qSame_4_ok {R : Type} (N : Nat) (vs0 : List V) (vs1 : List V) (K : Ex → List D → Mem → Option R) : ∀ (t : Nat) (n2 : Int),
    loopK (fun st K => codeK (cx_qSame N) (loopN Try.f21 0) st K) 42 [0, 1, 5] [4] t [(.v (.sl 48 vs0) .no), (.v (.sl 48 vs1) .no), (.v (.int .i64 n2) .no)] [[]] K = S_qSame_4 N vs0 vs1 t n2 (fun a0 => K .ret [(.v (.bool a0) .no)] [[]]) (K (.exit 0) [.any] [[]])
  | 0, n2 => rfl
  | t + 1, n2 => (F_qSame_4_ok N vs0 vs1 n2 _ K).trans (congrArg (fun L => F_qSame_4 N vs0 vs1 L (fun a0 => K .ret [(.v (.bool a0) .no)] [[]]) (K (.exit 0) [.any] [[]]) n2) (funext fun n2 => S_qSame_4_ok N vs0 vs1 K t n2))
theorem s_qSame_ok (N : Nat) (x0 : List V) (x1 : List V) : bodyK (cx_qSame N) Try.f21 [.v (.sl 48 x0) .no, .v (.sl 48 x1) .no] [] r_qSame = s_qSame N x0 x1 := by
  kernel_rfl
theorem go_qSame : Goes Try.prog 21 := goes_of Try.func21 (by kernel_rfl) (c := bodyOf Try.f21) (by kernel_rfl)
theorem eo_qSame (s : List V → List V → Option (Bool)) (hs : ∀ (x0 : List V) (x1 : List V) (r0 : Bool), s x0 x1 = some r0 → PureRet Try.prog T 21 [.v (.sl 48 x0) .no, .v (.sl 48 x1) .no] [.v (.bool r0) .no]) : EntOK Try.prog T ⟨21, e_qSame s⟩ := by
  refine ⟨go_qSame, fun R ds K r h => ?_, fun R ds K => ?_⟩
  · simp only [e_qSame] at h
    split at h
    · obtain ⟨r0, h1, h2⟩ := bnd1_some h
      exact ⟨_, h2, hs _ _ _ h1⟩
    · cases h
  · simp only [e_qSame]
    split
    · rw [bnd1_b]; rfl
    · rfl
theorem co_qSame (N : Nat) : CxOK Try.prog (cx_qSame N) :=
  cxOK_of2 (es := [⟨45, e_qSameCond (s_qSameCond N N)⟩]) (me := []) (ms := []) T_ok ⟨eo_qSameCond _ (p_qSameCond N N), trivial⟩ trivial trivial rfl (fun _ _ _ _ => rfl) (fun _ _ _ _ _ _ => rfl) rfl
theorem lk_qSame_4 (N : Nat) : LoopOK (cx_qSame N) 42 (loopN Try.f21 0) := by
  refine loopOK_of (rid := 4) (by kernel_rfl) rfl rfl fun R ds m K r h => ?_
  have h : l_qSame_4 N ds m K = some r := h
  unfold l_qSame_4 at h
  split at h
  · exact ⟨N, Eq.trans (S_qSame_4_ok ..) h⟩
  · cases h
theorem lo_qSame (N : Nat) : LoopsOK (cx_qSame N) Try.f21.ntmps (bodyOf Try.f21) :=
  loopsOK_of (k := 1) (by kernel_rfl) ⟨trivial, lk_qSame_4 N⟩
theorem p_qSame (N : Nat) (x0 : List V) (x1 : List V) (r0 : Bool) (h : s_qSame N x0 x1 = some r0) : PureRet Try.prog T 21 [.v (.sl 48 x0) .no, .v (.sl 48 x1) .no] [.v (.bool r0) .no] :=
  pure_of (cx := cx_qSame N) (by kernel_rfl) (co_qSame N) Try.func21 (by kernel_rfl) (by kernel_rfl) (lo_qSame N) rfl rfl rfl (rf := r_qSame) ((s_qSame_ok N x0 x1).trans h) (fun rs' m h => by
    unfold r_qSame at h
    split at h
    · cases h; exact ⟨rfl, rfl⟩
    · cases h)
noncomputable def e_oCompare {R : Type} (s : List UInt8 → List UInt8 → Option (Int)) (ds : List D) (K : List D → Option R) : Option R :=
  match ds with
  | [.v (.bytes x0) .no, .v (.bytes x1) .no] => bnd1 (s x0 x1) fun r0 => K [.v (.int .i64 r0) .no]
  | _ => none
noncomputable def r_oCompare (rs : List D) (_ : Mem) : Option (Int) :=
  match rs with
  | [.v (.int .i64 r0) _] => some (r0)
  | _ => none
noncomputable def F_oCompare_2 {R : Type} (N : Nat) (l0 : List UInt8) (l1 : List UInt8) (Lq : Int → Option R) (K0 : Int → Option R) (K1 : Option R) (n2 : Int) : Option R :=
  br (decide (n2 < (↑l0.length : Int)))
  (br (decide (n2 < (↑l1.length : Int)))
    (br (decide (0 ≤ n2) && decide (n2 < (↑l0.length : Int)))
      (at? l0 n2.toNat fun u0 =>
        br (decide (0 ≤ n2) && decide (n2 < (↑l1.length : Int)))
          (at? l1 n2.toNat fun u1 =>
            br (decide ((↑u0.toNat : Int) < (↑u1.toNat : Int))) (K0 (-1))
              (br (decide (0 ≤ n2) && decide (n2 < (↑l0.length : Int)))
                (at? l0 n2.toNat fun u2 => br (decide (0 ≤ n2) && decide (n2 < (↑l1.length : Int))) (at? l1 n2.toNat fun u3 => br (decide ((↑u3.toNat : Int) < (↑u2.toNat : Int))) (K0 1) (Lq (IntKind.i64.wrap (n2 + 1)))) none) none))
          none)
      none)
    K1)
  K1
noncomputable def S_oCompare_2 {R : Type} (N : Nat) (l0 : List UInt8) (l1 : List UInt8) : Nat → Int → (Int → Option R) → (Option R) → Option R
  | 0, _, _, _ => none
  | t + 1, n2, K0, K1 => F_oCompare_2 N l0 l1 (fun n2 => S_oCompare_2 N l0 l1 t n2 K0 K1) K0 K1 n2
noncomputable def l_oCompare_2 {R : Type} (N : Nat) (ds : List D) (m : Mem) (K : Ex → List D → Mem → Option R) : Option R :=
  match ds, m with
  | [(.v (.bytes l0) .no), (.v (.bytes l1) .no), (.v (.int .i64 n2) .no)], [[]] => S_oCompare_2 N l0 l1 N n2 (fun a2 => K .ret [(.v (.bytes l0) .no), (.v (.bytes l1) .no), (.v (.int .i64 a2) .no)] [[]]) (K (.exit 0) [(.v (.bytes l0) .no), (.v (.bytes l1) .no), .any] [[]])
  | _, _ => none
noncomputable def s_oCompare (N : Nat) (x0 : List UInt8) (x1 : List UInt8) : Option (Int) :=
  S_oCompare_2 N x0 x1 N 0 (fun n0 => some n0) (br (decide ((↑x0.length : Int) < (↑x1.length : Int))) (some (-1)) (br (decide ((↑x1.length : Int) < (↑x0.length : Int))) (some 1) (some 0)))
noncomputable def cx_oCompare (N : Nat) : Cx := { T := T, isPure := tabP [], pureK := fun g ds K => tabK [] g ds K, memK := fun g dst ds m K => tabMK [] g dst ds m K, meth := tabM [], keep := fun r => match r with | 2 => [0, 1, 5] | _ => [], keepX := fun r => match r with | 2 => [0, 1, 4] | _ => [], loopT := fun r ds m K => match r with | 2 => l_oCompare_2 N ds m K | _ => none, jumps := 9 }
theorem F_oCompare_2_ok {R : Type} (N : Nat) (l0 : List UInt8) (l1 : List UInt8) (n2 : Int) (L : List D → Mem → Option R) (K : Ex → List D → Mem → Option R) :
    roundK (fun st K => codeK (cx_oCompare N) (loopN Try.f44 0) st K) 46 [0, 1, 5] [0, 1, 4] L [(.v (.bytes l0) .no), (.v (.bytes l1) .no), (.v (.int .i64 n2) .no)] [[]] K = F_oCompare_2 N l0 l1 (fun n2 => L [(.v (.bytes l0) .no), (.v (.bytes l1) .no), (.v (.int .i64 n2) .no)] [[]]) (fun a2 => K .ret [(.v (.bytes l0) .no), (.v (.bytes l1) .no), (.v (.int .i64 a2) .no)] [[]]) (K (.exit 0) [(.v (.bytes l0) .no), (.v (.bytes l1) .no), .any] [[]]) n2 := by
  kernel_rfl
theorem S_oCompare_2_ok {R : Type} (N : Nat) (l0 : List UInt8) (l1 : List UInt8) (K : Ex → List D → Mem → Option R) : ∀ (t : Nat) (n2 : Int),
    loopK (fun st K => codeK (cx_oCompare N) (loopN Try.f44 0) st K) 46 [0, 1, 5] [0, 1, 4] t [(.v (.bytes l0) .no), (.v (.bytes l1) .no), (.v (.int .i64 n2) .no)] [[]] K = S_oCompare_2 N l0 l1 t n2 (fun a2 => K .ret [(.v (.bytes l0) .no), (.v (.bytes l1) .no), (.v (.int .i64 a2) .no)] [[]]) (K (.exit 0) [(.v (.bytes l0) .no), (.v (.bytes l1) .no), .any] [[]])
  | 0, n2 => rfl
  | t + 1, n2 => (F_oCompare_2_ok N l0 l1 n2 _ K).trans (congrArg (fun L => F_oCompare_2 N l0 l1 L (fun a2 => K .ret [(.v (.bytes l0) .no), (.v (.bytes l1) .no), (.v (.int .i64 a2) .no)] [[]]) (K (.exit 0) [(.v (.bytes l0) .no), (.v (.bytes l1) .no), .any] [[]]) n2) (funext fun n2 => S_oCompare_2_ok N l0 l1 K t n2))
theorem s_oCompare_ok (N : Nat) (x0 : List UInt8) (x1 : List UInt8) : bodyK (cx_oCompare N) Try.f44 [.v (.bytes x0) .no, .v (.bytes x1) .no] [] r_oCompare = s_oCompare N x0 x1 := by
  kernel_rfl
theorem go_oCompare : Goes Try.prog 44 := goes_of Try.func44 (by kernel_rfl) (c := bodyOf Try.f44) (by kernel_rfl)
theorem eo_oCompare (s : List UInt8 → List UInt8 → Option (Int)) (hs : ∀ (x0 : List UInt8) (x1 : List UInt8) (r0 : Int), s x0 x1 = some r0 → PureRet Try.prog T 44 [.v (.bytes x0) .no, .v (.bytes x1) .no] [.v (.int .i64 r0) .no]) : EntOK Try.prog T ⟨44, e_oCompare s⟩ := by
  refine ⟨go_oCompare, fun R ds K r h => ?_, fun R ds K => ?_⟩
  · simp only [e_oCompare] at h
    split at h
    · obtain ⟨r0, h1, h2⟩ := bnd1_some h
      exact ⟨_, h2, hs _ _ _ h1⟩
    · cases h
  · simp only [e_oCompare]
    split
    · rw [bnd1_b]; rfl
    · rfl
theorem co_oCompare (N : Nat) : CxOK Try.prog (cx_oCompare N) :=
  cxOK_of2 (es := []) (me := []) (ms := []) T_ok trivial trivial trivial rfl (fun _ _ _ _ => rfl) (fun _ _ _ _ _ _ => rfl) rfl
theorem lk_oCompare_2 (N : Nat) : LoopOK (cx_oCompare N) 46 (loopN Try.f44 0) := by
  refine loopOK_of (rid := 2) (by kernel_rfl) rfl rfl fun R ds m K r h => ?_
  have h : l_oCompare_2 N ds m K = some r := h
  unfold l_oCompare_2 at h
  split at h
  · exact ⟨N, Eq.trans (S_oCompare_2_ok ..) h⟩
  · cases h
theorem lo_oCompare (N : Nat) : LoopsOK (cx_oCompare N) Try.f44.ntmps (bodyOf Try.f44) :=
  loopsOK_of (k := 1) (by kernel_rfl) ⟨trivial, lk_oCompare_2 N⟩
theorem p_oCompare (N : Nat) (x0 : List UInt8) (x1 : List UInt8) (r0 : Int) (h : s_oCompare N x0 x1 = some r0) : PureRet Try.prog T 44 [.v (.bytes x0) .no, .v (.bytes x1) .no] [.v (.int .i64 r0) .no] :=
  pure_of (cx := cx_oCompare N) (by kernel_rfl) (co_oCompare N) Try.func44 (by kernel_rfl) (by kernel_rfl) (lo_oCompare N) rfl rfl rfl (rf := r_oCompare) ((s_oCompare_ok N x0 x1).trans h) (fun rs' m h => by
    unfold r_oCompare at h
    split at h
    · cases h; exact ⟨rfl, rfl⟩
    · cases h)
noncomputable def e_oSame {R : Type} (s : List UInt8 → List UInt8 → Option (Bool)) (ds : List D) (K : List D → Option R) : Option R :=
  match ds with
  | [.v (.bytes x0) .no, .v (.bytes x1) .no] => bnd1 (s x0 x1) fun r0 => K [.v (.bool r0) .no]
  | _ => none
noncomputable def r_oSame (rs : List D) (_ : Mem) : Option (Bool) :=
  match rs with
  | [.v (.bool r0) _] => some (r0)
  | _ => none
noncomputable def s_oSame (N : Nat) (x0 : List UInt8) (x1 : List UInt8) : Option (Bool) :=
  bnd1 (s_oCompare N x0 x1) fun n0 => some (decide (n0 = 0))
noncomputable def cx_oSame (N : Nat) : Cx := { T := T, isPure := tabP [⟨44, e_oCompare (s_oCompare N)⟩], pureK := fun g ds K => tabK [⟨44, e_oCompare (s_oCompare N)⟩] g ds K, memK := fun g dst ds m K => tabMK [] g dst ds m K, meth := tabM [], keep := fun _ => [], keepX := fun _ => [], loopT := fun _ _ _ _ => none, jumps := 9 }
theorem s_oSame_ok (N : Nat) (x0 : List UInt8) (x1 : List UInt8) : bodyK (cx_oSame N) Try.f16 [.v (.bytes x0) .no, .v (.bytes x1) .no] [] r_oSame = s_oSame N x0 x1 := by
  kernel_rfl
theorem go_oSame : Goes Try.prog 16 := goes_of Try.func16 (by kernel_rfl) (c := bodyOf Try.f16) (by kernel_rfl)
theorem eo_oSame (s : List UInt8 → List UInt8 → Option (Bool)) (hs : ∀ (x0 : List UInt8) (x1 : List UInt8) (r0 : Bool), s x0 x1 = some r0 → PureRet Try.prog T 16 [.v (.bytes x0) .no, .v (.bytes x1) .no] [.v (.bool r0) .no]) : EntOK Try.prog T ⟨16, e_oSame s⟩ := by
  refine ⟨go_oSame, fun R ds K r h => ?_, fun R ds K => ?_⟩
  · simp only [e_oSame] at h
    split at h
    · obtain ⟨r0, h1, h2⟩ := bnd1_some h
      exact ⟨_, h2, hs _ _ _ h1⟩
    · cases h
  · simp only [e_oSame]
    split
    · rw [bnd1_b]; rfl
    · rfl
theorem co_oSame (N : Nat) : CxOK Try.prog (cx_oSame N) :=
  cxOK_of2 (es := [⟨44, e_oCompare (s_oCompare N)⟩]) (me := []) (ms := []) T_ok ⟨eo_oCompare _ (p_oCompare N), trivial⟩ trivial trivial rfl (fun _ _ _ _ => rfl) (fun _ _ _ _ _ _ => rfl) rfl
theorem lo_oSame (N : Nat) : LoopsOK (cx_oSame N) Try.f16.ntmps (bodyOf Try.f16) :=
  loopsOK_of (k := 0) (by kernel_rfl) trivial
theorem p_oSame (N : Nat) (x0 : List UInt8) (x1 : List UInt8) (r0 : Bool) (h : s_oSame N x0 x1 = some r0) : PureRet Try.prog T 16 [.v (.bytes x0) .no, .v (.bytes x1) .no] [.v (.bool r0) .no] :=
  pure_of (cx := cx_oSame N) (by kernel_rfl) (co_oSame N) Try.func16 (by kernel_rfl) (by kernel_rfl) (lo_oSame N) rfl rfl rfl (rf := r_oSame) ((s_oSame_ok N x0 x1).trans h) (fun rs' m h => by
    unfold r_oSame at h
    split at h
    · cases h; exact ⟨rfl, rfl⟩
    · cases h)
noncomputable def e_frecords {R : Type} (s : Int → Option (Bool)) (ds : List D) (K : List D → Option R) : Option R :=
  match ds with
  | [.v (.int .i64 x0) .no] => bnd1 (s x0) fun r0 => K [.v (.bool r0) .no]
  | _ => none
noncomputable def r_frecords (rs : List D) (_ : Mem) : Option (Bool) :=
  match rs with
  | [.v (.bool r0) _] => some (r0)
  | _ => none
noncomputable def s_frecords (N : Nat) (x0 : Int) : Option (Bool) :=
  br (decide (3 ≤ x0)) (some (decide (x0 ≤ 5))) (some false)
noncomputable def cx_frecords (N : Nat) : Cx := { T := T, isPure := tabP [], pureK := fun g ds K => tabK [] g ds K, memK := fun g dst ds m K => tabMK [] g dst ds m K, meth := tabM [], keep := fun _ => [], keepX := fun _ => [], loopT := fun _ _ _ _ => none, jumps := 9 }
theorem s_frecords_ok (N : Nat) (x0 : Int) : bodyK (cx_frecords N) Try.f28 [.v (.int .i64 x0) .no] [] r_frecords = s_frecords N x0 := by
  kernel_rfl
theorem go_frecords : Goes Try.prog 28 := goes_of Try.func28 (by kernel_rfl) (c := bodyOf Try.f28) (by kernel_rfl)
theorem eo_frecords (s : Int → Option (Bool)) (hs : ∀ (x0 : Int) (r0 : Bool), s x0 = some r0 → PureRet Try.prog T 28 [.v (.int .i64 x0) .no] [.v (.bool r0) .no]) : EntOK Try.prog T ⟨28, e_frecords s⟩ := by
  refine ⟨go_frecords, fun R ds K r h => ?_, fun R ds K => ?_⟩
  · simp only [e_frecords] at h
    split at h
    · obtain ⟨r0, h1, h2⟩ := bnd1_some h
      exact ⟨_, h2, hs _ _ h1⟩
    · cases h
  · simp only [e_frecords]
    split
    · rw [bnd1_b]; rfl
    · rfl
theorem co_frecords (N : Nat) : CxOK Try.prog (cx_frecords N) :=
  cxOK_of2 (es := []) (me := []) (ms := []) T_ok trivial trivial trivial rfl (fun _ _ _ _ => rfl) (fun _ _ _ _ _ _ => rfl) rfl
theorem lo_frecords (N : Nat) : LoopsOK (cx_frecords N) Try.f28.ntmps (bodyOf Try.f28) :=
  loopsOK_of (k := 0) (by kernel_rfl) trivial
theorem p_frecords (N : Nat) (x0 : Int) (r0 : Bool) (h : s_frecords N x0 = some r0) : PureRet Try.prog T 28 [.v (.int .i64 x0) .no] [.v (.bool r0) .no] :=
  pure_of (cx := cx_frecords N) (by kernel_rfl) (co_frecords N) Try.func28 (by kernel_rfl) (by kernel_rfl) (lo_frecords N) rfl rfl rfl (rf := r_frecords) ((s_frecords_ok N x0).trans h) (fun rs' m h => by
    unfold r_frecords at h
    split at h
    · cases h; exact ⟨rfl, rfl⟩
    · cases h)
noncomputable def e_fnumber {R : Type} (s : Int → Bool → Int → Option (Int)) (ds : List D) (K : List D → Option R) : Option R :=
  match ds with
  | [.v (.int .i64 x0) .no, .v (.bool x1) .no, .v (.int .i64 x2) .no] => bnd1 (s x0 x1 x2) fun r0 => K [.v (.int .i64 r0) .no]
  | _ => none
noncomputable def r_fnumber (rs : List D) (_ : Mem) : Option (Int) :=
  match rs with
  | [.v (.int .i64 r0) _] => some (r0)
  | _ => none
noncomputable def s_fnumber (N : Nat) (x0 : Int) (x1 : Bool) (x2 : Int) : Option (Int) :=
  br (!x1) (br (!decide (x0 = 0)) (some 4) (br x1 (br (decide (x0 < 1)) (some 2) (br (decide (x2 < x0)) (some 2) (some 0))) (some 0))) (br x1 (br (decide (x0 < 1)) (some 2) (br (decide (x2 < x0)) (some 2) (some 0))) (some 0))
noncomputable def cx_fnumber (N : Nat) : Cx := { T := T, isPure := tabP [], pureK := fun g ds K => tabK [] g ds K, memK := fun g dst ds m K => tabMK [] g dst ds m K, meth := tabM [], keep := fun _ => [], keepX := fun _ => [], loopT := fun _ _ _ _ => none, jumps := 9 }
theorem s_fnumber_ok (N : Nat) (x0 : Int) (x1 : Bool) (x2 : Int) : bodyK (cx_fnumber N) Try.f27 [.v (.int .i64 x0) .no, .v (.bool x1) .no, .v (.int .i64 x2) .no] [] r_fnumber = s_fnumber N x0 x1 x2 := by
  kernel_rfl
theorem go_fnumber : Goes Try.prog 27 := goes_of Try.func27 (by kernel_rfl) (c := bodyOf Try.f27) (by kernel_rfl)
theorem eo_fnumber (s : Int → Bool → Int → Option (Int)) (hs : ∀ (x0 : Int) (x1 : Bool) (x2 : Int) (r0 : Int), s x0 x1 x2 = some r0 → PureRet Try.prog T 27 [.v (.int .i64 x0) .no, .v (.bool x1) .no, .v (.int .i64 x2) .no] [.v (.int .i64 r0) .no]) : EntOK Try.prog T ⟨27, e_fnumber s⟩ := by
  refine ⟨go_fnumber, fun R ds K r h => ?_, fun R ds K => ?_⟩
  · simp only [e_fnumber] at h
    split at h
    · obtain ⟨r0, h1, h2⟩ := bnd1_some h
      exact ⟨_, h2, hs _ _ _ _ h1⟩
    · cases h
  · simp only [e_fnumber]
    split
    · rw [bnd1_b]; rfl
    · rfl
theorem co_fnumber (N : Nat) : CxOK Try.prog (cx_fnumber N) :=
  cxOK_of2 (es := []) (me := []) (ms := []) T_ok trivial trivial trivial rfl (fun _ _ _ _ => rfl) (fun _ _ _ _ _ _ => rfl) rfl
theorem lo_fnumber (N : Nat) : LoopsOK (cx_fnumber N) Try.f27.ntmps (bodyOf Try.f27) :=
  loopsOK_of (k := 0) (by kernel_rfl) trivial
theorem p_fnumber (N : Nat) (x0 : Int) (x1 : Bool) (x2 : Int) (r0 : Int) (h : s_fnumber N x0 x1 x2 = some r0) : PureRet Try.prog T 27 [.v (.int .i64 x0) .no, .v (.bool x1) .no, .v (.int .i64 x2) .no] [.v (.int .i64 r0) .no] :=
  pure_of (cx := cx_fnumber N) (by kernel_rfl) (co_fnumber N) Try.func27 (by kernel_rfl) (by kernel_rfl) (lo_fnumber N) rfl rfl rfl (rf := r_fnumber) ((s_fnumber_ok N x0 x1 x2).trans h) (fun rs' m h => by
    unfold r_fnumber at h
    split at h
    · cases h; exact ⟨rfl, rfl⟩
    · cases h)
noncomputable def e_fisState {R : Type} (s : Int → Option (Bool)) (ds : List D) (K : List D → Option R) : Option R :=
  match ds with
  | [.v (.int .i64 x0) .no] => bnd1 (s x0) fun r0 => K [.v (.bool r0) .no]
  | _ => none
noncomputable def r_fisState (rs : List D) (_ : Mem) : Option (Bool) :=
  match rs with
  | [.v (.bool r0) _] => some (r0)
  | _ => none
noncomputable def s_fisState (N : Nat) (x0 : Int) : Option (Bool) :=
  br (decide (1 ≤ x0)) (some (decide (x0 ≤ 3))) (some false)
noncomputable def cx_fisState (N : Nat) : Cx := { T := T, isPure := tabP [], pureK := fun g ds K => tabK [] g ds K, memK := fun g dst ds m K => tabMK [] g dst ds m K, meth := tabM [], keep := fun _ => [], keepX := fun _ => [], loopT := fun _ _ _ _ => none, jumps := 9 }
theorem s_fisState_ok (N : Nat) (x0 : Int) : bodyK (cx_fisState N) Try.f29 [.v (.int .i64 x0) .no] [] r_fisState = s_fisState N x0 := by
  kernel_rfl
theorem go_fisState : Goes Try.prog 29 := goes_of Try.func29 (by kernel_rfl) (c := bodyOf Try.f29) (by kernel_rfl)
theorem eo_fisState (s : Int → Option (Bool)) (hs : ∀ (x0 : Int) (r0 : Bool), s x0 = some r0 → PureRet Try.prog T 29 [.v (.int .i64 x0) .no] [.v (.bool r0) .no]) : EntOK Try.prog T ⟨29, e_fisState s⟩ := by
  refine ⟨go_fisState, fun R ds K r h => ?_, fun R ds K => ?_⟩
  · simp only [e_fisState] at h
    split at h
    · obtain ⟨r0, h1, h2⟩ := bnd1_some h
      exact ⟨_, h2, hs _ _ h1⟩
    · cases h
  · simp only [e_fisState]
    split
    · rw [bnd1_b]; rfl
    · rfl
theorem co_fisState (N : Nat) : CxOK Try.prog (cx_fisState N) :=
  cxOK_of2 (es := []) (me := []) (ms := []) T_ok trivial trivial trivial rfl (fun _ _ _ _ => rfl) (fun _ _ _ _ _ _ => rfl) rfl
theorem lo_fisState (N : Nat) : LoopsOK (cx_fisState N) Try.f29.ntmps (bodyOf Try.f29) :=
  loopsOK_of (k := 0) (by kernel_rfl) trivial
theorem p_fisState (N : Nat) (x0 : Int) (r0 : Bool) (h : s_fisState N x0 = some r0) : PureRet Try.prog T 29 [.v (.int .i64 x0) .no] [.v (.bool r0) .no] :=
  pure_of (cx := cx_fisState N) (by kernel_rfl) (co_fisState N) Try.func29 (by kernel_rfl) (by kernel_rfl) (lo_fisState N) rfl rfl rfl (rf := r_fisState) ((s_fisState_ok N x0).trans h) (fun rs' m h => by
    unfold r_fisState at h
    split at h
    · cases h; exact ⟨rfl, rfl⟩
    · cases h)
end Go.Proofs.Ytllnklkjkjmjbaa.En

/- Functions of the program in plain Lean, joined to the program by evaluation; printed by a program. -/
namespace Go.Proofs.Ytllnklkjkjmjbaa.En
open Go Go.Proofs
set_option maxRecDepth 100000
set_option linter.unusedVariables false
noncomputable def e_fNext {R : Type} (s : Int → Int → Option (Int × Int)) (ds : List D) (K : List D → Option R) : Option R :=
  match ds with
  | [.v (.int .i64 x0) .no, .v (.int .i64 x1) .no] => bnd2 (s x0 x1) fun r0 r1 => K [.v (.int .i64 r0) .no, .v (.int .i64 r1) .no]
  | _ => none
noncomputable def r_fNext (rs : List D) (_ : Mem) : Option (Int × Int) :=
  match rs with
  | [.v (.int .i64 r0) _, .v (.int .i64 r1) _] => some (r0, r1)
  | _ => none
noncomputable def s_fNext (N : Nat) (x0 : Int) (x1 : Int) : Option (Int × Int) :=
  br (decide (x1 = 32)) (bnd1 (s_fisState N x0) fun b0 => br (!b0) (some (0, 2)) (br (decide (x0 = 1)) (some (0, 14)) (br (decide (x0 = 3)) (some (0, 14)) (some (1, 0)))))
  (br (decide (x1 = 64)) (bnd1 (s_fisState N x0) fun b1 => br (!b1) (some (0, 2)) (br (decide (x0 = 2)) (some (0, 14)) (br (decide (x0 = 3)) (some (0, 14)) (some (2, 0)))))
    (br (decide (x1 = 128)) (bnd1 (s_fisState N x0) fun b2 => br (!b2) (some (0, 2)) (br (decide (x0 = 3)) (some (0, 14)) (br (decide (x0 = 3)) (some (0, 14)) (some (3, 0))))) (some (0, 1))))
noncomputable def cx_fNext (N : Nat) : Cx := { T := T, isPure := tabP [⟨29, e_fisState (s_fisState N)⟩], pureK := fun g ds K => tabK [⟨29, e_fisState (s_fisState N)⟩] g ds K, memK := fun g dst ds m K => tabMK [] g dst ds m K, meth := tabM [], keep := fun _ => [], keepX := fun _ => [], loopT := fun _ _ _ _ => none, jumps := 9 }
theorem s_fNext_ok (N : Nat) (x0 : Int) (x1 : Int) : bodyK (cx_fNext N) Try.f19 [.v (.int .i64 x0) .no, .v (.int .i64 x1) .no] [] r_fNext = s_fNext N x0 x1 := by
  kernel_rfl
theorem go_fNext : Goes Try.prog 19 := goes_of Try.func19 (by kernel_rfl) (c := bodyOf Try.f19) (by kernel_rfl)
theorem eo_fNext (s : Int → Int → Option (Int × Int)) (hs : ∀ (x0 : Int) (x1 : Int) (r0 : Int) (r1 : Int), s x0 x1 = some (r0, r1) → PureRet Try.prog T 19 [.v (.int .i64 x0) .no, .v (.int .i64 x1) .no] [.v (.int .i64 r0) .no, .v (.int .i64 r1) .no]) : EntOK Try.prog T ⟨19, e_fNext s⟩ := by
  refine ⟨go_fNext, fun R ds K r h => ?_, fun R ds K => ?_⟩
  · simp only [e_fNext] at h
    split at h
    · obtain ⟨r0, r1, h1, h2⟩ := bnd2_some h
      exact ⟨_, h2, hs _ _ _ _ h1⟩
    · cases h
  · simp only [e_fNext]
    split
    · rw [bnd2_b]; rfl
    · rfl
theorem co_fNext (N : Nat) : CxOK Try.prog (cx_fNext N) :=
  cxOK_of2 (es := [⟨29, e_fisState (s_fisState N)⟩]) (me := []) (ms := []) T_ok ⟨eo_fisState _ (p_fisState N), trivial⟩ trivial trivial rfl (fun _ _ _ _ => rfl) (fun _ _ _ _ _ _ => rfl) rfl
theorem lo_fNext (N : Nat) : LoopsOK (cx_fNext N) Try.f19.ntmps (bodyOf Try.f19) :=
  loopsOK_of (k := 0) (by kernel_rfl) trivial
theorem p_fNext (N : Nat) (x0 : Int) (x1 : Int) (r0 : Int) (r1 : Int) (h : s_fNext N x0 x1 = some (r0, r1)) : PureRet Try.prog T 19 [.v (.int .i64 x0) .no, .v (.int .i64 x1) .no] [.v (.int .i64 r0) .no, .v (.int .i64 r1) .no] :=
  pure_of (cx := cx_fNext N) (by kernel_rfl) (co_fNext N) Try.func19 (by kernel_rfl) (by kernel_rfl) (lo_fNext N) rfl rfl rfl (rf := r_fNext) ((s_fNext_ok N x0 x1).trans h) (fun rs' m h => by
    unfold r_fNext at h
    split at h
    · cases h; exact ⟨rfl, rfl⟩
    · cases h)
end Go.Proofs.Ytllnklkjkjmjbaa.En

/- The printed functions, together. -/

/- Words for the plain laws: branches, numbers, bits, places in a list. No program in sight. -/
namespace Go.Proofs.Ytllnklkjkjmjbaa.En
open Go
set_option linter.unusedVariables false
section
variable {R α β γ δ : Type}
theorem br_t (x y : Option R) : br true x y = x := id rfl
theorem br_f (x y : Option R) : br false x y = y := id rfl
theorem br_dec (p : Prop) [Decidable p] (x y : Option R) : br (decide p) x y = if p then x else y := by
  by_cases h : p <;> simp [br, h]
theorem br_not (c : Bool) (x y : Option R) : br (!c) x y = br c y x := by cases c <;> rfl
theorem br_and (a b : Bool) (x y : Option R) : br (a && b) x y = br a (br b x y) y := by cases a <;> rfl
theorem br_or (a b : Bool) (x y : Option R) : br (a || b) x y = br a x (br b x y) := by cases a <;> rfl
theorem bnd1_mk (a : α) (K : α → Option R) : bnd1 (some a) K = K a := id rfl
theorem bnd2_mk (a : α) (b : β) (K : α → β → Option R) : bnd2 (some (a, b)) K = K a b := id rfl
theorem bnd3_mk (a : α) (b : β) (c : γ) (K : α → β → γ → Option R) : bnd3 (some (a, b, c)) K = K a b c := id rfl
theorem bnd4_mk (a : α) (b : β) (c : γ) (d : δ) (K : α → β → γ → δ → Option R) : bnd4 (some (a, b, c, d)) K = K a b c d := id rfl
theorem bnd5_mk {ε : Type} (a : α) (b : β) (c : γ) (d : δ) (e : ε) (K : α → β → γ → δ → ε → Option R) : bnd5 (some (a, b, c, d, e)) K = K a b c d e := id rfl
theorem at_of {xs : List α} {i : Nat} {x : α} (h : xs[i]? = some x) (K : α → Option R) : at? xs i K = K x := by simp [at?, h]
theorem at_zero (x : α) (r : List α) (K : α → Option R) : at? (x :: r) 0 K = K x := id rfl
theorem at_succ (x : α) (r : List α) (i : Nat) (K : α → Option R) : at? (x :: r) (i + 1) K = at? r i K := by simp [at?]
theorem at_mid (pre : List α) (x : α) (suf : List α) (K : α → Option R) : at? (pre ++ x :: suf) pre.length K = K x := at_of (by simp) K
theorem unInt_mk (k : IntKind) (n : Int) (K : Int → Option R) : V.unInt k (.int k n) K = K n := by simp [V.unInt]
theorem unBool_mk (b : Bool) (K : Bool → Option R) : V.unBool (.bool b) K = K b := id rfl
theorem unStr_mk (s : List UInt8) (K : List UInt8 → Option R) : V.unStr (.str s) K = K s := id rfl
theorem unBytes_mk (s : List UInt8) (K : List UInt8 → Option R) : V.unBytes (.bytes s) K = K s := id rfl
theorem unSl_mk (e : TypeId) (s : List V) (K : List V → Option R) : V.unSl e (.sl e s) K = K s := by simp [V.unSl]
theorem unAgg_mk (s : List V) (K : List V → Option R) : V.unAgg (.agg s) K = K s := id rfl
theorem unCons_mk (x : V) (r : List V) (K : V → List V → Option R) : unCons (x :: r) K = K x r := id rfl
theorem unNil_mk (K : Option R) : unNil [] K = K := id rfl
end
/-! Numbers -/
theorem w64 {n : Int} (h1 : -9223372036854775808 ≤ n) (h2 : n ≤ 9223372036854775807) : IntKind.i64.wrap n = n := by
  rw [IntKind.wrap_i64]; omega
theorem wu8 (n : Int) : IntKind.u8.wrap n = n % 256 := IntKind.wrap_u8 n
theorem ofInt_toNat64 (a : Int) : (BitVec.ofInt 64 a).toNat = (a % 18446744073709551616).toNat := by
  rw [BitVec.toNat_ofInt]; rfl
theorem fdiv_pos (a b : Int) (h : 0 < b) : a.fdiv b = a / b := by rw [Int.fdiv_eq_ediv_of_nonneg _ (by omega)]
theorem shr8 (a : Int) : shrI .i64 a 8 = a / 256 := by
  show a.fdiv (2 ^ (min (8 : Int).toNat 64)) = _
  exact fdiv_pos a 256 (by omega)
/-- a & (2^k - 1) -/
theorem and_mask (a : Int) (k : Nat) (hk : k ≤ 62) : bitsI .and .i64 a ((2 ^ k - 1 : Nat) : Int) = a % (2 ^ k : Nat) := by
  have hp : (2 ^ k : Nat) ≤ 2 ^ 62 := Nat.pow_le_pow_right (by omega) hk
  have h0 : 0 < 2 ^ k := Nat.pos_of_ne_zero (by simp)
  have e1 : (BitVec.ofInt 64 ((2 ^ k - 1 : Nat) : Int)).toNat = 2 ^ k - 1 := by
    rw [ofInt_toNat64]; omega
  have e2 : (BitVec.ofInt 64 a &&& BitVec.ofInt 64 ((2 ^ k - 1 : Nat) : Int)).toNat = (a % 18446744073709551616).toNat % 2 ^ k := by
    rw [BitVec.toNat_and, e1, ofInt_toNat64, Nat.and_two_pow_sub_one_eq_mod]
  have hd : (2 ^ k : Nat) ∣ 18446744073709551616 := by
    have : (18446744073709551616 : Nat) = 2 ^ 64 := by decide
    rw [this]; exact Nat.pow_dvd_pow 2 (by omega)
  have e3 : ((((a % 18446744073709551616).toNat % 2 ^ k : Nat)) : Int) = a % (2 ^ k : Nat) := by
    rw [Int.natCast_emod]
    rw [Int.toNat_of_nonneg (Int.emod_nonneg _ (by omega))]
    have hd' : ((2 ^ k : Nat) : Int) ∣ ((18446744073709551616 : Nat) : Int) := Int.natCast_dvd_natCast.2 hd
    exact Int.emod_emod_of_dvd a hd'
  show IntKind.i64.wrap ((BitVec.ofInt 64 a &&& BitVec.ofInt 64 _).toNat : Int) = _
  rw [e2, e3]
  have := Int.emod_nonneg a (b := ((2 ^ k : Nat) : Int)) (by omega)
  have := Int.emod_lt_of_pos a (b := ((2 ^ k : Nat) : Int)) (by omega)
  exact w64 (by omega) (by omega)
theorem and31 (a : Int) : bitsI .and .i64 a 31 = a % 32 := and_mask a 5 (by omega)
theorem and255 (a : Int) : bitsI .and .i64 a 255 = a % 256 := and_mask a 8 (by omega)
theorem and_two_pow' (m k : Nat) : m &&& 2 ^ k = 2 ^ k * (m / 2 ^ k % 2) := by
  apply Nat.eq_of_testBit_eq
  intro i
  rw [Nat.testBit_and, Nat.testBit_two_pow, Nat.mul_comm, ← Nat.shiftLeft_eq, Nat.testBit_shiftLeft]
  have h2 : m / 2 ^ k % 2 = (m.testBit k).toNat := by
    rw [Nat.testBit_eq_decide_div_mod_eq]
    have : m / 2 ^ k % 2 < 2 := Nat.mod_lt _ (by omega)
    rcases (by omega : m / 2 ^ k % 2 = 0 ∨ m / 2 ^ k % 2 = 1) with h | h <;> simp [h]
  rw [h2]
  by_cases hk : k = i
  · subst hk; cases m.testBit k <;> simp
  · simp only [hk, decide_false, Bool.and_false]
    by_cases hl : k ≤ i
    · obtain ⟨j, rfl⟩ : ∃ j, i = k + (j + 1) := ⟨i - k - 1, by omega⟩
      rw [show k + (j + 1) - k = j + 1 by omega]
      cases m.testBit k <;> simp [Nat.testBit_succ]
    · simp [hl]
/-- a & 2^k -/
theorem and_bit (a : Int) (k : Nat) (hk : k ≤ 62) : bitsI .and .i64 a ((2 ^ k : Nat) : Int) = (2 ^ k : Nat) * (a / (2 ^ k : Nat) % 2) := by
  have hp : (2 ^ k : Nat) ≤ 2 ^ 62 := Nat.pow_le_pow_right (by omega) hk
  have h0 : 0 < 2 ^ k := Nat.pos_of_ne_zero (by simp)
  have e1 : (BitVec.ofInt 64 ((2 ^ k : Nat) : Int)).toNat = 2 ^ k := by rw [ofInt_toNat64]; omega
  generalize hm : (a % 18446744073709551616).toNat = m
  have e2 : (BitVec.ofInt 64 a &&& BitVec.ofInt 64 ((2 ^ k : Nat) : Int)).toNat = 2 ^ k * (m / 2 ^ k % 2) := by
    rw [BitVec.toNat_and, e1, ofInt_toNat64, hm, and_two_pow']
  have hd : (2 ^ (k + 1) : Nat) ∣ 18446744073709551616 := by
    have : (18446744073709551616 : Nat) = 2 ^ 64 := by decide
    rw [this]; exact Nat.pow_dvd_pow 2 (by omega)
  have e3 : ((m / 2 ^ k % 2 : Nat) : Int) = a / (2 ^ k : Nat) % 2 := by
    have hmi : (m : Int) = a % 18446744073709551616 := by rw [← hm, Int.toNat_of_nonneg (Int.emod_nonneg _ (by omega))]
    obtain ⟨q, hq⟩ := hd
    have hq' : (18446744073709551616 : Int) = ((2 ^ k : Nat) : Int) * (2 * (q : Int)) := by
      have : (18446744073709551616 : Nat) = 2 ^ k * (2 * q) := by rw [hq, Nat.pow_succ, Nat.mul_assoc]
      rw [show (18446744073709551616 : Int) = ((18446744073709551616 : Nat) : Int) by rfl, this]; push_cast; rfl
    rw [Int.natCast_emod, Int.natCast_ediv, hmi]
    have ha := Int.emod_add_mul_ediv a 18446744073709551616
    generalize a / 18446744073709551616 = z at ha
    have e : a = a % 18446744073709551616 + ((2 ^ k : Nat) : Int) * (2 * (q : Int) * z) := by
      rw [← Int.mul_assoc, ← hq']; omega
    conv => rhs; rw [e]
    rw [Int.add_mul_ediv_left _ _ (by omega)]
    rw [show (2 : Int) * (q : Int) * z = (q * z) * 2 by rw [Int.mul_assoc, Int.mul_comm]]
    exact (Int.add_mul_emod_self_right _ _ _).symm
  show IntKind.i64.wrap ((BitVec.ofInt 64 a &&& BitVec.ofInt 64 _).toNat : Int) = _
  rw [e2]
  have h2 : ((2 ^ k * (m / 2 ^ k % 2) : Nat) : Int) = (2 ^ k : Nat) * (a / (2 ^ k : Nat) % 2) := by rw [Int.natCast_mul, e3]
  rw [h2]
  have : a / ((2 ^ k : Nat) : Int) % 2 = 0 ∨ a / ((2 ^ k : Nat) : Int) % 2 = 1 := by omega
  rcases this with h | h <;> rw [h] <;> exact w64 (by omega) (by omega)
theorem and32 (a : Int) : bitsI .and .i64 a 32 = 32 * (a / 32 % 2) := and_bit a 5 (by omega)
end Go.Proofs.Ytllnklkjkjmjbaa.En

/- The engine, part 2r: what an argument that came in reads as. No program in sight. -/
namespace Go.Proofs.Ytllnklkjkjmjbaa.En
open Go Go.RowKit
set_option linter.unusedVariables false
/-- A world of arguments: nothing is written. -/
def immG (T : TypeId → Option Ty) : G := { Γ := fun _ => .imm, J := fun _ _ => 0, sz := sizes T }
theorem stable_imm (T : TypeId → Option Ty) (b o : Nat) : Stable (immG T) b o := trivial
/-- An element, given its cells. -/
def mkEl (row : Bool) (cs : List V) : V := match row with | true => .agg cs | false => cs.headD .nilI
/-- Cells that have the shape of a type. -/
def FitsFs (F : TypeId → List V → Prop) : List Field → List V → Prop
  | [], xs => xs = []
  | f :: fs, xs => ∃ a r, xs = a ++ r ∧ F f.type a ∧ FitsFs F fs r
def Fits (T : TypeId → Option Ty) : Nat → TypeId → List V → Prop
  | 0, _, _ => False
  | n + 1, t, xs => match T t with
    | none => False
    | some ty => match ty.desc with
      | .bool => ∃ b, xs = [.bool b]
      | .int k => ∃ i, xs = [.int k i] ∧ k.min ≤ i ∧ i ≤ k.max
      | .string => ∃ s, xs = [.str s] ∧ s.length ≤ maxLen
      | .slice e => match ty.cks with
        | [.bytes _] => ∃ s, xs = [.bytes s] ∧ s.length ≤ maxLen
        | [.slc e'] => e' = e ∧ ∃ ys, xs = [.sl e ys] ∧ ys.length ≤ maxLen ∧ ∀ y ∈ ys, ∃ te cs, T e = some te ∧ y = mkEl te.row cs ∧ Fits T n e cs
        | _ => False
      | .struct fs => FitsFs (Fits T n) fs.toList xs
      | _ => False
/-- A type that is read. -/
def readable (T : TypeId → Option Ty) (t : TypeId) : Bool :=
  match T t with
  | none => false
  | some ty => match ty.desc with
    | .bool => true
    | .int _ => true
    | .string => true
    | .slice e => (match T e with
      | none => false
      | some te => (match ty.cks with
        | [.bytes _] => (match te.desc with | .int .u8 => Nat.beq te.size 1 | _ => false)
        | [.slc e'] => Nat.beq e' e && Nat.ble 1 te.size && (match te.row with | true => true | false => Nat.beq te.size 1)
        | _ => false))
    | .struct fs => contigT T ty.size 0 fs.toList && fs.toList.all (fun f => match T f.type with | some _ => true | none => false)
    | _ => false
/-- The types that a type leads to. -/
def closedT (T : TypeId → Option Ty) (l : List TypeId) : Bool :=
  l.all fun t => readable T t && (match T t with
    | none => false
    | some ty => match ty.desc with
      | .slice e => l.any (Nat.beq e)
      | .struct fs => fs.toList.all fun f => l.any (Nat.beq f.type)
      | _ => true)
section
variable {H : Type} {enc : TypeId × Value → H} {P : Program} {T : TypeId → Option Ty} {w : World} {base : Nat} {spare : Nat → Bool} {held : Bool}
structure RepC (T : TypeId → Option Ty) (w : World) (xs : List V) (cs : List Value) : Prop where
  len : xs.length = cs.length
  one : ∀ x ∈ xs, x.one = true
  rep : ∀ (k : Nat) y, xs[k]? = some y → RepV (immG T) w y (cs.getD k undef)
theorem RepC.single {x : V} {v : Value} (h1 : x.one = true) (h : RepV (immG T) w x v) : RepC T w [x] [v] :=
  ⟨rfl, fun y hy => by simp at hy; subst hy; exact h1, fun k y hk => by
    rcases k with _ | k
    · simp at hk; subst hk; simpa using h
    · simp at hk⟩
theorem RepC.append {xs ys : List V} {cs ds : List Value} (h : RepC T w xs cs) (k : RepC T w ys ds) : RepC T w (xs ++ ys) (cs ++ ds) := by
  refine ⟨by simp [h.len, k.len], fun x hx => ?_, fun i y hy => ?_⟩
  · rcases List.mem_append.1 hx with hx | hx
    · exact h.one x hx
    · exact k.one x hx
  · rcases Nat.lt_or_ge i xs.length with hl | hl
    · rw [List.getElem?_append_left hl] at hy
      have := h.rep i y hy
      rw [List.getD_eq_getElem?_getD, List.getElem?_append_left (by rw [← h.len]; exact hl), ← List.getD_eq_getElem?_getD]
      exact this
    · rw [List.getElem?_append_right hl] at hy
      have := k.rep _ y hy
      rw [List.getD_eq_getElem?_getD, List.getElem?_append_right (by rw [← h.len]; exact hl), ← h.len, ← List.getD_eq_getElem?_getD]
      exact this
theorem cellsOf_eq (hT : TypesOK P T) {t : TypeId} {ty : Ty} (h : T t = some ty) : P.cellsOf t = ty.size := by
  obtain ⟨i, h1, _, h2, _⟩ := (hT t ty h).info
  simp [Program.cellsOf, h1, h2]
theorem sizes_eq {t : TypeId} {ty : Ty} (h : T t = some ty) : sizes T t = ty.size := by unfold sizes; rw [h]
theorem add_none (b off i : Nat) : (⟨b, off, none⟩ : Addr).add i = ⟨b, off + i, none⟩ := by
  unfold Addr.add
  by_cases h0 : i = 0
  · subst h0; rfl
  · rw [if_neg h0]
theorem spot_row {a : Addr} {n k : Nat} {cs : List Value} (h : w.cells? base (a.add (0 * n)) k = some cs) (hk : 0 < k) : a.spot = none := by
  obtain ⟨_, hl, h5⟩ := World.cells?_some h
  have h6 := h5 0 hk
  rw [List.getElem?_eq_getElem (by omega)] at h6
  have := World.cell?_spot h6
  simpa [Addr.add] using this
theorem mkEl_cells {row : Bool} {cs : List V} (ho : ∀ x ∈ cs, x.one = true) (h : row = false → cs.length = 1) : (mkEl row cs).cells = cs := by
  cases row with
  | true => rfl
  | false =>
    have := h rfl
    match cs, this with
    | [x], _ =>
      have := ho x (by simp)
      show V.cells x = [x]
      cases x <;> first | rfl | cases this
theorem okEl_mk {row : Bool} {cs : List V} {n : Nat} (hl : cs.length = n) (ho : ∀ x ∈ cs, x.one = true) (h : row = false → cs.length = 1) : okEl n (mkEl row cs) = true := by
  unfold okEl
  rw [mkEl_cells ho h]
  simp only [Bool.and_eq_true, beq_iff_eq, List.all_eq_true]
  exact ⟨hl, ho⟩
theorem flatT_get {α : Type} {n : Nat} : ∀ (l : List (List α)) (i j : Nat) (c : List α), (∀ c ∈ l, c.length = n) → l[i]? = some c → j < n → l.flatten[i * n + j]? = c[j]?
  | [], i, j, c, _, h, _ => by simp at h
  | d :: l, 0, j, c, hl, h, hj => by
    simp at h; subst h
    have := hl d (by simp)
    rw [List.flatten_cons, Nat.zero_mul, Nat.zero_add, List.getElem?_append_left (by omega)]
  | d :: l, i + 1, j, c, hl, h, hj => by
    have hd := hl d (by simp)
    rw [List.flatten_cons, Nat.succ_mul, List.getElem?_append_right (by omega)]
    rw [show i * n + n + j - d.length = i * n + j by omega]
    exact flatT_get l i j c (fun c hc => hl c (by simp [hc])) (by simpa using h) hj
theorem flatT_len {α : Type} {n : Nat} : ∀ (l : List (List α)), (∀ c ∈ l, c.length = n) → l.flatten.length = l.length * n
  | [], _ => by simp
  | d :: l, h => by
    rw [List.flatten_cons, List.length_append, h d (by simp), flatT_len l fun c hc => h c (by simp [hc]), List.length_cons, Nat.succ_mul]; omega
theorem choose_list {α : Type} {p : Nat → α → Prop} : ∀ (n : Nat), (∀ i, i < n → ∃ a, p i a) → ∃ l : List α, l.length = n ∧ ∀ (i : Nat) a, l[i]? = some a → p i a
  | 0, _ => ⟨[], rfl, fun i a h => by simp at h⟩
  | n + 1, h => by
    obtain ⟨l, h1, h2⟩ := choose_list n fun i hi => h i (by omega)
    obtain ⟨a, ha⟩ := h n (by omega)
    refine ⟨l ++ [a], by simp [h1], fun i b hb => ?_⟩
    rcases Nat.lt_or_ge i l.length with hl | hl
    · rw [List.getElem?_append_left hl] at hb; exact h2 i b hb
    · rw [List.getElem?_append_right hl] at hb
      have : i = n := by
        have := (List.getElem?_eq_some_iff.1 hb).1
        simp at this; omega
      subst this
      rw [h1] at hb
      simp at hb
      subst hb; exact ha
theorem trod_rep (hT : TypesOK P T) {l : List TypeId} (hl : closedT T l = true) : ∀ (fuel : Nat) (t : TypeId) (cs : List Value) (x : DataW H × List MemPlace), t ∈ l → DataW.trod enc P w base spare held fuel t cs = some x →
    ∃ xs, RepC T w xs cs ∧ Fits T fuel t xs ∧ ∀ ty, T t = some ty → cs.length = ty.size
  | 0, t, cs, x, _, h => by simp [DataW.trod] at h
  | n + 1, t, cs, x, hm, h => by
    have hcl := List.all_eq_true.1 hl t hm
    simp only [Bool.and_eq_true] at hcl
    obtain ⟨hre, hlead⟩ := hcl
    unfold Fits
    unfold readable at hre
    cases hTt : T t with
    | none => rw [hTt] at hre; simp at hre
    | some ty =>
    rw [hTt] at hre hlead
    simp only at hre hlead ⊢
    have hd := (hT t ty hTt).desc
    have h1c : ty.row = false → ty.size = 1 := (hT t ty hTt).one
    cases hdesc : ty.desc <;> rw [hdesc] at hre hlead hd <;> simp only [Bool.false_eq_true] at hre hlead ⊢
    · obtain ⟨b, rfl, _⟩ := DataW.trod_bool hd h
      exact ⟨[.bool b], .single rfl (.bool b), ⟨b, rfl⟩, fun ty' e => by cases e; rw [h1c (by simp [Ty.row, hdesc])]; rfl⟩
    · rename_i k
      obtain ⟨i, rfl, _, hwf⟩ := DataW.trod_int hd h
      have hb : k.min ≤ i ∧ i ≤ k.max := by simpa [Lit.wf] using hwf
      exact ⟨[.int k i], .single rfl (.int k i hb), ⟨i, rfl, hb⟩, fun ty' e => by cases e; rw [h1c (by simp [Ty.row, hdesc])]; rfl⟩
    · obtain ⟨s, rfl, _, hs⟩ := DataW.trod_string hd h
      have e : s = ⟨s.data.toList.toArray⟩ := by cases s; simp
      have hsl : s.data.toList.length = s.size := by cases s; rfl
      refine ⟨[.str s.data.toList], .single rfl ?_, ⟨_, rfl, by rw [hsl]; exact hs⟩, fun ty' e => by cases e; rw [h1c (by simp [Ty.row, hdesc])]; rfl⟩
      have := RepV.str (g := immG T) (w := w) s.data.toList (by rw [hsl]; unfold maxLen at hs; omega)
      rwa [← e] at this
    · rename_i e
      cases hTe : T e with
      | none => rw [hTe] at hre; simp at hre
      | some te =>
      rw [hTe] at hre
      simp only at hre
      have hsz := cellsOf_eq hT hTe
      have hmem : e ∈ l := by
        obtain ⟨z, hz, hb⟩ := List.any_eq_true.1 hlead
        have := Nat.eq_of_beq_eq_true hb
        subst this; exact hz
      have hsize : ∀ ty', some ty = some ty' → ∀ v : Value, [v].length = ty'.size := fun ty' e v => by cases e; rw [h1c (by simp [Ty.row, hdesc])]; rfl
      split at hre
      · rename_i e0 hcks
        split at hre
        · rename_i hte
          have hte1 := Nat.eq_of_beq_eq_true hre
          rw [hte1] at hsz
          have hde := (hT e te hTe).desc
          rw [hte] at hde
          rcases DataW.trod_slice hd h with ⟨rfl, _⟩ | ⟨a, len, cap, elems, rest, m, e1, rfl, _, hb, hlc, hcm, hel, hget, _, _⟩
          · exact ⟨[.bytes []], .single rfl (.bytes [] none 0 0 rfl (Nat.le_refl _) (by simp) (fun k x hx => by simp at hx)), ⟨[], rfl, by simp⟩, fun ty' e => hsize ty' e _⟩
          · have key : ∀ i, i < len → ∃ b : UInt8, ∃ bb off, a = ⟨bb, off, none⟩ ∧ w.cell? ⟨bb, off + i, none⟩ = some (.int .u8 (b.toNat : Int)) := by
              intro i hi
              have h2 := hget i hi
              rw [List.getElem?_eq_getElem (by rw [hel]; exact hi), Option.bind_eq_some_iff] at h2
              obtain ⟨cs, h3, h4⟩ := h2
              obtain ⟨z, rfl, _, hwf⟩ := DataW.trod_int hde h4
              rw [hsz, Nat.mul_one] at h3
              obtain ⟨_, _, h5⟩ := World.cells?_some h3
              have h6 := h5 0 (by omega)
              simp at h6
              have hzr : 0 ≤ z ∧ z ≤ 255 := by simpa [Lit.wf, IntKind.min, IntKind.max, IntKind.signed, IntKind.bits] using hwf
              have hspn : a.spot = none := by
                have h2 := hget 0 (by omega)
                rw [List.getElem?_eq_getElem (by omega), Option.bind_eq_some_iff] at h2
                obtain ⟨cs, h3, _⟩ := h2
                exact spot_row h3 (by omega)
              obtain ⟨bb, off, sp⟩ := a
              simp only at hspn
              subst hspn
              refine ⟨UInt8.ofNat z.toNat, bb, off, rfl, ?_⟩
              rw [add_none] at h6
              have hz2 : (off + i + 0) = off + i := rfl
              rw [show ((UInt8.ofNat z.toNat).toNat : Int) = z by rw [UInt8.toNat_ofNat', Nat.mod_eq_of_lt (by omega)]; omega]
              simpa [Addr.add] using h6
            obtain ⟨bs, b1, b2⟩ := choose_list len key
            refine ⟨[.bytes bs], .single rfl (.bytes bs (some a) len cap b1 hlc hcm fun k x hx => ?_), ⟨bs, rfl, by omega⟩, fun ty' e => hsize ty' e _⟩
            obtain ⟨bb, off, c1, c2⟩ := b2 k x hx
            exact ⟨bb, off, by rw [c1], stable_imm T _ _, c2⟩
        · cases hre
      · rename_i e0 hcks
        simp only [Bool.and_eq_true] at hre
        obtain ⟨⟨he0, hte1⟩, hrow⟩ := hre
        have he0 := Nat.eq_of_beq_eq_true he0
        have hte1 := Nat.le_of_ble_eq_true hte1
        have hrow1 : te.row = false → te.size = 1 := (hT e te hTe).one
        have hszs : (immG T).sz e = te.size := sizes_eq hTe
        rcases DataW.trod_slice hd h with ⟨rfl, _⟩ | ⟨a, len, cap, elems, rest, m, e1, rfl, _, hb, hlc, hcm, hel, hget, _, _⟩
        · exact ⟨[.sl e []], .single rfl (.sl e [] none 0 0 (fun _ => undef) rfl (Nat.le_refl _) (by simp) (by simp) (fun k y hy => by simp at hy) (fun k y hy => by simp at hy)), ⟨he0, [], rfl, by simp, by simp⟩, fun ty' e => hsize ty' e _⟩
        · obtain rfl : n = m := by omega
          have key : ∀ i, i < len → ∃ p : List V × List Value, RepC T w p.1 p.2 ∧ Fits T n e p.1 ∧ p.2.length = te.size ∧ ∃ bb off, a = ⟨bb, off, none⟩ ∧ ∀ j, j < te.size → w.cell? ⟨bb, off + (i * te.size + j), none⟩ = some (p.2.getD j undef) := by
            intro i hi
            have h2 := hget i hi
            rw [List.getElem?_eq_getElem (by rw [hel]; exact hi), Option.bind_eq_some_iff] at h2
            obtain ⟨cs, h3, h4⟩ := h2
            obtain ⟨xs, c1, c2, c3⟩ := trod_rep hT hl n e cs _ hmem h4
            have c3 := c3 te hTe
            rw [hsz] at h3
            obtain ⟨_, _, h5⟩ := World.cells?_some h3
            have hspn : a.spot = none := by
              have h2 := hget 0 (by omega)
              rw [List.getElem?_eq_getElem (by omega), Option.bind_eq_some_iff] at h2
              obtain ⟨cs, h3, _⟩ := h2
              exact spot_row h3 (by omega)
            obtain ⟨bb, off, sp⟩ := a
            simp only at hspn
            subst hspn
            refine ⟨(xs, cs), c1, c2, c3, bb, off, rfl, fun j hj => ?_⟩
            have h7 := h5 j hj
            rw [add_none, add_none, Nat.add_assoc] at h7
            rw [h7, List.getD_eq_getElem?_getD]
            show cs[j]? = some (cs[j]?.getD undef)
            rw [List.getElem?_eq_getElem (by omega)]; rfl
          obtain ⟨ps, b1, b2⟩ := choose_list len key
          have hxl : ∀ p ∈ ps, p.1.length = te.size ∧ ∀ x ∈ p.1, x.one = true := by
            intro p hp
            obtain ⟨i, hi⟩ := List.getElem?_of_mem hp
            obtain ⟨c1, _, c3, _⟩ := b2 i p hi
            exact ⟨by rw [c1.len, c3], c1.one⟩
          have hcells : ∀ p ∈ ps, (mkEl te.row p.1).cells = p.1 := fun p hp => mkEl_cells (hxl p hp).2 fun hr => by rw [(hxl p hp).1, hrow1 hr]
          have hflat : (ps.map fun p => mkEl te.row p.1).flatMap V.cells = (ps.map (·.1)).flatten := by
            rw [List.flatMap_def, List.map_map]
            congr 1
            exact List.map_congr_left fun p hp => hcells p hp
          have hall : ∀ c ∈ ps.map (·.1), c.length = te.size := fun c hc => by
            obtain ⟨p, hp, rfl⟩ := List.mem_map.1 hc
            exact (hxl p hp).1
          have hlook : ∀ (k : Nat) (y : V), ((ps.map fun p => mkEl te.row p.1).flatMap V.cells)[k]? = some y → ∃ i j p, k = i * te.size + j ∧ j < te.size ∧ ps[i]? = some p ∧ p.1[j]? = some y := by
            intro k y hk
            rw [hflat] at hk
            have hk1 := (List.getElem?_eq_some_iff.1 hk).1
            rw [flatT_len _ hall, List.length_map, b1] at hk1
            have hpos : 0 < te.size := by omega
            have hi : k / te.size < len := (Nat.div_lt_iff_lt_mul hpos).2 hk1
            have hj : k % te.size < te.size := Nat.mod_lt _ hpos
            have hkk : k = k / te.size * te.size + k % te.size := by rw [Nat.mul_comm]; exact (Nat.div_add_mod k te.size).symm
            have hp : ps[k / te.size]? = some (ps[k / te.size]'(by omega)) := List.getElem?_eq_getElem (by omega)
            refine ⟨k / te.size, k % te.size, _, hkk, hj, hp, ?_⟩
            rw [hkk] at hk
            rw [flatT_get _ _ _ _ hall (by rw [List.getElem?_map, hp]; rfl) hj] at hk
            exact hk
          refine ⟨[.sl e (ps.map fun p => mkEl te.row p.1)], .single rfl (.sl e _ (some a) len cap (fun k => ((ps.map (·.2)).flatten).getD k undef) (by simp [b1]) hlc hcm (fun x hx => ?_) (fun k y hk => ?_) (fun k y hk => ?_)), ⟨he0, _, rfl, by simp [b1]; omega, fun y hy => ?_⟩, fun ty' e => hsize ty' e _⟩
          · obtain ⟨p, hp, rfl⟩ := List.mem_map.1 hx
            rw [hszs]
            exact okEl_mk (hxl p hp).1 (hxl p hp).2 fun hr => by rw [(hxl p hp).1, hrow1 hr]
          · obtain ⟨i, j, p, rfl, hj, hp, hy⟩ := hlook k y hk
            obtain ⟨_, _, c3, bb, off, c4, c5⟩ := b2 i p hp
            refine ⟨bb, off, by rw [c4], stable_imm T _ _, ?_⟩
            rw [c5 j hj]
            have : (ps.map (·.2)).flatten[i * te.size + j]? = p.2[j]? := flatT_get _ _ _ _ (fun c hc => by
              obtain ⟨q, hq, rfl⟩ := List.mem_map.1 hc
              obtain ⟨i', hi'⟩ := List.getElem?_of_mem hq
              exact (b2 i' q hi').2.2.1) (by rw [List.getElem?_map, hp]; rfl) hj
            rw [List.getD_eq_getElem?_getD, List.getD_eq_getElem?_getD, this]
          · obtain ⟨i, j, p, rfl, hj, hp, hy⟩ := hlook k y hk
            obtain ⟨c1, _, c3, _⟩ := b2 i p hp
            have : (ps.map (·.2)).flatten[i * te.size + j]? = p.2[j]? := flatT_get _ _ _ _ (fun c hc => by
              obtain ⟨q, hq, rfl⟩ := List.mem_map.1 hc
              obtain ⟨i', hi'⟩ := List.getElem?_of_mem hq
              exact (b2 i' q hi').2.2.1) (by rw [List.getElem?_map, hp]; rfl) hj
            have := c1.rep j y hy
            rw [List.getD_eq_getElem?_getD] at this ⊢
            rwa [‹(ps.map (·.2)).flatten[i * te.size + j]? = p.2[j]?›]
          · obtain ⟨p, hp, rfl⟩ := List.mem_map.1 hy
            obtain ⟨i, hi⟩ := List.getElem?_of_mem hp
            exact ⟨te, p.1, rfl, rfl, (b2 i p hi).2.1⟩
      · cases hre
    · rename_i fs
      simp only [Bool.and_eq_true] at hre
      obtain ⟨hco, hfa⟩ := hre
      obtain ⟨ys, m, e1, _, hlen, _, hg⟩ := DataW.trod_struct hd h
      obtain rfl : n = m := by omega
      rw [cellsOf_eq hT hTt] at hlen
      have main : ∀ (l' : List Field) (i off : Nat), fs.toList.drop i = l' → contigT T ty.size off l' = true → off ≤ ty.size → ∃ xs, RepC T w xs (cs.drop off) ∧ FitsFs (Fits T n) l' xs := by
        intro l'
        induction l' with
        | nil =>
          intro i off hdr hc ho
          have := Nat.eq_of_beq_eq_true hc
          refine ⟨[], ⟨by simp; omega, by simp, by simp⟩, rfl⟩
        | cons f l' ih =>
          intro i off hdr hc ho
          simp only [contigT, Bool.and_eq_true] at hc
          obtain ⟨hc1, hc2⟩ := hc
          have hc1 := Nat.eq_of_beq_eq_true hc1
          have hfi : fs.toList[i]? = some f := by
            have : (fs.toList.drop i)[0]? = some f := by rw [hdr]; rfl
            simpa using this
          have hfm : f ∈ fs.toList := List.mem_of_getElem? hfi
          have h1 := List.all_eq_true.1 hfa f hfm
          have hfl : f.type ∈ l := by
            have := List.all_eq_true.1 hlead f hfm
            obtain ⟨z, hz, hb⟩ := List.any_eq_true.1 this
            have := Nat.eq_of_beq_eq_true hb
            rw [this]; exact hz
          cases hTf : T f.type with
          | none => rw [hTf] at h1; simp at h1
          | some tf =>
          have h2 := hg i f (by simpa using hfi)
          rw [cellsOf_eq hT hTf, hc1] at h2
          have hle : off + tf.size ≤ ty.size := by
            have : ∀ (l' : List Field) (off : Nat), contigT T ty.size off l' = true → off ≤ ty.size := by
              intro l'
              induction l' with
              | nil => intro off hc; have := Nat.eq_of_beq_eq_true hc; omega
              | cons f l' ih => intro off hc; simp only [contigT, Bool.and_eq_true] at hc; have := ih _ hc.2; omega
            have := this l' _ hc2
            rw [sizes_eq hTf] at this
            exact this
          have hys : i < ys.length := by
            cases hyi : ys[i]? with
            | none =>
              have hfi2 : i < fs.size := by
                have := (List.getElem?_eq_some_iff.1 hfi).1
                simpa using this
              have : ys.length = fs.size := by assumption
              rw [this]; exact hfi2
            | some y => exact (List.getElem?_eq_some_iff.1 hyi).1
          rw [List.getElem?_eq_getElem hys] at h2
          obtain ⟨xs, c1, c2, _⟩ := trod_rep hT hl n f.type _ _ hfl h2
          obtain ⟨rs, d1, d2⟩ := ih (i + 1) (off + sizes T f.type) (by rw [List.drop_add_one_eq_tail_drop, hdr]; rfl) hc2 (by rw [sizes_eq hTf]; exact hle)
          refine ⟨xs ++ rs, ?_, xs, rs, rfl, c2, d2⟩
          have := c1.append d1
          rw [sizes_eq hTf, ← List.drop_drop, List.take_append_drop] at this
          exact this
      obtain ⟨xs, c1, c2⟩ := main fs.toList 0 0 rfl hco (Nat.zero_le _)
      exact ⟨xs, by simpa using c1, c2, fun ty' e => by cases e; exact hlen⟩
/-- An argument. -/
theorem arg_rep (hT : TypesOK P T) {l : List TypeId} (hl : closedT T l = true) {t : TypeId} (ht : t ∈ l) {v : Value} {d : DataW H} {ps : List MemPlace} (hrow : ∀ ty, T t = some ty → (ty.row = true → ∃ cs, v = .agg cs) ∧ (ty.row = false → v.cells = #[v]))
    (hd : DataW.Trod enc P w base spare held t v d ps) : ∃ n x, Fits T n t (V.cells x) ∧ RepV (immG T) w x v ∧ ∀ ty, T t = some ty → x = mkEl ty.row (V.cells x) := by
  obtain ⟨fuel, hf⟩ := hd
  obtain ⟨xs, h1, h2, h3⟩ := trod_rep hT hl fuel t _ _ ht hf
  cases hTt : T t with
  | none => cases fuel <;> simp [Fits, hTt] at h2
  | some ty =>
  have h3 := h3 ty hTt
  obtain ⟨r1, r2⟩ := hrow ty hTt
  cases hr : ty.row with
  | true =>
    obtain ⟨cs, rfl⟩ := r1 hr
    refine ⟨fuel, .agg xs, h2, .agg xs cs (by rw [h1.len]; rfl) fun k y hk => ?_, fun ty' e => by cases e; rw [hr]; rfl⟩
    have := h1.rep k y hk
    simpa [Value.cells, List.getD_eq_getElem?_getD, Array.getD_eq_getD_getElem?] using this
  | false =>
    have hv := r2 hr
    rw [hv] at h1 h3
    have hl1 := h1.len
    simp at hl1
    match xs, hl1 with
    | [x], _ =>
      have ho := h1.one x (by simp)
      have hc : V.cells x = [x] := by cases x <;> first | rfl | cases ho
      exact ⟨fuel, x, by rw [hc]; exact h2, by simpa using h1.rep 0 x rfl, fun ty' e => by cases e; rw [hr, hc]; rfl⟩
end
end Go.Proofs.Ytllnklkjkjmjbaa.En

/- Conditions as plain data; the budget of the statements. -/
namespace Go.Proofs.Ytllnklkjkjmjbaa.En
open Go
set_option linter.unusedVariables false
/-- A list of conditions: the first one's operation, number and kids, and the rest of the list. -/
inductive Cl where
  | nil
  | cons (op n : Int) (kids : Cl) (rest : Cl)
  deriving DecidableEq
namespace Cl
def len : Cl → Nat
  | nil => 0
  | cons _ _ _ r => r.len + 1
def nodes : Cl → Nat
  | nil => 0
  | cons _ _ k r => k.nodes + r.nodes + 1
def enc : Cl → List V
  | nil => []
  | cons o n k r => .agg [.int .i64 o, .int .i64 n, .sl 46 k.enc] :: r.enc
def wf : Cl → Prop
  | nil => True
  | cons o n k r => (-9223372036854775808 ≤ o ∧ o ≤ 9223372036854775807) ∧ (-9223372036854775808 ≤ n ∧ n ≤ 9223372036854775807) ∧ k.len ≤ 9223372036854775807 ∧ k.wf ∧ r.wf
theorem enc_len : ∀ l : Cl, l.enc.length = l.len
  | nil => rfl
  | cons o n k r => by simp [enc, len, enc_len r]
theorem len_le : ∀ l : Cl, l.len ≤ l.nodes
  | nil => Nat.le_refl _
  | cons o n k r => by have := len_le r; simp only [len, nodes]; omega
end Cl
end Go.Proofs.Ytllnklkjkjmjbaa.En

/- Which conditions are valid: the reference. -/
namespace Go.Proofs.Ytllnklkjkjmjbaa.En
open Go
set_option linter.unusedVariables false
/-- All of the list are valid. -/
def vL : Cl → Bool
  | .nil => true
  | .cons o m k r => (if o = 0 ∨ o = 1 then decide (m = 0) && decide (k.len = 0) else if o = 2 ∨ o = 3 then decide (1 ≤ m) && decide (m ≤ 8) && decide (k.len = 0)
      else if o = 4 then decide (1 ≤ m) && decide (m ≤ 5) && decide (k.len = 0) else if o = 5 then decide (1 ≤ m) && decide (bitsI BinOp.and IntKind.i64 51 m = m) && decide (k.len = 0)
      else if o = 6 ∨ o = 7 then decide (m = 0) && !decide (k.len = 0) && vL k else false) && vL r
def vC (o m : Int) (k : Cl) : Bool := vL (.cons o m k .nil)
theorem vL_cons (o m : Int) (k r : Cl) : vL (.cons o m k r) = (vC o m k && vL r) := by
  show _ = (vL (.cons o m k .nil) && vL r)
  simp only [vL, Bool.and_true]
end Go.Proofs.Ytllnklkjkjmjbaa.En

/- Words for security statuses: bits as vectors. No program in sight. -/
namespace Go.Proofs.Ytllnklkjkjmjbaa.En
open Go
set_option linter.unusedVariables false
def bv (a : Int) : BitVec 64 := BitVec.ofInt 64 a
theorem wrap_range (n : Int) : -9223372036854775808 ≤ IntKind.i64.wrap n ∧ IntKind.i64.wrap n ≤ 9223372036854775807 := by
  rw [IntKind.wrap_i64]; omega
/-- All bits of y are in x. -/
def hasB (x y : BitVec 64) : Bool := decide (x &&& y = y)
theorem hasB_iff (x y : BitVec 64) : hasB x y = true ↔ ∀ i, i < 64 → y.getLsbD i = true → x.getLsbD i = true := by
  unfold hasB
  rw [decide_eq_true_iff]
  constructor
  · intro h i hi hy
    rw [← h, BitVec.getLsbD_and] at hy
    simp at hy; exact hy.1
  · intro h
    apply BitVec.eq_of_getLsbD_eq
    intro i hi
    rw [BitVec.getLsbD_and]
    cases hy : y.getLsbD i with
    | false => simp
    | true => simp [h i hi hy]
theorem hasB_refl (x : BitVec 64) : hasB x x = true := by rw [hasB_iff]; intros; assumption
theorem hasB_trans {x y z : BitVec 64} (h : hasB x y = true) (k : hasB y z = true) : hasB x z = true := by
  rw [hasB_iff] at *
  exact fun i hi hz => h i hi (k i hi hz)
/-- A security status: PINs, keys, state, level. -/
structure Sec where
  p : Int
  k : Int
  s : Int
  l : Int
def Sec.enc (x : Sec) : V := .agg [.int .i64 x.p, .int .i64 x.k, .int .i64 x.s, .int .i64 x.l]
/-- x has at most the rights of y. -/
def Sec.le (x y : Sec) : Prop := hasB (bv y.p) (bv x.p) = true ∧ hasB (bv y.k) (bv x.k) = true ∧ (x.s ≤ 0 ∨ x.s ≤ y.s) ∧ hasB (bv y.l) (bv x.l) = true
theorem Sec.le_refl (x : Sec) : x.le x := ⟨hasB_refl _, hasB_refl _, .inr (Int.le_refl _), hasB_refl _⟩
theorem Sec.le_trans {x y z : Sec} (h : x.le y) (k : y.le z) : x.le z := by
  obtain ⟨a, b, c, d⟩ := h
  obtain ⟨a', b', c', d'⟩ := k
  exact ⟨hasB_trans a' a, hasB_trans b' b, by omega, hasB_trans d' d⟩
/-- 2^n, n from 0 to 62. -/
def p2 (n : Nat) : Int := ((2 ^ n : Nat) : Int)
end Go.Proofs.Ytllnklkjkjmjbaa.En

/- Which conditions imply which: plain. -/
namespace Go.Proofs.Ytllnklkjkjmjbaa.En
open Go
set_option linter.unusedVariables false
/-- What is known of a valid condition. -/
theorem vC_leaf {o m : Int} {k : Cl} (h : vC o m k = true) : (o = 0 ∧ m = 0 ∧ k = .nil) ∨ (o = 1 ∧ m = 0 ∧ k = .nil) ∨ (o = 2 ∧ 1 ≤ m ∧ m ≤ 8 ∧ k = .nil) ∨ (o = 3 ∧ 1 ≤ m ∧ m ≤ 8 ∧ k = .nil) ∨ (o = 4 ∧ 1 ≤ m ∧ m ≤ 5 ∧ k = .nil) ∨ (o = 5 ∧ 1 ≤ m ∧ bitsI BinOp.and IntKind.i64 51 m = m ∧ k = .nil) ∨ ((o = 6 ∨ o = 7) ∧ m = 0 ∧ k ≠ .nil ∧ vL k = true) := by
  have hnil : ∀ k : Cl, k.len = 0 → k = .nil := by intro k; cases k <;> simp [Cl.len]
  simp only [vC, vL, Bool.and_true] at h
  by_cases h0 : o = 0 ∨ o = 1
  · rw [if_pos h0] at h
    simp only [Bool.and_eq_true, decide_eq_true_eq] at h
    have := hnil k h.2
    rcases h0 with h0 | h0
    · exact .inl ⟨h0, h.1, this⟩
    · exact .inr (.inl ⟨h0, h.1, this⟩)
  rw [if_neg h0] at h
  by_cases h2 : o = 2 ∨ o = 3
  · rw [if_pos h2] at h
    simp only [Bool.and_eq_true, decide_eq_true_eq] at h
    have := hnil k h.2
    rcases h2 with h2 | h2
    · exact .inr (.inr (.inl ⟨h2, h.1.1, h.1.2, this⟩))
    · exact .inr (.inr (.inr (.inl ⟨h2, h.1.1, h.1.2, this⟩)))
  rw [if_neg h2] at h
  by_cases h4 : o = 4
  · rw [if_pos h4] at h
    simp only [Bool.and_eq_true, decide_eq_true_eq] at h
    exact .inr (.inr (.inr (.inr (.inl ⟨h4, h.1.1, h.1.2, hnil k h.2⟩))))
  rw [if_neg h4] at h
  by_cases h5 : o = 5
  · rw [if_pos h5] at h
    simp only [Bool.and_eq_true, decide_eq_true_eq] at h
    exact .inr (.inr (.inr (.inr (.inr (.inl ⟨h5, h.1.1, h.1.2, hnil k h.2⟩)))))
  rw [if_neg h5] at h
  by_cases h6 : o = 6 ∨ o = 7
  · rw [if_pos h6] at h
    simp only [Bool.and_eq_true, decide_eq_true_eq, Bool.not_eq_true', decide_eq_false_iff_not] at h
    exact .inr (.inr (.inr (.inr (.inr (.inr ⟨h6, h.1.1, fun e => h.1.2 (by rw [e]; rfl), h.2⟩)))))
  · rw [if_neg h6] at h; cases h
/-! The program's statuses -/
instance : DecidableEq Sec := fun x y => by
  cases x with | mk a b c d => cases y with | mk e f g h =>
  exact decidable_of_iff (a = e ∧ b = f ∧ c = g ∧ d = h) (by simp)
end Go.Proofs.Ytllnklkjkjmjbaa.En

/- Which conditions imply which: the reference's trial of all statuses. Plain. -/
namespace Go.Proofs.Ytllnklkjkjmjbaa.En
open Go
set_option linter.unusedVariables false
abbrev At := Int × Int
theorem level_range {n : Int} (h1 : 1 ≤ n) (h : bitsI BinOp.and IntKind.i64 51 n = n) : n ≤ 51 := by
  have e : bitsI BinOp.and IntKind.i64 51 n = IntKind.i64.wrap ((bv 51 &&& bv n).toNat : Int) := rfl
  have h2 : (bv 51 &&& bv n).toNat ≤ 51 := by
    rw [BitVec.toNat_and]
    exact Nat.le_trans Nat.and_le_left (by decide)
  rw [e, w64 (by omega) (by omega)] at h
  omega
/-! The trial -/
/-- What is still to come is not there. -/
def fresh (s : Sec) (l : List At) : Prop := ∀ a ∈ l, (a.1 = 2 → bv s.p &&& bv (p2 a.2.toNat) = 0#64) ∧ (a.1 = 3 → bv s.k &&& bv (p2 a.2.toNat) = 0#64) ∧ (a.1 = 5 → bv s.l &&& bv a.2 = 0#64)
end Go.Proofs.Ytllnklkjkjmjbaa.En

/- Lists of data objects as plain data; the budget of the statements. -/
namespace Go.Proofs.Ytllnklkjkjmjbaa.En
open Go
set_option linter.unusedVariables false
/-- A list of data objects: the first one's tag, value and kids, and the rest of the list. -/
inductive Tl where
  | nil
  | cons (tag : Int) (value : List UInt8) (kids : Tl) (rest : Tl)
  deriving DecidableEq
namespace Tl
def len : Tl → Nat
  | nil => 0
  | cons _ _ _ r => r.len + 1
def nodes : Tl → Nat
  | nil => 0
  | cons _ _ k r => k.nodes + r.nodes + 1
def append : Tl → Tl → Tl
  | nil, u => u
  | cons t v k r, u => cons t v k (r.append u)
def enc : Tl → List V
  | nil => []
  | cons t v k r => .agg [.int .i64 t, .bytes v, .sl 62 k.enc] :: r.enc
/-- As it came in: tags are of type int, slices have lengths. -/
def wf : Tl → Prop
  | nil => True
  | cons t v k r => (-9223372036854775808 ≤ t ∧ t ≤ 9223372036854775807) ∧ v.length ≤ 9223372036854775807 ∧ k.len ≤ 9223372036854775807 ∧ k.wf ∧ r.wf
/-- Objects and bytes. -/
def wt : Tl → Nat
  | nil => 0
  | cons _ v k r => v.length + 1 + k.wt + r.wt
theorem enc_len : ∀ l : Tl, l.enc.length = l.len
  | nil => rfl
  | cons t v k r => by simp [enc, len, enc_len r]
theorem len_le : ∀ l : Tl, l.len ≤ l.nodes
  | nil => Nat.le_refl _
  | cons t v k r => by have := len_le r; simp only [len, nodes]; omega
theorem enc_append : ∀ a b : Tl, (a.append b).enc = a.enc ++ b.enc
  | nil, b => rfl
  | cons t v k r, b => by simp only [append, enc, enc_append r b, List.cons_append]
theorem len_append : ∀ a b : Tl, (a.append b).len = a.len + b.len
  | nil, b => by simp [append, len]
  | cons t v k r, b => by simp only [append, len, len_append r b]; omega
theorem append_nil : ∀ a : Tl, a.append nil = a
  | nil => rfl
  | cons t v k r => by simp only [append, append_nil r]
end Tl
end Go.Proofs.Ytllnklkjkjmjbaa.En

/- Tags and lengths of data objects: what the program and the reference compute. -/
namespace Go.Proofs.Ytllnklkjkjmjbaa.En
open Go
set_option linter.unusedVariables false
def I64 (t : Int) : Prop := -9223372036854775808 ≤ t ∧ t ≤ 9223372036854775807
def tagV (t : Int) : Bool := decide ((1 ≤ t ∧ t ≤ 255 ∧ t % 32 ≠ 31) ∨ (256 ≤ t ∧ t ≤ 65535 ∧ t / 256 % 32 = 31 ∧ 31 ≤ t % 256 ∧ t % 256 ≤ 127))
def tagC (t : Int) : Bool := tagV t && decide ((if 255 < t then t / 256 else t) / 32 % 2 = 1)
theorem Valid_eq (N : Nat) (t : Int) (h : I64 t) : s_Valid N t = some (tagV t) := by
  unfold s_Valid
  simp only [br_t, br_f, br_dec, br_not, br_and, br_or, bnd1_mk, bnd2_mk, bnd3_mk, bnd4_mk, bnd5_mk, at_zero, at_succ, at_mid, unInt_mk, unBool_mk, unStr_mk, unBytes_mk, unSl_mk, unAgg_mk, unCons_mk, unNil_mk, and31, and255, shr8]
  repeat' split
  all_goals (congr 1; rw [Bool.eq_iff_iff]; simp [tagV]; omega)
theorem Constructed_eq (N : Nat) (t : Int) (h : I64 t) : s_Constructed N t = some (tagC t) := by
  unfold s_Constructed tagC
  simp only [br_t, br_f, br_dec, br_not, br_and, br_or, bnd1_mk, bnd2_mk, bnd3_mk, bnd4_mk, bnd5_mk, at_zero, at_succ, at_mid, unInt_mk, unBool_mk, unStr_mk, unBytes_mk, unSl_mk, unAgg_mk, unCons_mk, unNil_mk, Valid_eq N t h, and32, shr8]
  cases tagV t with
  | false => simp [br]
  | true =>
    simp only [br_t, Bool.true_and]
    by_cases hc : 255 < t
    · rw [if_pos hc, if_pos hc]; congr 1; rw [Bool.eq_iff_iff]; simp; omega
    · rw [if_neg hc, if_neg hc]; congr 1; rw [Bool.eq_iff_iff]; simp; omega
/-! The bytes of tags and lengths -/
def byteI (n : Int) : UInt8 := UInt8.ofNat (n % 256).toNat
theorem byteI_toNat (n : Int) : ((byteI n).toNat : Int) = n % 256 := by
  unfold byteI
  rw [UInt8.toNat_ofNat', Nat.mod_eq_of_lt (by omega)]; omega
def tagB (t : Int) : List UInt8 := if 255 < t then [byteI (t / 256), byteI t] else [byteI t]
def lenB (n : Int) : List UInt8 := if n < 128 then [byteI n] else if n < 256 then [129, byteI n] else [130, byteI (n / 256), byteI n]
theorem tagBytes_eq (N : Nat) (t : Int) : s_tagBytes N t = some (tagB t) := by
  unfold s_tagBytes tagB byteI
  simp only [br_t, br_f, br_dec, br_not, br_and, br_or, bnd1_mk, bnd2_mk, bnd3_mk, bnd4_mk, bnd5_mk, at_zero, at_succ, at_mid, unInt_mk, unBool_mk, unStr_mk, unBytes_mk, unSl_mk, unAgg_mk, unCons_mk, unNil_mk, shr8, wu8]
  split <;> rfl
theorem lengthBytes_eq (N : Nat) (n : Int) : s_lengthBytes N n = some (lenB n) := by
  unfold s_lengthBytes lenB byteI
  simp only [br_t, br_f, br_dec, br_not, br_and, br_or, bnd1_mk, bnd2_mk, bnd3_mk, bnd4_mk, bnd5_mk, at_zero, at_succ, at_mid, unInt_mk, unBool_mk, unStr_mk, unBytes_mk, unSl_mk, unAgg_mk, unCons_mk, unNil_mk, shr8, wu8]
  repeat' split
  all_goals rfl
end Go.Proofs.Ytllnklkjkjmjbaa.En

/- The bytes of conditions: there and back. Plain. -/
namespace Go.Proofs.Ytllnklkjkjmjbaa.En
open Go
set_option linter.unusedVariables false
/-- The bytes of a list of conditions. -/
def eL : Cl → List UInt8
  | .nil => []
  | .cons o m k r => (byteI o :: (if 6 ≤ o then byteI (k.len : Int) :: eL k else if 2 ≤ o then [byteI m] else [])) ++ eL r
def eC (o m : Int) (k : Cl) : List UInt8 := byteI o :: (if 6 ≤ o then byteI (k.len : Int) :: eL k else if 2 ≤ o then [byteI m] else [])
theorem eL_cons (o m : Int) (k r : Cl) : eL (.cons o m k r) = eC o m k ++ eL r := by
  conv => lhs; unfold eL
  rfl
/-- The depth. -/
def Cl.dep : Cl → Nat
  | .nil => 0
  | .cons _ _ k r => max (k.dep + 1) r.dep
theorem Cl.dep_le : ∀ l : Cl, l.dep ≤ l.nodes
  | .nil => Nat.le_refl _
  | .cons o m k r => by
    have := dep_le k
    have := dep_le r
    simp only [Cl.dep, Cl.nodes]; omega
theorem eL_len : ∀ l : Cl, (eL l).length ≤ 2 * l.nodes
  | .nil => Nat.le_refl _
  | .cons o m k r => by
    have h1 := eL_len k
    have h2 := eL_len r
    rw [eL_cons]
    unfold eC
    simp only [List.length_append, List.length_cons, Cl.nodes]
    split
    · simp only [List.length_cons]; omega
    split
    · simp; omega
    · simp; omega
/-! Reading -/
def rdL (f : List UInt8 → Option ((Int × Int × Cl) × List UInt8)) : Nat → List UInt8 → Option (Cl × List UInt8)
  | 0, b => some (.nil, b)
  | n + 1, b => match f b with
    | none => none
    | some ((o, m, k), rest) => match rdL f n rest with
      | none => none
      | some (r, rest') => some (.cons o m k r, rest')
def rd (lim : Int) : Nat → List UInt8 → Option ((Int × Int × Cl) × List UInt8)
  | 0, _ => none
  | _ + 1, [] => none
  | d + 1, op :: b =>
    if lim < (op.toNat : Int) then none
    else if (op.toNat : Int) < 2 then some (((op.toNat : Int), 0, .nil), b)
    else match b with
      | [] => none
      | n :: b =>
        if (op.toNat : Int) < 6 then some (((op.toNat : Int), (n.toNat : Int), .nil), b)
        else match rdL (rd lim d) n.toNat b with
          | none => none
          | some (k, rest) => some (((op.toNat : Int), 0, k), rest)
/-- What valid conditions are encoded to is read. -/
theorem rd_put : ∀ (l : Cl) (d : Nat) (rest : List UInt8), vL l = true → l.nodes ≤ 255 → l.dep ≤ d + 1 → (∀ o m k r, l = .cons o m k r → rd 7 (d + 1) (eC o m k ++ (eL r ++ rest)) = some ((o, m, k), eL r ++ rest)) ∧ rdL (rd 7 (d + 1)) l.len (eL l ++ rest) = some (l, rest)
  | .nil, d, rest, _, _, _ => ⟨fun o m k r h => (by cases h), rfl⟩
  | .cons o m k r, d, rest, hv, hn, hd => by
    have hv0 := hv
    rw [vL_cons, Bool.and_eq_true] at hv
    simp only [Cl.nodes] at hn
    simp only [Cl.dep] at hd
    have hkl := Cl.len_le k
    have one : ∀ x : List UInt8, rd 7 (d + 1) (eC o m k ++ x) = some ((o, m, k), x) := by
      intro x
      have hb : ∀ z : Int, 0 ≤ z → z ≤ 255 → ((byteI z).toNat : Int) = z := fun z h1 h2 => by rw [byteI_toNat]; omega
      have leaf0 : ∀ (z : Int), 0 ≤ z → z < 2 → rd 7 (d + 1) (eC z 0 .nil ++ x) = some ((z, 0, .nil), x) := by
        intro z h1 h2
        unfold eC
        rw [if_neg (by omega), if_neg (by omega)]
        show rd 7 (d + 1) (byteI z :: x) = _
        unfold rd
        rw [hb z h1 (by omega), if_neg (by omega), if_pos h2]
      have leaf1 : ∀ (z : Int), 2 ≤ z → z < 6 → 0 ≤ m → m ≤ 255 → rd 7 (d + 1) (eC z m .nil ++ x) = some ((z, m, .nil), x) := by
        intro z h1 h2 h3 h4
        unfold eC
        rw [if_neg (by omega), if_pos (by omega)]
        show rd 7 (d + 1) (byteI z :: byteI m :: x) = _
        unfold rd
        rw [hb z (by omega) (by omega), if_neg (by omega), if_neg (by omega)]
        simp only
        rw [if_pos h2, hb m h3 h4]
      have inner : ∀ (z : Int), (z = 6 ∨ z = 7) → m = 0 → k ≠ .nil → vL k = true → rd 7 (d + 1) (eC z m k ++ x) = some ((z, m, k), x) := by
        intro z hz hm hk0 hk
        unfold eC
        rw [if_pos (by omega)]
        show rd 7 (d + 1) (byteI z :: byteI (k.len : Int) :: (eL k ++ x)) = _
        unfold rd
        have hl := hb (k.len : Int) (by omega) (by omega)
        rw [hb z (by omega) (by omega), if_neg (by omega), if_neg (by omega)]
        simp only
        rw [if_neg (by omega), show (byteI (k.len : Int)).toNat = k.len by omega]
        cases d with
        | zero =>
          exfalso
          cases k with
          | nil => exact hk0 rfl
          | cons _ _ k' r' => simp only [Cl.dep] at hd; omega
        | succ d =>
          rw [(rd_put k d x hk (by omega) (by omega)).2]
          simp only [hm]
      rcases vC_leaf hv.1 with ⟨rfl, rfl, rfl⟩ | ⟨rfl, rfl, rfl⟩ | ⟨rfl, h1, h2, rfl⟩ | ⟨rfl, h1, h2, rfl⟩ | ⟨rfl, h1, h2, rfl⟩ | ⟨rfl, h1, h2, rfl⟩ | ⟨hz, hm, h2, h3⟩
      · exact leaf0 0 (by omega) (by omega)
      · exact leaf0 1 (by omega) (by omega)
      · exact leaf1 2 (by omega) (by omega) (by omega) (by omega)
      · exact leaf1 3 (by omega) (by omega) (by omega) (by omega)
      · exact leaf1 4 (by omega) (by omega) (by omega) (by omega)
      · have : m ≤ 51 := by
          have e : bitsI BinOp.and IntKind.i64 51 m = IntKind.i64.wrap ((bv 51 &&& bv m).toNat : Int) := rfl
          have h3 : (bv 51 &&& bv m).toNat ≤ 51 := by
            rw [BitVec.toNat_and]
            exact Nat.le_trans Nat.and_le_left (by decide)
          rw [e, w64 (by omega) (by omega)] at h2
          omega
        exact leaf1 5 (by omega) (by omega) (by omega) (by omega)
      · exact inner o hz hm h2 h3
    refine ⟨fun o' m' k' r' e => ?_, ?_⟩
    · injection e with e1 e2 e3 e4
      subst e1; subst e2; subst e3; subst e4
      exact one _
    · have hr := (rd_put r d rest hv.2 (by omega) (by omega)).2
      rw [eL_cons, List.append_assoc]
      show rdL (rd 7 (d + 1)) (r.len + 1) _ = _
      unfold rdL
      rw [one]
      simp only
      rw [hr]
theorem rd_putC {o m : Int} {k : Cl} {d : Nat} (rest : List UInt8) (hv : vC o m k = true) (hn : k.nodes ≤ 254) (hd : k.dep ≤ d) : rd 7 (d + 1) (eC o m k ++ rest) = some ((o, m, k), rest) := by
  have := (rd_put (.cons o m k .nil) d rest hv (by simp only [Cl.nodes]; omega) (by simp only [Cl.dep]; omega)).1 o m k .nil rfl
  simpa [eL] using this
end Go.Proofs.Ytllnklkjkjmjbaa.En

/- Encoding data objects: what the program and the reference compute. -/
namespace Go.Proofs.Ytllnklkjkjmjbaa.En
open Go
set_option linter.unusedVariables false
def Tl.isNil : Tl → Bool
  | .nil => true
  | _ => false
def okL : Int → Tl → Bool
  | _, .nil => true
  | d, .cons t v k r => (decide (d ≤ 8) && (tagV t && (bif tagC t then v.isEmpty && okL (d + 1) k else k.isNil))) && okL d r
def encL : Tl → List UInt8
  | .nil => []
  | .cons t v k r => (tagB t ++ lenB ((bif tagC t then encL k else v).length : Int) ++ (bif tagC t then encL k else v)) ++ encL r
theorem encL_cons (t : Int) (v : List UInt8) (k r : Tl) : encL (.cons t v k r) = (tagB t ++ lenB ((bif tagC t then encL k else v).length : Int) ++ (bif tagC t then encL k else v)) ++ encL r := by
  conv => lhs; unfold encL
theorem isNil_len (k : Tl) : k.isNil = decide (k.len = 0) := by cases k <;> simp [Tl.isNil, Tl.len]
theorem tagB_len (t : Int) : 1 ≤ (tagB t).length ∧ (tagB t).length ≤ 2 := by unfold tagB; split <;> simp
theorem lenB_len (n : Int) : 1 ≤ (lenB n).length ∧ (lenB n).length ≤ 3 := by unfold lenB; (repeat' split) <;> simp
section
variable (N : Nat) (n : Nat) (d : Int)
abbrev L63 (k : Tl) : Prop := k.len ≤ 9223372036854775807
theorem mid (pre : List V) (x : V) (suf : List V) : pre ++ x :: suf = (pre ++ [x]) ++ suf := by simp
/-- What a step through a list knows. -/
theorem stepI (pre : List V) (x : V) (suf : List V) (h : pre.length + (suf.length + 1) ≤ 9223372036854775807) :
    (pre.length : Int) < ((pre ++ x :: suf).length : Int) ∧ (0 : Int) ≤ pre.length ∧ IntKind.i64.wrap ((pre.length : Int) + 1) = ((pre ++ [x]).length : Int) ∧ ((pre ++ x :: suf).length : Int) = (((pre ++ [x]) ++ suf).length : Int) := by
  refine ⟨by simp; omega, by omega, ?_, by simp⟩
  rw [w64 (by omega) (by omega)]; simp
theorem endI (pre : List V) : ¬ ((pre.length : Int) < ((pre ++ ([] : List V)).length : Int)) := by simp
theorem IndexFuncV_loop (f : List V → Int → Option Bool) (hd : -9223372036854775808 ≤ d ∧ d ≤ 1000) (hf : ∀ (k : Tl), d ≤ 8 → k.nodes < n → k.wf → L63 k → f k.enc (d + 1) = some (okL (d + 1) k)) :
    ∀ (l : Tl) (pre : List V) (t : Nat), l.len < t → l.nodes ≤ n → l.wf → pre.length + l.len ≤ 9223372036854775807 →
      ∃ i, S_IndexFuncV_2 N f (pre ++ l.enc) ((pre ++ l.enc).length : Int) d t (pre.length : Int) (fun n0 => some n0) (some (-1)) = some i ∧ decide (0 ≤ i) = !okL d l
  | l, pre, 0, ht, _, _, _ => by omega
  | .nil, pre, t + 1, ht, _, _, _ => by
    unfold S_IndexFuncV_2 F_IndexFuncV_2
    simp only [Tl.enc, br_t, br_f, br_dec, br_not, br_and, br_or, bnd1_mk, bnd2_mk, bnd3_mk, bnd4_mk, bnd5_mk, at_zero, at_succ, at_mid, unInt_mk, unBool_mk, unStr_mk, unBytes_mk, unSl_mk, unAgg_mk, unCons_mk, unNil_mk, endI, if_false]
    exact ⟨-1, rfl, by simp [okL]⟩
  | .cons tg v k r, pre, t + 1, ht, hn, hw, hl => by
    simp only [Tl.len, Tl.nodes] at ht hn hl
    obtain ⟨ht1, hv, hk1, hk2, hr⟩ := hw
    obtain ⟨h1, h2, h3, h4⟩ := stepI pre (.agg [.int .i64 tg, .bytes v, .sl 62 k.enc]) r.enc (by rw [Tl.enc_len]; exact hl)
    obtain ⟨i, ih1, ih2⟩ := IndexFuncV_loop f hd hf r (pre ++ [.agg [.int .i64 tg, .bytes v, .sl 62 k.enc]]) t (by omega) (by omega) hr (by simp; omega)
    rw [← mid, ← h3] at ih1
    unfold S_IndexFuncV_2 F_IndexFuncV_2 s_valid1 C_valid1 okL
    simp only [Tl.enc, br_t, br_f, br_dec, br_not, br_and, br_or, bnd1_mk, bnd2_mk, bnd3_mk, bnd4_mk, bnd5_mk, at_zero, at_succ, at_mid, unInt_mk, unBool_mk, unStr_mk, unBytes_mk, unSl_mk, unAgg_mk, unCons_mk, unNil_mk, h1, h2, if_true, Int.toNat_natCast, Valid_eq N tg ht1, Constructed_eq N tg ht1]
    by_cases c1 : 8 < d
    · rw [if_pos c1]
      exact ⟨_, by rw [bnd1_mk, br_t], by simp; omega⟩
    · rw [if_neg c1]
      cases tagV tg with
      | false => exact ⟨_, by rw [br_f, bnd1_mk, br_t], by simp⟩
      | true =>
        rw [br_t]
        cases tagC tg with
        | false =>
          rw [br_f, bnd1_mk, br_dec, Tl.enc_len]
          by_cases c2 : (0 : Int) < (k.len : Int)
          · rw [if_pos c2]; refine ⟨_, rfl, ?_⟩; simp [isNil_len]; omega
          · rw [if_neg c2]; refine ⟨i, ih1, ?_⟩
            rw [ih2]
            have : k.len = 0 := by omega
            simp [isNil_len, this, (by omega : d ≤ 8)]
        | true =>
          rw [br_t]
          by_cases c2 : (0 : Int) < (v.length : Int)
          · rw [if_pos c2]
            refine ⟨_, by rw [bnd1_mk, br_t], ?_⟩
            cases v with
            | nil => simp at c2
            | cons a b => simp
          · rw [if_neg c2]
            have hv0 : v = [] := List.length_eq_zero_iff.1 (by omega)
            subst hv0
            rw [w64 (n := d + 1) (by omega) (by omega), hf k (by omega) (by omega) hk2 hk1, bnd1_mk, bnd1_mk]
            cases okL (d + 1) k with
            | false => refine ⟨_, rfl, by simp⟩
            | true => refine ⟨i, ih1, ?_⟩; rw [ih2]; simp [(by omega : d ≤ 8)]
theorem valid_eq (N : Nat) : ∀ (M : Nat) (l : Tl) (d : Int), l.nodes < M → l.nodes < N → l.wf → L63 l → -9223372036854775808 ≤ d ∧ d ≤ 1000 → s_valid N M l.enc d = some (okL d l)
  | 0, l, d, h, _, _, _, _ => by omega
  | M + 1, l, d, h, hN, hw, hl, hd => by
    have := l.len_le
    obtain ⟨i, h1, h2⟩ := IndexFuncV_loop N l.nodes d (s_valid N M) hd (fun k hd8 hk hkw hkl => valid_eq N M k (d + 1) (by omega) (by omega) hkw hkl (by omega)) l [] N (by omega) (Nat.le_refl _) hw (by simpa using hl)
    simp only [List.nil_append, List.length_nil, Int.natCast_zero] at h1
    unfold s_valid B_valid s_ContainsFuncV C_ContainsFuncV s_IndexFuncV C_IndexFuncV
    have h1' : S_IndexFuncV_2 N (s_valid N M) l.enc (l.enc.length : Int) d N 0 (fun n0 => some n0) (some (-1)) = some i := h1
    rw [h1', bnd1_mk, bnd1_mk, h2, Bool.not_not]
/-! size -/
theorem size_loop (f : List V → Option Int)
    (hf : ∀ (k : Tl), k.nodes < n → k.wf → L63 k → k.wt ≤ 20000 → okL (d + 1) k = true → ∃ s, f k.enc = some s ∧ (((encL k).length : Int) ≤ 4096 → s = (encL k).length) ∧ (4096 < ((encL k).length : Int) → 4096 < s) ∧ 0 ≤ s ∧ s ≤ 5 * k.wt) :
    ∀ (l : Tl) (pre : List V) (t : Nat) (n0 : Int), l.len < t → l.nodes ≤ n → l.wf → pre.length + l.len ≤ 9223372036854775807 → l.wt ≤ 20000 → okL d l = true → 0 ≤ n0 → n0 ≤ 4096 →
      ∃ s, S_size_3 N f (pre ++ l.enc) ((pre ++ l.enc).length : Int) t n0 (pre.length : Int) (fun n0 => some n0) = some s ∧ (n0 + (encL l).length ≤ 4096 → s = n0 + (encL l).length) ∧ (4096 < n0 + (encL l).length → 4096 < s) ∧ n0 ≤ s ∧ s ≤ n0 + 5 * l.wt
  | l, pre, 0, n0, ht, _, _, _, _, _, _, _ => by omega
  | .nil, pre, t + 1, n0, ht, _, _, _, _, _, _, _ => by
    unfold S_size_3 F_size_3
    simp only [Tl.enc, br_t, br_f, br_dec, br_not, br_and, br_or, bnd1_mk, bnd2_mk, bnd3_mk, bnd4_mk, bnd5_mk, at_zero, at_succ, at_mid, unInt_mk, unBool_mk, unStr_mk, unBytes_mk, unSl_mk, unAgg_mk, unCons_mk, unNil_mk, endI, if_false]
    exact ⟨n0, rfl, fun _ => by simp [encL], fun h => by simp [encL] at h; omega, Int.le_refl _, by omega⟩
  | .cons tg v k r, pre, t + 1, n0, ht, hn, hw, hl, hwt, hok, hn0, hn1 => by
    simp only [Tl.len, Tl.nodes, Tl.wt] at ht hn hl hwt
    obtain ⟨ht1, hv, hk1, hk2, hr⟩ := hw
    obtain ⟨h1, h2, h3, h4⟩ := stepI pre (.agg [.int .i64 tg, .bytes v, .sl 62 k.enc]) r.enc (by rw [Tl.enc_len]; exact hl)
    unfold okL at hok
    simp only [Bool.and_eq_true] at hok
    obtain ⟨⟨hd8, htv, hb⟩, hokr⟩ := hok
    -- the kids
    have hkid : ∃ s, f k.enc = some s ∧ (((bif tagC tg then encL k else v).length : Int) ≤ 4096 → (v.length : Int) + s = (bif tagC tg then encL k else v).length) ∧ (4096 < ((bif tagC tg then encL k else v).length : Int) → 4096 < (v.length : Int) + s) ∧ 0 ≤ s ∧ s ≤ 5 * k.wt := by
      cases hc : tagC tg with
      | true =>
        rw [hc] at hb
        simp only [cond_true, Bool.and_eq_true] at hb
        have hv0 : v = [] := by cases v with | nil => rfl | cons a b => simp at hb
        subst hv0
        obtain ⟨s, s1, s2, s3, s4, s5⟩ := hf k (by omega) hk2 hk1 (by omega) hb.2
        exact ⟨s, s1, fun h => by rw [s2 h]; simp, fun h => by have := s3 h; simp; omega, s4, s5⟩
      | false =>
        rw [hc] at hb
        simp only [cond_false] at hb
        have hk0 : k = .nil := by cases k with | nil => rfl | cons a b c d => simp [Tl.isNil] at hb
        subst hk0
        obtain ⟨s, s1, s2, s3, s4, s5⟩ := hf .nil (by have : Tl.nil.nodes = 0 := rfl; omega) trivial (Nat.zero_le _) (Nat.zero_le _) rfl
        have hs0 : s = 0 := by have := s2 (by simp [encL]); simpa [encL] using this
        subst hs0
        exact ⟨0, s1, fun h => Int.add_zero _, fun h => by rw [Int.add_zero]; exact h, Int.le_refl _, by omega⟩
    obtain ⟨s, s1, s2, s3, s4, s5⟩ := hkid
    have hE : (encL (.cons tg v k r)).length = (tagB tg).length + (lenB ((bif tagC tg then encL k else v).length : Int)).length + (bif tagC tg then encL k else v).length + (encL r).length := by
      rw [encL_cons]; simp only [List.length_append]
    rw [hE]
    generalize hB : (bif tagC tg then encL k else v) = B at *
    have ht2 := tagB_len tg
    have hl2 := lenB_len ((v.length : Int) + s)
    have hl3 := lenB_len (B.length : Int)
    unfold S_size_3 F_size_3
    have w1 : IntKind.i64.wrap ((v.length : Int) + s) = v.length + s := w64 (by omega) (by omega)
    simp only [Tl.enc, br_t, br_f, br_dec, br_not, br_and, br_or, bnd1_mk, bnd2_mk, bnd3_mk, bnd4_mk, bnd5_mk, at_zero, at_succ, at_mid, unInt_mk, unBool_mk, unStr_mk, unBytes_mk, unSl_mk, unAgg_mk, unCons_mk, unNil_mk, h1, h2, if_true, Int.toNat_natCast, s1, tagBytes_eq, w1, lengthBytes_eq]
    have w2 : IntKind.i64.wrap (((tagB tg).length : Int) + ((lenB ((v.length : Int) + s)).length : Int)) = (tagB tg).length + (lenB ((v.length : Int) + s)).length := w64 (by omega) (by omega)
    rw [w2]
    have w3 : IntKind.i64.wrap (((tagB tg).length : Int) + ((lenB ((v.length : Int) + s)).length : Int) + ((v.length : Int) + s)) = (tagB tg).length + (lenB ((v.length : Int) + s)).length + (v.length + s) := w64 (by omega) (by omega)
    rw [w3]
    have w4 : IntKind.i64.wrap (n0 + (((tagB tg).length : Int) + ((lenB ((v.length : Int) + s)).length : Int) + ((v.length : Int) + s))) = n0 + ((tagB tg).length + (lenB ((v.length : Int) + s)).length + (v.length + s)) := w64 (by omega) (by omega)
    rw [w4]
    by_cases c1 : 4096 < n0 + (((tagB tg).length : Int) + ((lenB ((v.length : Int) + s)).length : Int) + ((v.length : Int) + s))
    · rw [if_pos c1]
      refine ⟨_, rfl, fun h => ?_, fun _ => c1, by omega, by simp only [Tl.wt]; omega⟩
      exfalso
      have e1 := s2 (by omega)
      rw [e1] at c1
      omega
    · rw [if_neg c1]
      have e1 : (v.length : Int) + s = B.length := by
        by_cases hb4 : (B.length : Int) ≤ 4096
        · exact s2 hb4
        · have := s3 (by omega); omega
      rw [e1] at c1 ⊢
      obtain ⟨q, q1, q2, q3, q4, q5⟩ := size_loop f hf r (pre ++ [.agg [.int .i64 tg, .bytes v, .sl 62 k.enc]]) t (n0 + (((tagB tg).length : Int) + ((lenB (B.length : Int)).length : Int) + (B.length : Int))) (by omega) (by omega) hr (by simp; omega) (by omega) hokr (by omega) (by omega)
      rw [← mid, ← h3] at q1
      refine ⟨q, q1, fun h => by rw [q2 (by omega)]; omega, fun h => q3 (by omega), by omega, by simp only [Tl.wt]; omega⟩
theorem size_eq (N : Nat) : ∀ (M : Nat) (l : Tl) (d : Int), l.nodes < M → l.nodes < N → l.wf → L63 l → l.wt ≤ 20000 → okL d l = true →
    ∃ s, s_size N M l.enc = some s ∧ (((encL l).length : Int) ≤ 4096 → s = (encL l).length) ∧ (4096 < ((encL l).length : Int) → 4096 < s) ∧ 0 ≤ s ∧ s ≤ 5 * l.wt
  | 0, l, d, h, _, _, _, _, _ => by omega
  | M + 1, l, d, h, hN, hw, hl, hwt, hok => by
    have := l.len_le
    obtain ⟨s, s1, s2, s3, s4, s5⟩ := size_loop N l.nodes d (s_size N M) (fun k hk hkw hkl hkwt hkok => size_eq N M k (d + 1) (by omega) (by omega) hkw hkl hkwt hkok) l [] N 0 (by omega) (Nat.le_refl _) hw (by simpa using hl) hwt hok (by omega) (by omega)
    unfold s_size B_size
    refine ⟨s, s1, fun h => by rw [s2 (by omega)]; omega, fun h => s3 (by omega), by omega, by omega⟩
/-! encode, all -/
theorem concat4 (a b c e : List UInt8) (h : a.length + b.length + c.length + e.length ≤ 1000000) : s_concat N [.bytes a, .bytes b, .bytes c, .bytes e] = some (a ++ (b ++ c ++ e)) := by
  unfold s_concat
  simp only [flatB, Option.bind_some, br_dec]
  rw [if_pos (by simp; omega)]
  simp
theorem encode_loop (f : List V → Option (List UInt8)) (hf : ∀ (k : Tl), k.nodes < n → k.wf → L63 k → (encL k).length ≤ 4096 → f k.enc = some (encL k)) :
    ∀ (l : Tl) (pre : List V) (t : Nat) (acc : List UInt8), l.len < t → l.nodes ≤ n → l.wf → pre.length + l.len ≤ 9223372036854775807 → acc.length + (encL l).length ≤ 4096 →
      S_encode_3 N f (pre ++ l.enc) ((pre ++ l.enc).length : Int) t acc (pre.length : Int) (fun l0 => some l0) = some (acc ++ encL l)
  | l, pre, 0, acc, ht, _, _, _, _ => by omega
  | .nil, pre, t + 1, acc, ht, _, _, _, _ => by
    unfold S_encode_3 F_encode_3
    simp only [Tl.enc, br_t, br_f, br_dec, br_not, br_and, br_or, bnd1_mk, bnd2_mk, bnd3_mk, bnd4_mk, bnd5_mk, at_zero, at_succ, at_mid, unInt_mk, unBool_mk, unStr_mk, unBytes_mk, unSl_mk, unAgg_mk, unCons_mk, unNil_mk, endI, if_false]
    simp [encL]
  | .cons tg v k r, pre, t + 1, acc, ht, hn, hw, hl, hE => by
    simp only [Tl.len, Tl.nodes] at ht hn hl
    obtain ⟨ht1, hv, hk1, hk2, hr⟩ := hw
    obtain ⟨h1, h2, h3, h4⟩ := stepI pre (.agg [.int .i64 tg, .bytes v, .sl 62 k.enc]) r.enc (by rw [Tl.enc_len]; exact hl)
    rw [encL_cons] at hE ⊢
    have ht2 := tagB_len tg
    unfold S_encode_3 F_encode_3
    simp only [Tl.enc, br_t, br_f, br_dec, br_not, br_and, br_or, bnd1_mk, bnd2_mk, bnd3_mk, bnd4_mk, bnd5_mk, at_zero, at_succ, at_mid, unInt_mk, unBool_mk, unStr_mk, unBytes_mk, unSl_mk, unAgg_mk, unCons_mk, unNil_mk, h1, h2, if_true, Int.toNat_natCast, Constructed_eq N tg ht1, tagBytes_eq, lengthBytes_eq]
    generalize hB : (bif tagC tg then encL k else v) = B at *
    simp only [List.length_append] at hE
    have ih := encode_loop f hf r (pre ++ [.agg [.int .i64 tg, .bytes v, .sl 62 k.enc]]) t (acc ++ (tagB tg ++ lenB (B.length : Int) ++ B)) (by omega) (by omega) hr (by simp; omega) (by simp; omega)
    rw [← mid, ← h3] at ih
    cases hc : tagC tg with
    | true =>
      rw [hc] at hB
      simp only [cond_true] at hB
      subst hB
      rw [br_t, hf k (by omega) hk2 hk1 (by omega), bnd1_mk, concat4 N _ _ _ _ (by omega), bnd1_mk, ih]; simp
    | false =>
      rw [hc] at hB
      simp only [cond_false] at hB
      subst hB
      rw [br_f, concat4 N _ _ _ _ (by omega), bnd1_mk, ih]; simp
theorem encode_eq (N : Nat) : ∀ (M : Nat) (l : Tl), l.nodes < M → l.nodes < N → l.wf → L63 l → (encL l).length ≤ 4096 → s_encode N M l.enc = some (encL l)
  | 0, l, h, _, _, _, _ => by omega
  | M + 1, l, h, hN, hw, hl, hE => by
    have := l.len_le
    exact encode_loop N l.nodes (s_encode N M) (fun k hk hkw hkl hkE => encode_eq N M k (by omega) (by omega) hkw hkl hkE) l [] N [] (by omega) (Nat.le_refl _) hw (by simpa using hl) (by simpa using hE)
/-- Encode -/
def encR (l : Tl) : List UInt8 × Int := if okL 1 l = true then (if (encL l).length ≤ 4096 then (encL l, 0) else ([], 3)) else ([], 1)
theorem Encode_eq (l : Tl) (h : l.nodes < N) (hw : l.wf) (hl : L63 l) (hwt : l.wt ≤ 20000) : s_Encode N l.enc = some (encR l) := by
  unfold s_Encode encR
  rw [valid_eq N N l 1 h h hw hl (by omega), bnd1_mk, br_not]
  cases hok : okL 1 l with
  | false => rfl
  | true =>
    obtain ⟨s, s1, s2, s3, s4, s5⟩ := size_eq N N l 1 h h hw hl hwt hok
    simp only [br_t, if_true, s1, bnd1_mk, br_dec]
    by_cases hE : (encL l).length ≤ 4096
    · rw [if_pos hE, s2 (by omega), if_neg (by omega), encode_eq N N l h h hw hl hE, bnd1_mk]
    · rw [if_neg hE, if_pos (s3 (by omega))]
end
end Go.Proofs.Ytllnklkjkjmjbaa.En

/- Conditions: which are valid, how long, how deep, satisfied: the program and the reference. -/
namespace Go.Proofs.Ytllnklkjkjmjbaa.En
open Go
set_option linter.unusedVariables false
abbrev ce (o m : Int) (k : Cl) : V := .agg [.int .i64 o, .int .i64 m, .sl 46 k.enc]
abbrev K63 (k : Cl) : Prop := k.len ≤ 9223372036854775807
theorem enc_cons (o m : Int) (k r : Cl) : (Cl.cons o m k r).enc = ce o m k :: r.enc := rfl
theorem stepC (pre : List V) (x : V) (r : Cl) (h : pre.length + (r.len + 1) ≤ 9223372036854775807) :
    (pre.length : Int) < ((pre ++ x :: r.enc).length : Int) ∧ (0 : Int) ≤ pre.length ∧ IntKind.i64.wrap ((pre.length : Int) + 1) = ((pre ++ [x]).length : Int) ∧ ((pre ++ x :: r.enc).length : Int) = (((pre ++ [x]) ++ r.enc).length : Int) :=
  stepI pre x r.enc (by rw [Cl.enc_len]; exact h)
section
variable (N : Nat)
theorem andNot_eq {m : Int} (h1 : 1 ≤ m) (h2 : m ≤ 51) : decide (bitsI BinOp.andNot IntKind.i64 m 51 = 0) = decide (bitsI BinOp.and IntKind.i64 51 m = m) := by
  have key : ∀ n : Fin 52, decide (bitsI BinOp.andNot IntKind.i64 (n.val : Int) 51 = 0) = decide (bitsI BinOp.and IntKind.i64 51 (n.val : Int) = (n.val : Int)) := by decide +kernel
  obtain ⟨k, rfl⟩ := Int.eq_ofNat_of_zero_le (by omega : 0 ≤ m)
  exact key ⟨k, by omega⟩
theorem IndexFuncA_loop (f : Int → Int → List V → Int → Option Bool) (n : Nat) (d : Int) (hf : ∀ (o m : Int) (k : Cl) (d : Int), k.nodes < n → k.wf → K63 k → f o m k.enc d = some (vC o m k)) :
    ∀ (l : Cl) (pre : List V) (t : Nat), l.len < t → l.nodes ≤ n → l.wf → pre.length + l.len ≤ 9223372036854775807 →
      ∃ i, S_IndexFuncA_2 N f (pre ++ l.enc) ((pre ++ l.enc).length : Int) d t (pre.length : Int) (fun n0 => some n0) (some (-1)) = some i ∧ decide (0 ≤ i) = !vL l
  | l, pre, 0, ht, _, _, _ => by omega
  | .nil, pre, t + 1, ht, _, _, _ => by
    unfold S_IndexFuncA_2 F_IndexFuncA_2
    simp only [Cl.enc, br_t, br_f, br_dec, br_not, br_and, br_or, bnd1_mk, bnd2_mk, bnd3_mk, bnd4_mk, bnd5_mk, at_zero, at_succ, at_mid, unInt_mk, unBool_mk, unStr_mk, unBytes_mk, unSl_mk, unAgg_mk, unCons_mk, unNil_mk, endI, if_false]
    exact ⟨-1, rfl, by simp [vL]⟩
  | .cons o m k r, pre, t + 1, ht, hn, hw, hl => by
    simp only [Cl.len, Cl.nodes] at ht hn hl
    obtain ⟨_, _, hk1, hk2, hr⟩ := hw
    obtain ⟨h1, h2, h3, h4⟩ := stepC pre (ce o m k) r hl
    obtain ⟨i, ih1, ih2⟩ := IndexFuncA_loop f n d hf r (pre ++ [ce o m k]) t (by omega) (by omega) hr (by simp; omega)
    rw [← mid, ← h3] at ih1
    unfold S_IndexFuncA_2 F_IndexFuncA_2 s_avalid1 C_avalid1
    rw [vL_cons]
    simp only [enc_cons, br_t, br_f, br_dec, br_not, br_and, br_or, bnd1_mk, bnd2_mk, bnd3_mk, bnd4_mk, bnd5_mk, at_zero, at_succ, at_mid, unInt_mk, unBool_mk, unStr_mk, unBytes_mk, unSl_mk, unAgg_mk, unCons_mk, unNil_mk, h1, h2, if_true, Int.toNat_natCast, hf o m k _ (by omega) hk2 hk1]
    cases vC o m k with
    | false => exact ⟨_, rfl, by simp⟩
    | true => exact ⟨i, ih1, by rw [ih2]; rfl⟩
theorem avalid_eq : ∀ (M : Nat) (o m : Int) (k : Cl) (d : Int), k.nodes < M → k.nodes < N → k.wf → K63 k → s_avalid N M o m k.enc d = some (vC o m k)
  | 0, o, m, k, d, h, _, _, _ => by omega
  | M + 1, o, m, k, d, h, hN, hw, hl => by
    have hln := Cl.len_le k
    obtain ⟨i, i1, i2⟩ := IndexFuncA_loop N (s_avalid N M) k.nodes d (fun o m k' d' a1 a2 a3 => avalid_eq M o m k' d' (by omega) (by omega) a2 a3) k [] N (by omega) (Nat.le_refl _) hw (by simpa using hl)
    have i1' : S_IndexFuncA_2 N (s_avalid N M) k.enc (k.enc.length : Int) d N 0 (fun n0 => some n0) (some (-1)) = some i := i1
    have hz : ((k.enc.length : Int) = 0) = (k.len = 0) := by rw [Cl.enc_len]; exact propext (by omega)
    have hp : ((0 : Int) < (k.enc.length : Int)) = (k.len ≠ 0) := by rw [Cl.enc_len]; exact propext (by omega)
    have hc : s_ContainsFuncA N (s_avalid N M) k.enc d = some (!vL k) := by
      unfold s_ContainsFuncA C_ContainsFuncA s_IndexFuncA C_IndexFuncA
      rw [i1', bnd1_mk]
      exact congrArg some i2
    have hv0 : k.len = 0 → vL k = true := by cases k <;> simp [Cl.len, vL]
    unfold s_avalid B_avalid
    simp only [hc, hz, hp, s_forms, bnd1_mk, br_dec, br_not, Bool.not_not, vC, vL, Bool.and_true]
    by_cases h0 : o < 0
    · rw [if_pos h0, if_neg (by omega), if_neg (by omega), if_neg (by omega), if_neg (by omega), if_neg (by omega)]
    rw [if_neg h0]
    by_cases h9 : 7 < o
    · rw [if_pos h9, if_neg (by omega), if_neg (by omega), if_neg (by omega), if_neg (by omega), if_neg (by omega)]
    rw [if_neg h9]
    rcases (by omega : o = 0 ∨ o = 1 ∨ o = 2 ∨ o = 3 ∨ o = 4 ∨ o = 5 ∨ o = 6 ∨ o = 7) with rfl | rfl | rfl | rfl | rfl | rfl | rfl | rfl
    · by_cases hm : m = 0 <;> by_cases hk : k.len = 0 <;> simp [hm, hk, hv0]
    · by_cases hm : m = 0 <;> by_cases hk : k.len = 0 <;> simp [hm, hk, hv0]
    · by_cases ha : m < 1 <;> by_cases hb : 8 < m <;> by_cases hk : k.len = 0 <;> simp [ha, hb, hk, hv0] <;> omega
    · by_cases ha : m < 1 <;> by_cases hb : 8 < m <;> by_cases hk : k.len = 0 <;> simp [ha, hb, hk, hv0] <;> omega
    · by_cases ha : m < 1 <;> by_cases hb : 5 < m <;> by_cases hk : k.len = 0 <;> simp [ha, hb, hk, hv0] <;> omega
    · by_cases ha : m < 1
      · simp [ha]; omega
      by_cases hb : 51 < m
      · have : ¬ bitsI BinOp.and IntKind.i64 51 m = m := fun e => by have := level_range (by omega) e; omega
        simp [ha, hb, this]
      have he := andNot_eq (m := m) (by omega) (by omega)
      rw [decide_eq_decide] at he
      by_cases hk : k.len = 0
      · by_cases hx : bitsI BinOp.and IntKind.i64 51 m = m
        · simp [ha, hb, hk, hv0, hx, he.2 hx]; omega
        · simp [ha, hb, hk, hv0, hx, he]
      · simp [ha, hb, hk]
    · by_cases hm : m = 0 <;> by_cases hk : k.len = 0 <;> simp [hm, hk]
    · by_cases hm : m = 0 <;> by_cases hk : k.len = 0 <;> simp [hm, hk]
/-! Nodes, depth -/
theorem measure_loop {R : Type} (f : Int → Int → List V → Option (Int × Int)) (n : Nat) (hf : ∀ (o m : Int) (k : Cl), k.nodes < n → k.wf → K63 k → f o m k.enc = some ((k.nodes : Int) + 1, (k.dep : Int) + 1)) (x y : Int) (z : List V) (K : Int → Int → Option R) :
    ∀ (l : Cl) (pre : List V) (t : Nat) (a b : Nat), l.len < t → l.nodes ≤ n → l.wf → pre.length + l.len ≤ 9223372036854775807 → a + l.nodes ≤ 10000000000000000 →
      S_measure_3 N f (pre ++ l.enc) ((pre ++ l.enc).length : Int) x y z t (a : Int) (b : Int) (pre.length : Int) K = K ((a + l.nodes : Nat) : Int) ((max b l.dep : Nat) : Int)
  | l, pre, 0, a, b, ht, _, _, _, _ => by omega
  | .nil, pre, t + 1, a, b, ht, _, _, _, _ => by
    unfold S_measure_3 F_measure_3
    simp only [Cl.enc, br_t, br_f, br_dec, br_not, br_and, br_or, bnd1_mk, bnd2_mk, bnd3_mk, bnd4_mk, bnd5_mk, at_zero, at_succ, at_mid, unInt_mk, unBool_mk, unStr_mk, unBytes_mk, unSl_mk, unAgg_mk, unCons_mk, unNil_mk, endI, if_false]
    simp [Cl.nodes, Cl.dep]
  | .cons o m k r, pre, t + 1, a, b, ht, hn, hw, hl, ha => by
    simp only [Cl.len, Cl.nodes] at ht hn hl ha
    obtain ⟨_, _, hk1, hk2, hr⟩ := hw
    obtain ⟨h1, h2, h3, h4⟩ := stepC pre (ce o m k) r hl
    have ih := measure_loop f n hf x y z K r (pre ++ [ce o m k]) t (a + (k.nodes + 1)) (max b (k.dep + 1)) (by omega) (by omega) hr (by simp; omega) (by omega)
    rw [← mid, ← h3] at ih
    unfold S_measure_3 F_measure_3
    simp only [enc_cons, br_t, br_f, br_dec, br_not, br_and, br_or, bnd1_mk, bnd2_mk, bnd3_mk, bnd4_mk, bnd5_mk, at_zero, at_succ, at_mid, unInt_mk, unBool_mk, unStr_mk, unBytes_mk, unSl_mk, unAgg_mk, unCons_mk, unNil_mk, h1, h2, if_true, Int.toNat_natCast, hf o m k (by omega) hk2 hk1]
    have e1 : IntKind.i64.wrap ((a : Int) + ((k.nodes : Int) + 1)) = ((a + (k.nodes + 1) : Nat) : Int) := by rw [w64 (by omega) (by omega)]; omega
    have e2 : max (b : Int) ((k.dep : Int) + 1) = ((max b (k.dep + 1) : Nat) : Int) := by omega
    rw [e1, e2, ih]
    simp only [Cl.nodes, Cl.dep]
    rw [show max (max b (k.dep + 1)) r.dep = max b (max (k.dep + 1) r.dep) by omega, show a + (k.nodes + 1) + r.nodes = a + (k.nodes + r.nodes + 1) by omega]
theorem measure_eq : ∀ (M : Nat) (o m : Int) (k : Cl), k.nodes < M → k.nodes < N → k.nodes ≤ 1000000000000000 → k.wf → K63 k → s_measure N M o m k.enc = some ((k.nodes : Int) + 1, (k.dep : Int) + 1)
  | 0, o, m, k, h, _, _, _, _ => by omega
  | M + 1, o, m, k, h, hN, hs, hw, hl => by
    have hln := Cl.len_le k
    have hd := Cl.dep_le k
    have hL := measure_loop N (s_measure N M) k.nodes (fun o m k' a1 a2 a3 => measure_eq M o m k' (by omega) (by omega) (by omega) a2 a3) o m k.enc (fun n0 n1 => some (n0, IntKind.i64.wrap (n1 + 1))) k [] N 1 0 (by omega) (Nat.le_refl _) hw (by simpa using hl) (by omega)
    unfold s_measure B_measure
    refine hL.trans ?_
    rw [w64 (by omega) (by omega)]
    congr 2 <;> omega
/-- A condition that came in, small. -/
structure GoodC (N : Nat) (k : Cl) : Prop where
  wf : k.wf
  len : K63 k
  nodes : k.nodes ≤ 1000000000000000
  fuel : k.nodes < N
def chk (o m : Int) (k : Cl) : Int := if vC o m k = true then (if 16 < k.nodes + 1 ∨ 8 < k.dep + 1 then 3 else 0) else 1
theorem aCheck_eq (o m : Int) (k : Cl) (g : GoodC N k) : s_aCheck N o m k.enc = some (chk o m k) := by
  unfold s_aCheck chk
  rw [avalid_eq N N o m k 1 g.fuel g.fuel g.wf g.len, bnd1_mk, br_not]
  cases vC o m k with
  | false => rfl
  | true =>
    simp only [measure_eq N N o m k g.fuel g.fuel g.nodes g.wf g.len, br_t, bnd2_mk, br_dec, if_true]
    by_cases h1 : 16 < k.nodes + 1
    · rw [if_pos (by omega), if_pos (.inl h1)]
    · rw [if_neg (by omega)]
      by_cases h2 : 8 < k.dep + 1
      · rw [if_pos (by omega), if_pos (.inr h2)]
      · rw [if_neg (by omega), if_neg (by omega)]
theorem chk_zero {o m : Int} {k : Cl} (h : chk o m k = 0) : vC o m k = true ∧ k.nodes ≤ 15 ∧ k.dep ≤ 7 := by
  unfold chk at h
  split at h
  · rename_i hv
    split at h
    · omega
    · exact ⟨hv, by omega, by omega⟩
  · omega
/-! Satisfied -/
end
end Go.Proofs.Ytllnklkjkjmjbaa.En

/- Rules: which are small, which are valid, what they permit: the program and the reference. -/
namespace Go.Proofs.Ytllnklkjkjmjbaa.En
open Go
set_option linter.unusedVariables false
/-- A rule. -/
structure Ru where
  ops : Int
  o : Int
  m : Int
  k : Cl
  deriving DecidableEq
def Ru.enc (r : Ru) : V := .agg [.int .i64 r.ops, .int .i64 r.o, .int .i64 r.m, .sl 46 r.k.enc]
def rE : List Ru → List V
  | [] => []
  | r :: l => .agg [.int .i64 r.ops, .int .i64 r.o, .int .i64 r.m, .sl 46 r.k.enc] :: rE l
theorem rE_len : ∀ l : List Ru, (rE l).length = l.length
  | [] => rfl
  | r :: l => by simp [rE, rE_len l]
theorem stepR (pre : List V) (x : V) (r : List Ru) (h : pre.length + (r.length + 1) ≤ 9223372036854775807) :
    (pre.length : Int) < ((pre ++ x :: rE r).length : Int) ∧ (0 : Int) ≤ pre.length ∧ IntKind.i64.wrap ((pre.length : Int) + 1) = ((pre ++ [x]).length : Int) ∧ ((pre ++ x :: rE r).length : Int) = (((pre ++ [x]) ++ rE r).length : Int) :=
  stepI pre x (rE r) (by rw [rE_len]; exact h)
def chkRL : List Ru → Int
  | [] => 0
  | r :: l => if r.ops < 1 ∨ 255 < r.ops then 1 else if chk r.o r.m r.k = 0 then chkRL l else chk r.o r.m r.k
def chkR (l : List Ru) : Int := if 8 < l.length then 3 else chkRL l
section
variable (N : Nat)
/-- A rule's condition that came in. -/
structure InC (N : Nat) (k : Cl) : Prop where
  wf : k.wf
  len : K63 k
  fuel : k.nodes < N
theorem InC.good {k : Cl} (h : InC N k) (hn : k.nodes ≤ 1000000000000000) : GoodC N k := ⟨h.wf, h.len, hn, h.fuel⟩
theorem aCheckRules_loop {R : Type} (K0 : Int → Option R) (K1 : Option R) : ∀ (l : List Ru) (pre : List V) (t : Nat), l.length < t → (∀ r ∈ l, GoodC N r.k) → pre.length + l.length ≤ 9223372036854775807 →
      S_aCheckRules_4 N (pre ++ rE l) ((pre ++ rE l).length : Int) t (pre.length : Int) K0 K1 = if chkRL l = 0 then K1 else K0 (chkRL l)
  | l, pre, 0, ht, _, _ => by omega
  | [], pre, t + 1, ht, _, _ => by
    unfold S_aCheckRules_4 F_aCheckRules_4
    simp only [rE, br_t, br_f, br_dec, br_not, br_and, br_or, bnd1_mk, bnd2_mk, bnd3_mk, bnd4_mk, bnd5_mk, at_zero, at_succ, at_mid, unInt_mk, unBool_mk, unStr_mk, unBytes_mk, unSl_mk, unAgg_mk, unCons_mk, unNil_mk, endI, if_false, chkRL, if_true]
  | r :: l, pre, t + 1, ht, hg, hl => by
    simp only [List.length_cons] at ht hl
    obtain ⟨h1, h2, h3, h4⟩ := stepR pre (.agg [.int .i64 r.ops, .int .i64 r.o, .int .i64 r.m, .sl 46 r.k.enc]) l hl
    have ih := aCheckRules_loop K0 K1 l (pre ++ [.agg [.int .i64 r.ops, .int .i64 r.o, .int .i64 r.m, .sl 46 r.k.enc]]) t (by omega) (fun r hr => hg r (by simp [hr])) (by simp; omega)
    rw [← mid, ← h3] at ih
    unfold S_aCheckRules_4 F_aCheckRules_4
    simp only [rE, br_t, br_f, br_dec, br_not, br_and, br_or, bnd1_mk, bnd2_mk, bnd3_mk, bnd4_mk, bnd5_mk, at_zero, at_succ, at_mid, unInt_mk, unBool_mk, unStr_mk, unBytes_mk, unSl_mk, unAgg_mk, unCons_mk, unNil_mk, h1, h2, if_true, Int.toNat_natCast, aCheck_eq N r.o r.m r.k (hg r (by simp)), ih]
    have ec : chkRL (r :: l) = if r.ops < 1 ∨ 255 < r.ops then 1 else if chk r.o r.m r.k = 0 then chkRL l else chk r.o r.m r.k := rfl
    by_cases c1 : r.ops < 1
    · have e : chkRL (r :: l) = 1 := by rw [ec, if_pos (.inl c1)]
      rw [if_pos c1, e, if_neg (by omega)]
    rw [if_neg c1]
    by_cases c2 : 255 < r.ops
    · have e : chkRL (r :: l) = 1 := by rw [ec, if_pos (.inr c2)]
      rw [if_pos c2, e, if_neg (by omega)]
    rw [if_neg c2]
    by_cases c3 : chk r.o r.m r.k = 0
    · have e : chkRL (r :: l) = chkRL l := by rw [ec, if_neg (by omega), if_pos c3]
      rw [if_pos c3, e]
    · have e : chkRL (r :: l) = chk r.o r.m r.k := by rw [ec, if_neg (by omega), if_neg c3]
      rw [if_neg c3, e, if_neg c3]
/-- Rules that came in, few and small; or rules that were read. -/
structure GoodR (N : Nat) (l : List Ru) : Prop where
  len : l.length ≤ 1000
  fuel : 1000 < N
  good : ∀ r ∈ l, GoodC N r.k
theorem aCheckRules_eq (l : List Ru) (g : GoodR N l) : s_aCheckRules N (rE l) = some (chkR l) := by
  have h1 := g.len
  have h2 := g.fuel
  have hL : S_aCheckRules_4 N (rE l) ((rE l).length : Int) N 0 (fun n0 => some n0) (some 0) = if chkRL l = 0 then some 0 else some (chkRL l) :=
    aCheckRules_loop N (fun n0 => some n0) (some 0) l [] N (by omega) g.good (by simp; omega)
  unfold s_aCheckRules chkR
  rw [hL, rE_len, br_dec]
  by_cases c : 8 < l.length
  · rw [if_pos (by omega), if_pos c]
  · rw [if_neg (by omega), if_neg c]
    by_cases c2 : chkRL l = 0
    · rw [if_pos c2, c2]
    · rw [if_neg c2]
theorem chkRL_zero : ∀ {l : List Ru}, chkRL l = 0 → ∀ r ∈ l, 1 ≤ r.ops ∧ r.ops ≤ 255 ∧ chk r.o r.m r.k = 0
  | [], _, r, hr => by simp at hr
  | a :: l, h, r, hr => by
    unfold chkRL at h
    split at h
    · omega
    · split at h
      · rename_i c1 c2
        rcases List.mem_cons.1 hr with rfl | hr
        · exact ⟨by omega, by omega, c2⟩
        · exact chkRL_zero h r hr
      · rename_i c1 c2; exact absurd h c2
theorem chkR_zero {l : List Ru} (h : chkR l = 0) : l.length ≤ 8 ∧ ∀ r ∈ l, 1 ≤ r.ops ∧ r.ops ≤ 255 ∧ vC r.o r.m r.k = true ∧ r.k.nodes ≤ 15 ∧ r.k.dep ≤ 7 := by
  unfold chkR at h
  split at h
  · omega
  · rename_i c
    refine ⟨by omega, fun r hr => ?_⟩
    obtain ⟨h1, h2, h3⟩ := chkRL_zero h r hr
    obtain ⟨h4, h5, h6⟩ := chk_zero h3
    exact ⟨h1, h2, h4, h5, h6⟩
/-! What is permitted -/
end
end Go.Proofs.Ytllnklkjkjmjbaa.En

/- Decoding data objects: what the program and the reference compute; there and back. -/
namespace Go.Proofs.Ytllnklkjkjmjbaa.En
open Go
set_option linter.unusedVariables false
def rdTag : List UInt8 → Except Int (Int × List UInt8)
  | [] => .error 4
  | u :: r => if (u.toNat : Int) = 0 then .error 4 else if ¬ (u.toNat : Int) % 32 = 31 then .ok (u.toNat, r) else
    match r with
    | [] => .error 5
    | w :: r' => if tagV (256 * (u.toNat : Int) + w.toNat) = true then .ok (256 * (u.toNat : Int) + w.toNat, r') else .error 4
def rdLen : List UInt8 → Except Int (Int × List UInt8)
  | [] => .error 5
  | u :: r => if (u.toNat : Int) < 128 then .ok (u.toNat, r) else if (u.toNat : Int) = 129 then
      (match r with
       | [] => .error 5
       | w :: r' => if (w.toNat : Int) < 128 then .error 4 else .ok (w.toNat, r'))
    else if (u.toNat : Int) = 130 then
      (match r with
       | w :: x :: r' => if 256 * (w.toNat : Int) + x.toNat < 256 then .error 4 else .ok (256 * (w.toNat : Int) + x.toNat, r')
       | _ => .error 5)
    else .error 4
end Go.Proofs.Ytllnklkjkjmjbaa.En

/- Decoding lists of data objects. -/
namespace Go.Proofs.Ytllnklkjkjmjbaa.En
open Go
set_option linter.unusedVariables false
def dec : Nat → Int → List UInt8 → Except Int Tl
  | 0, _, _ => .error 4
  | n + 1, d, b =>
    if b.length = 0 then .ok .nil else if 8 < d then .error 4 else
    match rdTag b with
    | .error e => .error e
    | .ok (t, r) => match rdLen r with
      | .error e => .error e
      | .ok (m, r') =>
        if (r'.length : Int) < m then .error 5
        else if tagC t = true then
          (match dec n (d + 1) (r'.take m.toNat) with
           | .error e => .error e
           | .ok k => match dec n d (r'.drop m.toNat) with
             | .error e => .error e
             | .ok l => .ok (.cons t [] k l))
        else
          (match dec n d (r'.drop m.toNat) with
           | .error e => .error e
           | .ok l => .ok (.cons t (r'.take m.toNat) .nil l))
theorem rdTag_put {t : Int} (h : tagV t = true) (x : List UInt8) : rdTag (tagB t ++ x) = .ok (t, x) := by
  have h' := h
  simp [tagV] at h'
  unfold tagB
  by_cases c : 255 < t
  · rw [if_pos c]
    show rdTag (byteI (t / 256) :: byteI t :: x) = _
    unfold rdTag
    simp only [byteI_toNat]
    rw [if_neg (by omega), if_neg (by omega)]
    have e : 256 * (t / 256 % 256) + t % 256 = t := by omega
    rw [e, if_pos h]
  · rw [if_neg c]
    show rdTag (byteI t :: x) = _
    unfold rdTag
    simp only [byteI_toNat]
    rw [if_neg (by omega), if_pos (by omega)]
    congr 2; omega
theorem rdLen_put {m : Int} (h0 : 0 ≤ m) (h1 : m ≤ 65535) (x : List UInt8) : rdLen (lenB m ++ x) = .ok (m, x) := by
  unfold lenB
  by_cases c : m < 128
  · rw [if_pos c]
    show rdLen (byteI m :: x) = _
    unfold rdLen
    simp only [byteI_toNat]
    rw [if_pos (by omega)]; congr 2; omega
  · rw [if_neg c]
    by_cases c2 : m < 256
    · rw [if_pos c2]
      show rdLen (129 :: byteI m :: x) = _
      unfold rdLen
      simp only [byteI_toNat]
      rw [if_neg (by decide), if_pos (by decide), if_neg (by omega)]; congr 2; omega
    · rw [if_neg c2]
      show rdLen (130 :: byteI (m / 256) :: byteI m :: x) = _
      unfold rdLen
      simp only [byteI_toNat]
      rw [if_neg (by decide), if_neg (by decide), if_pos (by decide), if_neg (by omega)]; congr 2; omega
/-- What is encoded is decoded. -/
theorem dec_enc : ∀ (l : Tl) (n : Nat) (d : Int), okL d l = true → (encL l).length ≤ 65535 → (encL l).length < n → dec n d (encL l) = .ok l
  | .nil, 0, d, _, _, h => by simp at h
  | .nil, n + 1, d, _, _, _ => by unfold dec; rw [if_pos (by rfl)]
  | .cons t v k r, 0, d, _, _, h => by simp at h
  | .cons t v k r, n + 1, d, hok, hE, hn => by
    unfold okL at hok
    simp only [Bool.and_eq_true, decide_eq_true_eq] at hok
    obtain ⟨⟨hd8, htv, hb⟩, hokr⟩ := hok
    have ht := tagB_len t
    have hl := lenB_len ((bif tagC t then encL k else v).length : Int)
    unfold dec
    rw [encL_cons] at hE hn ⊢
    generalize hB : (bif tagC t then encL k else v) = B at *
    simp only [List.length_append] at hE hn
    rw [if_neg (by simp only [List.length_append]; omega), if_neg (by omega)]
    rw [List.append_assoc, List.append_assoc, rdTag_put htv]
    simp only
    rw [rdLen_put (by omega) (by omega)]
    simp only
    rw [if_neg (by simp only [List.length_append]; omega)]
    rw [Int.toNat_natCast, List.take_left, List.drop_left]
    rw [dec_enc r n d hokr (by omega) (by omega)]
    cases hc : tagC t with
    | true =>
      rw [hc] at hB hb
      simp only [cond_true, Bool.and_eq_true] at hB hb
      subst hB
      rw [if_pos rfl, dec_enc k n (d + 1) hb.2 (by omega) (by omega)]
      have hv0 : v = [] := by cases v with | nil => rfl | cons a b => simp at hb
      rw [hv0]
    | false =>
      rw [hc] at hB hb
      simp only [cond_false] at hB hb
      subst hB
      have hk0 : k = .nil := by cases k with | nil => rfl | cons a b c d => simp [Tl.isNil] at hb
      rw [if_neg (by simp), hk0]
end Go.Proofs.Ytllnklkjkjmjbaa.En

/- Decode, of the program and of the reference. -/
namespace Go.Proofs.Ytllnklkjkjmjbaa.En
open Go
set_option linter.unusedVariables false
end Go.Proofs.Ytllnklkjkjmjbaa.En

/- Encoding rules: the program and the reference. -/
namespace Go.Proofs.Ytllnklkjkjmjbaa.En
open Go
set_option linter.unusedVariables false
theorem bI (n : Int) : UInt8.ofNat (IntKind.u8.wrap n).toNat = byteI n := by rw [wu8]; rfl
theorem nilApp {α : Type} (l : List α) : List.append [] l = l := id rfl
section
variable (N : Nat)
theorem aencode_loop {R : Type} (f : Int → Int → List V → Option (List UInt8)) (n : Nat) (hf : ∀ (o m : Int) (k : Cl), vC o m k = true → k.nodes < n → k.wf → K63 k → f o m k.enc = some (eC o m k)) (K : List UInt8 → Option R) (a4 a5 : Int) (a6 : List V) (a7 : List UInt8) (b8 b9 : Bool) (a10 a11 : Int) :
    ∀ (l : Cl) (pre : List V) (t : Nat) (acc : List UInt8), vL l = true → l.len < t → l.nodes ≤ n → l.wf → pre.length + l.len ≤ 9223372036854775807 → acc.length + 2 * l.nodes ≤ 1000000 →
      S_aencode_8 N f (pre ++ l.enc) ((pre ++ l.enc).length : Int) a4 a5 a6 a7 b8 b9 a10 a11 t acc (pre.length : Int) K = K (acc ++ eL l)
  | l, pre, 0, acc, _, ht, _, _, _, _ => by omega
  | .nil, pre, t + 1, acc, _, ht, _, _, _, _ => by
    unfold S_aencode_8 F_aencode_8
    simp only [Cl.enc, br_t, br_f, br_dec, br_not, br_and, br_or, bnd1_mk, bnd2_mk, bnd3_mk, bnd4_mk, bnd5_mk, at_zero, at_succ, at_mid, unInt_mk, unBool_mk, unStr_mk, unBytes_mk, unSl_mk, unAgg_mk, unCons_mk, unNil_mk, endI, if_false, eL]
    rw [List.append_nil]
  | .cons o m k r, pre, t + 1, acc, hv, ht, hn, hw, hl, hb => by
    simp only [Cl.len, Cl.nodes] at ht hn hl hb
    rw [vL_cons, Bool.and_eq_true] at hv
    obtain ⟨_, _, hk1, hk2, hr⟩ := hw
    obtain ⟨h1, h2, h3, h4⟩ := stepC pre (ce o m k) r hl
    have hlen : (eC o m k).length ≤ 2 * k.nodes + 2 := by
      have := eL_len (.cons o m k .nil)
      rw [eL_cons] at this
      simp only [eL, List.append_nil, Cl.nodes] at this
      omega
    have ih := aencode_loop f n hf K a4 a5 a6 a7 b8 b9 a10 a11 r (pre ++ [ce o m k]) t (acc ++ eC o m k) hv.2 (by omega) (by omega) hr (by simp; omega) (by rw [List.length_append]; omega)
    rw [← mid, ← h3] at ih
    have hc : (acc.length + (eC o m k).length) * 1 ≤ 140737488355328 := by omega
    unfold S_aencode_8 F_aencode_8
    simp only [enc_cons, br_t, br_f, br_dec, br_not, br_and, br_or, bnd1_mk, bnd2_mk, bnd3_mk, bnd4_mk, bnd5_mk, at_zero, at_succ, at_mid, unInt_mk, unBool_mk, unStr_mk, unBytes_mk, unSl_mk, unAgg_mk, unCons_mk, unNil_mk, h1, h2, if_true, Int.toNat_natCast, hf o m k hv.1 (by omega) hk2 hk1, hc]
    rw [ih, eL_cons, List.append_assoc]
theorem aencode_eq : ∀ (M : Nat) (o m : Int) (k : Cl), vC o m k = true → k.nodes < M → k.nodes < N → k.nodes ≤ 1000 → k.wf → K63 k → s_aencode N M o m k.enc = some (eC o m k)
  | 0, o, m, k, _, h, _, _, _, _ => by omega
  | M + 1, o, m, k, hv, h, hN, hs, hw, hl => by
    have hln := Cl.len_le k
    have hf := fun (o m : Int) (k' : Cl) (a0 : vC o m k' = true) (a1 : k'.nodes < k.nodes) (a2 : k'.wf) (a3 : K63 k') => aencode_eq M o m k' a0 (by omega) (by omega) (by omega) a2 a3
    have hL := fun (a7 : List UInt8) (b8 b9 : Bool) (a10 a11 : Int) (acc : List UInt8) (ha : acc.length ≤ 2) (hvk : vL k = true) => aencode_loop N (s_aencode N M) k.nodes hf (fun l1 => some l1) o m k.enc a7 b8 b9 a10 a11 k [] N acc hvk (by omega) (Nat.le_refl _) hw (by simpa using hl) (by omega)
    have hL' : ∀ (a7 : List UInt8) (b8 b9 : Bool) (a10 a11 : Int) (acc : List UInt8), acc.length ≤ 2 → vL k = true → S_aencode_8 N (s_aencode N M) k.enc (k.enc.length : Int) o m k.enc a7 b8 b9 a10 a11 N acc 0 (fun l1 => some l1) = some (acc ++ eL k) := hL
    unfold s_aencode B_aencode eC
    simp only [s_forms, bnd1_mk, br_dec, bI, Cl.enc_len] at hL' ⊢
    rcases vC_leaf hv with ⟨rfl, _, rfl⟩ | ⟨rfl, _, rfl⟩ | ⟨rfl, b1, b2, rfl⟩ | ⟨rfl, b1, b2, rfl⟩ | ⟨rfl, _, _, rfl⟩ | ⟨rfl, b1, b2, rfl⟩ | ⟨rfl | rfl, h1, h2, h3⟩
    · rw [if_pos rfl, hL' _ _ _ _ _ _ (by simp) rfl]; rfl
    · rw [if_neg (by omega), if_pos rfl, hL' _ _ _ _ _ _ (by simp) rfl]; rfl
    · rw [if_neg (by omega), if_neg (by omega), if_pos rfl, hL' _ _ _ _ _ _ (by simp) rfl, if_neg (by omega), if_pos (by omega)]; rfl
    · rw [if_neg (by omega), if_neg (by omega), if_neg (by omega), if_pos rfl, hL' _ _ _ _ _ _ (by simp) rfl, if_neg (by omega), if_pos (by omega)]; rfl
    · rw [if_neg (by omega), if_neg (by omega), if_neg (by omega), if_neg (by omega), if_pos rfl, hL' _ _ _ _ _ _ (by simp) rfl, if_neg (by omega), if_pos (by omega)]; rfl
    · rw [if_neg (by omega), if_neg (by omega), if_neg (by omega), if_neg (by omega), if_neg (by omega), if_pos rfl, hL' _ _ _ _ _ _ (by simp) rfl, if_neg (by omega), if_pos (by omega)]; rfl
    · rw [if_neg (by omega), if_neg (by omega), if_neg (by omega), if_neg (by omega), if_neg (by omega), if_neg (by omega), if_pos rfl, hL' _ _ _ _ _ _ (by simp) h3, if_pos (by omega)]; rfl
    · rw [if_neg (by omega), if_neg (by omega), if_neg (by omega), if_neg (by omega), if_neg (by omega), if_neg (by omega), if_neg (by omega), if_pos rfl, hL' _ _ _ _ _ _ (by simp) h3, if_pos (by omega)]; rfl
/-- Rules as data objects. -/
def rT : List Ru → Tl
  | [] => .nil
  | r :: l => .cons 128 (byteI r.ops :: eC r.o r.m r.k) .nil (rT l)
theorem rT_ok : ∀ l : List Ru, okL 1 (rT l) = true
  | [] => rfl
  | r :: l => by
    have e1 : tagV 128 = true := by decide
    have e2 : tagC 128 = false := by decide
    unfold rT okL
    rw [e1, e2, rT_ok l]; rfl
theorem rT_len : ∀ l : List Ru, (rT l).len = l.length
  | [] => rfl
  | r :: l => by simp [rT, Tl.len, rT_len l]
theorem rT_wt : ∀ l : List Ru, (∀ r ∈ l, r.k.nodes ≤ 15) → (rT l).wt ≤ 40 * l.length ∧ (encL (rT l)).length ≤ 40 * l.length ∧ (rT l).nodes ≤ l.length ∧ (rT l).wf
  | [], _ => ⟨Nat.le_refl _, Nat.le_refl _, Nat.le_refl _, trivial⟩
  | r :: l, h => by
    obtain ⟨h1, h2, h3, h4⟩ := rT_wt l fun r hr => h r (by simp [hr])
    have hr := h r (by simp)
    have hlen : (eC r.o r.m r.k).length ≤ 2 * r.k.nodes + 2 := by
      have := eL_len (.cons r.o r.m r.k .nil)
      rw [eL_cons] at this
      simp only [eL, List.append_nil, Cl.nodes] at this
      omega
    have e2 : tagC 128 = false := by decide
    have ht := tagB_len 128
    have hlb := lenB_len (((byteI r.ops :: eC r.o r.m r.k).length : Nat) : Int)
    refine ⟨?_, ?_, ?_, ?_⟩
    · unfold rT; simp only [Tl.wt, List.length_cons]; omega
    · unfold rT; rw [encL_cons, e2]; simp only [cond_false, List.length_append, List.length_cons] at hlb ⊢; omega
    · unfold rT; simp only [Tl.nodes, List.length_cons]; omega
    · unfold rT; exact ⟨⟨by omega, by omega⟩, by simp only [List.length_cons]; omega, by simp [Tl.len], trivial, h4⟩
theorem rT_cons (a : Tl) (r : Ru) (l : List Ru) : (a.append (.cons 128 (byteI r.ops :: eC r.o r.m r.k) .nil .nil)).append (rT l) = a.append (rT (r :: l)) := by
  induction a with
  | nil => rfl
  | cons t v k r' _ ih => simp only [Tl.append]; rw [ih]
theorem aEncode_loop {R : Type} (K : List V → Option R) : ∀ (l : List Ru) (pre : List V) (t : Nat) (acc : Tl), l.length < t → (∀ r ∈ l, GoodC N r.k ∧ vC r.o r.m r.k = true ∧ r.k.nodes ≤ 15) → pre.length + l.length ≤ 9223372036854775807 → acc.len + l.length ≤ 1000 →
      S_aEncode_6 N (pre ++ rE l) ((pre ++ rE l).length : Int) t acc.enc (pre.length : Int) K = K (acc.append (rT l)).enc
  | l, pre, 0, acc, ht, _, _, _ => by omega
  | [], pre, t + 1, acc, ht, _, _, _ => by
    unfold S_aEncode_6 F_aEncode_6
    simp only [rE, br_t, br_f, br_dec, br_not, br_and, br_or, bnd1_mk, bnd2_mk, bnd3_mk, bnd4_mk, bnd5_mk, at_zero, at_succ, at_mid, unInt_mk, unBool_mk, unStr_mk, unBytes_mk, unSl_mk, unAgg_mk, unCons_mk, unNil_mk, endI, if_false, rT, Tl.append_nil]
  | r :: l, pre, t + 1, acc, ht, hg, hl, hb => by
    simp only [List.length_cons] at ht hl hb
    obtain ⟨h1, h2, h3, h4⟩ := stepR pre (.agg [.int .i64 r.ops, .int .i64 r.o, .int .i64 r.m, .sl 46 r.k.enc]) l hl
    obtain ⟨g, gv, gn⟩ := hg r (by simp)
    have hlen : (eC r.o r.m r.k).length ≤ 2 * r.k.nodes + 2 := by
      have := eL_len (.cons r.o r.m r.k .nil)
      rw [eL_cons] at this
      simp only [eL, List.append_nil, Cl.nodes] at this
      omega
    have ih := aEncode_loop K l (pre ++ [.agg [.int .i64 r.ops, .int .i64 r.o, .int .i64 r.m, .sl 46 r.k.enc]]) t (acc.append (.cons 128 (byteI r.ops :: eC r.o r.m r.k) .nil .nil)) (by omega) (fun r hr => hg r (by simp [hr])) (by simp; omega) (by rw [Tl.len_append]; simp only [Tl.len]; omega)
    rw [← mid, ← h3, rT_cons, Tl.enc_append] at ih
    have c1 : ([byteI r.ops].length + (eC r.o r.m r.k).length) * 1 ≤ 140737488355328 := by simp; omega
    have c2 : (acc.enc.length + [V.agg [V.int IntKind.i64 128, V.bytes (byteI r.ops :: eC r.o r.m r.k), V.sl 62 []]].length) * 56 ≤ 140737488355328 := by rw [Tl.enc_len]; simp; omega
    unfold S_aEncode_6 F_aEncode_6
    simp only [rE, br_t, br_f, br_dec, br_not, br_and, br_or, bnd1_mk, bnd2_mk, bnd3_mk, bnd4_mk, bnd5_mk, at_zero, at_succ, at_mid, unInt_mk, unBool_mk, unStr_mk, unBytes_mk, unSl_mk, unAgg_mk, unCons_mk, unNil_mk, h1, h2, if_true, Int.toNat_natCast, aencode_eq N N r.o r.m r.k gv g.fuel g.fuel (by omega) g.wf g.len, bI, nilApp, c1, c2]
    exact ih
/-- What Encode returns. -/
def encRu (l : List Ru) : List UInt8 × Int := if chkR l = 0 then (encL (rT l), 0) else ([], chkR l)
theorem encR_rT {l : List Ru} (h : chkR l = 0) : encR (rT l) = (encL (rT l), 0) := by
  obtain ⟨h8, hv⟩ := chkR_zero h
  obtain ⟨_, h2, _, _⟩ := rT_wt l fun r hr => by have := (hv r hr).2.2.2.1; omega
  unfold encR
  rw [if_pos (rT_ok l), if_pos (by omega)]
theorem aEncode_eq (l : List Ru) (g : GoodR N l) : s_aEncode N (rE l) = some (encRu l) := by
  have g1 := g.len
  have g2 := g.fuel
  unfold s_aEncode encRu
  rw [aCheckRules_eq N l g, bnd1_mk, br_not, br_dec]
  by_cases c : chkR l = 0
  · obtain ⟨h8, hv⟩ := chkR_zero c
    obtain ⟨h1, h2, h3, h4⟩ := rT_wt l fun r hr => by have := (hv r hr).2.2.2.1; omega
    have hl1 := rT_len l
    have hL : ∀ (K : List V → Option (List UInt8 × Int)), S_aEncode_6 N (rE l) ((rE l).length : Int) N [] 0 K = K (Tl.append .nil (rT l)).enc := fun K =>
      aEncode_loop N K l [] N .nil (by omega) (fun r hr => ⟨g.good r hr, (hv r hr).2.2.1, (hv r hr).2.2.2.1⟩) (by simp; omega) (by simp [Tl.len]; omega)
    rw [if_pos c, if_pos c, hL]
    show bnd2 (s_Encode N (rT l).enc) _ = _
    rw [Encode_eq N (rT l) (by omega) h4 (by show (rT l).len ≤ _; omega) (by omega), encR_rT c]; rfl
  · rw [if_neg c, if_neg c]
end
end Go.Proofs.Ytllnklkjkjmjbaa.En

/- Decoding rules: the program and the reference. -/
namespace Go.Proofs.Ytllnklkjkjmjbaa.En
open Go
set_option linter.unusedVariables false
section
variable (N : Nat)
/-! Rules -/
def rdRu (lim : Int) (e : Nat) : Tl → Option (List Ru)
  | .nil => some []
  | .cons t v k r => if t = 128 then (match v with
      | [] => none
      | op :: v => match rd lim e v with
        | none => none
        | some ((o, m, k'), rest) => if rest.length = 0 then (match rdRu lim e r with | none => none | some l => some (⟨(op.toNat : Int), o, m, k'⟩ :: l)) else none) else none
/-- What valid rules are encoded to is read. -/
theorem rdRu_put : ∀ (l : List Ru), (∀ r ∈ l, 1 ≤ r.ops ∧ r.ops ≤ 255 ∧ vC r.o r.m r.k = true ∧ r.k.nodes ≤ 15 ∧ r.k.dep ≤ 7) → rdRu 7 8 (rT l) = some l
  | [], _ => rfl
  | r :: l, h => by
    obtain ⟨h1, h2, h3, h4, h5⟩ := h r (by simp)
    have ih := rdRu_put l fun r hr => h r (by simp [hr])
    have hp := rd_putC (d := 7) [] h3 (by omega) h5
    rw [List.append_nil] at hp
    have hb : ((byteI r.ops).toNat : Int) = r.ops := by rw [byteI_toNat]; omega
    unfold rT rdRu
    rw [if_pos rfl]
    simp only [hp, ih, List.length_nil, if_true, hb]
/-! Decode -/
def decT (b : List UInt8) : Except Int Tl := if 4096 < b.length then .error 3 else dec (b.length + 1) 1 b
theorem decT_put {l : Tl} (h : okL 1 l = true) (hl : (encL l).length ≤ 4096) : decT (encL l) = .ok l := by
  unfold decT
  rw [if_neg (by omega), dec_enc l _ 1 h (by omega) (Nat.lt_succ_self _)]
def decRu (b : List UInt8) : List Ru × Int :=
  match decT b with
  | .error e => ([], e)
  | .ok l => match rdRu 7 8 l with
    | none => ([], 4)
    | some rs => if chkR rs = 0 then (rs, 0) else ([], 4)
theorem decRu_put {l : List Ru} (h : chkR l = 0) : decRu (encL (rT l)) = (l, 0) := by
  obtain ⟨h8, hv⟩ := chkR_zero h
  obtain ⟨_, h2, _, _⟩ := rT_wt l fun r hr => (hv r hr).2.2.2.1
  unfold decRu
  rw [decT_put (rT_ok l) (by omega)]
  simp only [rdRu_put l hv, h, if_true]
end
end Go.Proofs.Ytllnklkjkjmjbaa.En
