/- Several texts in one. -/
import Derived.Test.YtllnklkjkjmjbaaG2
import Derived.Deep.LoopGhost
import Derived.Deep.DeepMust
import Derived.Lib.AppendZeros
import Derived.Lib.SliceRun

set_option linter.unusedSimpArgs false
set_option linter.unusedVariables false
set_option linter.unusedSectionVars false
/- slices.Clone and slices.Concat of bytes: the walks; as entries of the engine. -/
namespace Go.Proofs.Ytllnklkjkjmjbaa.En
open Go Go.RowKit
set_option linter.unusedVariables false
theorem info8 : (Try.prog.info? 5).map (fun i => (i.zero, i.size, i.bytes)) = some (some (.int .u8 0), 1, 1) := by kernel_rfl
section
variable {T : TypeId → Option Ty} {E : Env} {g : G} {w w' : World} {A : Option Addr} {n c B : Nat} {xs : List UInt8}
theorem own_lit {w : World} {B : Nat} {e : TypeId} (vs : List Value) (hB : B ≤ w.heap.size) (hm : vs.length ≤ 1000) : Own (w.alloc (.cells vs.toArray e)) B e (some ⟨w.heap.size, 0, none⟩) vs.length vs.length vs := by
  have h := World.ownsRow_lit (base := B) (e := e) (size := 1) w vs.toArray vs.length hB (by unfold maxLen; omega) (by simp)
  simpa using h
/-- Bytes, as the walks have them. -/
theorem isB_of_rep {u : Value} (h : RepV g w (.bytes xs) u) : ∃ A n c, u = .slice A n c ∧ IsB w A n c xs := by
  cases h with
  | bytes xs A n c hn hc hm h =>
    refine ⟨A, n, c, rfl, ⟨by simp [hn], hc, hm, fun k v hv => ?_⟩⟩
    rw [List.getElem?_map, Option.map_eq_some_iff] at hv
    obtain ⟨x, hx, rfl⟩ := hv
    obtain ⟨b, off, e, _, h2⟩ := h k x hx
    exact ⟨b, off, e, h2⟩
/-- What a call leaves that makes one row of bytes. -/
theorem pure_of_own (hb : Below w.heap.size w w') {A : Option Addr} {n c : Nat} (ho : Own w' w.heap.size 5 A n c (xs.map u8)) :
    ∃ us' g', Ending.returned (.slice A n c) = .returned (retV us') ∧ (∀ E' : Env, RepDs E' g' w' [] [.v (.bytes xs) .no] us') ∧ PureTr g w g' w' := by
  refine ⟨[.slice A n c], { g with Γ := fun b => if b < w.heap.size then g.Γ b else .imm }, rfl, fun E' => ⟨rfl, fun k y hk => ?_⟩, ⟨⟨hb.os, hb.tape, hb.output, hb.size, hb.block⟩, fun b hlt => if_pos hlt, fun b hge => by
    show Perm.still (if b < w.heap.size then g.Γ b else .imm) = true
    rw [if_neg (by omega)]; rfl, rfl, rfl⟩⟩
  rcases k with _ | k
  · simp at hk
    subst hk
    have hr := ho.rd
    refine .v _ _ _ (.bytes xs A n c (by simpa using hr.len) hr.cap hr.max fun k x hx => ?_) trivial
    obtain ⟨b, off, e, h2⟩ := hr.at_ k (u8 x) (by simp [hx])
    refine ⟨b, off, e, ?_, h2⟩
    have hge : w.heap.size ≤ b := ho.block b (by subst e; rfl)
    unfold Stable
    show (match (if b < w.heap.size then g.Γ b else .imm) with | .imm => True | .low n => off + k < n | .own _ n => off + k < n | .box _ _ => False)
    rw [if_neg (by omega)]; trivial
  · simp at hk
end
set_option maxHeartbeats 400000 in
theorem clone_any (A : Option Addr) (n c : Nat) (xs : List UInt8) (w : World) (h : IsB w A n c xs) (hn : xs.length ≤ 1000000) :
    Calls Try.prog 61 #[.slice A n c] w fun e w' => ∃ A' n' c', e = .returned (.slice A' n' c') ∧ Own w' w.heap.size 5 A' n' c' (xs.map u8) ∧ Below w.heap.size w w' := by
  obtain ⟨i0, hi0, hz0, hz1, hz2⟩ := info_parts info8
  have hl := IsB.len h
  have H := Lib.hid h
  have HI := Lib.hid (And.intro hi0 (And.intro hz0 (And.intro hz1 hz2)))
  have HL := Lib.hid hl
  clear h hi0 hz0 hz1 hz2 hl
  have qT : ∀ (w : World) (a : Option Addr) (n c n' c' : Nat), (binOp .eql 22 (.slice a n c) (.slice none n' c')).run Try.prog w = .ok (.bool a.isNone) w := fun w a n c n' c' => Lib.run_eql_slice_nil w _ _ a n c n' c' Try.underlying22
  cases A with
  | none =>
    have h0 : xs = [] := by
      have hr := H.out
      rcases xs with _ | ⟨x, xs⟩
      · rfl
      · obtain ⟨b, off, hA, _⟩ := Rd.at_ hr 0 (u8 x) rfl
        cases hA
    subst h0
    go_enter Try.func61, Try.ntmps61
    go_wp2_with fail
    go_ret
    exact ⟨none, 0, 0, rfl, Own.nil _ _, Below.refl _ _⟩
  | some a =>
    go_enter Try.func61, Try.ntmps61
    have hown := own_lit (w := w) (B := w.heap.size) (e := 5) [] (Nat.le_refl _) (by simp)
    have HO := Lib.hid hown
    clear hown
    have hn' : n ≤ 1000000 := by have := HL.out; omega
    go_wp2_with (at_builtin; refine wpList_append_rd _ rfl (.tmp 5) (.tmp 6) 22 rfl w.heap.size 5 i0 _ 1 Try.underlying22 HI.out.1 HI.out.2.1 HI.out.2.2.1 HI.out.2.2.2 rfl (some ⟨w.heap.size, 0, none⟩) 0 0 [] rfl HO.out (some a) n c _ rfl (H.out.alloc _) (u8_one _) ?_ (by omega) (by simp) ?_)
    case _ => omega
    intro A3 c3 w3 hown3 hg3 _
    have hb3 : Below w.heap.size w w3 := ((Below.refl _ _).alloc (Nat.le_refl _) _).grown hg3 (by simp) (by simp [Value.ownBlock])
    go_wp2
    go_ret
    exact ⟨A3, 0 + n, c3, by simp, by simpa using hown3, hb3⟩
noncomputable def s_clone (N : Nat) (l : List UInt8) : Option (List UInt8) := br (decide (l.length ≤ 1000000)) (some l) none
theorem p_clone (N : Nat) (x0 r0 : List UInt8) (h : s_clone N x0 = some r0) : PureRet Try.prog T 61 [.v (.bytes x0) .no] [.v (.bytes r0) .no] := by
  have hn : x0.length ≤ 1000000 ∧ r0 = x0 := by
    unfold s_clone br at h
    by_cases hx : x0.length ≤ 1000000
    · simp [hx] at h; exact ⟨hx, h.symm⟩
    · simp [hx] at h
  obtain ⟨hn, rfl⟩ := hn
  intro E g w us hsz hus
  obtain ⟨hl, hr⟩ := hus
  match us, hl with
  | [u], _ =>
  have hu := hr 0 _ rfl
  simp only [List.getD_cons_zero] at hu
  cases hu with
  | v x a v hv ha =>
  obtain ⟨A, n, c, rfl, hB⟩ := isB_of_rep hv
  refine (clone_any A n c r0 w hB hn).mono ?_
  rintro e w' ⟨A', n', c', rfl, ho, hb⟩
  exact pure_of_own hb ho
set_option maxHeartbeats 1000000 in
set_option maxRecDepth 100000 in
theorem grow_nil (k : Nat) (w : World) (hk : k ≤ 1000000) :
    Calls Try.prog 111 #[.slice none 0 0, .int .i64 k] w fun e w' => ∃ A n c, e = .returned (.slice A 0 c) ∧ n = 0 ∧ Own w' w.heap.size 5 A n c [] ∧ Below w.heap.size w w' := by
  obtain ⟨i0, hi0, hz0, hz1, hz2⟩ := info_parts info8
  have mixed : Try.prog.follows .mixedOrders = true := by kernel_rfl
  by_cases h0 : k = 0
  · subst h0
    clear hi0 hz0 hz1 hz2
    go_enter Try.func111, Try.ntmps111
    go_wp2
    go_ret
    exact ⟨none, 0, 0, rfl, rfl, Own.nil _ _, Below.refl _ _⟩
  · have hrz : ∀ ty, (Builtin.append_ #[22, 3] ty #[.slice none 0 0, .int .i64 (k : Int)]).run Try.prog w = _ := fun ty =>
      Lib.run_append_nil_zeros w 22 3 ty 5 i0 _ .i64 .i64 Try.underlying22 Try.underlying3 hi0 hz0 k (by omega) (by omega) (by omega) (by rw [hz2]; omega)
    have hG1 : k ≤ grownCap w k 0 5 := grownCap_ge w _ _ _
    have hG2 := grownCap_le_maxLen w k 0 5 (by unfold maxLen; omega)
    generalize grownCap w k 0 5 = G at hrz hG1 hG2
    have hG63 : G ≤ 9223372036854775807 := by unfold maxLen at hG2; omega
    have h1 : ¬ ((k : Int) < 0) := by omega
    have h4 : (k : Int) > 0 := by omega
    have h5 : k ≤ 9223372036854775807 := by omega
    have HI := Lib.hid (And.intro hi0 (And.intro hz0 (And.intro hz1 hz2)))
    have HK := Lib.hid (And.intro hk (And.intro h0 hG2))
    clear hi0 hz0 hz1 hz2 hk h0 hG2
    go_enter Try.func111, Try.ntmps111
    go_wp2_with (at_builtin; refine Lib.wpList_append_run _ rfl _ _ _ _ rfl _ _ rfl rfl _ _ (hrz _) ?_)
    all_goals (go_ret)
    all_goals (
      refine ⟨some ⟨w.heap.size, 0, none⟩, 0, G, rfl, rfl, ⟨rfl, .inr ⟨w.heap.size, G, _, rfl, Nat.le_refl _, heap_alloc_new w _, by omega, HK.out.2.2, ?_, by simp⟩⟩, ((Below.refl _ _).alloc (Nat.le_refl _) _).drew⟩
      simp [Array.size_append, size_zeroCells]
      omega)
theorem flatten_take_le (ls : List (List UInt8)) (k : Nat) : (ls.take k).flatten.length ≤ ls.flatten.length := by
  conv => rhs; rw [← List.take_append_drop k ls]
  rw [List.flatten_append, List.length_append]
  omega
theorem flatten_take_succ (ls : List (List UInt8)) (k : Nat) (h : k < ls.length) : (ls.take (k + 1)).flatten = (ls.take k).flatten ++ ls[k] := by
  rw [List.take_succ_eq_append_getElem h, List.flatten_append]; simp
set_option maxHeartbeats 1000000 in
set_option maxRecDepth 100000 in
theorem concat_any (A : Option Addr) (n c : Nat) (ls : List (List UInt8)) (w : World) (h : IsBB w A n c ls) (hn : ls.flatten.length ≤ 1000000) :
    Calls Try.prog 94 #[.slice A n c] w fun e w' => ∃ A' n' c', e = .returned (.slice A' n' c') ∧ Own w' w.heap.size 5 A' n' c' (ls.flatten.map u8) ∧ Below w.heap.size w w' := by
  obtain ⟨i0, hi0, hz0, hz1, hz2⟩ := info_parts info8
  have hcap : n ≤ 9223372036854775807 := by have h1 := h.cap; have h2 := h.max; unfold maxLen at h2; omega
  have H := Lib.hid h
  have HI := Lib.hid (And.intro hi0 (And.intro hz0 (And.intro hz1 hz2)))
  clear h hi0 hz0 hz1 hz2
  go_enter Try.func94, Try.ntmps94
  go_wp2
  go_loopg [3, 11] n (fun g v i wr => ∃ k : Nat, k ≤ n ∧ g = n - k ∧ i = .int .i64 (k : Int) ∧ v = .int .i64 (((ls.take k).flatten.length : Nat) : Int) ∧ wr = w)
  case atStart => exact ⟨0, by omega, rfl, rfl, by simp, rfl⟩
  case round =>
    obtain ⟨k, hk, hg, rfl, rfl, hww⟩ := hrel
    obtain rfl : w = wr := hww.symm
    by_cases hlt : k < n
    · have hl : k < ls.length := by have := H.out.len; omega
      obtain ⟨A2, n2, c2, ⟨b, off, rfl, hc⟩, hr⟩ := H.out.at_ k _ (List.getElem?_eq_getElem hl)
      have hle := flatten_take_le ls (k + 1)
      have hsucc := flatten_take_succ ls k hl
      have hn2 : n2 = ls[k].length := (IsB.len hr).symm
      have hsum : (ls.take k).flatten.length + n2 ≤ 1000000 := by rw [hsucc, List.length_append] at hle; omega
      have Hs := Lib.hid (And.intro hsucc hn2)
      generalize hm : (ls.take k).flatten.length = m at hsum
      have Hm := Lib.hid hm
      have h7 : ¬ ((m : Int) + (n2 : Int) < 0) := by omega
      clear hsucc hle hn2 hm
      go_wp2
      go_roundg (n - (k + 1))
      case measure => omega
      case rel =>
        refine ⟨k + 1, by omega, rfl, by go_num, ?_, rfl⟩
        rw [Hs.out.1, List.length_append, Hm.out, ← Hs.out.2]
        go_num
    · have hkn : (ls.take k).flatten = ls.flatten := by
        have : k = ls.length := by have := H.out.len; omega
        rw [this, List.take_length]
      rw [hkn]
      generalize hm : ls.flatten.length = m at hn
      have Hm := Lib.hid hm
      clear hkn hm
      go_wp2_with fail
      refine (grow_nil m _ hn).mono ?_
      rintro e w1 ⟨A1, n1, c1, rfl, rfl, ho1, hb1⟩
      go_wp2_with fail
      have H1 := Lib.hid (And.intro ho1 hb1)
      clear ho1 hb1
      go_loopg [6, 27] n (fun g v i wr => ∃ k A' n' c', k ≤ n ∧ g = n - k ∧ i = .int .i64 (k : Int) ∧ v = .slice A' n' c' ∧ Own wr w.heap.size 5 A' n' c' ((ls.take k).flatten.map u8) ∧ Below w.heap.size w wr)
      case atStart => exact ⟨0, A1, 0, c1, by omega, rfl, rfl, rfl, by simpa using H1.out.1, H1.out.2⟩
      case round =>
        obtain ⟨k, A', n', c', hk, hg, rfl, rfl, hown, hb⟩ := hrel
        by_cases hlt : k < n
        · have hl : k < ls.length := by have := H.out.len; omega
          obtain ⟨A2, n2, c2, ⟨b, off, rfl, hc⟩, hr⟩ := H.out.at_ k _ (List.getElem?_eq_getElem hl)
          have hc2 : wr.cell? ⟨b, off + k, none⟩ = some (.slice A2 n2 c2) := by
            rw [hb.cell (p := ⟨b, off + k, none⟩) (World.block_lt_of_cell? w _ hc)]; exact hc
          have hr2 : Rd wr A2 n2 c2 (ls[k].map Go.Proofs.Ytllnklkjkjmjbaa.u8) := hr.below hb
          have hle := flatten_take_le ls (k + 1)
          have hsucc := flatten_take_succ ls k hl
          have hn' : n' = (ls.take k).flatten.length := by have := hown.1; rw [List.length_map] at this; omega
          have hn2 : n2 = ls[k].length := by have := hr2.len; rw [List.length_map] at this; omega
          have hsum : n' + n2 ≤ 1000000 := by rw [hsucc, List.length_append, Hm.out] at hle; omega
          have Hs := Lib.hid hsucc
          have Hn := Lib.hid (And.intro hn' hn2)
          clear hsucc hle hn' hn2
          go_wp2_with (at_builtin; refine wpList_append_rd _ rfl (.tmp 31) (.tmp 32) 22 rfl w.heap.size 5 i0 _ 1 Try.underlying22 HI.out.1 HI.out.2.1 HI.out.2.2.1 HI.out.2.2.2 rfl A' n' c' _ rfl hown A2 n2 c2 _ rfl hr2 (u8_one _) ?_ (by omega) hb.size ?_)
          case _ => omega
          intro A3 c3 w3 hown3 hg3 _
          have hb3 := hb.grown hg3 hb.size (hown.block)
          go_wp2
          go_roundg (n - (k + 1))
          case measure => omega
          case rel =>
            refine ⟨k + 1, A3, n' + n2, c3, by omega, rfl, by go_num, rfl, ?_, hb3⟩
            rw [Hs.out]; simpa using hown3
        · go_wp2
          go_ret
          refine ⟨A', n', c', rfl, ?_, hb⟩
          have : k = ls.length := by have := H.out.len; omega
          rw [this, List.take_length] at hown
          exact hown
/-- The bytes of a list of strings of bytes. -/
def flatB : List V → Option (List UInt8)
  | [] => some []
  | .bytes l :: r => (match flatB r with | some m => some (l ++ m) | none => none)
  | _ :: _ => none
theorem flatB_some : ∀ (vs : List V) (l : List UInt8), flatB vs = some l → ∃ ls : List (List UInt8), vs = ls.map V.bytes ∧ l = ls.flatten
  | [], l, h => ⟨[], rfl, by simpa [flatB] using h.symm⟩
  | .bytes x :: r, l, h => by
    unfold flatB at h
    cases hm : flatB r with
    | none => rw [hm] at h; cases h
    | some m =>
      rw [hm] at h
      injection h with h
      obtain ⟨ls, h1, h2⟩ := flatB_some r m hm
      exact ⟨x :: ls, by rw [h1]; rfl, by rw [← h, h2]; rfl⟩
  | .bool _ :: _, l, h => by cases h
  | .int _ _ :: _, l, h => by cases h
  | .str _ :: _, l, h => by cases h
  | .sl _ _ :: _, l, h => by cases h
  | .agg _ :: _, l, h => by cases h
  | .iface _ _ :: _, l, h => by cases h
  | .nilI :: _, l, h => by cases h
theorem flatMap_bytes (ls : List (List UInt8)) : (ls.map V.bytes).flatMap V.cells = ls.map V.bytes := by
  induction ls with
  | nil => rfl
  | cons l ls ih => simp only [List.map_cons, List.flatMap_cons, ih]; rfl
theorem isBB_of_rep {g : G} {w : World} {e : TypeId} {ls : List (List UInt8)} {u : Value} (h : RepV g w (.sl e (ls.map V.bytes)) u) : ∃ A n c, u = .slice A n c ∧ IsBB w A n c ls := by
  cases h with
  | sl e xs A n c us hn hc hm hs h hr =>
    rw [flatMap_bytes] at h hr
    refine ⟨A, n, c, rfl, ⟨by simpa using hn, hc, hm, fun k l hl => ?_⟩⟩
    have hk : (ls.map V.bytes)[k]? = some (.bytes l) := by simp [hl]
    obtain ⟨b, off, e1, _, e2⟩ := h k _ hk
    obtain ⟨A', n', c', e3, h4⟩ := isB_of_rep (hr k _ hk)
    exact ⟨A', n', c', ⟨b, off, e1, by rw [e2, e3]⟩, h4⟩
noncomputable def s_concat (N : Nat) (vs : List V) : Option (List UInt8) := (flatB vs).bind fun l => br (decide (l.length ≤ 1000000)) (some l) none
theorem p_concat (N : Nat) (x0 : List V) (r0 : List UInt8) (h : s_concat N x0 = some r0) : PureRet Try.prog T 94 [.v (.sl 22 x0) .no] [.v (.bytes r0) .no] := by
  unfold s_concat at h
  obtain ⟨l, h1, h2⟩ := Option.bind_eq_some_iff.1 h
  have hn : l.length ≤ 1000000 ∧ r0 = l := by
    unfold br at h2
    by_cases hx : l.length ≤ 1000000
    · simp [hx] at h2; exact ⟨hx, h2.symm⟩
    · simp [hx] at h2
  obtain ⟨hn, rfl⟩ := hn
  obtain ⟨ls, rfl, rfl⟩ := flatB_some x0 _ h1
  intro E g w us hsz hus
  obtain ⟨hl, hr⟩ := hus
  match us, hl with
  | [u], _ =>
  have hu := hr 0 _ rfl
  simp only [List.getD_cons_zero] at hu
  cases hu with
  | v x a v hv ha =>
  obtain ⟨A, n, c, rfl, hB⟩ := isBB_of_rep hv
  refine (concat_any A n c ls w hB hn).mono ?_
  rintro e w' ⟨A', n', c', rfl, ho, hb⟩
  exact pure_of_own hb ho
end Go.Proofs.Ytllnklkjkjmjbaa.En

/- The engine, part 2l: several entries of one function, told apart by the closure that it is given. -/
namespace Go.Proofs.Ytllnklkjkjmjbaa.En
open Go
set_option linter.unusedVariables false
def hasClos (g : Nat) : List D → Bool
  | [] => false
  | d :: r => match d with
    | .clos f _ => cond (Nat.beq f g) true (hasClos g r)
    | _ => hasClos g r
def selM (g : Nat) (a b : MEnt) : MEnt := ⟨a.f, fun dst ds m K => cond (hasClos g ds) (a.k dst ds m K) (b.k dst ds m K)⟩
section
variable {P : Program} {T : TypeId → Option Ty}
theorem selM_ok {g : Nat} {a b : MEnt} (h : a.f = b.f) (ha : MEntOK P T a) (hb : MEntOK P T b) : MEntOK P T (selM g a b) := by
  refine ⟨ha.goes, fun R dst ds m K r e => ?_⟩
  change cond (hasClos g ds) (a.k dst ds m K) (b.k dst ds m K) = some r at e
  cases hc : hasClos g ds with
  | true => rw [hc] at e; exact ha.ret R dst ds m K r e
  | false =>
    rw [hc] at e
    obtain ⟨rs, m', h1, h2⟩ := hb.ret R dst ds m K r e
    exact ⟨rs, m', h1, by rw [← h] at h2; exact h2⟩
end
end Go.Proofs.Ytllnklkjkjmjbaa.En

/- The hand-made entries of the engine, together. -/

/- Functions of the program in plain Lean, joined to the program by evaluation; printed by a program. -/
namespace Go.Proofs.Ytllnklkjkjmjbaa.En
open Go Go.Proofs
set_option maxRecDepth 100000
set_option linter.unusedVariables false
noncomputable def e_Valid {R : Type} (s : Int → Option (Bool)) (ds : List D) (K : List D → Option R) : Option R :=
  match ds with
  | [.v (.int .i64 x0) .no] => bnd1 (s x0) fun r0 => K [.v (.bool r0) .no]
  | _ => none
noncomputable def r_Valid (rs : List D) (_ : Mem) : Option (Bool) :=
  match rs with
  | [.v (.bool r0) _] => some (r0)
  | _ => none
noncomputable def s_Valid (N : Nat) (x0 : Int) : Option (Bool) :=
  br (decide (x0 < 256)) (br (decide (0 < x0)) (some !decide (bitsI BinOp.and IntKind.i64 x0 31 = 31)) (some false))
  (br (decide (shrI IntKind.i64 x0 8 ≤ 255))
    (br (decide (bitsI BinOp.and IntKind.i64 (shrI IntKind.i64 x0 8) 31 = 31)) (br (decide (31 ≤ bitsI BinOp.and IntKind.i64 x0 255)) (some (decide (bitsI BinOp.and IntKind.i64 x0 255 ≤ 127))) (some false)) (some false)) (some false))
noncomputable def cx_Valid (N : Nat) : Cx := { T := T, isPure := tabP [], pureK := fun g ds K => tabK [] g ds K, memK := fun g dst ds m K => tabMK [] g dst ds m K, meth := tabM [], keep := fun _ => [], keepX := fun _ => [], loopT := fun _ _ _ _ => none, jumps := 9 }
theorem s_Valid_ok (N : Nat) (x0 : Int) : bodyK (cx_Valid N) Try.f90 [.v (.int .i64 x0) .no] [] r_Valid = s_Valid N x0 := by
  kernel_rfl
theorem go_Valid : Goes Try.prog 90 := goes_of Try.func90 (by kernel_rfl) (c := bodyOf Try.f90) (by kernel_rfl)
theorem eo_Valid (s : Int → Option (Bool)) (hs : ∀ (x0 : Int) (r0 : Bool), s x0 = some r0 → PureRet Try.prog T 90 [.v (.int .i64 x0) .no] [.v (.bool r0) .no]) : EntOK Try.prog T ⟨90, e_Valid s⟩ := by
  refine ⟨go_Valid, fun R ds K r h => ?_, fun R ds K => ?_⟩
  · simp only [e_Valid] at h
    split at h
    · obtain ⟨r0, h1, h2⟩ := bnd1_some h
      exact ⟨_, h2, hs _ _ h1⟩
    · cases h
  · simp only [e_Valid]
    split
    · rw [bnd1_b]; rfl
    · rfl
theorem co_Valid (N : Nat) : CxOK Try.prog (cx_Valid N) :=
  cxOK_of2 (es := []) (me := []) (ms := []) T_ok trivial trivial trivial rfl (fun _ _ _ _ => rfl) (fun _ _ _ _ _ _ => rfl) rfl
theorem lo_Valid (N : Nat) : LoopsOK (cx_Valid N) Try.f90.ntmps (bodyOf Try.f90) :=
  loopsOK_of (k := 0) (by kernel_rfl) trivial
theorem p_Valid (N : Nat) (x0 : Int) (r0 : Bool) (h : s_Valid N x0 = some r0) : PureRet Try.prog T 90 [.v (.int .i64 x0) .no] [.v (.bool r0) .no] :=
  pure_of (cx := cx_Valid N) (by kernel_rfl) (co_Valid N) Try.func90 (by kernel_rfl) (by kernel_rfl) (lo_Valid N) rfl rfl rfl (rf := r_Valid) ((s_Valid_ok N x0).trans h) (fun rs' m h => by
    unfold r_Valid at h
    split at h
    · cases h; exact ⟨rfl, rfl⟩
    · cases h)
noncomputable def e_rValid {R : Type} (s : Int → Option (Bool)) (ds : List D) (K : List D → Option R) : Option R :=
  match ds with
  | [.v (.int .i64 x0) .no] => bnd1 (s x0) fun r0 => K [.v (.bool r0) .no]
  | _ => none
noncomputable def r_rValid (rs : List D) (_ : Mem) : Option (Bool) :=
  match rs with
  | [.v (.bool r0) _] => some (r0)
  | _ => none
noncomputable def s_rValid (N : Nat) (x0 : Int) : Option (Bool) :=
  br (decide (1 ≤ x0))
  (br (decide (x0 ≤ 255)) (some !decide (x0.tmod 32 = 31))
    (br (decide (256 ≤ x0)) (br (decide (x0 ≤ 65535)) (br (decide ((IntKind.i64.wrap (x0.tdiv 256)).tmod 32 = 31)) (br (decide (31 ≤ x0.tmod 256)) (some (decide (x0.tmod 256 ≤ 127))) (some false)) (some false)) (some false)) (some false)))
  (br (decide (256 ≤ x0)) (br (decide (x0 ≤ 65535)) (br (decide ((IntKind.i64.wrap (x0.tdiv 256)).tmod 32 = 31)) (br (decide (31 ≤ x0.tmod 256)) (some (decide (x0.tmod 256 ≤ 127))) (some false)) (some false)) (some false)) (some false))
noncomputable def cx_rValid (N : Nat) : Cx := { T := T, isPure := tabP [], pureK := fun g ds K => tabK [] g ds K, memK := fun g dst ds m K => tabMK [] g dst ds m K, meth := tabM [], keep := fun _ => [], keepX := fun _ => [], loopT := fun _ _ _ _ => none, jumps := 9 }
theorem s_rValid_ok (N : Nat) (x0 : Int) : bodyK (cx_rValid N) Try.f112 [.v (.int .i64 x0) .no] [] r_rValid = s_rValid N x0 := by
  kernel_rfl
theorem go_rValid : Goes Try.prog 112 := goes_of Try.func112 (by kernel_rfl) (c := bodyOf Try.f112) (by kernel_rfl)
theorem eo_rValid (s : Int → Option (Bool)) (hs : ∀ (x0 : Int) (r0 : Bool), s x0 = some r0 → PureRet Try.prog T 112 [.v (.int .i64 x0) .no] [.v (.bool r0) .no]) : EntOK Try.prog T ⟨112, e_rValid s⟩ := by
  refine ⟨go_rValid, fun R ds K r h => ?_, fun R ds K => ?_⟩
  · simp only [e_rValid] at h
    split at h
    · obtain ⟨r0, h1, h2⟩ := bnd1_some h
      exact ⟨_, h2, hs _ _ h1⟩
    · cases h
  · simp only [e_rValid]
    split
    · rw [bnd1_b]; rfl
    · rfl
theorem co_rValid (N : Nat) : CxOK Try.prog (cx_rValid N) :=
  cxOK_of2 (es := []) (me := []) (ms := []) T_ok trivial trivial trivial rfl (fun _ _ _ _ => rfl) (fun _ _ _ _ _ _ => rfl) rfl
theorem lo_rValid (N : Nat) : LoopsOK (cx_rValid N) Try.f112.ntmps (bodyOf Try.f112) :=
  loopsOK_of (k := 0) (by kernel_rfl) trivial
theorem p_rValid (N : Nat) (x0 : Int) (r0 : Bool) (h : s_rValid N x0 = some r0) : PureRet Try.prog T 112 [.v (.int .i64 x0) .no] [.v (.bool r0) .no] :=
  pure_of (cx := cx_rValid N) (by kernel_rfl) (co_rValid N) Try.func112 (by kernel_rfl) (by kernel_rfl) (lo_rValid N) rfl rfl rfl (rf := r_rValid) ((s_rValid_ok N x0).trans h) (fun rs' m h => by
    unfold r_rValid at h
    split at h
    · cases h; exact ⟨rfl, rfl⟩
    · cases h)
noncomputable def e_Constructed {R : Type} (s : Int → Option (Bool)) (ds : List D) (K : List D → Option R) : Option R :=
  match ds with
  | [.v (.int .i64 x0) .no] => bnd1 (s x0) fun r0 => K [.v (.bool r0) .no]
  | _ => none
noncomputable def r_Constructed (rs : List D) (_ : Mem) : Option (Bool) :=
  match rs with
  | [.v (.bool r0) _] => some (r0)
  | _ => none
noncomputable def s_Constructed (N : Nat) (x0 : Int) : Option (Bool) :=
  br (decide (255 < x0)) (bnd1 (s_Valid N x0) fun b0 => br b0 (some !decide (bitsI BinOp.and IntKind.i64 (shrI IntKind.i64 x0 8) 32 = 0)) (some false))
  (bnd1 (s_Valid N x0) fun b1 => br b1 (some !decide (bitsI BinOp.and IntKind.i64 x0 32 = 0)) (some false))
noncomputable def cx_Constructed (N : Nat) : Cx := { T := T, isPure := tabP [⟨90, e_Valid (s_Valid N)⟩], pureK := fun g ds K => tabK [⟨90, e_Valid (s_Valid N)⟩] g ds K, memK := fun g dst ds m K => tabMK [] g dst ds m K, meth := tabM [], keep := fun _ => [], keepX := fun _ => [], loopT := fun _ _ _ _ => none, jumps := 9 }
theorem s_Constructed_ok (N : Nat) (x0 : Int) : bodyK (cx_Constructed N) Try.f91 [.v (.int .i64 x0) .no] [] r_Constructed = s_Constructed N x0 := by
  kernel_rfl
theorem go_Constructed : Goes Try.prog 91 := goes_of Try.func91 (by kernel_rfl) (c := bodyOf Try.f91) (by kernel_rfl)
theorem eo_Constructed (s : Int → Option (Bool)) (hs : ∀ (x0 : Int) (r0 : Bool), s x0 = some r0 → PureRet Try.prog T 91 [.v (.int .i64 x0) .no] [.v (.bool r0) .no]) : EntOK Try.prog T ⟨91, e_Constructed s⟩ := by
  refine ⟨go_Constructed, fun R ds K r h => ?_, fun R ds K => ?_⟩
  · simp only [e_Constructed] at h
    split at h
    · obtain ⟨r0, h1, h2⟩ := bnd1_some h
      exact ⟨_, h2, hs _ _ h1⟩
    · cases h
  · simp only [e_Constructed]
    split
    · rw [bnd1_b]; rfl
    · rfl
theorem co_Constructed (N : Nat) : CxOK Try.prog (cx_Constructed N) :=
  cxOK_of2 (es := [⟨90, e_Valid (s_Valid N)⟩]) (me := []) (ms := []) T_ok ⟨eo_Valid _ (p_Valid N), trivial⟩ trivial trivial rfl (fun _ _ _ _ => rfl) (fun _ _ _ _ _ _ => rfl) rfl
theorem lo_Constructed (N : Nat) : LoopsOK (cx_Constructed N) Try.f91.ntmps (bodyOf Try.f91) :=
  loopsOK_of (k := 0) (by kernel_rfl) trivial
theorem p_Constructed (N : Nat) (x0 : Int) (r0 : Bool) (h : s_Constructed N x0 = some r0) : PureRet Try.prog T 91 [.v (.int .i64 x0) .no] [.v (.bool r0) .no] :=
  pure_of (cx := cx_Constructed N) (by kernel_rfl) (co_Constructed N) Try.func91 (by kernel_rfl) (by kernel_rfl) (lo_Constructed N) rfl rfl rfl (rf := r_Constructed) ((s_Constructed_ok N x0).trans h) (fun rs' m h => by
    unfold r_Constructed at h
    split at h
    · cases h; exact ⟨rfl, rfl⟩
    · cases h)
noncomputable def e_tagBytes {R : Type} (s : Int → Option (List UInt8)) (ds : List D) (K : List D → Option R) : Option R :=
  match ds with
  | [.v (.int .i64 x0) .no] => bnd1 (s x0) fun r0 => K [.v (.bytes r0) .no]
  | _ => none
noncomputable def r_tagBytes (rs : List D) (_ : Mem) : Option (List UInt8) :=
  match rs with
  | [.v (.bytes r0) _] => some (r0)
  | _ => none
noncomputable def s_tagBytes (N : Nat) (x0 : Int) : Option (List UInt8) :=
  br (decide (255 < x0)) (some [UInt8.ofNat (IntKind.u8.wrap (shrI IntKind.i64 x0 8)).toNat, UInt8.ofNat (IntKind.u8.wrap x0).toNat]) (some [UInt8.ofNat (IntKind.u8.wrap x0).toNat])
noncomputable def cx_tagBytes (N : Nat) : Cx := { T := T, isPure := tabP [], pureK := fun g ds K => tabK [] g ds K, memK := fun g dst ds m K => tabMK [] g dst ds m K, meth := tabM [], keep := fun _ => [], keepX := fun _ => [], loopT := fun _ _ _ _ => none, jumps := 9 }
theorem s_tagBytes_ok (N : Nat) (x0 : Int) : bodyK (cx_tagBytes N) Try.f92 [.v (.int .i64 x0) .no] [] r_tagBytes = s_tagBytes N x0 := by
  kernel_rfl
theorem go_tagBytes : Goes Try.prog 92 := goes_of Try.func92 (by kernel_rfl) (c := bodyOf Try.f92) (by kernel_rfl)
theorem eo_tagBytes (s : Int → Option (List UInt8)) (hs : ∀ (x0 : Int) (r0 : List UInt8), s x0 = some r0 → PureRet Try.prog T 92 [.v (.int .i64 x0) .no] [.v (.bytes r0) .no]) : EntOK Try.prog T ⟨92, e_tagBytes s⟩ := by
  refine ⟨go_tagBytes, fun R ds K r h => ?_, fun R ds K => ?_⟩
  · simp only [e_tagBytes] at h
    split at h
    · obtain ⟨r0, h1, h2⟩ := bnd1_some h
      exact ⟨_, h2, hs _ _ h1⟩
    · cases h
  · simp only [e_tagBytes]
    split
    · rw [bnd1_b]; rfl
    · rfl
theorem co_tagBytes (N : Nat) : CxOK Try.prog (cx_tagBytes N) :=
  cxOK_of2 (es := []) (me := []) (ms := []) T_ok trivial trivial trivial rfl (fun _ _ _ _ => rfl) (fun _ _ _ _ _ _ => rfl) rfl
theorem lo_tagBytes (N : Nat) : LoopsOK (cx_tagBytes N) Try.f92.ntmps (bodyOf Try.f92) :=
  loopsOK_of (k := 0) (by kernel_rfl) trivial
theorem p_tagBytes (N : Nat) (x0 : Int) (r0 : List UInt8) (h : s_tagBytes N x0 = some r0) : PureRet Try.prog T 92 [.v (.int .i64 x0) .no] [.v (.bytes r0) .no] :=
  pure_of (cx := cx_tagBytes N) (by kernel_rfl) (co_tagBytes N) Try.func92 (by kernel_rfl) (by kernel_rfl) (lo_tagBytes N) rfl rfl rfl (rf := r_tagBytes) ((s_tagBytes_ok N x0).trans h) (fun rs' m h => by
    unfold r_tagBytes at h
    split at h
    · cases h; exact ⟨rfl, rfl⟩
    · cases h)
noncomputable def e_lengthBytes {R : Type} (s : Int → Option (List UInt8)) (ds : List D) (K : List D → Option R) : Option R :=
  match ds with
  | [.v (.int .i64 x0) .no] => bnd1 (s x0) fun r0 => K [.v (.bytes r0) .no]
  | _ => none
noncomputable def r_lengthBytes (rs : List D) (_ : Mem) : Option (List UInt8) :=
  match rs with
  | [.v (.bytes r0) _] => some (r0)
  | _ => none
noncomputable def s_lengthBytes (N : Nat) (x0 : Int) : Option (List UInt8) :=
  br (decide (x0 < 128)) (some [UInt8.ofNat (IntKind.u8.wrap x0).toNat])
  (br (decide (x0 < 256)) (some [UInt8.ofNat (Int.toNat 129), UInt8.ofNat (IntKind.u8.wrap x0).toNat])
    (some [UInt8.ofNat (Int.toNat 130), UInt8.ofNat (IntKind.u8.wrap (shrI IntKind.i64 x0 8)).toNat, UInt8.ofNat (IntKind.u8.wrap x0).toNat]))
noncomputable def cx_lengthBytes (N : Nat) : Cx := { T := T, isPure := tabP [], pureK := fun g ds K => tabK [] g ds K, memK := fun g dst ds m K => tabMK [] g dst ds m K, meth := tabM [], keep := fun _ => [], keepX := fun _ => [], loopT := fun _ _ _ _ => none, jumps := 9 }
theorem s_lengthBytes_ok (N : Nat) (x0 : Int) : bodyK (cx_lengthBytes N) Try.f93 [.v (.int .i64 x0) .no] [] r_lengthBytes = s_lengthBytes N x0 := by
  kernel_rfl
theorem go_lengthBytes : Goes Try.prog 93 := goes_of Try.func93 (by kernel_rfl) (c := bodyOf Try.f93) (by kernel_rfl)
theorem eo_lengthBytes (s : Int → Option (List UInt8)) (hs : ∀ (x0 : Int) (r0 : List UInt8), s x0 = some r0 → PureRet Try.prog T 93 [.v (.int .i64 x0) .no] [.v (.bytes r0) .no]) : EntOK Try.prog T ⟨93, e_lengthBytes s⟩ := by
  refine ⟨go_lengthBytes, fun R ds K r h => ?_, fun R ds K => ?_⟩
  · simp only [e_lengthBytes] at h
    split at h
    · obtain ⟨r0, h1, h2⟩ := bnd1_some h
      exact ⟨_, h2, hs _ _ h1⟩
    · cases h
  · simp only [e_lengthBytes]
    split
    · rw [bnd1_b]; rfl
    · rfl
theorem co_lengthBytes (N : Nat) : CxOK Try.prog (cx_lengthBytes N) :=
  cxOK_of2 (es := []) (me := []) (ms := []) T_ok trivial trivial trivial rfl (fun _ _ _ _ => rfl) (fun _ _ _ _ _ _ => rfl) rfl
theorem lo_lengthBytes (N : Nat) : LoopsOK (cx_lengthBytes N) Try.f93.ntmps (bodyOf Try.f93) :=
  loopsOK_of (k := 0) (by kernel_rfl) trivial
theorem p_lengthBytes (N : Nat) (x0 : Int) (r0 : List UInt8) (h : s_lengthBytes N x0 = some r0) : PureRet Try.prog T 93 [.v (.int .i64 x0) .no] [.v (.bytes r0) .no] :=
  pure_of (cx := cx_lengthBytes N) (by kernel_rfl) (co_lengthBytes N) Try.func93 (by kernel_rfl) (by kernel_rfl) (lo_lengthBytes N) rfl rfl rfl (rf := r_lengthBytes) ((s_lengthBytes_ok N x0).trans h) (fun rs' m h => by
    unfold r_lengthBytes at h
    split at h
    · cases h; exact ⟨rfl, rfl⟩
    · cases h)
noncomputable def e_rfirst {R : Type} (s : Int → Option (Int)) (ds : List D) (K : List D → Option R) : Option R :=
  match ds with
  | [.v (.int .i64 x0) .no] => bnd1 (s x0) fun r0 => K [.v (.int .i64 r0) .no]
  | _ => none
noncomputable def r_rfirst (rs : List D) (_ : Mem) : Option (Int) :=
  match rs with
  | [.v (.int .i64 r0) _] => some (r0)
  | _ => none
noncomputable def s_rfirst (N : Nat) (x0 : Int) : Option (Int) :=
  br (decide (255 < x0)) (some (IntKind.i64.wrap (x0.tdiv 256))) (some x0)
noncomputable def cx_rfirst (N : Nat) : Cx := { T := T, isPure := tabP [], pureK := fun g ds K => tabK [] g ds K, memK := fun g dst ds m K => tabMK [] g dst ds m K, meth := tabM [], keep := fun _ => [], keepX := fun _ => [], loopT := fun _ _ _ _ => none, jumps := 9 }
theorem s_rfirst_ok (N : Nat) (x0 : Int) : bodyK (cx_rfirst N) Try.f113 [.v (.int .i64 x0) .no] [] r_rfirst = s_rfirst N x0 := by
  kernel_rfl
theorem go_rfirst : Goes Try.prog 113 := goes_of Try.func113 (by kernel_rfl) (c := bodyOf Try.f113) (by kernel_rfl)
theorem eo_rfirst (s : Int → Option (Int)) (hs : ∀ (x0 : Int) (r0 : Int), s x0 = some r0 → PureRet Try.prog T 113 [.v (.int .i64 x0) .no] [.v (.int .i64 r0) .no]) : EntOK Try.prog T ⟨113, e_rfirst s⟩ := by
  refine ⟨go_rfirst, fun R ds K r h => ?_, fun R ds K => ?_⟩
  · simp only [e_rfirst] at h
    split at h
    · obtain ⟨r0, h1, h2⟩ := bnd1_some h
      exact ⟨_, h2, hs _ _ h1⟩
    · cases h
  · simp only [e_rfirst]
    split
    · rw [bnd1_b]; rfl
    · rfl
theorem co_rfirst (N : Nat) : CxOK Try.prog (cx_rfirst N) :=
  cxOK_of2 (es := []) (me := []) (ms := []) T_ok trivial trivial trivial rfl (fun _ _ _ _ => rfl) (fun _ _ _ _ _ _ => rfl) rfl
theorem lo_rfirst (N : Nat) : LoopsOK (cx_rfirst N) Try.f113.ntmps (bodyOf Try.f113) :=
  loopsOK_of (k := 0) (by kernel_rfl) trivial
theorem p_rfirst (N : Nat) (x0 : Int) (r0 : Int) (h : s_rfirst N x0 = some r0) : PureRet Try.prog T 113 [.v (.int .i64 x0) .no] [.v (.int .i64 r0) .no] :=
  pure_of (cx := cx_rfirst N) (by kernel_rfl) (co_rfirst N) Try.func113 (by kernel_rfl) (by kernel_rfl) (lo_rfirst N) rfl rfl rfl (rf := r_rfirst) ((s_rfirst_ok N x0).trans h) (fun rs' m h => by
    unfold r_rfirst at h
    split at h
    · cases h; exact ⟨rfl, rfl⟩
    · cases h)
noncomputable def e_rConstructed {R : Type} (s : Int → Option (Bool)) (ds : List D) (K : List D → Option R) : Option R :=
  match ds with
  | [.v (.int .i64 x0) .no] => bnd1 (s x0) fun r0 => K [.v (.bool r0) .no]
  | _ => none
noncomputable def r_rConstructed (rs : List D) (_ : Mem) : Option (Bool) :=
  match rs with
  | [.v (.bool r0) _] => some (r0)
  | _ => none
noncomputable def s_rConstructed (N : Nat) (x0 : Int) : Option (Bool) :=
  bnd1 (s_rValid N x0) fun b0 => br b0 (bnd1 (s_rfirst N x0) fun n1 => some (decide ((IntKind.i64.wrap (n1.tdiv 32)).tmod 2 = 1))) (some false)
noncomputable def cx_rConstructed (N : Nat) : Cx := { T := T, isPure := tabP [⟨112, e_rValid (s_rValid N)⟩, ⟨113, e_rfirst (s_rfirst N)⟩], pureK := fun g ds K => tabK [⟨112, e_rValid (s_rValid N)⟩, ⟨113, e_rfirst (s_rfirst N)⟩] g ds K, memK := fun g dst ds m K => tabMK [] g dst ds m K, meth := tabM [], keep := fun _ => [], keepX := fun _ => [], loopT := fun _ _ _ _ => none, jumps := 9 }
theorem s_rConstructed_ok (N : Nat) (x0 : Int) : bodyK (cx_rConstructed N) Try.f96 [.v (.int .i64 x0) .no] [] r_rConstructed = s_rConstructed N x0 := by
  kernel_rfl
theorem go_rConstructed : Goes Try.prog 96 := goes_of Try.func96 (by kernel_rfl) (c := bodyOf Try.f96) (by kernel_rfl)
theorem eo_rConstructed (s : Int → Option (Bool)) (hs : ∀ (x0 : Int) (r0 : Bool), s x0 = some r0 → PureRet Try.prog T 96 [.v (.int .i64 x0) .no] [.v (.bool r0) .no]) : EntOK Try.prog T ⟨96, e_rConstructed s⟩ := by
  refine ⟨go_rConstructed, fun R ds K r h => ?_, fun R ds K => ?_⟩
  · simp only [e_rConstructed] at h
    split at h
    · obtain ⟨r0, h1, h2⟩ := bnd1_some h
      exact ⟨_, h2, hs _ _ h1⟩
    · cases h
  · simp only [e_rConstructed]
    split
    · rw [bnd1_b]; rfl
    · rfl
theorem co_rConstructed (N : Nat) : CxOK Try.prog (cx_rConstructed N) :=
  cxOK_of2 (es := [⟨112, e_rValid (s_rValid N)⟩, ⟨113, e_rfirst (s_rfirst N)⟩]) (me := []) (ms := []) T_ok ⟨eo_rValid _ (p_rValid N), eo_rfirst _ (p_rfirst N), trivial⟩ trivial trivial rfl (fun _ _ _ _ => rfl) (fun _ _ _ _ _ _ => rfl) rfl
theorem lo_rConstructed (N : Nat) : LoopsOK (cx_rConstructed N) Try.f96.ntmps (bodyOf Try.f96) :=
  loopsOK_of (k := 0) (by kernel_rfl) trivial
theorem p_rConstructed (N : Nat) (x0 : Int) (r0 : Bool) (h : s_rConstructed N x0 = some r0) : PureRet Try.prog T 96 [.v (.int .i64 x0) .no] [.v (.bool r0) .no] :=
  pure_of (cx := cx_rConstructed N) (by kernel_rfl) (co_rConstructed N) Try.func96 (by kernel_rfl) (by kernel_rfl) (lo_rConstructed N) rfl rfl rfl (rf := r_rConstructed) ((s_rConstructed_ok N x0).trans h) (fun rs' m h => by
    unfold r_rConstructed at h
    split at h
    · cases h; exact ⟨rfl, rfl⟩
    · cases h)
noncomputable def e_valid {R : Type} (s : List V → Int → Option (Bool)) (ds : List D) (K : List D → Option R) : Option R :=
  match ds with
  | [.v (.sl 62 x0) .no, .v (.int .i64 x1) .no] => bnd1 (s x0 x1) fun r0 => K [.v (.bool r0) .no]
  | _ => none
noncomputable def e_valid1 {R : Type} (s : Int → List UInt8 → List V → Int → Option (Bool)) (dst : Nat) (ds : List D) (m : Mem) (K : List D → Mem → Option R) : Option R :=
  match ds with
  | [.agg [.v (.int .i64 x0) .no, .v (.bytes x1) .no, .v (.sl 62 x2) .no], .ptr (kv0 + 1) sv0 0] => viewK [(kv0, sv0)] m fun Bs => (match Bs with
    | [⟨3, [.v (.int .i64 y0) .no]⟩] => bnd1 (s x0 x1 x2 y0) fun r0 => putAllK [(kv0, sv0)] [⟨3, [.v (.int .i64 y0) .no]⟩] m fun m' => K [.v (.bool r0) .no] m'
    | _ => none)
  | _ => none
noncomputable def r_valid1 {α : Type} (K : Bool → Int → Option α) (rs : List D) (m : Mem) : Option α :=
  match rs, m with
  | [.v (.bool r0) _], [_, [(0, ⟨3, [.v (.int .i64 z0) .no]⟩)]] => K r0 z0
  | _, _ => none
noncomputable def C_valid1 {R : Type} (N : Nat) (f : List V → Int → Option (Bool)) (x0 : Int) (x1 : List UInt8) (x2 : List V) (y0 : Int) (K0 : Bool → Option R) : Option R :=
  br (decide (8 < y0)) (K0 true)
  (bnd1 (s_Valid N x0) fun b0 =>
    br (!b0) (K0 true) (bnd1 (s_Constructed N x0) fun b1 => br b1 (br (decide (0 < (↑x1.length : Int))) (K0 true) (bnd1 (f x2 (IntKind.i64.wrap (y0 + 1))) fun b2 => K0 !b2)) (K0 (decide (0 < (↑x2.length : Int))))))
noncomputable def s_valid1 (N : Nat) (f : List V → Int → Option (Bool)) (x0 : Int) (x1 : List UInt8) (x2 : List V) (y0 : Int) : Option (Bool) :=
  C_valid1 N f x0 x1 x2 y0 (fun r0 => some r0)
noncomputable def cx_valid1 (N : Nat) (f : List V → Int → Option (Bool)) : Cx := { T := T, isPure := tabP [⟨90, e_Valid (s_Valid N)⟩, ⟨91, e_Constructed (s_Constructed N)⟩, ⟨63, e_valid f⟩], pureK := fun g ds K => tabK [⟨90, e_Valid (s_Valid N)⟩, ⟨91, e_Constructed (s_Constructed N)⟩, ⟨63, e_valid f⟩] g ds K, memK := fun g dst ds m K => tabMK [] g dst ds m K, meth := tabM [], keep := fun _ => [], keepX := fun _ => [], loopT := fun _ _ _ _ => none, jumps := 9 }
theorem C_valid1_ok {R : Type} (N : Nat) (f : List V → Int → Option (Bool)) (x0 : Int) (x1 : List UInt8) (x2 : List V) (y0 : Int) (K : Bool → Int → Option R) : bodyK (cx_valid1 N f) Try.f89 [.agg [.v (.int .i64 x0) .no, .v (.bytes x1) .no, .v (.sl 62 x2) .no], .ptr 1 0 0] [frOf 0 [⟨3, [.v (.int .i64 y0) .no]⟩]] (r_valid1 K) = C_valid1 N f x0 x1 x2 y0 (fun r0 => K r0 y0) := by
  kernel_rfl
theorem go_valid : Goes Try.prog 63 := goes_of Try.func63 (by kernel_rfl) (c := bodyOf Try.f63) (by kernel_rfl)
theorem eo_valid (s : List V → Int → Option (Bool)) (hs : ∀ (x0 : List V) (x1 : Int) (r0 : Bool), s x0 x1 = some r0 → PureRet Try.prog T 63 [.v (.sl 62 x0) .no, .v (.int .i64 x1) .no] [.v (.bool r0) .no]) : EntOK Try.prog T ⟨63, e_valid s⟩ := by
  refine ⟨go_valid, fun R ds K r h => ?_, fun R ds K => ?_⟩
  · simp only [e_valid] at h
    split at h
    · obtain ⟨r0, h1, h2⟩ := bnd1_some h
      exact ⟨_, h2, hs _ _ _ h1⟩
    · cases h
  · simp only [e_valid]
    split
    · rw [bnd1_b]; rfl
    · rfl
theorem go_valid1 : Goes Try.prog 89 := goes_of Try.func89 (by kernel_rfl) (c := bodyOf Try.f89) (by kernel_rfl)
theorem eo_valid1 (s : Int → List UInt8 → List V → Int → Option (Bool)) (hs : ∀ (x0 : Int) (x1 : List UInt8) (x2 : List V) (y0 : Int) (r0 : Bool), s x0 x1 x2 y0 = some r0 → ViewRet Try.prog T 89 [.agg [.v (.int .i64 x0) .no, .v (.bytes x1) .no, .v (.sl 62 x2) .no], .ptr 1 0 0] [⟨3, [.v (.int .i64 y0) .no]⟩] [.v (.bool r0) .no] [⟨3, [.v (.int .i64 y0) .no]⟩]) : MEntOK Try.prog T ⟨89, e_valid1 s⟩ := by
  refine ⟨go_valid1, fun R dst ds m K r h => ?_⟩
  simp only [e_valid1] at h
  split at h
  · obtain ⟨Bs, a1, a2, a3, h⟩ := viewK_some h
    split at h
    · obtain ⟨r0, h1, h2⟩ := bnd1_some h
      rw [putAllK_eq] at h2
      exact ⟨_, _, h2, hs _ _ _ _ _ h1 _ _ m dst a1 a2 a3 ⟨aren_agg ⟨aren_v _, aren_v _, aren_v _, trivial⟩, aren_ptr _ rfl, trivial⟩⟩
    · cases h
  · cases h
theorem co_valid1 (N : Nat) (f : List V → Int → Option (Bool)) (hf : ∀ (x0 : List V) (x1 : Int) (r0 : Bool), f x0 x1 = some r0 → PureRet Try.prog T 63 [.v (.sl 62 x0) .no, .v (.int .i64 x1) .no] [.v (.bool r0) .no]) : CxOK Try.prog (cx_valid1 N f) :=
  cxOK_of2 (es := [⟨90, e_Valid (s_Valid N)⟩, ⟨91, e_Constructed (s_Constructed N)⟩, ⟨63, e_valid f⟩]) (me := []) (ms := []) T_ok ⟨eo_Valid _ (p_Valid N), eo_Constructed _ (p_Constructed N), eo_valid f hf, trivial⟩ trivial trivial rfl (fun _ _ _ _ => rfl) (fun _ _ _ _ _ _ => rfl) rfl
theorem lo_valid1 (N : Nat) (f : List V → Int → Option (Bool)) : LoopsOK (cx_valid1 N f) Try.f89.ntmps (bodyOf Try.f89) :=
  loopsOK_of (k := 0) (by kernel_rfl) trivial
open Classical in
theorem p_valid1 (N : Nat) (f : List V → Int → Option (Bool)) (hf : ∀ (x0 : List V) (x1 : Int) (r0 : Bool), f x0 x1 = some r0 → PureRet Try.prog T 63 [.v (.sl 62 x0) .no, .v (.int .i64 x1) .no] [.v (.bool r0) .no]) (x0 : Int) (x1 : List UInt8) (x2 : List V) (y0 : Int) (r0 : Bool) (h : s_valid1 N f x0 x1 x2 y0 = some r0) : ViewRet Try.prog T 89 [.agg [.v (.int .i64 x0) .no, .v (.bytes x1) .no, .v (.sl 62 x2) .no], .ptr 1 0 0] [⟨3, [.v (.int .i64 y0) .no]⟩] [.v (.bool r0) .no] [⟨3, [.v (.int .i64 y0) .no]⟩] := by
  refine view_of (Bs := [⟨3, [.v (.int .i64 y0) .no]⟩]) (Bs' := [⟨3, [.v (.int .i64 y0) .no]⟩]) (cx := cx_valid1 N f) (by kernel_rfl) (co_valid1 N f hf) Try.func89 (by kernel_rfl) (by kernel_rfl) (lo_valid1 N f) rfl rfl rfl rfl (rf := r_valid1 (fun r0' z'0 => if z'0 = y0 then some r0' else none)) (r := r0) ?_ ?_
  · exact (C_valid1_ok N f x0 x1 x2 y0 _).trans ((congrArg (fun K => C_valid1 N f x0 x1 x2 y0 K) (funext fun r0' => if_pos rfl)).trans h)
  · intro rs' m' hx
    unfold r_valid1 at hx
    split at hx
    · dsimp only at hx
      split at hx
      · rename_i hk
        subst hk
        cases hx; exact ⟨rfl, rfl, _, rfl⟩
      · cases hx
    · cases hx
noncomputable def e_IndexFuncV {R : Type} (s : List V → Int → Option (Int)) (dst : Nat) (ds : List D) (m : Mem) (K : List D → Mem → Option R) : Option R :=
  match ds with
  | [.v (.sl 62 x0) .no, .clos 89 [.ptr (kv0 + 1) sv0 0]] => viewK [(kv0, sv0)] m fun Bs => (match Bs with
    | [⟨3, [.v (.int .i64 y0) .no]⟩] => bnd1 (s x0 y0) fun r0 => putAllK [(kv0, sv0)] [⟨3, [.v (.int .i64 y0) .no]⟩] m fun m' => K [.v (.int .i64 r0) .no] m'
    | _ => none)
  | _ => none
noncomputable def r_IndexFuncV {α : Type} (K : Int → Int → Option α) (rs : List D) (m : Mem) : Option α :=
  match rs, m with
  | [.v (.int .i64 r0) _], [_, [(0, ⟨3, [.v (.int .i64 z0) .no]⟩)]] => K r0 z0
  | _, _ => none
noncomputable def F_IndexFuncV_2 {R : Type} (N : Nat) (f : List V → Int → Option (Bool)) (vs0 : List V) (n1 : Int) (n3 : Int) (Lq : Int → Option R) (K0 : Int → Option R) (K1 : Option R) (n2 : Int) : Option R :=
  br (decide (n2 < n1))
  (br (decide (0 ≤ n2) && decide (n2 < (↑vs0.length : Int)))
    (at? vs0 n2.toNat fun x0 =>
      x0.unAgg fun l1 =>
        unCons l1 fun x2 l3 =>
          V.unInt IntKind.i64 x2 fun n4 => unCons l3 fun x5 l6 => x5.unBytes fun l7 => unCons l6 fun x8 l9 => V.unSl 62 x8 fun l10 => unNil l9 (bnd1 (s_valid1 N f n4 l7 l10 n3) fun b11 => br b11 (K0 n2) (Lq (IntKind.i64.wrap (n2 + 1)))))
    none)
  K1
noncomputable def S_IndexFuncV_2 {R : Type} (N : Nat) (f : List V → Int → Option (Bool)) (vs0 : List V) (n1 : Int) (n3 : Int) : Nat → Int → (Int → Option R) → (Option R) → Option R
  | 0, _, _, _ => none
  | t + 1, n2, K0, K1 => F_IndexFuncV_2 N f vs0 n1 n3 (fun n2 => S_IndexFuncV_2 N f vs0 n1 n3 t n2 K0 K1) K0 K1 n2
noncomputable def l_IndexFuncV_2 {R : Type} (N : Nat) (f : List V → Int → Option (Bool)) (ds : List D) (m : Mem) (K : Ex → List D → Mem → Option R) : Option R :=
  match ds, m with
  | [(.v (.sl 62 vs0) .no), (.clos 89 [(.ptr 1 0 0)]), (.v (.int .i64 n1) .no), (.v (.int .i64 n2) .no)], [[], [(0, ⟨3, [(.v (.int .i64 n3) .no)]⟩)]] => S_IndexFuncV_2 N f vs0 n1 n3 N n2 (fun a0 => K .ret [(.v (.int .i64 a0) .no)] [[], [(0, ⟨3, [(.v (.int .i64 n3) .no)]⟩)]]) (K (.exit 0) [.any] [[], [(0, ⟨3, [(.v (.int .i64 n3) .no)]⟩)]])
  | _, _ => none
noncomputable def C_IndexFuncV {R : Type} (N : Nat) (f : List V → Int → Option (Bool)) (x0 : List V) (y0 : Int) (K0 : Int → Option R) : Option R :=
  S_IndexFuncV_2 N f x0 (↑x0.length : Int) y0 N 0 (fun n0 => K0 n0) (K0 (-1))
noncomputable def s_IndexFuncV (N : Nat) (f : List V → Int → Option (Bool)) (x0 : List V) (y0 : Int) : Option (Int) :=
  C_IndexFuncV N f x0 y0 (fun r0 => some r0)
noncomputable def cx_IndexFuncV (N : Nat) (f : List V → Int → Option (Bool)) : Cx := { T := T, isPure := tabP [], pureK := fun g ds K => tabK [] g ds K, memK := fun g dst ds m K => tabMK [⟨89, e_valid1 (s_valid1 N f)⟩] g dst ds m K, meth := tabM [], keep := fun r => match r with | 2 => [0, 1, 7, 8] | _ => [], keepX := fun r => match r with | 2 => [4] | _ => [], loopT := fun r ds m K => match r with | 2 => l_IndexFuncV_2 N f ds m K | _ => none, jumps := 9 }
theorem F_IndexFuncV_2_ok {R : Type} (N : Nat) (f : List V → Int → Option (Bool)) (vs0 : List V) (n1 : Int) (n3 : Int) (n2 : Int) (L : List D → Mem → Option R) (K : Ex → List D → Mem → Option R) :
    roundK (fun st K => codeK (cx_IndexFuncV N f) (loopN Try.f110 0) st K) 19 [0, 1, 7, 8] [4] L [(.v (.sl 62 vs0) .no), (.clos 89 [(.ptr 1 0 0)]), (.v (.int .i64 n1) .no), (.v (.int .i64 n2) .no)] [[], [(0, ⟨3, [(.v (.int .i64 n3) .no)]⟩)]] K = F_IndexFuncV_2 N f vs0 n1 n3 (fun n2 => L [(.v (.sl 62 vs0) .no), (.clos 89 [(.ptr 1 0 0)]), (.v (.int .i64 n1) .no), (.v (.int .i64 n2) .no)] [[], [(0, ⟨3, [(.v (.int .i64 n3) .no)]⟩)]]) (fun a0 => K .ret [(.v (.int .i64 a0) .no)] [[], [(0, ⟨3, [(.v (.int .i64 n3) .no)]⟩)]]) (K (.exit 0) [.any] [[], [(0, ⟨3, [(.v (.int .i64 n3) .no)]⟩)]]) n2 := by
  kernel_rfl
theorem S_IndexFuncV_2_ok {R : Type} (N : Nat) (f : List V → Int → Option (Bool)) (vs0 : List V) (n1 : Int) (n3 : Int) (K : Ex → List D → Mem → Option R) : ∀ (t : Nat) (n2 : Int),
    loopK (fun st K => codeK (cx_IndexFuncV N f) (loopN Try.f110 0) st K) 19 [0, 1, 7, 8] [4] t [(.v (.sl 62 vs0) .no), (.clos 89 [(.ptr 1 0 0)]), (.v (.int .i64 n1) .no), (.v (.int .i64 n2) .no)] [[], [(0, ⟨3, [(.v (.int .i64 n3) .no)]⟩)]] K = S_IndexFuncV_2 N f vs0 n1 n3 t n2 (fun a0 => K .ret [(.v (.int .i64 a0) .no)] [[], [(0, ⟨3, [(.v (.int .i64 n3) .no)]⟩)]]) (K (.exit 0) [.any] [[], [(0, ⟨3, [(.v (.int .i64 n3) .no)]⟩)]])
  | 0, n2 => rfl
  | t + 1, n2 => (F_IndexFuncV_2_ok N f vs0 n1 n3 n2 _ K).trans (congrArg (fun L => F_IndexFuncV_2 N f vs0 n1 n3 L (fun a0 => K .ret [(.v (.int .i64 a0) .no)] [[], [(0, ⟨3, [(.v (.int .i64 n3) .no)]⟩)]]) (K (.exit 0) [.any] [[], [(0, ⟨3, [(.v (.int .i64 n3) .no)]⟩)]]) n2) (funext fun n2 => S_IndexFuncV_2_ok N f vs0 n1 n3 K t n2))
theorem C_IndexFuncV_ok {R : Type} (N : Nat) (f : List V → Int → Option (Bool)) (x0 : List V) (y0 : Int) (K : Int → Int → Option R) : bodyK (cx_IndexFuncV N f) Try.f110 [.v (.sl 62 x0) .no, .clos 89 [.ptr 1 0 0]] [frOf 0 [⟨3, [.v (.int .i64 y0) .no]⟩]] (r_IndexFuncV K) = C_IndexFuncV N f x0 y0 (fun r0 => K r0 y0) := by
  kernel_rfl
theorem go_IndexFuncV : Goes Try.prog 110 := goes_of Try.func110 (by kernel_rfl) (c := bodyOf Try.f110) (by kernel_rfl)
theorem eo_IndexFuncV (s : List V → Int → Option (Int)) (hs : ∀ (x0 : List V) (y0 : Int) (r0 : Int), s x0 y0 = some r0 → ViewRet Try.prog T 110 [.v (.sl 62 x0) .no, .clos 89 [.ptr 1 0 0]] [⟨3, [.v (.int .i64 y0) .no]⟩] [.v (.int .i64 r0) .no] [⟨3, [.v (.int .i64 y0) .no]⟩]) : MEntOK Try.prog T ⟨110, e_IndexFuncV s⟩ := by
  refine ⟨go_IndexFuncV, fun R dst ds m K r h => ?_⟩
  simp only [e_IndexFuncV] at h
  split at h
  · obtain ⟨Bs, a1, a2, a3, h⟩ := viewK_some h
    split at h
    · obtain ⟨r0, h1, h2⟩ := bnd1_some h
      rw [putAllK_eq] at h2
      exact ⟨_, _, h2, hs _ _ _ h1 _ _ m dst a1 a2 a3 ⟨aren_v _, aren_clos ⟨aren_ptr _ rfl, trivial⟩, trivial⟩⟩
    · cases h
  · cases h
theorem co_IndexFuncV (N : Nat) (f : List V → Int → Option (Bool)) (hf : ∀ (x0 : List V) (x1 : Int) (r0 : Bool), f x0 x1 = some r0 → PureRet Try.prog T 63 [.v (.sl 62 x0) .no, .v (.int .i64 x1) .no] [.v (.bool r0) .no]) : CxOK Try.prog (cx_IndexFuncV N f) :=
  cxOK_of2 (es := []) (me := [⟨89, e_valid1 (s_valid1 N f)⟩]) (ms := []) T_ok trivial ⟨eo_valid1 _ (p_valid1 N f hf), trivial⟩ trivial rfl (fun _ _ _ _ => rfl) (fun _ _ _ _ _ _ => rfl) rfl
theorem lk_IndexFuncV_2 (N : Nat) (f : List V → Int → Option (Bool)) : LoopOK (cx_IndexFuncV N f) 19 (loopN Try.f110 0) := by
  refine loopOK_of (rid := 2) (by kernel_rfl) rfl rfl fun R ds m K r h => ?_
  have h : l_IndexFuncV_2 N f ds m K = some r := h
  unfold l_IndexFuncV_2 at h
  split at h
  · exact ⟨N, Eq.trans (S_IndexFuncV_2_ok ..) h⟩
  · cases h
theorem lo_IndexFuncV (N : Nat) (f : List V → Int → Option (Bool)) : LoopsOK (cx_IndexFuncV N f) Try.f110.ntmps (bodyOf Try.f110) :=
  loopsOK_of (k := 1) (by kernel_rfl) ⟨trivial, lk_IndexFuncV_2 N f⟩
open Classical in
theorem p_IndexFuncV (N : Nat) (f : List V → Int → Option (Bool)) (hf : ∀ (x0 : List V) (x1 : Int) (r0 : Bool), f x0 x1 = some r0 → PureRet Try.prog T 63 [.v (.sl 62 x0) .no, .v (.int .i64 x1) .no] [.v (.bool r0) .no]) (x0 : List V) (y0 : Int) (r0 : Int) (h : s_IndexFuncV N f x0 y0 = some r0) : ViewRet Try.prog T 110 [.v (.sl 62 x0) .no, .clos 89 [.ptr 1 0 0]] [⟨3, [.v (.int .i64 y0) .no]⟩] [.v (.int .i64 r0) .no] [⟨3, [.v (.int .i64 y0) .no]⟩] := by
  refine view_of (Bs := [⟨3, [.v (.int .i64 y0) .no]⟩]) (Bs' := [⟨3, [.v (.int .i64 y0) .no]⟩]) (cx := cx_IndexFuncV N f) (by kernel_rfl) (co_IndexFuncV N f hf) Try.func110 (by kernel_rfl) (by kernel_rfl) (lo_IndexFuncV N f) rfl rfl rfl rfl (rf := r_IndexFuncV (fun r0' z'0 => if z'0 = y0 then some r0' else none)) (r := r0) ?_ ?_
  · exact (C_IndexFuncV_ok N f x0 y0 _).trans ((congrArg (fun K => C_IndexFuncV N f x0 y0 K) (funext fun r0' => if_pos rfl)).trans h)
  · intro rs' m' hx
    unfold r_IndexFuncV at hx
    split at hx
    · dsimp only at hx
      split at hx
      · rename_i hk
        subst hk
        cases hx; exact ⟨rfl, rfl, _, rfl⟩
      · cases hx
    · cases hx
noncomputable def e_ContainsFuncV {R : Type} (s : List V → Int → Option (Bool)) (dst : Nat) (ds : List D) (m : Mem) (K : List D → Mem → Option R) : Option R :=
  match ds with
  | [.v (.sl 62 x0) .no, .clos 89 [.ptr (kv0 + 1) sv0 0]] => viewK [(kv0, sv0)] m fun Bs => (match Bs with
    | [⟨3, [.v (.int .i64 y0) .no]⟩] => bnd1 (s x0 y0) fun r0 => putAllK [(kv0, sv0)] [⟨3, [.v (.int .i64 y0) .no]⟩] m fun m' => K [.v (.bool r0) .no] m'
    | _ => none)
  | _ => none
noncomputable def r_ContainsFuncV {α : Type} (K : Bool → Int → Option α) (rs : List D) (m : Mem) : Option α :=
  match rs, m with
  | [.v (.bool r0) _], [_, [(0, ⟨3, [.v (.int .i64 z0) .no]⟩)]] => K r0 z0
  | _, _ => none
noncomputable def C_ContainsFuncV {R : Type} (N : Nat) (f : List V → Int → Option (Bool)) (x0 : List V) (y0 : Int) (K0 : Bool → Option R) : Option R :=
  bnd1 (s_IndexFuncV N f x0 y0) fun n0 => K0 (decide (0 ≤ n0))
noncomputable def s_ContainsFuncV (N : Nat) (f : List V → Int → Option (Bool)) (x0 : List V) (y0 : Int) : Option (Bool) :=
  C_ContainsFuncV N f x0 y0 (fun r0 => some r0)
noncomputable def cx_ContainsFuncV (N : Nat) (f : List V → Int → Option (Bool)) : Cx := { T := T, isPure := tabP [], pureK := fun g ds K => tabK [] g ds K, memK := fun g dst ds m K => tabMK [⟨110, e_IndexFuncV (s_IndexFuncV N f)⟩] g dst ds m K, meth := tabM [], keep := fun _ => [], keepX := fun _ => [], loopT := fun _ _ _ _ => none, jumps := 9 }
theorem C_ContainsFuncV_ok {R : Type} (N : Nat) (f : List V → Int → Option (Bool)) (x0 : List V) (y0 : Int) (K : Bool → Int → Option R) : bodyK (cx_ContainsFuncV N f) Try.f88 [.v (.sl 62 x0) .no, .clos 89 [.ptr 1 0 0]] [frOf 0 [⟨3, [.v (.int .i64 y0) .no]⟩]] (r_ContainsFuncV K) = C_ContainsFuncV N f x0 y0 (fun r0 => K r0 y0) := by
  kernel_rfl
theorem go_ContainsFuncV : Goes Try.prog 88 := goes_of Try.func88 (by kernel_rfl) (c := bodyOf Try.f88) (by kernel_rfl)
theorem eo_ContainsFuncV (s : List V → Int → Option (Bool)) (hs : ∀ (x0 : List V) (y0 : Int) (r0 : Bool), s x0 y0 = some r0 → ViewRet Try.prog T 88 [.v (.sl 62 x0) .no, .clos 89 [.ptr 1 0 0]] [⟨3, [.v (.int .i64 y0) .no]⟩] [.v (.bool r0) .no] [⟨3, [.v (.int .i64 y0) .no]⟩]) : MEntOK Try.prog T ⟨88, e_ContainsFuncV s⟩ := by
  refine ⟨go_ContainsFuncV, fun R dst ds m K r h => ?_⟩
  simp only [e_ContainsFuncV] at h
  split at h
  · obtain ⟨Bs, a1, a2, a3, h⟩ := viewK_some h
    split at h
    · obtain ⟨r0, h1, h2⟩ := bnd1_some h
      rw [putAllK_eq] at h2
      exact ⟨_, _, h2, hs _ _ _ h1 _ _ m dst a1 a2 a3 ⟨aren_v _, aren_clos ⟨aren_ptr _ rfl, trivial⟩, trivial⟩⟩
    · cases h
  · cases h
theorem co_ContainsFuncV (N : Nat) (f : List V → Int → Option (Bool)) (hf : ∀ (x0 : List V) (x1 : Int) (r0 : Bool), f x0 x1 = some r0 → PureRet Try.prog T 63 [.v (.sl 62 x0) .no, .v (.int .i64 x1) .no] [.v (.bool r0) .no]) : CxOK Try.prog (cx_ContainsFuncV N f) :=
  cxOK_of2 (es := []) (me := [⟨110, e_IndexFuncV (s_IndexFuncV N f)⟩]) (ms := []) T_ok trivial ⟨eo_IndexFuncV _ (p_IndexFuncV N f hf), trivial⟩ trivial rfl (fun _ _ _ _ => rfl) (fun _ _ _ _ _ _ => rfl) rfl
theorem lo_ContainsFuncV (N : Nat) (f : List V → Int → Option (Bool)) : LoopsOK (cx_ContainsFuncV N f) Try.f88.ntmps (bodyOf Try.f88) :=
  loopsOK_of (k := 0) (by kernel_rfl) trivial
open Classical in
theorem p_ContainsFuncV (N : Nat) (f : List V → Int → Option (Bool)) (hf : ∀ (x0 : List V) (x1 : Int) (r0 : Bool), f x0 x1 = some r0 → PureRet Try.prog T 63 [.v (.sl 62 x0) .no, .v (.int .i64 x1) .no] [.v (.bool r0) .no]) (x0 : List V) (y0 : Int) (r0 : Bool) (h : s_ContainsFuncV N f x0 y0 = some r0) : ViewRet Try.prog T 88 [.v (.sl 62 x0) .no, .clos 89 [.ptr 1 0 0]] [⟨3, [.v (.int .i64 y0) .no]⟩] [.v (.bool r0) .no] [⟨3, [.v (.int .i64 y0) .no]⟩] := by
  refine view_of (Bs := [⟨3, [.v (.int .i64 y0) .no]⟩]) (Bs' := [⟨3, [.v (.int .i64 y0) .no]⟩]) (cx := cx_ContainsFuncV N f) (by kernel_rfl) (co_ContainsFuncV N f hf) Try.func88 (by kernel_rfl) (by kernel_rfl) (lo_ContainsFuncV N f) rfl rfl rfl rfl (rf := r_ContainsFuncV (fun r0' z'0 => if z'0 = y0 then some r0' else none)) (r := r0) ?_ ?_
  · exact (C_ContainsFuncV_ok N f x0 y0 _).trans ((congrArg (fun K => C_ContainsFuncV N f x0 y0 K) (funext fun r0' => if_pos rfl)).trans h)
  · intro rs' m' hx
    unfold r_ContainsFuncV at hx
    split at hx
    · dsimp only at hx
      split at hx
      · rename_i hk
        subst hk
        cases hx; exact ⟨rfl, rfl, _, rfl⟩
      · cases hx
    · cases hx
noncomputable def r_valid (rs : List D) (_ : Mem) : Option (Bool) :=
  match rs with
  | [.v (.bool r0) _] => some (r0)
  | _ => none
noncomputable def B_valid (N : Nat) (f : List V → Int → Option (Bool)) (x0 : List V) (x1 : Int) : Option (Bool) :=
  bnd1 (s_ContainsFuncV N f x0 x1) fun b0 => some !b0
noncomputable def s_valid (N : Nat) : Nat → List V → Int → Option (Bool)
  | 0, _, _ => none
  | n + 1, x0, x1 => B_valid N (s_valid N n) x0 x1
noncomputable def cx_valid (N : Nat) (f : List V → Int → Option (Bool)) : Cx := { T := T, isPure := tabP [⟨63, e_valid f⟩], pureK := fun g ds K => tabK [⟨63, e_valid f⟩] g ds K, memK := fun g dst ds m K => tabMK [⟨88, e_ContainsFuncV (s_ContainsFuncV N f)⟩, ⟨89, e_valid1 (s_valid1 N f)⟩] g dst ds m K, meth := tabM [], keep := fun _ => [], keepX := fun _ => [], loopT := fun _ _ _ _ => none, jumps := 9 }
theorem B_valid_ok (N : Nat) (f : List V → Int → Option (Bool)) (x0 : List V) (x1 : Int) : bodyK (cx_valid N f) Try.f63 [.v (.sl 62 x0) .no, .v (.int .i64 x1) .no] [] r_valid = B_valid N f x0 x1 := by
  kernel_rfl
theorem co_valid (N : Nat) (f : List V → Int → Option (Bool)) (hf : ∀ (x0 : List V) (x1 : Int) (r0 : Bool), f x0 x1 = some r0 → PureRet Try.prog T 63 [.v (.sl 62 x0) .no, .v (.int .i64 x1) .no] [.v (.bool r0) .no]) : CxOK Try.prog (cx_valid N f) :=
  cxOK_of2 (es := [⟨63, e_valid f⟩]) (me := [⟨88, e_ContainsFuncV (s_ContainsFuncV N f)⟩, ⟨89, e_valid1 (s_valid1 N f)⟩]) (ms := []) T_ok ⟨eo_valid f hf, trivial⟩ ⟨eo_ContainsFuncV _ (p_ContainsFuncV N f hf), eo_valid1 _ (p_valid1 N f hf), trivial⟩ trivial rfl (fun _ _ _ _ => rfl) (fun _ _ _ _ _ _ => rfl) rfl
theorem lo_valid (N : Nat) (f : List V → Int → Option (Bool)) : LoopsOK (cx_valid N f) Try.f63.ntmps (bodyOf Try.f63) :=
  loopsOK_of (k := 0) (by kernel_rfl) trivial
theorem p_valid (N : Nat) : ∀ (M : Nat) (x0 : List V) (x1 : Int) (r0 : Bool), s_valid N M x0 x1 = some r0 → PureRet Try.prog T 63 [.v (.sl 62 x0) .no, .v (.int .i64 x1) .no] [.v (.bool r0) .no]
  | 0, _, _, _, h => by cases h
  | M + 1, x0, x1, r0, h => pure_of (cx := cx_valid N (s_valid N M)) (by kernel_rfl) (co_valid N (s_valid N M) (p_valid N M)) Try.func63 (by kernel_rfl) (by kernel_rfl) (lo_valid N (s_valid N M)) rfl rfl rfl (rf := r_valid) ((B_valid_ok N (s_valid N M) x0 x1).trans h) (fun rs' m h => by
    unfold r_valid at h
    split at h
    · cases h; exact ⟨rfl, rfl⟩
    · cases h)
noncomputable def e_size {R : Type} (s : List V → Option (Int)) (ds : List D) (K : List D → Option R) : Option R :=
  match ds with
  | [.v (.sl 62 x0) .no] => bnd1 (s x0) fun r0 => K [.v (.int .i64 r0) .no]
  | _ => none
noncomputable def r_size (rs : List D) (_ : Mem) : Option (Int) :=
  match rs with
  | [.v (.int .i64 r0) _] => some (r0)
  | _ => none
noncomputable def F_size_3 {R : Type} (N : Nat) (f : List V → Option (Int)) (vs1 : List V) (n2 : Int) (Lq : Int → Int → Option R) (K0 : Int → Option R) (n0 : Int) (n3 : Int) : Option R :=
  br (decide (n3 < n2))
  (br (decide (0 ≤ n3) && decide (n3 < (↑vs1.length : Int)))
    (at? vs1 n3.toNat fun x0 =>
      x0.unAgg fun l1 =>
        unCons l1 fun x2 l3 =>
          V.unInt IntKind.i64 x2 fun n4 =>
            unCons l3 fun x5 l6 =>
              x5.unBytes fun l7 =>
                unCons l6 fun x8 l9 =>
                  V.unSl 62 x8 fun l10 =>
                    unNil l9
                      (bnd1 (f l10) fun n11 =>
                        bnd1 (s_tagBytes N n4) fun l12 =>
                          bnd1 (s_lengthBytes N (IntKind.i64.wrap ((↑l7.length : Int) + n11))) fun l13 =>
                            br (decide (4096 < IntKind.i64.wrap (n0 + IntKind.i64.wrap (IntKind.i64.wrap ((↑l12.length : Int) + (↑l13.length : Int)) + IntKind.i64.wrap ((↑l7.length : Int) + n11)))))
                              (K0 (IntKind.i64.wrap (n0 + IntKind.i64.wrap (IntKind.i64.wrap ((↑l12.length : Int) + (↑l13.length : Int)) + IntKind.i64.wrap ((↑l7.length : Int) + n11)))))
                              (Lq (IntKind.i64.wrap (n0 + IntKind.i64.wrap (IntKind.i64.wrap ((↑l12.length : Int) + (↑l13.length : Int)) + IntKind.i64.wrap ((↑l7.length : Int) + n11)))) (IntKind.i64.wrap (n3 + 1)))))
    none)
  (K0 n0)
noncomputable def S_size_3 {R : Type} (N : Nat) (f : List V → Option (Int)) (vs1 : List V) (n2 : Int) : Nat → Int → Int → (Int → Option R) → Option R
  | 0, _, _, _ => none
  | t + 1, n0, n3, K0 => F_size_3 N f vs1 n2 (fun n0 n3 => S_size_3 N f vs1 n2 t n0 n3 K0) K0 n0 n3
noncomputable def l_size_3 {R : Type} (N : Nat) (f : List V → Option (Int)) (ds : List D) (m : Mem) (K : Ex → List D → Mem → Option R) : Option R :=
  match ds, m with
  | [(.v (.int .i64 n0) .no), (.v (.sl 62 vs1) .no), (.v (.int .i64 n2) .no), (.v (.int .i64 n3) .no)], [[]] => S_size_3 N f vs1 n2 N n0 n3 (fun a0 => K (.exit 0) [(.v (.int .i64 a0) .no)] [[]])
  | _, _ => none
noncomputable def B_size (N : Nat) (f : List V → Option (Int)) (x0 : List V) : Option (Int) :=
  S_size_3 N f x0 (↑x0.length : Int) N 0 0 fun n0 => some n0
noncomputable def s_size (N : Nat) : Nat → List V → Option (Int)
  | 0, _ => none
  | n + 1, x0 => B_size N (s_size N n) x0
noncomputable def cx_size (N : Nat) (f : List V → Option (Int)) : Cx := { T := T, isPure := tabP [⟨64, e_size f⟩, ⟨92, e_tagBytes (s_tagBytes N)⟩, ⟨93, e_lengthBytes (s_lengthBytes N)⟩], pureK := fun g ds K => tabK [⟨64, e_size f⟩, ⟨92, e_tagBytes (s_tagBytes N)⟩, ⟨93, e_lengthBytes (s_lengthBytes N)⟩] g ds K, memK := fun g dst ds m K => tabMK [] g dst ds m K, meth := tabM [], keep := fun r => match r with | 3 => [3, 7, 8, 9] | _ => [], keepX := fun r => match r with | 3 => [3] | _ => [], loopT := fun r ds m K => match r with | 3 => l_size_3 N f ds m K | _ => none, jumps := 9 }
theorem F_size_3_ok {R : Type} (N : Nat) (f : List V → Option (Int)) (vs1 : List V) (n2 : Int) (n0 : Int) (n3 : Int) (L : List D → Mem → Option R) (K : Ex → List D → Mem → Option R) :
    roundK (fun st K => codeK (cx_size N f) (loopN Try.f64 0) st K) 36 [3, 7, 8, 9] [3] L [(.v (.int .i64 n0) .no), (.v (.sl 62 vs1) .no), (.v (.int .i64 n2) .no), (.v (.int .i64 n3) .no)] [[]] K = F_size_3 N f vs1 n2 (fun n0 n3 => L [(.v (.int .i64 n0) .no), (.v (.sl 62 vs1) .no), (.v (.int .i64 n2) .no), (.v (.int .i64 n3) .no)] [[]]) (fun a0 => K (.exit 0) [(.v (.int .i64 a0) .no)] [[]]) n0 n3 := by
  kernel_rfl
theorem S_size_3_ok {R : Type} (N : Nat) (f : List V → Option (Int)) (vs1 : List V) (n2 : Int) (K : Ex → List D → Mem → Option R) : ∀ (t : Nat) (n0 : Int) (n3 : Int),
    loopK (fun st K => codeK (cx_size N f) (loopN Try.f64 0) st K) 36 [3, 7, 8, 9] [3] t [(.v (.int .i64 n0) .no), (.v (.sl 62 vs1) .no), (.v (.int .i64 n2) .no), (.v (.int .i64 n3) .no)] [[]] K = S_size_3 N f vs1 n2 t n0 n3 (fun a0 => K (.exit 0) [(.v (.int .i64 a0) .no)] [[]])
  | 0, n0, n3 => rfl
  | t + 1, n0, n3 => (F_size_3_ok N f vs1 n2 n0 n3 _ K).trans (congrArg (fun L => F_size_3 N f vs1 n2 L (fun a0 => K (.exit 0) [(.v (.int .i64 a0) .no)] [[]]) n0 n3) (funext fun n0 => funext fun n3 => S_size_3_ok N f vs1 n2 K t n0 n3))
theorem B_size_ok (N : Nat) (f : List V → Option (Int)) (x0 : List V) : bodyK (cx_size N f) Try.f64 [.v (.sl 62 x0) .no] [] r_size = B_size N f x0 := by
  kernel_rfl
theorem go_size : Goes Try.prog 64 := goes_of Try.func64 (by kernel_rfl) (c := bodyOf Try.f64) (by kernel_rfl)
theorem eo_size (s : List V → Option (Int)) (hs : ∀ (x0 : List V) (r0 : Int), s x0 = some r0 → PureRet Try.prog T 64 [.v (.sl 62 x0) .no] [.v (.int .i64 r0) .no]) : EntOK Try.prog T ⟨64, e_size s⟩ := by
  refine ⟨go_size, fun R ds K r h => ?_, fun R ds K => ?_⟩
  · simp only [e_size] at h
    split at h
    · obtain ⟨r0, h1, h2⟩ := bnd1_some h
      exact ⟨_, h2, hs _ _ h1⟩
    · cases h
  · simp only [e_size]
    split
    · rw [bnd1_b]; rfl
    · rfl
theorem co_size (N : Nat) (f : List V → Option (Int)) (hf : ∀ (x0 : List V) (r0 : Int), f x0 = some r0 → PureRet Try.prog T 64 [.v (.sl 62 x0) .no] [.v (.int .i64 r0) .no]) : CxOK Try.prog (cx_size N f) :=
  cxOK_of2 (es := [⟨64, e_size f⟩, ⟨92, e_tagBytes (s_tagBytes N)⟩, ⟨93, e_lengthBytes (s_lengthBytes N)⟩]) (me := []) (ms := []) T_ok ⟨eo_size f hf, eo_tagBytes _ (p_tagBytes N), eo_lengthBytes _ (p_lengthBytes N), trivial⟩ trivial trivial rfl (fun _ _ _ _ => rfl) (fun _ _ _ _ _ _ => rfl) rfl
theorem lk_size_3 (N : Nat) (f : List V → Option (Int)) : LoopOK (cx_size N f) 36 (loopN Try.f64 0) := by
  refine loopOK_of (rid := 3) (by kernel_rfl) rfl rfl fun R ds m K r h => ?_
  have h : l_size_3 N f ds m K = some r := h
  unfold l_size_3 at h
  split at h
  · exact ⟨N, Eq.trans (S_size_3_ok ..) h⟩
  · cases h
theorem lo_size (N : Nat) (f : List V → Option (Int)) : LoopsOK (cx_size N f) Try.f64.ntmps (bodyOf Try.f64) :=
  loopsOK_of (k := 1) (by kernel_rfl) ⟨trivial, lk_size_3 N f⟩
theorem p_size (N : Nat) : ∀ (M : Nat) (x0 : List V) (r0 : Int), s_size N M x0 = some r0 → PureRet Try.prog T 64 [.v (.sl 62 x0) .no] [.v (.int .i64 r0) .no]
  | 0, _, _, h => by cases h
  | M + 1, x0, r0, h => pure_of (cx := cx_size N (s_size N M)) (by kernel_rfl) (co_size N (s_size N M) (p_size N M)) Try.func64 (by kernel_rfl) (by kernel_rfl) (lo_size N (s_size N M)) rfl rfl rfl (rf := r_size) ((B_size_ok N (s_size N M) x0).trans h) (fun rs' m h => by
    unfold r_size at h
    split at h
    · cases h; exact ⟨rfl, rfl⟩
    · cases h)
noncomputable def e_rright {R : Type} (s : List V → Int → Option (Bool)) (ds : List D) (K : List D → Option R) : Option R :=
  match ds with
  | [.v (.sl 62 x0) .no, .v (.int .i64 x1) .no] => bnd1 (s x0 x1) fun r0 => K [.v (.bool r0) .no]
  | _ => none
noncomputable def r_rright (rs : List D) (_ : Mem) : Option (Bool) :=
  match rs with
  | [.v (.bool r0) _] => some (r0)
  | _ => none
noncomputable def F_rright_2 {R : Type} (N : Nat) (f : List V → Int → Option (Bool)) (vs0 : List V) (n1 : Int) (Lq : Int → Option R) (K0 : Bool → Option R) (K1 : Option R) (n2 : Int) : Option R :=
  br (decide (n2 < (↑vs0.length : Int)))
  (br (decide (0 ≤ n2) && decide (n2 < (↑vs0.length : Int)))
    (at? vs0 n2.toNat fun x0 =>
      x0.unAgg fun l1 =>
        unCons l1 fun x2 l3 =>
          V.unInt IntKind.i64 x2 fun n4 =>
            unCons l3 fun x5 l6 =>
              x5.unBytes fun l7 =>
                unCons l6 fun x8 l9 =>
                  V.unSl 62 x8 fun l10 =>
                    unNil l9
                      (br (decide (8 < n1)) (K0 false)
                        (bnd1 (s_rValid N n4) fun b11 =>
                          br (!b11) (K0 false)
                            (bnd1 (s_rConstructed N n4) fun b12 =>
                              br b12 (br (decide (0 < (↑l7.length : Int))) (K0 false) (bnd1 (f l10 (IntKind.i64.wrap (n1 + 1))) fun b13 => br (!b13) (K0 false) (Lq (IntKind.i64.wrap (n2 + 1)))))
                                (br (decide (0 < (↑l10.length : Int))) (K0 false) (Lq (IntKind.i64.wrap (n2 + 1))))))))
    none)
  K1
noncomputable def S_rright_2 {R : Type} (N : Nat) (f : List V → Int → Option (Bool)) (vs0 : List V) (n1 : Int) : Nat → Int → (Bool → Option R) → (Option R) → Option R
  | 0, _, _, _ => none
  | t + 1, n2, K0, K1 => F_rright_2 N f vs0 n1 (fun n2 => S_rright_2 N f vs0 n1 t n2 K0 K1) K0 K1 n2
noncomputable def l_rright_2 {R : Type} (N : Nat) (f : List V → Int → Option (Bool)) (ds : List D) (m : Mem) (K : Ex → List D → Mem → Option R) : Option R :=
  match ds, m with
  | [(.v (.sl 62 vs0) .no), (.v (.int .i64 n1) .no), (.v (.int .i64 n2) .no)], [[]] => S_rright_2 N f vs0 n1 N n2 (fun a0 => K .ret [(.v (.bool a0) .no)] [[]]) (K (.exit 0) [.any] [[]])
  | _, _ => none
noncomputable def B_rright (N : Nat) (f : List V → Int → Option (Bool)) (x0 : List V) (x1 : Int) : Option (Bool) :=
  S_rright_2 N f x0 x1 N 0 (fun b0 => some b0) (some true)
noncomputable def s_rright (N : Nat) : Nat → List V → Int → Option (Bool)
  | 0, _, _ => none
  | n + 1, x0, x1 => B_rright N (s_rright N n) x0 x1
noncomputable def cx_rright (N : Nat) (f : List V → Int → Option (Bool)) : Cx := { T := T, isPure := tabP [⟨95, e_rright f⟩, ⟨112, e_rValid (s_rValid N)⟩, ⟨96, e_rConstructed (s_rConstructed N)⟩], pureK := fun g ds K => tabK [⟨95, e_rright f⟩, ⟨112, e_rValid (s_rValid N)⟩, ⟨96, e_rConstructed (s_rConstructed N)⟩] g ds K, memK := fun g dst ds m K => tabMK [] g dst ds m K, meth := tabM [], keep := fun r => match r with | 2 => [0, 1, 5] | _ => [], keepX := fun r => match r with | 2 => [4] | _ => [], loopT := fun r ds m K => match r with | 2 => l_rright_2 N f ds m K | _ => none, jumps := 9 }
theorem F_rright_2_ok {R : Type} (N : Nat) (f : List V → Int → Option (Bool)) (vs0 : List V) (n1 : Int) (n2 : Int) (L : List D → Mem → Option R) (K : Ex → List D → Mem → Option R) :
    roundK (fun st K => codeK (cx_rright N f) (loopN Try.f95 0) st K) 44 [0, 1, 5] [4] L [(.v (.sl 62 vs0) .no), (.v (.int .i64 n1) .no), (.v (.int .i64 n2) .no)] [[]] K = F_rright_2 N f vs0 n1 (fun n2 => L [(.v (.sl 62 vs0) .no), (.v (.int .i64 n1) .no), (.v (.int .i64 n2) .no)] [[]]) (fun a0 => K .ret [(.v (.bool a0) .no)] [[]]) (K (.exit 0) [.any] [[]]) n2 := by
  kernel_rfl
theorem S_rright_2_ok {R : Type} (N : Nat) (f : List V → Int → Option (Bool)) (vs0 : List V) (n1 : Int) (K : Ex → List D → Mem → Option R) : ∀ (t : Nat) (n2 : Int),
    loopK (fun st K => codeK (cx_rright N f) (loopN Try.f95 0) st K) 44 [0, 1, 5] [4] t [(.v (.sl 62 vs0) .no), (.v (.int .i64 n1) .no), (.v (.int .i64 n2) .no)] [[]] K = S_rright_2 N f vs0 n1 t n2 (fun a0 => K .ret [(.v (.bool a0) .no)] [[]]) (K (.exit 0) [.any] [[]])
  | 0, n2 => rfl
  | t + 1, n2 => (F_rright_2_ok N f vs0 n1 n2 _ K).trans (congrArg (fun L => F_rright_2 N f vs0 n1 L (fun a0 => K .ret [(.v (.bool a0) .no)] [[]]) (K (.exit 0) [.any] [[]]) n2) (funext fun n2 => S_rright_2_ok N f vs0 n1 K t n2))
theorem B_rright_ok (N : Nat) (f : List V → Int → Option (Bool)) (x0 : List V) (x1 : Int) : bodyK (cx_rright N f) Try.f95 [.v (.sl 62 x0) .no, .v (.int .i64 x1) .no] [] r_rright = B_rright N f x0 x1 := by
  kernel_rfl
theorem go_rright : Goes Try.prog 95 := goes_of Try.func95 (by kernel_rfl) (c := bodyOf Try.f95) (by kernel_rfl)
theorem eo_rright (s : List V → Int → Option (Bool)) (hs : ∀ (x0 : List V) (x1 : Int) (r0 : Bool), s x0 x1 = some r0 → PureRet Try.prog T 95 [.v (.sl 62 x0) .no, .v (.int .i64 x1) .no] [.v (.bool r0) .no]) : EntOK Try.prog T ⟨95, e_rright s⟩ := by
  refine ⟨go_rright, fun R ds K r h => ?_, fun R ds K => ?_⟩
  · simp only [e_rright] at h
    split at h
    · obtain ⟨r0, h1, h2⟩ := bnd1_some h
      exact ⟨_, h2, hs _ _ _ h1⟩
    · cases h
  · simp only [e_rright]
    split
    · rw [bnd1_b]; rfl
    · rfl
theorem co_rright (N : Nat) (f : List V → Int → Option (Bool)) (hf : ∀ (x0 : List V) (x1 : Int) (r0 : Bool), f x0 x1 = some r0 → PureRet Try.prog T 95 [.v (.sl 62 x0) .no, .v (.int .i64 x1) .no] [.v (.bool r0) .no]) : CxOK Try.prog (cx_rright N f) :=
  cxOK_of2 (es := [⟨95, e_rright f⟩, ⟨112, e_rValid (s_rValid N)⟩, ⟨96, e_rConstructed (s_rConstructed N)⟩]) (me := []) (ms := []) T_ok ⟨eo_rright f hf, eo_rValid _ (p_rValid N), eo_rConstructed _ (p_rConstructed N), trivial⟩ trivial trivial rfl (fun _ _ _ _ => rfl) (fun _ _ _ _ _ _ => rfl) rfl
theorem lk_rright_2 (N : Nat) (f : List V → Int → Option (Bool)) : LoopOK (cx_rright N f) 44 (loopN Try.f95 0) := by
  refine loopOK_of (rid := 2) (by kernel_rfl) rfl rfl fun R ds m K r h => ?_
  have h : l_rright_2 N f ds m K = some r := h
  unfold l_rright_2 at h
  split at h
  · exact ⟨N, Eq.trans (S_rright_2_ok ..) h⟩
  · cases h
theorem lo_rright (N : Nat) (f : List V → Int → Option (Bool)) : LoopsOK (cx_rright N f) Try.f95.ntmps (bodyOf Try.f95) :=
  loopsOK_of (k := 1) (by kernel_rfl) ⟨trivial, lk_rright_2 N f⟩
theorem p_rright (N : Nat) : ∀ (M : Nat) (x0 : List V) (x1 : Int) (r0 : Bool), s_rright N M x0 x1 = some r0 → PureRet Try.prog T 95 [.v (.sl 62 x0) .no, .v (.int .i64 x1) .no] [.v (.bool r0) .no]
  | 0, _, _, _, h => by cases h
  | M + 1, x0, x1, r0, h => pure_of (cx := cx_rright N (s_rright N M)) (by kernel_rfl) (co_rright N (s_rright N M) (p_rright N M)) Try.func95 (by kernel_rfl) (by kernel_rfl) (lo_rright N (s_rright N M)) rfl rfl rfl (rf := r_rright) ((B_rright_ok N (s_rright N M) x0 x1).trans h) (fun rs' m h => by
    unfold r_rright at h
    split at h
    · cases h; exact ⟨rfl, rfl⟩
    · cases h)
noncomputable def e_rRight {R : Type} (s : List V → Option (Bool)) (ds : List D) (K : List D → Option R) : Option R :=
  match ds with
  | [.v (.sl 62 x0) .no] => bnd1 (s x0) fun r0 => K [.v (.bool r0) .no]
  | _ => none
noncomputable def r_rRight (rs : List D) (_ : Mem) : Option (Bool) :=
  match rs with
  | [.v (.bool r0) _] => some (r0)
  | _ => none
noncomputable def s_rRight (N : Nat) (x0 : List V) : Option (Bool) :=
  bnd1 (s_rright N N x0 1) fun b0 => some b0
noncomputable def cx_rRight (N : Nat) : Cx := { T := T, isPure := tabP [⟨95, e_rright (s_rright N N)⟩], pureK := fun g ds K => tabK [⟨95, e_rright (s_rright N N)⟩] g ds K, memK := fun g dst ds m K => tabMK [] g dst ds m K, meth := tabM [], keep := fun _ => [], keepX := fun _ => [], loopT := fun _ _ _ _ => none, jumps := 9 }
theorem s_rRight_ok (N : Nat) (x0 : List V) : bodyK (cx_rRight N) Try.f66 [.v (.sl 62 x0) .no] [] r_rRight = s_rRight N x0 := by
  kernel_rfl
theorem go_rRight : Goes Try.prog 66 := goes_of Try.func66 (by kernel_rfl) (c := bodyOf Try.f66) (by kernel_rfl)
theorem eo_rRight (s : List V → Option (Bool)) (hs : ∀ (x0 : List V) (r0 : Bool), s x0 = some r0 → PureRet Try.prog T 66 [.v (.sl 62 x0) .no] [.v (.bool r0) .no]) : EntOK Try.prog T ⟨66, e_rRight s⟩ := by
  refine ⟨go_rRight, fun R ds K r h => ?_, fun R ds K => ?_⟩
  · simp only [e_rRight] at h
    split at h
    · obtain ⟨r0, h1, h2⟩ := bnd1_some h
      exact ⟨_, h2, hs _ _ h1⟩
    · cases h
  · simp only [e_rRight]
    split
    · rw [bnd1_b]; rfl
    · rfl
theorem co_rRight (N : Nat) : CxOK Try.prog (cx_rRight N) :=
  cxOK_of2 (es := [⟨95, e_rright (s_rright N N)⟩]) (me := []) (ms := []) T_ok ⟨eo_rright _ (p_rright N N), trivial⟩ trivial trivial rfl (fun _ _ _ _ => rfl) (fun _ _ _ _ _ _ => rfl) rfl
theorem lo_rRight (N : Nat) : LoopsOK (cx_rRight N) Try.f66.ntmps (bodyOf Try.f66) :=
  loopsOK_of (k := 0) (by kernel_rfl) trivial
theorem p_rRight (N : Nat) (x0 : List V) (r0 : Bool) (h : s_rRight N x0 = some r0) : PureRet Try.prog T 66 [.v (.sl 62 x0) .no] [.v (.bool r0) .no] :=
  pure_of (cx := cx_rRight N) (by kernel_rfl) (co_rRight N) Try.func66 (by kernel_rfl) (by kernel_rfl) (lo_rRight N) rfl rfl rfl (rf := r_rRight) ((s_rRight_ok N x0).trans h) (fun rs' m h => by
    unfold r_rRight at h
    split at h
    · cases h; exact ⟨rfl, rfl⟩
    · cases h)
noncomputable def e_rhead {R : Type} (s : Int → Int → Option (List UInt8)) (ds : List D) (K : List D → Option R) : Option R :=
  match ds with
  | [.v (.int .i64 x0) .no, .v (.int .i64 x1) .no] => bnd1 (s x0 x1) fun r0 => K [.v (.bytes r0) .no]
  | _ => none
noncomputable def r_rhead (rs : List D) (_ : Mem) : Option (List UInt8) :=
  match rs with
  | [.v (.bytes r0) _] => some (r0)
  | _ => none
noncomputable def s_rhead (N : Nat) (x0 : Int) (x1 : Int) : Option (List UInt8) :=
  br (decide (255 < x0))
  (br (decide (256 ≤ x1))
    (some
      [UInt8.ofNat (IntKind.u8.wrap (IntKind.i64.wrap (x0.tdiv 256))).toNat, UInt8.ofNat (IntKind.u8.wrap (x0.tmod 256)).toNat, UInt8.ofNat (Int.toNat 130), UInt8.ofNat (IntKind.u8.wrap (IntKind.i64.wrap (x1.tdiv 256))).toNat,
        UInt8.ofNat (IntKind.u8.wrap (x1.tmod 256)).toNat])
    (br (decide (128 ≤ x1)) (some [UInt8.ofNat (IntKind.u8.wrap (IntKind.i64.wrap (x0.tdiv 256))).toNat, UInt8.ofNat (IntKind.u8.wrap (x0.tmod 256)).toNat, UInt8.ofNat (Int.toNat 129), UInt8.ofNat (IntKind.u8.wrap x1).toNat])
      (some [UInt8.ofNat (IntKind.u8.wrap (IntKind.i64.wrap (x0.tdiv 256))).toNat, UInt8.ofNat (IntKind.u8.wrap (x0.tmod 256)).toNat, UInt8.ofNat (IntKind.u8.wrap x1).toNat])))
  (br (decide (256 ≤ x1)) (some [UInt8.ofNat (IntKind.u8.wrap (x0.tmod 256)).toNat, UInt8.ofNat (Int.toNat 130), UInt8.ofNat (IntKind.u8.wrap (IntKind.i64.wrap (x1.tdiv 256))).toNat, UInt8.ofNat (IntKind.u8.wrap (x1.tmod 256)).toNat])
    (br (decide (128 ≤ x1)) (some [UInt8.ofNat (IntKind.u8.wrap (x0.tmod 256)).toNat, UInt8.ofNat (Int.toNat 129), UInt8.ofNat (IntKind.u8.wrap x1).toNat])
      (some [UInt8.ofNat (IntKind.u8.wrap (x0.tmod 256)).toNat, UInt8.ofNat (IntKind.u8.wrap x1).toNat])))
noncomputable def cx_rhead (N : Nat) : Cx := { T := T, isPure := tabP [], pureK := fun g ds K => tabK [] g ds K, memK := fun g dst ds m K => tabMK [] g dst ds m K, meth := tabM [], keep := fun _ => [], keepX := fun _ => [], loopT := fun _ _ _ _ => none, jumps := 9 }
theorem s_rhead_ok (N : Nat) (x0 : Int) (x1 : Int) : bodyK (cx_rhead N) Try.f97 [.v (.int .i64 x0) .no, .v (.int .i64 x1) .no] [] r_rhead = s_rhead N x0 x1 := by
  kernel_rfl
theorem go_rhead : Goes Try.prog 97 := goes_of Try.func97 (by kernel_rfl) (c := bodyOf Try.f97) (by kernel_rfl)
theorem eo_rhead (s : Int → Int → Option (List UInt8)) (hs : ∀ (x0 : Int) (x1 : Int) (r0 : List UInt8), s x0 x1 = some r0 → PureRet Try.prog T 97 [.v (.int .i64 x0) .no, .v (.int .i64 x1) .no] [.v (.bytes r0) .no]) : EntOK Try.prog T ⟨97, e_rhead s⟩ := by
  refine ⟨go_rhead, fun R ds K r h => ?_, fun R ds K => ?_⟩
  · simp only [e_rhead] at h
    split at h
    · obtain ⟨r0, h1, h2⟩ := bnd1_some h
      exact ⟨_, h2, hs _ _ _ h1⟩
    · cases h
  · simp only [e_rhead]
    split
    · rw [bnd1_b]; rfl
    · rfl
theorem co_rhead (N : Nat) : CxOK Try.prog (cx_rhead N) :=
  cxOK_of2 (es := []) (me := []) (ms := []) T_ok trivial trivial trivial rfl (fun _ _ _ _ => rfl) (fun _ _ _ _ _ _ => rfl) rfl
theorem lo_rhead (N : Nat) : LoopsOK (cx_rhead N) Try.f97.ntmps (bodyOf Try.f97) :=
  loopsOK_of (k := 0) (by kernel_rfl) trivial
theorem p_rhead (N : Nat) (x0 : Int) (x1 : Int) (r0 : List UInt8) (h : s_rhead N x0 x1 = some r0) : PureRet Try.prog T 97 [.v (.int .i64 x0) .no, .v (.int .i64 x1) .no] [.v (.bytes r0) .no] :=
  pure_of (cx := cx_rhead N) (by kernel_rfl) (co_rhead N) Try.func97 (by kernel_rfl) (by kernel_rfl) (lo_rhead N) rfl rfl rfl (rf := r_rhead) ((s_rhead_ok N x0 x1).trans h) (fun rs' m h => by
    unfold r_rhead at h
    split at h
    · cases h; exact ⟨rfl, rfl⟩
    · cases h)
noncomputable def e_rall {R : Type} (s : List V → Option (List UInt8 × Bool)) (ds : List D) (K : List D → Option R) : Option R :=
  match ds with
  | [.v (.sl 62 x0) .no] => bnd2 (s x0) fun r0 r1 => K [.v (.bytes r0) .no, .v (.bool r1) .no]
  | _ => none
noncomputable def r_rall (rs : List D) (_ : Mem) : Option (List UInt8 × Bool) :=
  match rs with
  | [.v (.bytes r0) _, .v (.bool r1) _] => some (r0, r1)
  | _ => none
noncomputable def F_rall_3 {R : Type} (N : Nat) (f : List V → Option (List UInt8 × Bool)) (vs0 : List V) (Lq : List UInt8 → Int → Option R) (K0 : List UInt8 → Bool → List UInt8 → Option R) (K1 : List UInt8 → Option R) (l1 : List UInt8) (n2 : Int) : Option R :=
  br (decide (n2 < (↑vs0.length : Int)))
  (br (decide (0 ≤ n2) && decide (n2 < (↑vs0.length : Int)))
    (at? vs0 n2.toNat fun x0 =>
      x0.unAgg fun l1_1 =>
        unCons l1_1 fun x2 l3 =>
          V.unInt IntKind.i64 x2 fun n4 =>
            unCons l3 fun x5 l6 =>
              x5.unBytes fun l7 =>
                unCons l6 fun x8 l9 =>
                  V.unSl 62 x8 fun l10 =>
                    unNil l9
                      (br (decide (0 ≤ n2) && decide (n2 < (↑vs0.length : Int)))
                        (at? vs0 n2.toNat fun x11 =>
                          x11.unAgg fun l12 =>
                            unCons l12 fun x13 l14 =>
                              V.unInt IntKind.i64 x13 fun n15 =>
                                unCons l14 fun x16 l17 =>
                                  x16.unBytes fun l18 =>
                                    unCons l17 fun x19 l20 =>
                                      V.unSl 62 x19 fun l21 =>
                                        unNil l20
                                          (bnd1 (s_rConstructed N n15) fun b22 =>
                                            br b22
                                              (br (decide (0 ≤ n2) && decide (n2 < (↑vs0.length : Int)))
                                                (at? vs0 n2.toNat fun x23 =>
                                                  x23.unAgg fun l24 =>
                                                    unCons l24 fun x25 l26 =>
                                                      V.unInt IntKind.i64 x25 fun n27 =>
                                                        unCons l26 fun x28 l29 =>
                                                          x28.unBytes fun l30 =>
                                                            unCons l29 fun x31 l32 =>
                                                              V.unSl 62 x31 fun l33 =>
                                                                unNil l32
                                                                  (bnd2 (f l33) fun l34 b35 =>
                                                                    br (!b35) (K0 [] false l1)
                                                                      (br (decide (4096 < (↑l34.length : Int))) (K0 [] false l1)
                                                                        (br (decide (0 ≤ n2) && decide (n2 < (↑vs0.length : Int)))
                                                                          (at? vs0 n2.toNat fun x36 =>
                                                                            x36.unAgg fun l37 =>
                                                                              unCons l37 fun x38 l39 =>
                                                                                V.unInt IntKind.i64 x38 fun n40 =>
                                                                                  unCons l39 fun x41 l42 =>
                                                                                    x41.unBytes fun l43 =>
                                                                                      unCons l42 fun x44 l45 =>
                                                                                        V.unSl 62 x44 fun l46 =>
                                                                                          unNil l45
                                                                                            (bnd1 (s_rhead N n40 (↑l34.length : Int)) fun l47 =>
                                                                                              br (decide ((l1.length + l47.length) * 1 ≤ 140737488355328))
                                                                                                (br (decide (((l1 ++ l47).length + l34.length) * 1 ≤ 140737488355328))
                                                                                                  (br (decide (4096 < (↑(l1 ++ l47 ++ l34).length : Int))) (K0 [] false (l1 ++ l47 ++ l34)) (Lq (l1 ++ l47 ++ l34) (IntKind.i64.wrap (n2 + 1))))
                                                                                                  none)
                                                                                                none))
                                                                          none))))
                                                none)
                                              (br (decide (4096 < (↑l7.length : Int))) (K0 [] false l1)
                                                (br (decide (0 ≤ n2) && decide (n2 < (↑vs0.length : Int)))
                                                  (at? vs0 n2.toNat fun x48 =>
                                                    x48.unAgg fun l49 =>
                                                      unCons l49 fun x50 l51 =>
                                                        V.unInt IntKind.i64 x50 fun n52 =>
                                                          unCons l51 fun x53 l54 =>
                                                            x53.unBytes fun l55 =>
                                                              unCons l54 fun x56 l57 =>
                                                                V.unSl 62 x56 fun l58 =>
                                                                  unNil l57
                                                                    (bnd1 (s_rhead N n52 (↑l7.length : Int)) fun l59 =>
                                                                      br (decide ((l1.length + l59.length) * 1 ≤ 140737488355328))
                                                                        (br (decide (((l1 ++ l59).length + l7.length) * 1 ≤ 140737488355328))
                                                                          (br (decide (4096 < (↑(l1 ++ l59 ++ l7).length : Int))) (K0 [] false (l1 ++ l59 ++ l7)) (Lq (l1 ++ l59 ++ l7) (IntKind.i64.wrap (n2 + 1)))) none)
                                                                        none))
                                                  none))))
                        none))
    none)
  (K1 l1)
noncomputable def S_rall_3 {R : Type} (N : Nat) (f : List V → Option (List UInt8 × Bool)) (vs0 : List V) : Nat → List UInt8 → Int → (List UInt8 → Bool → List UInt8 → Option R) → (List UInt8 → Option R) → Option R
  | 0, _, _, _, _ => none
  | t + 1, l1, n2, K0, K1 => F_rall_3 N f vs0 (fun l1 n2 => S_rall_3 N f vs0 t l1 n2 K0 K1) K0 K1 l1 n2
noncomputable def l_rall_3 {R : Type} (N : Nat) (f : List V → Option (List UInt8 × Bool)) (ds : List D) (m : Mem) (K : Ex → List D → Mem → Option R) : Option R :=
  match ds, m with
  | [(.v (.sl 62 vs0) .no), (.v (.bytes l1) (.own (.slot 4) 5)), (.v (.int .i64 n2) .no)], [[]] => S_rall_3 N f vs0 N l1 n2 (fun a0 a1 a2 => K .ret [(.v (.bytes a0) (.own (.slot 2) 5)), (.v (.bool a1) .no), (.v (.bytes a2) (.own (.slot 4) 5))] [[]]) (fun a0 => K (.exit 0) [.any, .any, (.v (.bytes a0) (.own (.slot 4) 5))] [[]])
  | _, _ => none
noncomputable def B_rall (N : Nat) (f : List V → Option (List UInt8 × Bool)) (x0 : List V) : Option (List UInt8 × Bool) :=
  S_rall_3 N f x0 N [] 0 (fun l0 b1 l2 => some (l0, b1)) fun l3 => some (l3, true)
noncomputable def s_rall (N : Nat) : Nat → List V → Option (List UInt8 × Bool)
  | 0, _ => none
  | n + 1, x0 => B_rall N (s_rall N n) x0
noncomputable def cx_rall (N : Nat) (f : List V → Option (List UInt8 × Bool)) : Cx := { T := T, isPure := tabP [⟨67, e_rall f⟩, ⟨96, e_rConstructed (s_rConstructed N)⟩, ⟨97, e_rhead (s_rhead N)⟩], pureK := fun g ds K => tabK [⟨67, e_rall f⟩, ⟨96, e_rConstructed (s_rConstructed N)⟩, ⟨97, e_rhead (s_rhead N)⟩] g ds K, memK := fun g dst ds m K => tabMK [] g dst ds m K, meth := tabM [], keep := fun r => match r with | 3 => [0, 4, 5] | _ => [], keepX := fun r => match r with | 3 => [2, 3, 4] | _ => [], loopT := fun r ds m K => match r with | 3 => l_rall_3 N f ds m K | _ => none, jumps := 9 }
theorem F_rall_3_ok {R : Type} (N : Nat) (f : List V → Option (List UInt8 × Bool)) (vs0 : List V) (l1 : List UInt8) (n2 : Int) (L : List D → Mem → Option R) (K : Ex → List D → Mem → Option R) :
    roundK (fun st K => codeK (cx_rall N f) (loopN Try.f67 0) st K) 58 [0, 4, 5] [2, 3, 4] L [(.v (.sl 62 vs0) .no), (.v (.bytes l1) (.own (.slot 4) 5)), (.v (.int .i64 n2) .no)] [[]] K = F_rall_3 N f vs0 (fun l1 n2 => L [(.v (.sl 62 vs0) .no), (.v (.bytes l1) (.own (.slot 4) 5)), (.v (.int .i64 n2) .no)] [[]]) (fun a0 a1 a2 => K .ret [(.v (.bytes a0) (.own (.slot 2) 5)), (.v (.bool a1) .no), (.v (.bytes a2) (.own (.slot 4) 5))] [[]]) (fun a0 => K (.exit 0) [.any, .any, (.v (.bytes a0) (.own (.slot 4) 5))] [[]]) l1 n2 := by
  kernel_rfl
theorem S_rall_3_ok {R : Type} (N : Nat) (f : List V → Option (List UInt8 × Bool)) (vs0 : List V) (K : Ex → List D → Mem → Option R) : ∀ (t : Nat) (l1 : List UInt8) (n2 : Int),
    loopK (fun st K => codeK (cx_rall N f) (loopN Try.f67 0) st K) 58 [0, 4, 5] [2, 3, 4] t [(.v (.sl 62 vs0) .no), (.v (.bytes l1) (.own (.slot 4) 5)), (.v (.int .i64 n2) .no)] [[]] K = S_rall_3 N f vs0 t l1 n2 (fun a0 a1 a2 => K .ret [(.v (.bytes a0) (.own (.slot 2) 5)), (.v (.bool a1) .no), (.v (.bytes a2) (.own (.slot 4) 5))] [[]]) (fun a0 => K (.exit 0) [.any, .any, (.v (.bytes a0) (.own (.slot 4) 5))] [[]])
  | 0, l1, n2 => rfl
  | t + 1, l1, n2 => (F_rall_3_ok N f vs0 l1 n2 _ K).trans (congrArg (fun L => F_rall_3 N f vs0 L (fun a0 a1 a2 => K .ret [(.v (.bytes a0) (.own (.slot 2) 5)), (.v (.bool a1) .no), (.v (.bytes a2) (.own (.slot 4) 5))] [[]]) (fun a0 => K (.exit 0) [.any, .any, (.v (.bytes a0) (.own (.slot 4) 5))] [[]]) l1 n2) (funext fun l1 => funext fun n2 => S_rall_3_ok N f vs0 K t l1 n2))
theorem B_rall_ok (N : Nat) (f : List V → Option (List UInt8 × Bool)) (x0 : List V) : bodyK (cx_rall N f) Try.f67 [.v (.sl 62 x0) .no] [] r_rall = B_rall N f x0 := by
  kernel_rfl
theorem go_rall : Goes Try.prog 67 := goes_of Try.func67 (by kernel_rfl) (c := bodyOf Try.f67) (by kernel_rfl)
theorem eo_rall (s : List V → Option (List UInt8 × Bool)) (hs : ∀ (x0 : List V) (r0 : List UInt8) (r1 : Bool), s x0 = some (r0, r1) → PureRet Try.prog T 67 [.v (.sl 62 x0) .no] [.v (.bytes r0) .no, .v (.bool r1) .no]) : EntOK Try.prog T ⟨67, e_rall s⟩ := by
  refine ⟨go_rall, fun R ds K r h => ?_, fun R ds K => ?_⟩
  · simp only [e_rall] at h
    split at h
    · obtain ⟨r0, r1, h1, h2⟩ := bnd2_some h
      exact ⟨_, h2, hs _ _ _ h1⟩
    · cases h
  · simp only [e_rall]
    split
    · rw [bnd2_b]; rfl
    · rfl
theorem co_rall (N : Nat) (f : List V → Option (List UInt8 × Bool)) (hf : ∀ (x0 : List V) (r0 : List UInt8) (r1 : Bool), f x0 = some (r0, r1) → PureRet Try.prog T 67 [.v (.sl 62 x0) .no] [.v (.bytes r0) .no, .v (.bool r1) .no]) : CxOK Try.prog (cx_rall N f) :=
  cxOK_of2 (es := [⟨67, e_rall f⟩, ⟨96, e_rConstructed (s_rConstructed N)⟩, ⟨97, e_rhead (s_rhead N)⟩]) (me := []) (ms := []) T_ok ⟨eo_rall f hf, eo_rConstructed _ (p_rConstructed N), eo_rhead _ (p_rhead N), trivial⟩ trivial trivial rfl (fun _ _ _ _ => rfl) (fun _ _ _ _ _ _ => rfl) rfl
theorem lk_rall_3 (N : Nat) (f : List V → Option (List UInt8 × Bool)) : LoopOK (cx_rall N f) 58 (loopN Try.f67 0) := by
  refine loopOK_of (rid := 3) (by kernel_rfl) rfl rfl fun R ds m K r h => ?_
  have h : l_rall_3 N f ds m K = some r := h
  unfold l_rall_3 at h
  split at h
  · exact ⟨N, Eq.trans (S_rall_3_ok ..) h⟩
  · cases h
theorem lo_rall (N : Nat) (f : List V → Option (List UInt8 × Bool)) : LoopsOK (cx_rall N f) Try.f67.ntmps (bodyOf Try.f67) :=
  loopsOK_of (k := 1) (by kernel_rfl) ⟨trivial, lk_rall_3 N f⟩
theorem p_rall (N : Nat) : ∀ (M : Nat) (x0 : List V) (r0 : List UInt8) (r1 : Bool), s_rall N M x0 = some (r0, r1) → PureRet Try.prog T 67 [.v (.sl 62 x0) .no] [.v (.bytes r0) .no, .v (.bool r1) .no]
  | 0, _, _, _, h => by cases h
  | M + 1, x0, r0, r1, h => pure_of (cx := cx_rall N (s_rall N M)) (by kernel_rfl) (co_rall N (s_rall N M) (p_rall N M)) Try.func67 (by kernel_rfl) (by kernel_rfl) (lo_rall N (s_rall N M)) rfl rfl rfl (rf := r_rall) ((B_rall_ok N (s_rall N M) x0).trans h) (fun rs' m h => by
    unfold r_rall at h
    split at h
    · cases h; exact ⟨rfl, rfl⟩
    · cases h)
noncomputable def e_rEncode {R : Type} (s : List V → Option (List UInt8 × Int)) (ds : List D) (K : List D → Option R) : Option R :=
  match ds with
  | [.v (.sl 62 x0) .no] => bnd2 (s x0) fun r0 r1 => K [.v (.bytes r0) .no, .v (.int .i64 r1) .no]
  | _ => none
noncomputable def r_rEncode (rs : List D) (_ : Mem) : Option (List UInt8 × Int) :=
  match rs with
  | [.v (.bytes r0) _, .v (.int .i64 r1) _] => some (r0, r1)
  | _ => none
noncomputable def s_rEncode (N : Nat) (x0 : List V) : Option (List UInt8 × Int) :=
  bnd1 (s_rRight N x0) fun b0 => br (!b0) (some ([], 1)) (bnd2 (s_rall N N x0) fun l1 b2 => br (!b2) (some ([], 3)) (some (l1, 0)))
noncomputable def cx_rEncode (N : Nat) : Cx := { T := T, isPure := tabP [⟨66, e_rRight (s_rRight N)⟩, ⟨67, e_rall (s_rall N N)⟩], pureK := fun g ds K => tabK [⟨66, e_rRight (s_rRight N)⟩, ⟨67, e_rall (s_rall N N)⟩] g ds K, memK := fun g dst ds m K => tabMK [] g dst ds m K, meth := tabM [], keep := fun _ => [], keepX := fun _ => [], loopT := fun _ _ _ _ => none, jumps := 9 }
theorem s_rEncode_ok (N : Nat) (x0 : List V) : bodyK (cx_rEncode N) Try.f42 [.v (.sl 62 x0) .no] [] r_rEncode = s_rEncode N x0 := by
  kernel_rfl
theorem go_rEncode : Goes Try.prog 42 := goes_of Try.func42 (by kernel_rfl) (c := bodyOf Try.f42) (by kernel_rfl)
theorem eo_rEncode (s : List V → Option (List UInt8 × Int)) (hs : ∀ (x0 : List V) (r0 : List UInt8) (r1 : Int), s x0 = some (r0, r1) → PureRet Try.prog T 42 [.v (.sl 62 x0) .no] [.v (.bytes r0) .no, .v (.int .i64 r1) .no]) : EntOK Try.prog T ⟨42, e_rEncode s⟩ := by
  refine ⟨go_rEncode, fun R ds K r h => ?_, fun R ds K => ?_⟩
  · simp only [e_rEncode] at h
    split at h
    · obtain ⟨r0, r1, h1, h2⟩ := bnd2_some h
      exact ⟨_, h2, hs _ _ _ h1⟩
    · cases h
  · simp only [e_rEncode]
    split
    · rw [bnd2_b]; rfl
    · rfl
theorem co_rEncode (N : Nat) : CxOK Try.prog (cx_rEncode N) :=
  cxOK_of2 (es := [⟨66, e_rRight (s_rRight N)⟩, ⟨67, e_rall (s_rall N N)⟩]) (me := []) (ms := []) T_ok ⟨eo_rRight _ (p_rRight N), eo_rall _ (p_rall N N), trivial⟩ trivial trivial rfl (fun _ _ _ _ => rfl) (fun _ _ _ _ _ _ => rfl) rfl
theorem lo_rEncode (N : Nat) : LoopsOK (cx_rEncode N) Try.f42.ntmps (bodyOf Try.f42) :=
  loopsOK_of (k := 0) (by kernel_rfl) trivial
theorem p_rEncode (N : Nat) (x0 : List V) (r0 : List UInt8) (r1 : Int) (h : s_rEncode N x0 = some (r0, r1)) : PureRet Try.prog T 42 [.v (.sl 62 x0) .no] [.v (.bytes r0) .no, .v (.int .i64 r1) .no] :=
  pure_of (cx := cx_rEncode N) (by kernel_rfl) (co_rEncode N) Try.func42 (by kernel_rfl) (by kernel_rfl) (lo_rEncode N) rfl rfl rfl (rf := r_rEncode) ((s_rEncode_ok N x0).trans h) (fun rs' m h => by
    unfold r_rEncode at h
    split at h
    · cases h; exact ⟨rfl, rfl⟩
    · cases h)
noncomputable def e_Equal {R : Type} (s : List UInt8 → List UInt8 → Option (Bool)) (ds : List D) (K : List D → Option R) : Option R :=
  match ds with
  | [.v (.bytes x0) .no, .v (.bytes x1) .no] => bnd1 (s x0 x1) fun r0 => K [.v (.bool r0) .no]
  | _ => none
noncomputable def r_Equal (rs : List D) (_ : Mem) : Option (Bool) :=
  match rs with
  | [.v (.bool r0) _] => some (r0)
  | _ => none
noncomputable def s_Equal (N : Nat) (x0 : List UInt8) (x1 : List UInt8) : Option (Bool) :=
  br (decide (x0.length ≤ 9223372036854775807)) (br (decide (x1.length ≤ 9223372036854775807)) (some (decide (x0 = x1))) none) none
noncomputable def cx_Equal (N : Nat) : Cx := { T := T, isPure := tabP [], pureK := fun g ds K => tabK [] g ds K, memK := fun g dst ds m K => tabMK [] g dst ds m K, meth := tabM [], keep := fun _ => [], keepX := fun _ => [], loopT := fun _ _ _ _ => none, jumps := 9 }
theorem s_Equal_ok (N : Nat) (x0 : List UInt8) (x1 : List UInt8) : bodyK (cx_Equal N) Try.f46 [.v (.bytes x0) .no, .v (.bytes x1) .no] [] r_Equal = s_Equal N x0 x1 := by
  kernel_rfl
theorem go_Equal : Goes Try.prog 46 := goes_of Try.func46 (by kernel_rfl) (c := bodyOf Try.f46) (by kernel_rfl)
theorem eo_Equal (s : List UInt8 → List UInt8 → Option (Bool)) (hs : ∀ (x0 : List UInt8) (x1 : List UInt8) (r0 : Bool), s x0 x1 = some r0 → PureRet Try.prog T 46 [.v (.bytes x0) .no, .v (.bytes x1) .no] [.v (.bool r0) .no]) : EntOK Try.prog T ⟨46, e_Equal s⟩ := by
  refine ⟨go_Equal, fun R ds K r h => ?_, fun R ds K => ?_⟩
  · simp only [e_Equal] at h
    split at h
    · obtain ⟨r0, h1, h2⟩ := bnd1_some h
      exact ⟨_, h2, hs _ _ _ h1⟩
    · cases h
  · simp only [e_Equal]
    split
    · rw [bnd1_b]; rfl
    · rfl
theorem co_Equal (N : Nat) : CxOK Try.prog (cx_Equal N) :=
  cxOK_of2 (es := []) (me := []) (ms := []) T_ok trivial trivial trivial rfl (fun _ _ _ _ => rfl) (fun _ _ _ _ _ _ => rfl) rfl
theorem lo_Equal (N : Nat) : LoopsOK (cx_Equal N) Try.f46.ntmps (bodyOf Try.f46) :=
  loopsOK_of (k := 0) (by kernel_rfl) trivial
theorem p_Equal (N : Nat) (x0 : List UInt8) (x1 : List UInt8) (r0 : Bool) (h : s_Equal N x0 x1 = some r0) : PureRet Try.prog T 46 [.v (.bytes x0) .no, .v (.bytes x1) .no] [.v (.bool r0) .no] :=
  pure_of (cx := cx_Equal N) (by kernel_rfl) (co_Equal N) Try.func46 (by kernel_rfl) (by kernel_rfl) (lo_Equal N) rfl rfl rfl (rf := r_Equal) ((s_Equal_ok N x0 x1).trans h) (fun rs' m h => by
    unfold r_Equal at h
    split at h
    · cases h; exact ⟨rfl, rfl⟩
    · cases h)
noncomputable def e_clone {R : Type} (s : List UInt8 → Option (List UInt8)) (ds : List D) (K : List D → Option R) : Option R :=
  match ds with
  | [.v (.bytes x0) .no] => bnd1 (s x0) fun r0 => K [.v (.bytes r0) .no]
  | _ => none
theorem go_clone : Goes Try.prog 61 := goes_of Try.func61 (by kernel_rfl) (c := bodyOf Try.f61) (by kernel_rfl)
theorem eo_clone (s : List UInt8 → Option (List UInt8)) (hs : ∀ (x0 : List UInt8) (r0 : List UInt8), s x0 = some r0 → PureRet Try.prog T 61 [.v (.bytes x0) .no] [.v (.bytes r0) .no]) : EntOK Try.prog T ⟨61, e_clone s⟩ := by
  refine ⟨go_clone, fun R ds K r h => ?_, fun R ds K => ?_⟩
  · simp only [e_clone] at h
    split at h
    · obtain ⟨r0, h1, h2⟩ := bnd1_some h
      exact ⟨_, h2, hs _ _ h1⟩
    · cases h
  · simp only [e_clone]
    split
    · rw [bnd1_b]; rfl
    · rfl
noncomputable def e_concat {R : Type} (s : List V → Option (List UInt8)) (ds : List D) (K : List D → Option R) : Option R :=
  match ds with
  | [.v (.sl 22 x0) .no] => bnd1 (s x0) fun r0 => K [.v (.bytes r0) .no]
  | _ => none
theorem go_concat : Goes Try.prog 94 := goes_of Try.func94 (by kernel_rfl) (c := bodyOf Try.f94) (by kernel_rfl)
theorem eo_concat (s : List V → Option (List UInt8)) (hs : ∀ (x0 : List V) (r0 : List UInt8), s x0 = some r0 → PureRet Try.prog T 94 [.v (.sl 22 x0) .no] [.v (.bytes r0) .no]) : EntOK Try.prog T ⟨94, e_concat s⟩ := by
  refine ⟨go_concat, fun R ds K r h => ?_, fun R ds K => ?_⟩
  · simp only [e_concat] at h
    split at h
    · obtain ⟨r0, h1, h2⟩ := bnd1_some h
      exact ⟨_, h2, hs _ _ h1⟩
    · cases h
  · simp only [e_concat]
    split
    · rw [bnd1_b]; rfl
    · rfl
noncomputable def e_encode {R : Type} (s : List V → Option (List UInt8)) (ds : List D) (K : List D → Option R) : Option R :=
  match ds with
  | [.v (.sl 62 x0) .no] => bnd1 (s x0) fun r0 => K [.v (.bytes r0) .no]
  | _ => none
noncomputable def r_encode (rs : List D) (_ : Mem) : Option (List UInt8) :=
  match rs with
  | [.v (.bytes r0) _] => some (r0)
  | _ => none
noncomputable def F_encode_3 {R : Type} (N : Nat) (f : List V → Option (List UInt8)) (vs1 : List V) (n2 : Int) (Lq : List UInt8 → Int → Option R) (K0 : List UInt8 → Option R) (l0 : List UInt8) (n3 : Int) : Option R :=
  br (decide (n3 < n2))
  (br (decide (0 ≤ n3) && decide (n3 < (↑vs1.length : Int)))
    (at? vs1 n3.toNat fun x0 =>
      x0.unAgg fun l1 =>
        unCons l1 fun x2 l3 =>
          V.unInt IntKind.i64 x2 fun n4 =>
            unCons l3 fun x5 l6 =>
              x5.unBytes fun l7 =>
                unCons l6 fun x8 l9 =>
                  V.unSl 62 x8 fun l10 =>
                    unNil l9
                      (bnd1 (s_Constructed N n4) fun b11 =>
                        br b11
                          (bnd1 (f l10) fun l12 =>
                            bnd1 (s_tagBytes N n4) fun l13 => bnd1 (s_lengthBytes N (↑l12.length : Int)) fun l14 => bnd1 (s_concat N [V.bytes l0, V.bytes l13, V.bytes l14, V.bytes l12]) fun l15 => Lq l15 (IntKind.i64.wrap (n3 + 1)))
                          (bnd1 (s_tagBytes N n4) fun l16 => bnd1 (s_lengthBytes N (↑l7.length : Int)) fun l17 => bnd1 (s_concat N [V.bytes l0, V.bytes l16, V.bytes l17, V.bytes l7]) fun l18 => Lq l18 (IntKind.i64.wrap (n3 + 1)))))
    none)
  (K0 l0)
noncomputable def S_encode_3 {R : Type} (N : Nat) (f : List V → Option (List UInt8)) (vs1 : List V) (n2 : Int) : Nat → List UInt8 → Int → (List UInt8 → Option R) → Option R
  | 0, _, _, _ => none
  | t + 1, l0, n3, K0 => F_encode_3 N f vs1 n2 (fun l0 n3 => S_encode_3 N f vs1 n2 t l0 n3 K0) K0 l0 n3
noncomputable def l_encode_3 {R : Type} (N : Nat) (f : List V → Option (List UInt8)) (ds : List D) (m : Mem) (K : Ex → List D → Mem → Option R) : Option R :=
  match ds, m with
  | [(.v (.bytes l0) .no), (.v (.sl 62 vs1) .no), (.v (.int .i64 n2) .no), (.v (.int .i64 n3) .no), .any], [[]] => S_encode_3 N f vs1 n2 N l0 n3 (fun a0 => K (.exit 0) [(.v (.bytes a0) .no)] [[]])
  | _, _ => none
noncomputable def B_encode (N : Nat) (f : List V → Option (List UInt8)) (x0 : List V) : Option (List UInt8) :=
  S_encode_3 N f x0 (↑x0.length : Int) N [] 0 fun l0 => some l0
noncomputable def s_encode (N : Nat) : Nat → List V → Option (List UInt8)
  | 0, _ => none
  | n + 1, x0 => B_encode N (s_encode N n) x0
noncomputable def cx_encode (N : Nat) (f : List V → Option (List UInt8)) : Cx := { T := T, isPure := tabP [⟨65, e_encode f⟩, ⟨91, e_Constructed (s_Constructed N)⟩, ⟨92, e_tagBytes (s_tagBytes N)⟩, ⟨93, e_lengthBytes (s_lengthBytes N)⟩, ⟨94, e_concat (s_concat N)⟩], pureK := fun g ds K => tabK [⟨65, e_encode f⟩, ⟨91, e_Constructed (s_Constructed N)⟩, ⟨92, e_tagBytes (s_tagBytes N)⟩, ⟨93, e_lengthBytes (s_lengthBytes N)⟩, ⟨94, e_concat (s_concat N)⟩] g ds K, memK := fun g dst ds m K => tabMK [] g dst ds m K, meth := tabM [], keep := fun r => match r with | 3 => [3, 7, 8, 9, 200003] | _ => [], keepX := fun r => match r with | 3 => [3] | _ => [], loopT := fun r ds m K => match r with | 3 => l_encode_3 N f ds m K | _ => none, jumps := 9 }
theorem F_encode_3_ok {R : Type} (N : Nat) (f : List V → Option (List UInt8)) (vs1 : List V) (n2 : Int) (l0 : List UInt8) (n3 : Int) (L : List D → Mem → Option R) (K : Ex → List D → Mem → Option R) :
    roundK (fun st K => codeK (cx_encode N f) (loopN Try.f65 0) st K) 33 [3, 7, 8, 9, 200003] [3] L [(.v (.bytes l0) .no), (.v (.sl 62 vs1) .no), (.v (.int .i64 n2) .no), (.v (.int .i64 n3) .no), .any] [[]] K = F_encode_3 N f vs1 n2 (fun l0 n3 => L [(.v (.bytes l0) .no), (.v (.sl 62 vs1) .no), (.v (.int .i64 n2) .no), (.v (.int .i64 n3) .no), .any] [[]]) (fun a0 => K (.exit 0) [(.v (.bytes a0) .no)] [[]]) l0 n3 := by
  kernel_rfl
theorem S_encode_3_ok {R : Type} (N : Nat) (f : List V → Option (List UInt8)) (vs1 : List V) (n2 : Int) (K : Ex → List D → Mem → Option R) : ∀ (t : Nat) (l0 : List UInt8) (n3 : Int),
    loopK (fun st K => codeK (cx_encode N f) (loopN Try.f65 0) st K) 33 [3, 7, 8, 9, 200003] [3] t [(.v (.bytes l0) .no), (.v (.sl 62 vs1) .no), (.v (.int .i64 n2) .no), (.v (.int .i64 n3) .no), .any] [[]] K = S_encode_3 N f vs1 n2 t l0 n3 (fun a0 => K (.exit 0) [(.v (.bytes a0) .no)] [[]])
  | 0, l0, n3 => rfl
  | t + 1, l0, n3 => (F_encode_3_ok N f vs1 n2 l0 n3 _ K).trans (congrArg (fun L => F_encode_3 N f vs1 n2 L (fun a0 => K (.exit 0) [(.v (.bytes a0) .no)] [[]]) l0 n3) (funext fun l0 => funext fun n3 => S_encode_3_ok N f vs1 n2 K t l0 n3))
theorem B_encode_ok (N : Nat) (f : List V → Option (List UInt8)) (x0 : List V) : bodyK (cx_encode N f) Try.f65 [.v (.sl 62 x0) .no] [] r_encode = B_encode N f x0 := by
  kernel_rfl
theorem go_encode : Goes Try.prog 65 := goes_of Try.func65 (by kernel_rfl) (c := bodyOf Try.f65) (by kernel_rfl)
theorem eo_encode (s : List V → Option (List UInt8)) (hs : ∀ (x0 : List V) (r0 : List UInt8), s x0 = some r0 → PureRet Try.prog T 65 [.v (.sl 62 x0) .no] [.v (.bytes r0) .no]) : EntOK Try.prog T ⟨65, e_encode s⟩ := by
  refine ⟨go_encode, fun R ds K r h => ?_, fun R ds K => ?_⟩
  · simp only [e_encode] at h
    split at h
    · obtain ⟨r0, h1, h2⟩ := bnd1_some h
      exact ⟨_, h2, hs _ _ h1⟩
    · cases h
  · simp only [e_encode]
    split
    · rw [bnd1_b]; rfl
    · rfl
theorem co_encode (N : Nat) (f : List V → Option (List UInt8)) (hf : ∀ (x0 : List V) (r0 : List UInt8), f x0 = some r0 → PureRet Try.prog T 65 [.v (.sl 62 x0) .no] [.v (.bytes r0) .no]) : CxOK Try.prog (cx_encode N f) :=
  cxOK_of2 (es := [⟨65, e_encode f⟩, ⟨91, e_Constructed (s_Constructed N)⟩, ⟨92, e_tagBytes (s_tagBytes N)⟩, ⟨93, e_lengthBytes (s_lengthBytes N)⟩, ⟨94, e_concat (s_concat N)⟩]) (me := []) (ms := []) T_ok ⟨eo_encode f hf, eo_Constructed _ (p_Constructed N), eo_tagBytes _ (p_tagBytes N), eo_lengthBytes _ (p_lengthBytes N), eo_concat _ (p_concat N), trivial⟩ trivial trivial rfl (fun _ _ _ _ => rfl) (fun _ _ _ _ _ _ => rfl) rfl
theorem lk_encode_3 (N : Nat) (f : List V → Option (List UInt8)) : LoopOK (cx_encode N f) 33 (loopN Try.f65 0) := by
  refine loopOK_of (rid := 3) (by kernel_rfl) rfl rfl fun R ds m K r h => ?_
  have h : l_encode_3 N f ds m K = some r := h
  unfold l_encode_3 at h
  split at h
  · exact ⟨N, Eq.trans (S_encode_3_ok ..) h⟩
  · cases h
theorem lo_encode (N : Nat) (f : List V → Option (List UInt8)) : LoopsOK (cx_encode N f) Try.f65.ntmps (bodyOf Try.f65) :=
  loopsOK_of (k := 1) (by kernel_rfl) ⟨trivial, lk_encode_3 N f⟩
theorem p_encode (N : Nat) : ∀ (M : Nat) (x0 : List V) (r0 : List UInt8), s_encode N M x0 = some r0 → PureRet Try.prog T 65 [.v (.sl 62 x0) .no] [.v (.bytes r0) .no]
  | 0, _, _, h => by cases h
  | M + 1, x0, r0, h => pure_of (cx := cx_encode N (s_encode N M)) (by kernel_rfl) (co_encode N (s_encode N M) (p_encode N M)) Try.func65 (by kernel_rfl) (by kernel_rfl) (lo_encode N (s_encode N M)) rfl rfl rfl (rf := r_encode) ((B_encode_ok N (s_encode N M) x0).trans h) (fun rs' m h => by
    unfold r_encode at h
    split at h
    · cases h; exact ⟨rfl, rfl⟩
    · cases h)
noncomputable def e_Encode {R : Type} (s : List V → Option (List UInt8 × Int)) (ds : List D) (K : List D → Option R) : Option R :=
  match ds with
  | [.v (.sl 62 x0) .no] => bnd2 (s x0) fun r0 r1 => K [.v (.bytes r0) .no, .v (.int .i64 r1) .no]
  | _ => none
noncomputable def r_Encode (rs : List D) (_ : Mem) : Option (List UInt8 × Int) :=
  match rs with
  | [.v (.bytes r0) _, .v (.int .i64 r1) _] => some (r0, r1)
  | _ => none
noncomputable def s_Encode (N : Nat) (x0 : List V) : Option (List UInt8 × Int) :=
  bnd1 (s_valid N N x0 1) fun b0 => br (!b0) (some ([], 1)) (bnd1 (s_size N N x0) fun n1 => br (decide (4096 < n1)) (some ([], 3)) (bnd1 (s_encode N N x0) fun l2 => some (l2, 0)))
noncomputable def cx_Encode (N : Nat) : Cx := { T := T, isPure := tabP [⟨63, e_valid (s_valid N N)⟩, ⟨64, e_size (s_size N N)⟩, ⟨65, e_encode (s_encode N N)⟩], pureK := fun g ds K => tabK [⟨63, e_valid (s_valid N N)⟩, ⟨64, e_size (s_size N N)⟩, ⟨65, e_encode (s_encode N N)⟩] g ds K, memK := fun g dst ds m K => tabMK [] g dst ds m K, meth := tabM [], keep := fun _ => [], keepX := fun _ => [], loopT := fun _ _ _ _ => none, jumps := 9 }
theorem s_Encode_ok (N : Nat) (x0 : List V) : bodyK (cx_Encode N) Try.f41 [.v (.sl 62 x0) .no] [] r_Encode = s_Encode N x0 := by
  kernel_rfl
theorem go_Encode : Goes Try.prog 41 := goes_of Try.func41 (by kernel_rfl) (c := bodyOf Try.f41) (by kernel_rfl)
theorem eo_Encode (s : List V → Option (List UInt8 × Int)) (hs : ∀ (x0 : List V) (r0 : List UInt8) (r1 : Int), s x0 = some (r0, r1) → PureRet Try.prog T 41 [.v (.sl 62 x0) .no] [.v (.bytes r0) .no, .v (.int .i64 r1) .no]) : EntOK Try.prog T ⟨41, e_Encode s⟩ := by
  refine ⟨go_Encode, fun R ds K r h => ?_, fun R ds K => ?_⟩
  · simp only [e_Encode] at h
    split at h
    · obtain ⟨r0, r1, h1, h2⟩ := bnd2_some h
      exact ⟨_, h2, hs _ _ _ h1⟩
    · cases h
  · simp only [e_Encode]
    split
    · rw [bnd2_b]; rfl
    · rfl
theorem co_Encode (N : Nat) : CxOK Try.prog (cx_Encode N) :=
  cxOK_of2 (es := [⟨63, e_valid (s_valid N N)⟩, ⟨64, e_size (s_size N N)⟩, ⟨65, e_encode (s_encode N N)⟩]) (me := []) (ms := []) T_ok ⟨eo_valid _ (p_valid N N), eo_size _ (p_size N N), eo_encode _ (p_encode N N), trivial⟩ trivial trivial rfl (fun _ _ _ _ => rfl) (fun _ _ _ _ _ _ => rfl) rfl
theorem lo_Encode (N : Nat) : LoopsOK (cx_Encode N) Try.f41.ntmps (bodyOf Try.f41) :=
  loopsOK_of (k := 0) (by kernel_rfl) trivial
theorem p_Encode (N : Nat) (x0 : List V) (r0 : List UInt8) (r1 : Int) (h : s_Encode N x0 = some (r0, r1)) : PureRet Try.prog T 41 [.v (.sl 62 x0) .no] [.v (.bytes r0) .no, .v (.int .i64 r1) .no] :=
  pure_of (cx := cx_Encode N) (by kernel_rfl) (co_Encode N) Try.func41 (by kernel_rfl) (by kernel_rfl) (lo_Encode N) rfl rfl rfl (rf := r_Encode) ((s_Encode_ok N x0).trans h) (fun rs' m h => by
    unfold r_Encode at h
    split at h
    · cases h; exact ⟨rfl, rfl⟩
    · cases h)
noncomputable def e_forms {R : Type} (s : Option Unit) (ds : List D) (K : List D → Option R) : Option R :=
  match ds with
  | [] => bnd1 s fun _ => K [D.agg
    [D.v (V.str ([110, 101, 118, 101, 114] : List UInt8)) Att.no, D.v (V.bool false) Att.no, D.v (V.bool false) Att.no, D.v (V.int IntKind.i64 0) Att.no, D.v (V.int IntKind.i64 0) Att.no, D.v (V.str ([97, 108, 119, 97, 121, 115] : List UInt8)) Att.no,
      D.v (V.bool false) Att.no, D.v (V.bool false) Att.no, D.v (V.int IntKind.i64 0) Att.no, D.v (V.int IntKind.i64 0) Att.no, D.v (V.str ([112, 105, 110] : List UInt8)) Att.no, D.v (V.bool true) Att.no, D.v (V.bool false) Att.no,
      D.v (V.int IntKind.i64 1) Att.no, D.v (V.int IntKind.i64 8) Att.no, D.v (V.str ([107, 101, 121] : List UInt8)) Att.no, D.v (V.bool true) Att.no, D.v (V.bool false) Att.no, D.v (V.int IntKind.i64 1) Att.no, D.v (V.int IntKind.i64 8) Att.no,
      D.v (V.str ([115, 116, 97, 116, 101] : List UInt8)) Att.no, D.v (V.bool true) Att.no, D.v (V.bool false) Att.no, D.v (V.int IntKind.i64 1) Att.no, D.v (V.int IntKind.i64 5) Att.no, D.v (V.str ([108, 101, 118, 101, 108] : List UInt8)) Att.no,
      D.v (V.bool true) Att.no, D.v (V.bool false) Att.no, D.v (V.int IntKind.i64 1) Att.no, D.v (V.int IntKind.i64 51) Att.no, D.v (V.str ([97, 110, 100] : List UInt8)) Att.no, D.v (V.bool false) Att.no, D.v (V.bool true) Att.no,
      D.v (V.int IntKind.i64 0) Att.no, D.v (V.int IntKind.i64 0) Att.no, D.v (V.str ([111, 114] : List UInt8)) Att.no, D.v (V.bool false) Att.no, D.v (V.bool true) Att.no, D.v (V.int IntKind.i64 0) Att.no, D.v (V.int IntKind.i64 0) Att.no]]
  | _ => none
noncomputable def s_forms (N : Nat) : Option Unit := some ()
noncomputable def cx_forms (N : Nat) : Cx := { T := T, isPure := tabP [], pureK := fun g ds K => tabK [] g ds K, memK := fun g dst ds m K => tabMK [] g dst ds m K, meth := tabM [], keep := fun _ => [], keepX := fun _ => [], loopT := fun _ _ _ _ => none, jumps := 9 }
theorem b_forms_ok {R : Type} (N : Nat) (K : List D → Mem → Option R) : bodyK (cx_forms N) Try.f103 [] [] K = K [D.agg
    [D.v (V.str ([110, 101, 118, 101, 114] : List UInt8)) Att.no, D.v (V.bool false) Att.no, D.v (V.bool false) Att.no, D.v (V.int IntKind.i64 0) Att.no, D.v (V.int IntKind.i64 0) Att.no, D.v (V.str ([97, 108, 119, 97, 121, 115] : List UInt8)) Att.no,
      D.v (V.bool false) Att.no, D.v (V.bool false) Att.no, D.v (V.int IntKind.i64 0) Att.no, D.v (V.int IntKind.i64 0) Att.no, D.v (V.str ([112, 105, 110] : List UInt8)) Att.no, D.v (V.bool true) Att.no, D.v (V.bool false) Att.no,
      D.v (V.int IntKind.i64 1) Att.no, D.v (V.int IntKind.i64 8) Att.no, D.v (V.str ([107, 101, 121] : List UInt8)) Att.no, D.v (V.bool true) Att.no, D.v (V.bool false) Att.no, D.v (V.int IntKind.i64 1) Att.no, D.v (V.int IntKind.i64 8) Att.no,
      D.v (V.str ([115, 116, 97, 116, 101] : List UInt8)) Att.no, D.v (V.bool true) Att.no, D.v (V.bool false) Att.no, D.v (V.int IntKind.i64 1) Att.no, D.v (V.int IntKind.i64 5) Att.no, D.v (V.str ([108, 101, 118, 101, 108] : List UInt8)) Att.no,
      D.v (V.bool true) Att.no, D.v (V.bool false) Att.no, D.v (V.int IntKind.i64 1) Att.no, D.v (V.int IntKind.i64 51) Att.no, D.v (V.str ([97, 110, 100] : List UInt8)) Att.no, D.v (V.bool false) Att.no, D.v (V.bool true) Att.no,
      D.v (V.int IntKind.i64 0) Att.no, D.v (V.int IntKind.i64 0) Att.no, D.v (V.str ([111, 114] : List UInt8)) Att.no, D.v (V.bool false) Att.no, D.v (V.bool true) Att.no, D.v (V.int IntKind.i64 0) Att.no, D.v (V.int IntKind.i64 0) Att.no]] [[(0,
      { ty := 114,
        cells :=
          [D.v (V.str ([110, 101, 118, 101, 114] : List UInt8)) Att.no, D.v (V.bool false) Att.no, D.v (V.bool false) Att.no, D.v (V.int IntKind.i64 0) Att.no, D.v (V.int IntKind.i64 0) Att.no, D.v (V.str ([97, 108, 119, 97, 121, 115] : List UInt8)) Att.no,
            D.v (V.bool false) Att.no, D.v (V.bool false) Att.no, D.v (V.int IntKind.i64 0) Att.no, D.v (V.int IntKind.i64 0) Att.no, D.v (V.str ([112, 105, 110] : List UInt8)) Att.no, D.v (V.bool true) Att.no, D.v (V.bool false) Att.no,
            D.v (V.int IntKind.i64 1) Att.no, D.v (V.int IntKind.i64 8) Att.no, D.v (V.str ([107, 101, 121] : List UInt8)) Att.no, D.v (V.bool true) Att.no, D.v (V.bool false) Att.no, D.v (V.int IntKind.i64 1) Att.no, D.v (V.int IntKind.i64 8) Att.no,
            D.v (V.str ([115, 116, 97, 116, 101] : List UInt8)) Att.no, D.v (V.bool true) Att.no, D.v (V.bool false) Att.no, D.v (V.int IntKind.i64 1) Att.no, D.v (V.int IntKind.i64 5) Att.no, D.v (V.str ([108, 101, 118, 101, 108] : List UInt8)) Att.no,
            D.v (V.bool true) Att.no, D.v (V.bool false) Att.no, D.v (V.int IntKind.i64 1) Att.no, D.v (V.int IntKind.i64 51) Att.no, D.v (V.str ([97, 110, 100] : List UInt8)) Att.no, D.v (V.bool false) Att.no, D.v (V.bool true) Att.no,
            D.v (V.int IntKind.i64 0) Att.no, D.v (V.int IntKind.i64 0) Att.no, D.v (V.str ([111, 114] : List UInt8)) Att.no, D.v (V.bool false) Att.no, D.v (V.bool true) Att.no, D.v (V.int IntKind.i64 0) Att.no, D.v (V.int IntKind.i64 0) Att.no] })]] := by
  kernel_rfl
theorem go_forms : Goes Try.prog 103 := goes_of Try.func103 (by kernel_rfl) (c := bodyOf Try.f103) (by kernel_rfl)
theorem co_forms (N : Nat) : CxOK Try.prog (cx_forms N) :=
  cxOK_of2 (es := []) (me := []) (ms := []) T_ok trivial trivial trivial rfl (fun _ _ _ _ => rfl) (fun _ _ _ _ _ _ => rfl) rfl
theorem lo_forms (N : Nat) : LoopsOK (cx_forms N) Try.f103.ntmps (bodyOf Try.f103) :=
  loopsOK_of (k := 0) (by kernel_rfl) trivial
open Classical in
theorem p_forms (N : Nat) : PureRet Try.prog T 103 [] [D.agg
    [D.v (V.str ([110, 101, 118, 101, 114] : List UInt8)) Att.no, D.v (V.bool false) Att.no, D.v (V.bool false) Att.no, D.v (V.int IntKind.i64 0) Att.no, D.v (V.int IntKind.i64 0) Att.no, D.v (V.str ([97, 108, 119, 97, 121, 115] : List UInt8)) Att.no,
      D.v (V.bool false) Att.no, D.v (V.bool false) Att.no, D.v (V.int IntKind.i64 0) Att.no, D.v (V.int IntKind.i64 0) Att.no, D.v (V.str ([112, 105, 110] : List UInt8)) Att.no, D.v (V.bool true) Att.no, D.v (V.bool false) Att.no,
      D.v (V.int IntKind.i64 1) Att.no, D.v (V.int IntKind.i64 8) Att.no, D.v (V.str ([107, 101, 121] : List UInt8)) Att.no, D.v (V.bool true) Att.no, D.v (V.bool false) Att.no, D.v (V.int IntKind.i64 1) Att.no, D.v (V.int IntKind.i64 8) Att.no,
      D.v (V.str ([115, 116, 97, 116, 101] : List UInt8)) Att.no, D.v (V.bool true) Att.no, D.v (V.bool false) Att.no, D.v (V.int IntKind.i64 1) Att.no, D.v (V.int IntKind.i64 5) Att.no, D.v (V.str ([108, 101, 118, 101, 108] : List UInt8)) Att.no,
      D.v (V.bool true) Att.no, D.v (V.bool false) Att.no, D.v (V.int IntKind.i64 1) Att.no, D.v (V.int IntKind.i64 51) Att.no, D.v (V.str ([97, 110, 100] : List UInt8)) Att.no, D.v (V.bool false) Att.no, D.v (V.bool true) Att.no,
      D.v (V.int IntKind.i64 0) Att.no, D.v (V.int IntKind.i64 0) Att.no, D.v (V.str ([111, 114] : List UInt8)) Att.no, D.v (V.bool false) Att.no, D.v (V.bool true) Att.no, D.v (V.int IntKind.i64 0) Att.no, D.v (V.int IntKind.i64 0) Att.no]] :=
  pure_of (cx := cx_forms N) (by kernel_rfl) (co_forms N) Try.func103 (by kernel_rfl) (by kernel_rfl) (lo_forms N) rfl rfl rfl (rf := fun rs _ => if rs = [D.agg
    [D.v (V.str ([110, 101, 118, 101, 114] : List UInt8)) Att.no, D.v (V.bool false) Att.no, D.v (V.bool false) Att.no, D.v (V.int IntKind.i64 0) Att.no, D.v (V.int IntKind.i64 0) Att.no, D.v (V.str ([97, 108, 119, 97, 121, 115] : List UInt8)) Att.no,
      D.v (V.bool false) Att.no, D.v (V.bool false) Att.no, D.v (V.int IntKind.i64 0) Att.no, D.v (V.int IntKind.i64 0) Att.no, D.v (V.str ([112, 105, 110] : List UInt8)) Att.no, D.v (V.bool true) Att.no, D.v (V.bool false) Att.no,
      D.v (V.int IntKind.i64 1) Att.no, D.v (V.int IntKind.i64 8) Att.no, D.v (V.str ([107, 101, 121] : List UInt8)) Att.no, D.v (V.bool true) Att.no, D.v (V.bool false) Att.no, D.v (V.int IntKind.i64 1) Att.no, D.v (V.int IntKind.i64 8) Att.no,
      D.v (V.str ([115, 116, 97, 116, 101] : List UInt8)) Att.no, D.v (V.bool true) Att.no, D.v (V.bool false) Att.no, D.v (V.int IntKind.i64 1) Att.no, D.v (V.int IntKind.i64 5) Att.no, D.v (V.str ([108, 101, 118, 101, 108] : List UInt8)) Att.no,
      D.v (V.bool true) Att.no, D.v (V.bool false) Att.no, D.v (V.int IntKind.i64 1) Att.no, D.v (V.int IntKind.i64 51) Att.no, D.v (V.str ([97, 110, 100] : List UInt8)) Att.no, D.v (V.bool false) Att.no, D.v (V.bool true) Att.no,
      D.v (V.int IntKind.i64 0) Att.no, D.v (V.int IntKind.i64 0) Att.no, D.v (V.str ([111, 114] : List UInt8)) Att.no, D.v (V.bool false) Att.no, D.v (V.bool true) Att.no, D.v (V.int IntKind.i64 0) Att.no, D.v (V.int IntKind.i64 0) Att.no]] then some () else none) (r := ()) ((b_forms_ok N _).trans (if_pos rfl)) (fun rs' m h => by
    split at h
    · rename_i e; subst e; exact ⟨by kernel_rfl, by kernel_rfl⟩
    · cases h)
theorem eo_forms (s : Option Unit) (hs : PureRet Try.prog T 103 [] [D.agg
    [D.v (V.str ([110, 101, 118, 101, 114] : List UInt8)) Att.no, D.v (V.bool false) Att.no, D.v (V.bool false) Att.no, D.v (V.int IntKind.i64 0) Att.no, D.v (V.int IntKind.i64 0) Att.no, D.v (V.str ([97, 108, 119, 97, 121, 115] : List UInt8)) Att.no,
      D.v (V.bool false) Att.no, D.v (V.bool false) Att.no, D.v (V.int IntKind.i64 0) Att.no, D.v (V.int IntKind.i64 0) Att.no, D.v (V.str ([112, 105, 110] : List UInt8)) Att.no, D.v (V.bool true) Att.no, D.v (V.bool false) Att.no,
      D.v (V.int IntKind.i64 1) Att.no, D.v (V.int IntKind.i64 8) Att.no, D.v (V.str ([107, 101, 121] : List UInt8)) Att.no, D.v (V.bool true) Att.no, D.v (V.bool false) Att.no, D.v (V.int IntKind.i64 1) Att.no, D.v (V.int IntKind.i64 8) Att.no,
      D.v (V.str ([115, 116, 97, 116, 101] : List UInt8)) Att.no, D.v (V.bool true) Att.no, D.v (V.bool false) Att.no, D.v (V.int IntKind.i64 1) Att.no, D.v (V.int IntKind.i64 5) Att.no, D.v (V.str ([108, 101, 118, 101, 108] : List UInt8)) Att.no,
      D.v (V.bool true) Att.no, D.v (V.bool false) Att.no, D.v (V.int IntKind.i64 1) Att.no, D.v (V.int IntKind.i64 51) Att.no, D.v (V.str ([97, 110, 100] : List UInt8)) Att.no, D.v (V.bool false) Att.no, D.v (V.bool true) Att.no,
      D.v (V.int IntKind.i64 0) Att.no, D.v (V.int IntKind.i64 0) Att.no, D.v (V.str ([111, 114] : List UInt8)) Att.no, D.v (V.bool false) Att.no, D.v (V.bool true) Att.no, D.v (V.int IntKind.i64 0) Att.no, D.v (V.int IntKind.i64 0) Att.no]]) : EntOK Try.prog T ⟨103, e_forms s⟩ := by
  refine ⟨go_forms, fun R ds K r h => ?_, fun R ds K => ?_⟩
  · simp only [e_forms] at h
    split at h
    · obtain ⟨_, h1, h2⟩ := bnd1_some h
      exact ⟨_, h2, hs⟩
    · cases h
  · simp only [e_forms]
    split
    · rw [bnd1_b]; rfl
    · rfl
noncomputable def e_avalid {R : Type} (s : Int → Int → List V → Int → Option (Bool)) (ds : List D) (K : List D → Option R) : Option R :=
  match ds with
  | [.agg [.v (.int .i64 x0) .no, .v (.int .i64 x1) .no, .v (.sl 46 x2) .no], .v (.int .i64 x3) .no] => bnd1 (s x0 x1 x2 x3) fun r0 => K [.v (.bool r0) .no]
  | _ => none
noncomputable def e_avalid1 {R : Type} (s : Int → Int → List V → Int → Option (Bool)) (dst : Nat) (ds : List D) (m : Mem) (K : List D → Mem → Option R) : Option R :=
  match ds with
  | [.agg [.v (.int .i64 x0) .no, .v (.int .i64 x1) .no, .v (.sl 46 x2) .no], .ptr (kv0 + 1) sv0 0] => viewK [(kv0, sv0)] m fun Bs => (match Bs with
    | [⟨3, [.v (.int .i64 y0) .no]⟩] => bnd1 (s x0 x1 x2 y0) fun r0 => putAllK [(kv0, sv0)] [⟨3, [.v (.int .i64 y0) .no]⟩] m fun m' => K [.v (.bool r0) .no] m'
    | _ => none)
  | _ => none
noncomputable def r_avalid1 {α : Type} (K : Bool → Int → Option α) (rs : List D) (m : Mem) : Option α :=
  match rs, m with
  | [.v (.bool r0) _], [_, [(0, ⟨3, [.v (.int .i64 z0) .no]⟩)]] => K r0 z0
  | _, _ => none
noncomputable def C_avalid1 {R : Type} (N : Nat) (f : Int → Int → List V → Int → Option (Bool)) (x0 : Int) (x1 : Int) (x2 : List V) (y0 : Int) (K0 : Bool → Option R) : Option R :=
  bnd1 (f x0 x1 x2 (IntKind.i64.wrap (y0 + 1))) fun b0 => K0 !b0
noncomputable def s_avalid1 (N : Nat) (f : Int → Int → List V → Int → Option (Bool)) (x0 : Int) (x1 : Int) (x2 : List V) (y0 : Int) : Option (Bool) :=
  C_avalid1 N f x0 x1 x2 y0 (fun r0 => some r0)
noncomputable def cx_avalid1 (N : Nat) (f : Int → Int → List V → Int → Option (Bool)) : Cx := { T := T, isPure := tabP [⟨81, e_avalid f⟩], pureK := fun g ds K => tabK [⟨81, e_avalid f⟩] g ds K, memK := fun g dst ds m K => tabMK [] g dst ds m K, meth := tabM [], keep := fun _ => [], keepX := fun _ => [], loopT := fun _ _ _ _ => none, jumps := 9 }
theorem C_avalid1_ok {R : Type} (N : Nat) (f : Int → Int → List V → Int → Option (Bool)) (x0 : Int) (x1 : Int) (x2 : List V) (y0 : Int) (K : Bool → Int → Option R) : bodyK (cx_avalid1 N f) Try.f108 [.agg [.v (.int .i64 x0) .no, .v (.int .i64 x1) .no, .v (.sl 46 x2) .no], .ptr 1 0 0] [frOf 0 [⟨3, [.v (.int .i64 y0) .no]⟩]] (r_avalid1 K) = C_avalid1 N f x0 x1 x2 y0 (fun r0 => K r0 y0) := by
  kernel_rfl
theorem go_avalid : Goes Try.prog 81 := goes_of Try.func81 (by kernel_rfl) (c := bodyOf Try.f81) (by kernel_rfl)
theorem eo_avalid (s : Int → Int → List V → Int → Option (Bool)) (hs : ∀ (x0 : Int) (x1 : Int) (x2 : List V) (x3 : Int) (r0 : Bool), s x0 x1 x2 x3 = some r0 → PureRet Try.prog T 81 [.agg [.v (.int .i64 x0) .no, .v (.int .i64 x1) .no, .v (.sl 46 x2) .no], .v (.int .i64 x3) .no] [.v (.bool r0) .no]) : EntOK Try.prog T ⟨81, e_avalid s⟩ := by
  refine ⟨go_avalid, fun R ds K r h => ?_, fun R ds K => ?_⟩
  · simp only [e_avalid] at h
    split at h
    · obtain ⟨r0, h1, h2⟩ := bnd1_some h
      exact ⟨_, h2, hs _ _ _ _ _ h1⟩
    · cases h
  · simp only [e_avalid]
    split
    · rw [bnd1_b]; rfl
    · rfl
theorem go_avalid1 : Goes Try.prog 108 := goes_of Try.func108 (by kernel_rfl) (c := bodyOf Try.f108) (by kernel_rfl)
theorem eo_avalid1 (s : Int → Int → List V → Int → Option (Bool)) (hs : ∀ (x0 : Int) (x1 : Int) (x2 : List V) (y0 : Int) (r0 : Bool), s x0 x1 x2 y0 = some r0 → ViewRet Try.prog T 108 [.agg [.v (.int .i64 x0) .no, .v (.int .i64 x1) .no, .v (.sl 46 x2) .no], .ptr 1 0 0] [⟨3, [.v (.int .i64 y0) .no]⟩] [.v (.bool r0) .no] [⟨3, [.v (.int .i64 y0) .no]⟩]) : MEntOK Try.prog T ⟨108, e_avalid1 s⟩ := by
  refine ⟨go_avalid1, fun R dst ds m K r h => ?_⟩
  simp only [e_avalid1] at h
  split at h
  · obtain ⟨Bs, a1, a2, a3, h⟩ := viewK_some h
    split at h
    · obtain ⟨r0, h1, h2⟩ := bnd1_some h
      rw [putAllK_eq] at h2
      exact ⟨_, _, h2, hs _ _ _ _ _ h1 _ _ m dst a1 a2 a3 ⟨aren_agg ⟨aren_v _, aren_v _, aren_v _, trivial⟩, aren_ptr _ rfl, trivial⟩⟩
    · cases h
  · cases h
theorem co_avalid1 (N : Nat) (f : Int → Int → List V → Int → Option (Bool)) (hf : ∀ (x0 : Int) (x1 : Int) (x2 : List V) (x3 : Int) (r0 : Bool), f x0 x1 x2 x3 = some r0 → PureRet Try.prog T 81 [.agg [.v (.int .i64 x0) .no, .v (.int .i64 x1) .no, .v (.sl 46 x2) .no], .v (.int .i64 x3) .no] [.v (.bool r0) .no]) : CxOK Try.prog (cx_avalid1 N f) :=
  cxOK_of2 (es := [⟨81, e_avalid f⟩]) (me := []) (ms := []) T_ok ⟨eo_avalid f hf, trivial⟩ trivial trivial rfl (fun _ _ _ _ => rfl) (fun _ _ _ _ _ _ => rfl) rfl
theorem lo_avalid1 (N : Nat) (f : Int → Int → List V → Int → Option (Bool)) : LoopsOK (cx_avalid1 N f) Try.f108.ntmps (bodyOf Try.f108) :=
  loopsOK_of (k := 0) (by kernel_rfl) trivial
open Classical in
theorem p_avalid1 (N : Nat) (f : Int → Int → List V → Int → Option (Bool)) (hf : ∀ (x0 : Int) (x1 : Int) (x2 : List V) (x3 : Int) (r0 : Bool), f x0 x1 x2 x3 = some r0 → PureRet Try.prog T 81 [.agg [.v (.int .i64 x0) .no, .v (.int .i64 x1) .no, .v (.sl 46 x2) .no], .v (.int .i64 x3) .no] [.v (.bool r0) .no]) (x0 : Int) (x1 : Int) (x2 : List V) (y0 : Int) (r0 : Bool) (h : s_avalid1 N f x0 x1 x2 y0 = some r0) : ViewRet Try.prog T 108 [.agg [.v (.int .i64 x0) .no, .v (.int .i64 x1) .no, .v (.sl 46 x2) .no], .ptr 1 0 0] [⟨3, [.v (.int .i64 y0) .no]⟩] [.v (.bool r0) .no] [⟨3, [.v (.int .i64 y0) .no]⟩] := by
  refine view_of (Bs := [⟨3, [.v (.int .i64 y0) .no]⟩]) (Bs' := [⟨3, [.v (.int .i64 y0) .no]⟩]) (cx := cx_avalid1 N f) (by kernel_rfl) (co_avalid1 N f hf) Try.func108 (by kernel_rfl) (by kernel_rfl) (lo_avalid1 N f) rfl rfl rfl rfl (rf := r_avalid1 (fun r0' z'0 => if z'0 = y0 then some r0' else none)) (r := r0) ?_ ?_
  · exact (C_avalid1_ok N f x0 x1 x2 y0 _).trans ((congrArg (fun K => C_avalid1 N f x0 x1 x2 y0 K) (funext fun r0' => if_pos rfl)).trans h)
  · intro rs' m' hx
    unfold r_avalid1 at hx
    split at hx
    · dsimp only at hx
      split at hx
      · rename_i hk
        subst hk
        cases hx; exact ⟨rfl, rfl, _, rfl⟩
      · cases hx
    · cases hx
noncomputable def e_IndexFuncA {R : Type} (s : List V → Int → Option (Int)) (dst : Nat) (ds : List D) (m : Mem) (K : List D → Mem → Option R) : Option R :=
  match ds with
  | [.v (.sl 46 x0) .no, .clos 108 [.ptr (kv0 + 1) sv0 0]] => viewK [(kv0, sv0)] m fun Bs => (match Bs with
    | [⟨3, [.v (.int .i64 y0) .no]⟩] => bnd1 (s x0 y0) fun r0 => putAllK [(kv0, sv0)] [⟨3, [.v (.int .i64 y0) .no]⟩] m fun m' => K [.v (.int .i64 r0) .no] m'
    | _ => none)
  | _ => none
noncomputable def r_IndexFuncA {α : Type} (K : Int → Int → Option α) (rs : List D) (m : Mem) : Option α :=
  match rs, m with
  | [.v (.int .i64 r0) _], [_, [(0, ⟨3, [.v (.int .i64 z0) .no]⟩)]] => K r0 z0
  | _, _ => none
noncomputable def F_IndexFuncA_2 {R : Type} (N : Nat) (f : Int → Int → List V → Int → Option (Bool)) (vs0 : List V) (n1 : Int) (n3 : Int) (Lq : Int → Option R) (K0 : Int → Option R) (K1 : Option R) (n2 : Int) : Option R :=
  br (decide (n2 < n1))
  (br (decide (0 ≤ n2) && decide (n2 < (↑vs0.length : Int)))
    (at? vs0 n2.toNat fun x0 =>
      x0.unAgg fun l1 =>
        unCons l1 fun x2 l3 =>
          V.unInt IntKind.i64 x2 fun n4 =>
            unCons l3 fun x5 l6 => V.unInt IntKind.i64 x5 fun n7 => unCons l6 fun x8 l9 => V.unSl 46 x8 fun l10 => unNil l9 (bnd1 (s_avalid1 N f n4 n7 l10 n3) fun b11 => br b11 (K0 n2) (Lq (IntKind.i64.wrap (n2 + 1)))))
    none)
  K1
noncomputable def S_IndexFuncA_2 {R : Type} (N : Nat) (f : Int → Int → List V → Int → Option (Bool)) (vs0 : List V) (n1 : Int) (n3 : Int) : Nat → Int → (Int → Option R) → (Option R) → Option R
  | 0, _, _, _ => none
  | t + 1, n2, K0, K1 => F_IndexFuncA_2 N f vs0 n1 n3 (fun n2 => S_IndexFuncA_2 N f vs0 n1 n3 t n2 K0 K1) K0 K1 n2
noncomputable def l_IndexFuncA_2 {R : Type} (N : Nat) (f : Int → Int → List V → Int → Option (Bool)) (ds : List D) (m : Mem) (K : Ex → List D → Mem → Option R) : Option R :=
  match ds, m with
  | [(.v (.sl 46 vs0) .no), (.clos 108 [(.ptr 1 0 0)]), (.v (.int .i64 n1) .no), (.v (.int .i64 n2) .no)], [[], [(0, ⟨3, [(.v (.int .i64 n3) .no)]⟩)]] => S_IndexFuncA_2 N f vs0 n1 n3 N n2 (fun a0 => K .ret [(.v (.int .i64 a0) .no)] [[], [(0, ⟨3, [(.v (.int .i64 n3) .no)]⟩)]]) (K (.exit 0) [.any] [[], [(0, ⟨3, [(.v (.int .i64 n3) .no)]⟩)]])
  | _, _ => none
noncomputable def C_IndexFuncA {R : Type} (N : Nat) (f : Int → Int → List V → Int → Option (Bool)) (x0 : List V) (y0 : Int) (K0 : Int → Option R) : Option R :=
  S_IndexFuncA_2 N f x0 (↑x0.length : Int) y0 N 0 (fun n0 => K0 n0) (K0 (-1))
noncomputable def s_IndexFuncA (N : Nat) (f : Int → Int → List V → Int → Option (Bool)) (x0 : List V) (y0 : Int) : Option (Int) :=
  C_IndexFuncA N f x0 y0 (fun r0 => some r0)
noncomputable def cx_IndexFuncA (N : Nat) (f : Int → Int → List V → Int → Option (Bool)) : Cx := { T := T, isPure := tabP [], pureK := fun g ds K => tabK [] g ds K, memK := fun g dst ds m K => tabMK [⟨108, e_avalid1 (s_avalid1 N f)⟩] g dst ds m K, meth := tabM [], keep := fun r => match r with | 2 => [0, 1, 7, 8] | _ => [], keepX := fun r => match r with | 2 => [4] | _ => [], loopT := fun r ds m K => match r with | 2 => l_IndexFuncA_2 N f ds m K | _ => none, jumps := 9 }
theorem F_IndexFuncA_2_ok {R : Type} (N : Nat) (f : Int → Int → List V → Int → Option (Bool)) (vs0 : List V) (n1 : Int) (n3 : Int) (n2 : Int) (L : List D → Mem → Option R) (K : Ex → List D → Mem → Option R) :
    roundK (fun st K => codeK (cx_IndexFuncA N f) (loopN Try.f114 0) st K) 19 [0, 1, 7, 8] [4] L [(.v (.sl 46 vs0) .no), (.clos 108 [(.ptr 1 0 0)]), (.v (.int .i64 n1) .no), (.v (.int .i64 n2) .no)] [[], [(0, ⟨3, [(.v (.int .i64 n3) .no)]⟩)]] K = F_IndexFuncA_2 N f vs0 n1 n3 (fun n2 => L [(.v (.sl 46 vs0) .no), (.clos 108 [(.ptr 1 0 0)]), (.v (.int .i64 n1) .no), (.v (.int .i64 n2) .no)] [[], [(0, ⟨3, [(.v (.int .i64 n3) .no)]⟩)]]) (fun a0 => K .ret [(.v (.int .i64 a0) .no)] [[], [(0, ⟨3, [(.v (.int .i64 n3) .no)]⟩)]]) (K (.exit 0) [.any] [[], [(0, ⟨3, [(.v (.int .i64 n3) .no)]⟩)]]) n2 := by
  kernel_rfl
theorem S_IndexFuncA_2_ok {R : Type} (N : Nat) (f : Int → Int → List V → Int → Option (Bool)) (vs0 : List V) (n1 : Int) (n3 : Int) (K : Ex → List D → Mem → Option R) : ∀ (t : Nat) (n2 : Int),
    loopK (fun st K => codeK (cx_IndexFuncA N f) (loopN Try.f114 0) st K) 19 [0, 1, 7, 8] [4] t [(.v (.sl 46 vs0) .no), (.clos 108 [(.ptr 1 0 0)]), (.v (.int .i64 n1) .no), (.v (.int .i64 n2) .no)] [[], [(0, ⟨3, [(.v (.int .i64 n3) .no)]⟩)]] K = S_IndexFuncA_2 N f vs0 n1 n3 t n2 (fun a0 => K .ret [(.v (.int .i64 a0) .no)] [[], [(0, ⟨3, [(.v (.int .i64 n3) .no)]⟩)]]) (K (.exit 0) [.any] [[], [(0, ⟨3, [(.v (.int .i64 n3) .no)]⟩)]])
  | 0, n2 => rfl
  | t + 1, n2 => (F_IndexFuncA_2_ok N f vs0 n1 n3 n2 _ K).trans (congrArg (fun L => F_IndexFuncA_2 N f vs0 n1 n3 L (fun a0 => K .ret [(.v (.int .i64 a0) .no)] [[], [(0, ⟨3, [(.v (.int .i64 n3) .no)]⟩)]]) (K (.exit 0) [.any] [[], [(0, ⟨3, [(.v (.int .i64 n3) .no)]⟩)]]) n2) (funext fun n2 => S_IndexFuncA_2_ok N f vs0 n1 n3 K t n2))
theorem C_IndexFuncA_ok {R : Type} (N : Nat) (f : Int → Int → List V → Int → Option (Bool)) (x0 : List V) (y0 : Int) (K : Int → Int → Option R) : bodyK (cx_IndexFuncA N f) Try.f114 [.v (.sl 46 x0) .no, .clos 108 [.ptr 1 0 0]] [frOf 0 [⟨3, [.v (.int .i64 y0) .no]⟩]] (r_IndexFuncA K) = C_IndexFuncA N f x0 y0 (fun r0 => K r0 y0) := by
  kernel_rfl
theorem go_IndexFuncA : Goes Try.prog 114 := goes_of Try.func114 (by kernel_rfl) (c := bodyOf Try.f114) (by kernel_rfl)
theorem eo_IndexFuncA (s : List V → Int → Option (Int)) (hs : ∀ (x0 : List V) (y0 : Int) (r0 : Int), s x0 y0 = some r0 → ViewRet Try.prog T 114 [.v (.sl 46 x0) .no, .clos 108 [.ptr 1 0 0]] [⟨3, [.v (.int .i64 y0) .no]⟩] [.v (.int .i64 r0) .no] [⟨3, [.v (.int .i64 y0) .no]⟩]) : MEntOK Try.prog T ⟨114, e_IndexFuncA s⟩ := by
  refine ⟨go_IndexFuncA, fun R dst ds m K r h => ?_⟩
  simp only [e_IndexFuncA] at h
  split at h
  · obtain ⟨Bs, a1, a2, a3, h⟩ := viewK_some h
    split at h
    · obtain ⟨r0, h1, h2⟩ := bnd1_some h
      rw [putAllK_eq] at h2
      exact ⟨_, _, h2, hs _ _ _ h1 _ _ m dst a1 a2 a3 ⟨aren_v _, aren_clos ⟨aren_ptr _ rfl, trivial⟩, trivial⟩⟩
    · cases h
  · cases h
theorem co_IndexFuncA (N : Nat) (f : Int → Int → List V → Int → Option (Bool)) (hf : ∀ (x0 : Int) (x1 : Int) (x2 : List V) (x3 : Int) (r0 : Bool), f x0 x1 x2 x3 = some r0 → PureRet Try.prog T 81 [.agg [.v (.int .i64 x0) .no, .v (.int .i64 x1) .no, .v (.sl 46 x2) .no], .v (.int .i64 x3) .no] [.v (.bool r0) .no]) : CxOK Try.prog (cx_IndexFuncA N f) :=
  cxOK_of2 (es := []) (me := [⟨108, e_avalid1 (s_avalid1 N f)⟩]) (ms := []) T_ok trivial ⟨eo_avalid1 _ (p_avalid1 N f hf), trivial⟩ trivial rfl (fun _ _ _ _ => rfl) (fun _ _ _ _ _ _ => rfl) rfl
theorem lk_IndexFuncA_2 (N : Nat) (f : Int → Int → List V → Int → Option (Bool)) : LoopOK (cx_IndexFuncA N f) 19 (loopN Try.f114 0) := by
  refine loopOK_of (rid := 2) (by kernel_rfl) rfl rfl fun R ds m K r h => ?_
  have h : l_IndexFuncA_2 N f ds m K = some r := h
  unfold l_IndexFuncA_2 at h
  split at h
  · exact ⟨N, Eq.trans (S_IndexFuncA_2_ok ..) h⟩
  · cases h
theorem lo_IndexFuncA (N : Nat) (f : Int → Int → List V → Int → Option (Bool)) : LoopsOK (cx_IndexFuncA N f) Try.f114.ntmps (bodyOf Try.f114) :=
  loopsOK_of (k := 1) (by kernel_rfl) ⟨trivial, lk_IndexFuncA_2 N f⟩
open Classical in
theorem p_IndexFuncA (N : Nat) (f : Int → Int → List V → Int → Option (Bool)) (hf : ∀ (x0 : Int) (x1 : Int) (x2 : List V) (x3 : Int) (r0 : Bool), f x0 x1 x2 x3 = some r0 → PureRet Try.prog T 81 [.agg [.v (.int .i64 x0) .no, .v (.int .i64 x1) .no, .v (.sl 46 x2) .no], .v (.int .i64 x3) .no] [.v (.bool r0) .no]) (x0 : List V) (y0 : Int) (r0 : Int) (h : s_IndexFuncA N f x0 y0 = some r0) : ViewRet Try.prog T 114 [.v (.sl 46 x0) .no, .clos 108 [.ptr 1 0 0]] [⟨3, [.v (.int .i64 y0) .no]⟩] [.v (.int .i64 r0) .no] [⟨3, [.v (.int .i64 y0) .no]⟩] := by
  refine view_of (Bs := [⟨3, [.v (.int .i64 y0) .no]⟩]) (Bs' := [⟨3, [.v (.int .i64 y0) .no]⟩]) (cx := cx_IndexFuncA N f) (by kernel_rfl) (co_IndexFuncA N f hf) Try.func114 (by kernel_rfl) (by kernel_rfl) (lo_IndexFuncA N f) rfl rfl rfl rfl (rf := r_IndexFuncA (fun r0' z'0 => if z'0 = y0 then some r0' else none)) (r := r0) ?_ ?_
  · exact (C_IndexFuncA_ok N f x0 y0 _).trans ((congrArg (fun K => C_IndexFuncA N f x0 y0 K) (funext fun r0' => if_pos rfl)).trans h)
  · intro rs' m' hx
    unfold r_IndexFuncA at hx
    split at hx
    · dsimp only at hx
      split at hx
      · rename_i hk
        subst hk
        cases hx; exact ⟨rfl, rfl, _, rfl⟩
      · cases hx
    · cases hx
noncomputable def e_ContainsFuncA {R : Type} (s : List V → Int → Option (Bool)) (dst : Nat) (ds : List D) (m : Mem) (K : List D → Mem → Option R) : Option R :=
  match ds with
  | [.v (.sl 46 x0) .no, .clos 108 [.ptr (kv0 + 1) sv0 0]] => viewK [(kv0, sv0)] m fun Bs => (match Bs with
    | [⟨3, [.v (.int .i64 y0) .no]⟩] => bnd1 (s x0 y0) fun r0 => putAllK [(kv0, sv0)] [⟨3, [.v (.int .i64 y0) .no]⟩] m fun m' => K [.v (.bool r0) .no] m'
    | _ => none)
  | _ => none
noncomputable def r_ContainsFuncA {α : Type} (K : Bool → Int → Option α) (rs : List D) (m : Mem) : Option α :=
  match rs, m with
  | [.v (.bool r0) _], [_, [(0, ⟨3, [.v (.int .i64 z0) .no]⟩)]] => K r0 z0
  | _, _ => none
noncomputable def C_ContainsFuncA {R : Type} (N : Nat) (f : Int → Int → List V → Int → Option (Bool)) (x0 : List V) (y0 : Int) (K0 : Bool → Option R) : Option R :=
  bnd1 (s_IndexFuncA N f x0 y0) fun n0 => K0 (decide (0 ≤ n0))
noncomputable def s_ContainsFuncA (N : Nat) (f : Int → Int → List V → Int → Option (Bool)) (x0 : List V) (y0 : Int) : Option (Bool) :=
  C_ContainsFuncA N f x0 y0 (fun r0 => some r0)
noncomputable def cx_ContainsFuncA (N : Nat) (f : Int → Int → List V → Int → Option (Bool)) : Cx := { T := T, isPure := tabP [], pureK := fun g ds K => tabK [] g ds K, memK := fun g dst ds m K => tabMK [⟨114, e_IndexFuncA (s_IndexFuncA N f)⟩] g dst ds m K, meth := tabM [], keep := fun _ => [], keepX := fun _ => [], loopT := fun _ _ _ _ => none, jumps := 9 }
theorem C_ContainsFuncA_ok {R : Type} (N : Nat) (f : Int → Int → List V → Int → Option (Bool)) (x0 : List V) (y0 : Int) (K : Bool → Int → Option R) : bodyK (cx_ContainsFuncA N f) Try.f107 [.v (.sl 46 x0) .no, .clos 108 [.ptr 1 0 0]] [frOf 0 [⟨3, [.v (.int .i64 y0) .no]⟩]] (r_ContainsFuncA K) = C_ContainsFuncA N f x0 y0 (fun r0 => K r0 y0) := by
  kernel_rfl
theorem go_ContainsFuncA : Goes Try.prog 107 := goes_of Try.func107 (by kernel_rfl) (c := bodyOf Try.f107) (by kernel_rfl)
theorem eo_ContainsFuncA (s : List V → Int → Option (Bool)) (hs : ∀ (x0 : List V) (y0 : Int) (r0 : Bool), s x0 y0 = some r0 → ViewRet Try.prog T 107 [.v (.sl 46 x0) .no, .clos 108 [.ptr 1 0 0]] [⟨3, [.v (.int .i64 y0) .no]⟩] [.v (.bool r0) .no] [⟨3, [.v (.int .i64 y0) .no]⟩]) : MEntOK Try.prog T ⟨107, e_ContainsFuncA s⟩ := by
  refine ⟨go_ContainsFuncA, fun R dst ds m K r h => ?_⟩
  simp only [e_ContainsFuncA] at h
  split at h
  · obtain ⟨Bs, a1, a2, a3, h⟩ := viewK_some h
    split at h
    · obtain ⟨r0, h1, h2⟩ := bnd1_some h
      rw [putAllK_eq] at h2
      exact ⟨_, _, h2, hs _ _ _ h1 _ _ m dst a1 a2 a3 ⟨aren_v _, aren_clos ⟨aren_ptr _ rfl, trivial⟩, trivial⟩⟩
    · cases h
  · cases h
theorem co_ContainsFuncA (N : Nat) (f : Int → Int → List V → Int → Option (Bool)) (hf : ∀ (x0 : Int) (x1 : Int) (x2 : List V) (x3 : Int) (r0 : Bool), f x0 x1 x2 x3 = some r0 → PureRet Try.prog T 81 [.agg [.v (.int .i64 x0) .no, .v (.int .i64 x1) .no, .v (.sl 46 x2) .no], .v (.int .i64 x3) .no] [.v (.bool r0) .no]) : CxOK Try.prog (cx_ContainsFuncA N f) :=
  cxOK_of2 (es := []) (me := [⟨114, e_IndexFuncA (s_IndexFuncA N f)⟩]) (ms := []) T_ok trivial ⟨eo_IndexFuncA _ (p_IndexFuncA N f hf), trivial⟩ trivial rfl (fun _ _ _ _ => rfl) (fun _ _ _ _ _ _ => rfl) rfl
theorem lo_ContainsFuncA (N : Nat) (f : Int → Int → List V → Int → Option (Bool)) : LoopsOK (cx_ContainsFuncA N f) Try.f107.ntmps (bodyOf Try.f107) :=
  loopsOK_of (k := 0) (by kernel_rfl) trivial
open Classical in
theorem p_ContainsFuncA (N : Nat) (f : Int → Int → List V → Int → Option (Bool)) (hf : ∀ (x0 : Int) (x1 : Int) (x2 : List V) (x3 : Int) (r0 : Bool), f x0 x1 x2 x3 = some r0 → PureRet Try.prog T 81 [.agg [.v (.int .i64 x0) .no, .v (.int .i64 x1) .no, .v (.sl 46 x2) .no], .v (.int .i64 x3) .no] [.v (.bool r0) .no]) (x0 : List V) (y0 : Int) (r0 : Bool) (h : s_ContainsFuncA N f x0 y0 = some r0) : ViewRet Try.prog T 107 [.v (.sl 46 x0) .no, .clos 108 [.ptr 1 0 0]] [⟨3, [.v (.int .i64 y0) .no]⟩] [.v (.bool r0) .no] [⟨3, [.v (.int .i64 y0) .no]⟩] := by
  refine view_of (Bs := [⟨3, [.v (.int .i64 y0) .no]⟩]) (Bs' := [⟨3, [.v (.int .i64 y0) .no]⟩]) (cx := cx_ContainsFuncA N f) (by kernel_rfl) (co_ContainsFuncA N f hf) Try.func107 (by kernel_rfl) (by kernel_rfl) (lo_ContainsFuncA N f) rfl rfl rfl rfl (rf := r_ContainsFuncA (fun r0' z'0 => if z'0 = y0 then some r0' else none)) (r := r0) ?_ ?_
  · exact (C_ContainsFuncA_ok N f x0 y0 _).trans ((congrArg (fun K => C_ContainsFuncA N f x0 y0 K) (funext fun r0' => if_pos rfl)).trans h)
  · intro rs' m' hx
    unfold r_ContainsFuncA at hx
    split at hx
    · dsimp only at hx
      split at hx
      · rename_i hk
        subst hk
        cases hx; exact ⟨rfl, rfl, _, rfl⟩
      · cases hx
    · cases hx
noncomputable def r_avalid (rs : List D) (_ : Mem) : Option (Bool) :=
  match rs with
  | [.v (.bool r0) _] => some (r0)
  | _ => none
noncomputable def B_avalid (N : Nat) (f : Int → Int → List V → Int → Option (Bool)) (x0 : Int) (x1 : Int) (x2 : List V) (x3 : Int) : Option (Bool) :=
  br (decide (x0 < 0)) (some false)
  (br (decide (7 < x0)) (some false)
    (bnd1 (s_forms N) fun x0_1 =>
      br (decide (x0 = 0))
        (br (!decide (x1 = 0)) (some false)
          (br (decide (0 < (↑x2.length : Int))) (some false)
            (br (decide (x0 = 5)) (br (!decide (bitsI BinOp.andNot IntKind.i64 x1 51 = 0)) (some false) (bnd1 (s_ContainsFuncA N f x2 x3) fun b1 => some !b1)) (bnd1 (s_ContainsFuncA N f x2 x3) fun b2 => some !b2))))
        (br (decide (x0 = 1))
          (br (!decide (x1 = 0)) (some false)
            (br (decide (0 < (↑x2.length : Int))) (some false)
              (br (decide (x0 = 5)) (br (!decide (bitsI BinOp.andNot IntKind.i64 x1 51 = 0)) (some false) (bnd1 (s_ContainsFuncA N f x2 x3) fun b3 => some !b3)) (bnd1 (s_ContainsFuncA N f x2 x3) fun b4 => some !b4))))
          (br (decide (x0 = 2))
            (br (decide (x1 < 1)) (some false)
              (br (decide (8 < x1)) (some false)
                (br (decide (0 < (↑x2.length : Int))) (some false)
                  (br (decide (x0 = 5)) (br (!decide (bitsI BinOp.andNot IntKind.i64 x1 51 = 0)) (some false) (bnd1 (s_ContainsFuncA N f x2 x3) fun b5 => some !b5)) (bnd1 (s_ContainsFuncA N f x2 x3) fun b6 => some !b6)))))
            (br (decide (x0 = 3))
              (br (decide (x1 < 1)) (some false)
                (br (decide (8 < x1)) (some false)
                  (br (decide (0 < (↑x2.length : Int))) (some false)
                    (br (decide (x0 = 5)) (br (!decide (bitsI BinOp.andNot IntKind.i64 x1 51 = 0)) (some false) (bnd1 (s_ContainsFuncA N f x2 x3) fun b7 => some !b7)) (bnd1 (s_ContainsFuncA N f x2 x3) fun b8 => some !b8)))))
              (br (decide (x0 = 4))
                (br (decide (x1 < 1)) (some false)
                  (br (decide (5 < x1)) (some false)
                    (br (decide (0 < (↑x2.length : Int))) (some false)
                      (br (decide (x0 = 5)) (br (!decide (bitsI BinOp.andNot IntKind.i64 x1 51 = 0)) (some false) (bnd1 (s_ContainsFuncA N f x2 x3) fun b9 => some !b9)) (bnd1 (s_ContainsFuncA N f x2 x3) fun b10 => some !b10)))))
                (br (decide (x0 = 5))
                  (br (decide (x1 < 1)) (some false)
                    (br (decide (51 < x1)) (some false)
                      (br (decide (0 < (↑x2.length : Int))) (some false)
                        (br (decide (x0 = 5)) (br (!decide (bitsI BinOp.andNot IntKind.i64 x1 51 = 0)) (some false) (bnd1 (s_ContainsFuncA N f x2 x3) fun b11 => some !b11)) (bnd1 (s_ContainsFuncA N f x2 x3) fun b12 => some !b12)))))
                  (br (decide (x0 = 6))
                    (br (!decide (x1 = 0)) (some false)
                      (br (decide ((↑x2.length : Int) = 0)) (some false)
                        (br (decide (x0 = 5)) (br (!decide (bitsI BinOp.andNot IntKind.i64 x1 51 = 0)) (some false) (bnd1 (s_ContainsFuncA N f x2 x3) fun b13 => some !b13)) (bnd1 (s_ContainsFuncA N f x2 x3) fun b14 => some !b14))))
                    (br (decide (x0 = 7))
                      (br (!decide (x1 = 0)) (some false)
                        (br (decide ((↑x2.length : Int) = 0)) (some false)
                          (br (decide (x0 = 5)) (br (!decide (bitsI BinOp.andNot IntKind.i64 x1 51 = 0)) (some false) (bnd1 (s_ContainsFuncA N f x2 x3) fun b15 => some !b15)) (bnd1 (s_ContainsFuncA N f x2 x3) fun b16 => some !b16))))
                      none)))))))))
noncomputable def s_avalid (N : Nat) : Nat → Int → Int → List V → Int → Option (Bool)
  | 0, _, _, _, _ => none
  | n + 1, x0, x1, x2, x3 => B_avalid N (s_avalid N n) x0 x1 x2 x3
noncomputable def cx_avalid (N : Nat) (f : Int → Int → List V → Int → Option (Bool)) : Cx := { T := T, isPure := tabP [⟨81, e_avalid f⟩, ⟨103, e_forms (s_forms N)⟩], pureK := fun g ds K => tabK [⟨81, e_avalid f⟩, ⟨103, e_forms (s_forms N)⟩] g ds K, memK := fun g dst ds m K => tabMK [⟨107, e_ContainsFuncA (s_ContainsFuncA N f)⟩, ⟨108, e_avalid1 (s_avalid1 N f)⟩] g dst ds m K, meth := tabM [], keep := fun _ => [], keepX := fun _ => [], loopT := fun _ _ _ _ => none, jumps := 9 }
theorem B_avalid_ok (N : Nat) (f : Int → Int → List V → Int → Option (Bool)) (x0 : Int) (x1 : Int) (x2 : List V) (x3 : Int) : bodyK (cx_avalid N f) Try.f81 [.agg [.v (.int .i64 x0) .no, .v (.int .i64 x1) .no, .v (.sl 46 x2) .no], .v (.int .i64 x3) .no] [] r_avalid = B_avalid N f x0 x1 x2 x3 := by
  kernel_rfl
theorem co_avalid (N : Nat) (f : Int → Int → List V → Int → Option (Bool)) (hf : ∀ (x0 : Int) (x1 : Int) (x2 : List V) (x3 : Int) (r0 : Bool), f x0 x1 x2 x3 = some r0 → PureRet Try.prog T 81 [.agg [.v (.int .i64 x0) .no, .v (.int .i64 x1) .no, .v (.sl 46 x2) .no], .v (.int .i64 x3) .no] [.v (.bool r0) .no]) : CxOK Try.prog (cx_avalid N f) :=
  cxOK_of2 (es := [⟨81, e_avalid f⟩, ⟨103, e_forms (s_forms N)⟩]) (me := [⟨107, e_ContainsFuncA (s_ContainsFuncA N f)⟩, ⟨108, e_avalid1 (s_avalid1 N f)⟩]) (ms := []) T_ok ⟨eo_avalid f hf, eo_forms _ (p_forms N), trivial⟩ ⟨eo_ContainsFuncA _ (p_ContainsFuncA N f hf), eo_avalid1 _ (p_avalid1 N f hf), trivial⟩ trivial rfl (fun _ _ _ _ => rfl) (fun _ _ _ _ _ _ => rfl) rfl
theorem lo_avalid (N : Nat) (f : Int → Int → List V → Int → Option (Bool)) : LoopsOK (cx_avalid N f) Try.f81.ntmps (bodyOf Try.f81) :=
  loopsOK_of (k := 0) (by kernel_rfl) trivial
theorem p_avalid (N : Nat) : ∀ (M : Nat) (x0 : Int) (x1 : Int) (x2 : List V) (x3 : Int) (r0 : Bool), s_avalid N M x0 x1 x2 x3 = some r0 → PureRet Try.prog T 81 [.agg [.v (.int .i64 x0) .no, .v (.int .i64 x1) .no, .v (.sl 46 x2) .no], .v (.int .i64 x3) .no] [.v (.bool r0) .no]
  | 0, _, _, _, _, _, h => by cases h
  | M + 1, x0, x1, x2, x3, r0, h => pure_of (cx := cx_avalid N (s_avalid N M)) (by kernel_rfl) (co_avalid N (s_avalid N M) (p_avalid N M)) Try.func81 (by kernel_rfl) (by kernel_rfl) (lo_avalid N (s_avalid N M)) rfl rfl rfl (rf := r_avalid) ((B_avalid_ok N (s_avalid N M) x0 x1 x2 x3).trans h) (fun rs' m h => by
    unfold r_avalid at h
    split at h
    · cases h; exact ⟨rfl, rfl⟩
    · cases h)
noncomputable def e_measure {R : Type} (s : Int → Int → List V → Option (Int × Int)) (ds : List D) (K : List D → Option R) : Option R :=
  match ds with
  | [.agg [.v (.int .i64 x0) .no, .v (.int .i64 x1) .no, .v (.sl 46 x2) .no]] => bnd2 (s x0 x1 x2) fun r0 r1 => K [.v (.int .i64 r0) .no, .v (.int .i64 r1) .no]
  | _ => none
noncomputable def r_measure (rs : List D) (_ : Mem) : Option (Int × Int) :=
  match rs with
  | [.v (.int .i64 r0) _, .v (.int .i64 r1) _] => some (r0, r1)
  | _ => none
noncomputable def F_measure_3 {R : Type} (N : Nat) (f : Int → Int → List V → Option (Int × Int)) (vs2 : List V) (n3 : Int) (n5 : Int) (n6 : Int) (vs7 : List V) (Lq : Int → Int → Int → Option R) (K0 : Int → Int → Option R) (n0 : Int) (n1 : Int) (n4 : Int) : Option R :=
  br (decide (n4 < n3))
  (br (decide (0 ≤ n4) && decide (n4 < (↑vs2.length : Int)))
    (at? vs2 n4.toNat fun x0 =>
      x0.unAgg fun l1 =>
        unCons l1 fun x2 l3 =>
          V.unInt IntKind.i64 x2 fun n4_1 =>
            unCons l3 fun x5 l6 =>
              V.unInt IntKind.i64 x5 fun n7 =>
                unCons l6 fun x8 l9 =>
                  V.unSl 46 x8 fun l10 =>
                    unNil l9
                      (bnd2 (f n4_1 n7 l10) fun n11 n12 =>
                        Lq (IntKind.i64.wrap (n0 + n11))
                          (match true with
                          | true => max n1 n12
                          | false => min n1 n12)
                          (IntKind.i64.wrap (n4 + 1))))
    none)
  (K0 n0 n1)
noncomputable def S_measure_3 {R : Type} (N : Nat) (f : Int → Int → List V → Option (Int × Int)) (vs2 : List V) (n3 : Int) (n5 : Int) (n6 : Int) (vs7 : List V) : Nat → Int → Int → Int → (Int → Int → Option R) → Option R
  | 0, _, _, _, _ => none
  | t + 1, n0, n1, n4, K0 => F_measure_3 N f vs2 n3 n5 n6 vs7 (fun n0 n1 n4 => S_measure_3 N f vs2 n3 n5 n6 vs7 t n0 n1 n4 K0) K0 n0 n1 n4
noncomputable def l_measure_3 {R : Type} (N : Nat) (f : Int → Int → List V → Option (Int × Int)) (ds : List D) (m : Mem) (K : Ex → List D → Mem → Option R) : Option R :=
  match ds, m with
  | [(.ptr 0 1 0), (.v (.int .i64 n0) .no), (.v (.int .i64 n1) .no), (.v (.sl 46 vs2) .no), (.v (.int .i64 n3) .no), (.v (.int .i64 n4) .no)], [[(1, ⟨46, [(.v (.int .i64 n5) .no), (.v (.int .i64 n6) .no), (.v (.sl 46 vs7) .no)]⟩)]] => S_measure_3 N f vs2 n3 n5 n6 vs7 N n0 n1 n4 (fun a0 a1 => K (.exit 0) [(.ptr 0 1 0), (.v (.int .i64 a0) .no), (.v (.int .i64 a1) .no)] [[(1, ⟨46, [(.v (.int .i64 n5) .no), (.v (.int .i64 n6) .no), (.v (.sl 46 vs7) .no)]⟩)]])
  | _, _ => none
noncomputable def B_measure (N : Nat) (f : Int → Int → List V → Option (Int × Int)) (x0 : Int) (x1 : Int) (x2 : List V) : Option (Int × Int) :=
  S_measure_3 N f x2 (↑x2.length : Int) x0 x1 x2 N 1 0 0 fun n0 n1 => some (n0, IntKind.i64.wrap (n1 + 1))
noncomputable def s_measure (N : Nat) : Nat → Int → Int → List V → Option (Int × Int)
  | 0, _, _, _ => none
  | n + 1, x0, x1, x2 => B_measure N (s_measure N n) x0 x1 x2
noncomputable def cx_measure (N : Nat) (f : Int → Int → List V → Option (Int × Int)) : Cx := { T := T, isPure := tabP [⟨82, e_measure f⟩], pureK := fun g ds K => tabK [⟨82, e_measure f⟩] g ds K, memK := fun g dst ds m K => tabMK [] g dst ds m K, meth := tabM [], keep := fun r => match r with | 3 => [1, 4, 5, 11, 12, 13] | _ => [], keepX := fun r => match r with | 3 => [1, 4, 5] | _ => [], loopT := fun r ds m K => match r with | 3 => l_measure_3 N f ds m K | _ => none, jumps := 9 }
theorem F_measure_3_ok {R : Type} (N : Nat) (f : Int → Int → List V → Option (Int × Int)) (vs2 : List V) (n3 : Int) (n5 : Int) (n6 : Int) (vs7 : List V) (n0 : Int) (n1 : Int) (n4 : Int) (L : List D → Mem → Option R) (K : Ex → List D → Mem → Option R) :
    roundK (fun st K => codeK (cx_measure N f) (loopN Try.f82 0) st K) 32 [1, 4, 5, 11, 12, 13] [1, 4, 5] L [(.ptr 0 1 0), (.v (.int .i64 n0) .no), (.v (.int .i64 n1) .no), (.v (.sl 46 vs2) .no), (.v (.int .i64 n3) .no), (.v (.int .i64 n4) .no)] [[(1, ⟨46, [(.v (.int .i64 n5) .no), (.v (.int .i64 n6) .no), (.v (.sl 46 vs7) .no)]⟩)]] K = F_measure_3 N f vs2 n3 n5 n6 vs7 (fun n0 n1 n4 => L [(.ptr 0 1 0), (.v (.int .i64 n0) .no), (.v (.int .i64 n1) .no), (.v (.sl 46 vs2) .no), (.v (.int .i64 n3) .no), (.v (.int .i64 n4) .no)] [[(1, ⟨46, [(.v (.int .i64 n5) .no), (.v (.int .i64 n6) .no), (.v (.sl 46 vs7) .no)]⟩)]]) (fun a0 a1 => K (.exit 0) [(.ptr 0 1 0), (.v (.int .i64 a0) .no), (.v (.int .i64 a1) .no)] [[(1, ⟨46, [(.v (.int .i64 n5) .no), (.v (.int .i64 n6) .no), (.v (.sl 46 vs7) .no)]⟩)]]) n0 n1 n4 := by
  kernel_rfl
theorem S_measure_3_ok {R : Type} (N : Nat) (f : Int → Int → List V → Option (Int × Int)) (vs2 : List V) (n3 : Int) (n5 : Int) (n6 : Int) (vs7 : List V) (K : Ex → List D → Mem → Option R) : ∀ (t : Nat) (n0 : Int) (n1 : Int) (n4 : Int),
    loopK (fun st K => codeK (cx_measure N f) (loopN Try.f82 0) st K) 32 [1, 4, 5, 11, 12, 13] [1, 4, 5] t [(.ptr 0 1 0), (.v (.int .i64 n0) .no), (.v (.int .i64 n1) .no), (.v (.sl 46 vs2) .no), (.v (.int .i64 n3) .no), (.v (.int .i64 n4) .no)] [[(1, ⟨46, [(.v (.int .i64 n5) .no), (.v (.int .i64 n6) .no), (.v (.sl 46 vs7) .no)]⟩)]] K = S_measure_3 N f vs2 n3 n5 n6 vs7 t n0 n1 n4 (fun a0 a1 => K (.exit 0) [(.ptr 0 1 0), (.v (.int .i64 a0) .no), (.v (.int .i64 a1) .no)] [[(1, ⟨46, [(.v (.int .i64 n5) .no), (.v (.int .i64 n6) .no), (.v (.sl 46 vs7) .no)]⟩)]])
  | 0, n0, n1, n4 => rfl
  | t + 1, n0, n1, n4 => (F_measure_3_ok N f vs2 n3 n5 n6 vs7 n0 n1 n4 _ K).trans (congrArg (fun L => F_measure_3 N f vs2 n3 n5 n6 vs7 L (fun a0 a1 => K (.exit 0) [(.ptr 0 1 0), (.v (.int .i64 a0) .no), (.v (.int .i64 a1) .no)] [[(1, ⟨46, [(.v (.int .i64 n5) .no), (.v (.int .i64 n6) .no), (.v (.sl 46 vs7) .no)]⟩)]]) n0 n1 n4) (funext fun n0 => funext fun n1 => funext fun n4 => S_measure_3_ok N f vs2 n3 n5 n6 vs7 K t n0 n1 n4))
theorem B_measure_ok (N : Nat) (f : Int → Int → List V → Option (Int × Int)) (x0 : Int) (x1 : Int) (x2 : List V) : bodyK (cx_measure N f) Try.f82 [.agg [.v (.int .i64 x0) .no, .v (.int .i64 x1) .no, .v (.sl 46 x2) .no]] [] r_measure = B_measure N f x0 x1 x2 := by
  kernel_rfl
theorem go_measure : Goes Try.prog 82 := goes_of Try.func82 (by kernel_rfl) (c := bodyOf Try.f82) (by kernel_rfl)
theorem eo_measure (s : Int → Int → List V → Option (Int × Int)) (hs : ∀ (x0 : Int) (x1 : Int) (x2 : List V) (r0 : Int) (r1 : Int), s x0 x1 x2 = some (r0, r1) → PureRet Try.prog T 82 [.agg [.v (.int .i64 x0) .no, .v (.int .i64 x1) .no, .v (.sl 46 x2) .no]] [.v (.int .i64 r0) .no, .v (.int .i64 r1) .no]) : EntOK Try.prog T ⟨82, e_measure s⟩ := by
  refine ⟨go_measure, fun R ds K r h => ?_, fun R ds K => ?_⟩
  · simp only [e_measure] at h
    split at h
    · obtain ⟨r0, r1, h1, h2⟩ := bnd2_some h
      exact ⟨_, h2, hs _ _ _ _ _ h1⟩
    · cases h
  · simp only [e_measure]
    split
    · rw [bnd2_b]; rfl
    · rfl
theorem co_measure (N : Nat) (f : Int → Int → List V → Option (Int × Int)) (hf : ∀ (x0 : Int) (x1 : Int) (x2 : List V) (r0 : Int) (r1 : Int), f x0 x1 x2 = some (r0, r1) → PureRet Try.prog T 82 [.agg [.v (.int .i64 x0) .no, .v (.int .i64 x1) .no, .v (.sl 46 x2) .no]] [.v (.int .i64 r0) .no, .v (.int .i64 r1) .no]) : CxOK Try.prog (cx_measure N f) :=
  cxOK_of2 (es := [⟨82, e_measure f⟩]) (me := []) (ms := []) T_ok ⟨eo_measure f hf, trivial⟩ trivial trivial rfl (fun _ _ _ _ => rfl) (fun _ _ _ _ _ _ => rfl) rfl
theorem lk_measure_3 (N : Nat) (f : Int → Int → List V → Option (Int × Int)) : LoopOK (cx_measure N f) 32 (loopN Try.f82 0) := by
  refine loopOK_of (rid := 3) (by kernel_rfl) rfl rfl fun R ds m K r h => ?_
  have h : l_measure_3 N f ds m K = some r := h
  unfold l_measure_3 at h
  split at h
  · exact ⟨N, Eq.trans (S_measure_3_ok ..) h⟩
  · cases h
theorem lo_measure (N : Nat) (f : Int → Int → List V → Option (Int × Int)) : LoopsOK (cx_measure N f) Try.f82.ntmps (bodyOf Try.f82) :=
  loopsOK_of (k := 1) (by kernel_rfl) ⟨trivial, lk_measure_3 N f⟩
theorem p_measure (N : Nat) : ∀ (M : Nat) (x0 : Int) (x1 : Int) (x2 : List V) (r0 : Int) (r1 : Int), s_measure N M x0 x1 x2 = some (r0, r1) → PureRet Try.prog T 82 [.agg [.v (.int .i64 x0) .no, .v (.int .i64 x1) .no, .v (.sl 46 x2) .no]] [.v (.int .i64 r0) .no, .v (.int .i64 r1) .no]
  | 0, _, _, _, _, _, h => by cases h
  | M + 1, x0, x1, x2, r0, r1, h => pure_of (cx := cx_measure N (s_measure N M)) (by kernel_rfl) (co_measure N (s_measure N M) (p_measure N M)) Try.func82 (by kernel_rfl) (by kernel_rfl) (lo_measure N (s_measure N M)) rfl rfl rfl (rf := r_measure) ((B_measure_ok N (s_measure N M) x0 x1 x2).trans h) (fun rs' m h => by
    unfold r_measure at h
    split at h
    · cases h; exact ⟨rfl, rfl⟩
    · cases h)
noncomputable def e_aCheck {R : Type} (s : Int → Int → List V → Option (Int)) (ds : List D) (K : List D → Option R) : Option R :=
  match ds with
  | [.agg [.v (.int .i64 x0) .no, .v (.int .i64 x1) .no, .v (.sl 46 x2) .no]] => bnd1 (s x0 x1 x2) fun r0 => K [.v (.int .i64 r0) .no]
  | _ => none
noncomputable def r_aCheck (rs : List D) (_ : Mem) : Option (Int) :=
  match rs with
  | [.v (.int .i64 r0) _] => some (r0)
  | _ => none
noncomputable def s_aCheck (N : Nat) (x0 : Int) (x1 : Int) (x2 : List V) : Option (Int) :=
  bnd1 (s_avalid N N x0 x1 x2 1) fun b0 => br (!b0) (some 1) (bnd2 (s_measure N N x0 x1 x2) fun n1 n2 => br (decide (16 < n1)) (some 3) (br (decide (8 < n2)) (some 3) (some 0)))
noncomputable def cx_aCheck (N : Nat) : Cx := { T := T, isPure := tabP [⟨81, e_avalid (s_avalid N N)⟩, ⟨82, e_measure (s_measure N N)⟩], pureK := fun g ds K => tabK [⟨81, e_avalid (s_avalid N N)⟩, ⟨82, e_measure (s_measure N N)⟩] g ds K, memK := fun g dst ds m K => tabMK [] g dst ds m K, meth := tabM [], keep := fun _ => [], keepX := fun _ => [], loopT := fun _ _ _ _ => none, jumps := 9 }
theorem s_aCheck_ok (N : Nat) (x0 : Int) (x1 : Int) (x2 : List V) : bodyK (cx_aCheck N) Try.f55 [.agg [.v (.int .i64 x0) .no, .v (.int .i64 x1) .no, .v (.sl 46 x2) .no]] [] r_aCheck = s_aCheck N x0 x1 x2 := by
  kernel_rfl
theorem go_aCheck : Goes Try.prog 55 := goes_of Try.func55 (by kernel_rfl) (c := bodyOf Try.f55) (by kernel_rfl)
theorem eo_aCheck (s : Int → Int → List V → Option (Int)) (hs : ∀ (x0 : Int) (x1 : Int) (x2 : List V) (r0 : Int), s x0 x1 x2 = some r0 → PureRet Try.prog T 55 [.agg [.v (.int .i64 x0) .no, .v (.int .i64 x1) .no, .v (.sl 46 x2) .no]] [.v (.int .i64 r0) .no]) : EntOK Try.prog T ⟨55, e_aCheck s⟩ := by
  refine ⟨go_aCheck, fun R ds K r h => ?_, fun R ds K => ?_⟩
  · simp only [e_aCheck] at h
    split at h
    · obtain ⟨r0, h1, h2⟩ := bnd1_some h
      exact ⟨_, h2, hs _ _ _ _ h1⟩
    · cases h
  · simp only [e_aCheck]
    split
    · rw [bnd1_b]; rfl
    · rfl
theorem co_aCheck (N : Nat) : CxOK Try.prog (cx_aCheck N) :=
  cxOK_of2 (es := [⟨81, e_avalid (s_avalid N N)⟩, ⟨82, e_measure (s_measure N N)⟩]) (me := []) (ms := []) T_ok ⟨eo_avalid _ (p_avalid N N), eo_measure _ (p_measure N N), trivial⟩ trivial trivial rfl (fun _ _ _ _ => rfl) (fun _ _ _ _ _ _ => rfl) rfl
theorem lo_aCheck (N : Nat) : LoopsOK (cx_aCheck N) Try.f55.ntmps (bodyOf Try.f55) :=
  loopsOK_of (k := 0) (by kernel_rfl) trivial
theorem p_aCheck (N : Nat) (x0 : Int) (x1 : Int) (x2 : List V) (r0 : Int) (h : s_aCheck N x0 x1 x2 = some r0) : PureRet Try.prog T 55 [.agg [.v (.int .i64 x0) .no, .v (.int .i64 x1) .no, .v (.sl 46 x2) .no]] [.v (.int .i64 r0) .no] :=
  pure_of (cx := cx_aCheck N) (by kernel_rfl) (co_aCheck N) Try.func55 (by kernel_rfl) (by kernel_rfl) (lo_aCheck N) rfl rfl rfl (rf := r_aCheck) ((s_aCheck_ok N x0 x1 x2).trans h) (fun rs' m h => by
    unfold r_aCheck at h
    split at h
    · cases h; exact ⟨rfl, rfl⟩
    · cases h)
noncomputable def e_aCheckRules {R : Type} (s : List V → Option (Int)) (ds : List D) (K : List D → Option R) : Option R :=
  match ds with
  | [.v (.sl 48 x0) .no] => bnd1 (s x0) fun r0 => K [.v (.int .i64 r0) .no]
  | _ => none
noncomputable def r_aCheckRules (rs : List D) (_ : Mem) : Option (Int) :=
  match rs with
  | [.v (.int .i64 r0) _] => some (r0)
  | _ => none
noncomputable def F_aCheckRules_4 {R : Type} (N : Nat) (vs0 : List V) (n1 : Int) (Lq : Int → Option R) (K0 : Int → Option R) (K1 : Option R) (n2 : Int) : Option R :=
  br (decide (n2 < n1))
  (br (decide (0 ≤ n2) && decide (n2 < (↑vs0.length : Int)))
    (at? vs0 n2.toNat fun x0 =>
      x0.unAgg fun l1 =>
        unCons l1 fun x2 l3 =>
          V.unInt IntKind.i64 x2 fun n4 =>
            unCons l3 fun x5 l6 =>
              V.unInt IntKind.i64 x5 fun n7 =>
                unCons l6 fun x8 l9 =>
                  V.unInt IntKind.i64 x8 fun n10 =>
                    unCons l9 fun x11 l12 =>
                      V.unSl 46 x11 fun l13 => unNil l12 (br (decide (n4 < 1)) (K0 1) (br (decide (255 < n4)) (K0 1) (bnd1 (s_aCheck N n7 n10 l13) fun n14 => br (!decide (n14 = 0)) (K0 n14) (Lq (IntKind.i64.wrap (n2 + 1)))))))
    none)
  K1
noncomputable def S_aCheckRules_4 {R : Type} (N : Nat) (vs0 : List V) (n1 : Int) : Nat → Int → (Int → Option R) → (Option R) → Option R
  | 0, _, _, _ => none
  | t + 1, n2, K0, K1 => F_aCheckRules_4 N vs0 n1 (fun n2 => S_aCheckRules_4 N vs0 n1 t n2 K0 K1) K0 K1 n2
noncomputable def l_aCheckRules_4 {R : Type} (N : Nat) (ds : List D) (m : Mem) (K : Ex → List D → Mem → Option R) : Option R :=
  match ds, m with
  | [(.v (.sl 48 vs0) .no), (.v (.int .i64 n1) .no), (.v (.int .i64 n2) .no)], [[]] => S_aCheckRules_4 N vs0 n1 N n2 (fun a0 => K .ret [(.v (.int .i64 a0) .no)] [[]]) (K (.exit 0) [.any] [[]])
  | _, _ => none
noncomputable def s_aCheckRules (N : Nat) (x0 : List V) : Option (Int) :=
  br (decide (8 < (↑x0.length : Int))) (some 3) (S_aCheckRules_4 N x0 (↑x0.length : Int) N 0 (fun n0 => some n0) (some 0))
noncomputable def cx_aCheckRules (N : Nat) : Cx := { T := T, isPure := tabP [⟨55, e_aCheck (s_aCheck N)⟩], pureK := fun g ds K => tabK [⟨55, e_aCheck (s_aCheck N)⟩] g ds K, memK := fun g dst ds m K => tabMK [] g dst ds m K, meth := tabM [], keep := fun r => match r with | 4 => [9, 10, 11] | _ => [], keepX := fun r => match r with | 4 => [2] | _ => [], loopT := fun r ds m K => match r with | 4 => l_aCheckRules_4 N ds m K | _ => none, jumps := 9 }
theorem F_aCheckRules_4_ok {R : Type} (N : Nat) (vs0 : List V) (n1 : Int) (n2 : Int) (L : List D → Mem → Option R) (K : Ex → List D → Mem → Option R) :
    roundK (fun st K => codeK (cx_aCheckRules N) (loopN Try.f30 0) st K) 30 [9, 10, 11] [2] L [(.v (.sl 48 vs0) .no), (.v (.int .i64 n1) .no), (.v (.int .i64 n2) .no)] [[]] K = F_aCheckRules_4 N vs0 n1 (fun n2 => L [(.v (.sl 48 vs0) .no), (.v (.int .i64 n1) .no), (.v (.int .i64 n2) .no)] [[]]) (fun a0 => K .ret [(.v (.int .i64 a0) .no)] [[]]) (K (.exit 0) [.any] [[]]) n2 := by
  kernel_rfl
theorem S_aCheckRules_4_ok {R : Type} (N : Nat) (vs0 : List V) (n1 : Int) (K : Ex → List D → Mem → Option R) : ∀ (t : Nat) (n2 : Int),
    loopK (fun st K => codeK (cx_aCheckRules N) (loopN Try.f30 0) st K) 30 [9, 10, 11] [2] t [(.v (.sl 48 vs0) .no), (.v (.int .i64 n1) .no), (.v (.int .i64 n2) .no)] [[]] K = S_aCheckRules_4 N vs0 n1 t n2 (fun a0 => K .ret [(.v (.int .i64 a0) .no)] [[]]) (K (.exit 0) [.any] [[]])
  | 0, n2 => rfl
  | t + 1, n2 => (F_aCheckRules_4_ok N vs0 n1 n2 _ K).trans (congrArg (fun L => F_aCheckRules_4 N vs0 n1 L (fun a0 => K .ret [(.v (.int .i64 a0) .no)] [[]]) (K (.exit 0) [.any] [[]]) n2) (funext fun n2 => S_aCheckRules_4_ok N vs0 n1 K t n2))
theorem s_aCheckRules_ok (N : Nat) (x0 : List V) : bodyK (cx_aCheckRules N) Try.f30 [.v (.sl 48 x0) .no] [] r_aCheckRules = s_aCheckRules N x0 := by
  kernel_rfl
theorem go_aCheckRules : Goes Try.prog 30 := goes_of Try.func30 (by kernel_rfl) (c := bodyOf Try.f30) (by kernel_rfl)
theorem eo_aCheckRules (s : List V → Option (Int)) (hs : ∀ (x0 : List V) (r0 : Int), s x0 = some r0 → PureRet Try.prog T 30 [.v (.sl 48 x0) .no] [.v (.int .i64 r0) .no]) : EntOK Try.prog T ⟨30, e_aCheckRules s⟩ := by
  refine ⟨go_aCheckRules, fun R ds K r h => ?_, fun R ds K => ?_⟩
  · simp only [e_aCheckRules] at h
    split at h
    · obtain ⟨r0, h1, h2⟩ := bnd1_some h
      exact ⟨_, h2, hs _ _ h1⟩
    · cases h
  · simp only [e_aCheckRules]
    split
    · rw [bnd1_b]; rfl
    · rfl
theorem co_aCheckRules (N : Nat) : CxOK Try.prog (cx_aCheckRules N) :=
  cxOK_of2 (es := [⟨55, e_aCheck (s_aCheck N)⟩]) (me := []) (ms := []) T_ok ⟨eo_aCheck _ (p_aCheck N), trivial⟩ trivial trivial rfl (fun _ _ _ _ => rfl) (fun _ _ _ _ _ _ => rfl) rfl
theorem lk_aCheckRules_4 (N : Nat) : LoopOK (cx_aCheckRules N) 30 (loopN Try.f30 0) := by
  refine loopOK_of (rid := 4) (by kernel_rfl) rfl rfl fun R ds m K r h => ?_
  have h : l_aCheckRules_4 N ds m K = some r := h
  unfold l_aCheckRules_4 at h
  split at h
  · exact ⟨N, Eq.trans (S_aCheckRules_4_ok ..) h⟩
  · cases h
theorem lo_aCheckRules (N : Nat) : LoopsOK (cx_aCheckRules N) Try.f30.ntmps (bodyOf Try.f30) :=
  loopsOK_of (k := 1) (by kernel_rfl) ⟨trivial, lk_aCheckRules_4 N⟩
theorem p_aCheckRules (N : Nat) (x0 : List V) (r0 : Int) (h : s_aCheckRules N x0 = some r0) : PureRet Try.prog T 30 [.v (.sl 48 x0) .no] [.v (.int .i64 r0) .no] :=
  pure_of (cx := cx_aCheckRules N) (by kernel_rfl) (co_aCheckRules N) Try.func30 (by kernel_rfl) (by kernel_rfl) (lo_aCheckRules N) rfl rfl rfl (rf := r_aCheckRules) ((s_aCheckRules_ok N x0).trans h) (fun rs' m h => by
    unfold r_aCheckRules at h
    split at h
    · cases h; exact ⟨rfl, rfl⟩
    · cases h)
noncomputable def e_aencode {R : Type} (s : Int → Int → List V → Option (List UInt8)) (ds : List D) (K : List D → Option R) : Option R :=
  match ds with
  | [.agg [.v (.int .i64 x0) .no, .v (.int .i64 x1) .no, .v (.sl 46 x2) .no]] => bnd1 (s x0 x1 x2) fun r0 => K [.v (.bytes r0) .no]
  | _ => none
noncomputable def r_aencode (rs : List D) (_ : Mem) : Option (List UInt8) :=
  match rs with
  | [.v (.bytes r0) _] => some (r0)
  | _ => none
noncomputable def F_aencode_8 {R : Type} (N : Nat) (f : Int → Int → List V → Option (List UInt8)) (vs1 : List V) (n2 : Int) (n4 : Int) (n5 : Int) (vs6 : List V) (l7 : List UInt8) (b8 : Bool) (b9 : Bool) (n10 : Int) (n11 : Int) (Lq : List UInt8 → Int → Option R) (K0 : List UInt8 → Option R) (l0 : List UInt8) (n3 : Int) : Option R :=
  br (decide (n3 < n2))
  (br (decide (0 ≤ n3) && decide (n3 < (↑vs1.length : Int)))
    (at? vs1 n3.toNat fun x0 =>
      x0.unAgg fun l1 =>
        unCons l1 fun x2 l3 =>
          V.unInt IntKind.i64 x2 fun n4 =>
            unCons l3 fun x5 l6 =>
              V.unInt IntKind.i64 x5 fun n7 =>
                unCons l6 fun x8 l9 => V.unSl 46 x8 fun l10 => unNil l9 (bnd1 (f n4 n7 l10) fun l11 => br (decide ((l0.length + l11.length) * 1 ≤ 140737488355328)) (Lq (l0 ++ l11) (IntKind.i64.wrap (n3 + 1))) none))
    none)
  (K0 l0)
noncomputable def S_aencode_8 {R : Type} (N : Nat) (f : Int → Int → List V → Option (List UInt8)) (vs1 : List V) (n2 : Int) (n4 : Int) (n5 : Int) (vs6 : List V) (l7 : List UInt8) (b8 : Bool) (b9 : Bool) (n10 : Int) (n11 : Int) : Nat → List UInt8 → Int → (List UInt8 → Option R) → Option R
  | 0, _, _, _ => none
  | t + 1, l0, n3, K0 => F_aencode_8 N f vs1 n2 n4 n5 vs6 l7 b8 b9 n10 n11 (fun l0 n3 => S_aencode_8 N f vs1 n2 n4 n5 vs6 l7 b8 b9 n10 n11 t l0 n3 K0) K0 l0 n3
noncomputable def l_aencode_8 {R : Type} (N : Nat) (f : Int → Int → List V → Option (List UInt8)) (ds : List D) (m : Mem) (K : Ex → List D → Mem → Option R) : Option R :=
  match ds, m with
  | [(.ptr 0 1 0), (.ptr 0 3 0), (.v (.bytes l0) (.own (.slot 4) 5)), (.v (.sl 46 vs1) .no), (.v (.int .i64 n2) .no), (.v (.int .i64 n3) .no)], [[(1, ⟨46, [(.v (.int .i64 n4) .no), (.v (.int .i64 n5) .no), (.v (.sl 46 vs6) .no)]⟩), (3, ⟨113, [(.v (.str l7) .no), (.v (.bool b8) .no), (.v (.bool b9) .no), (.v (.int .i64 n10) .no), (.v (.int .i64 n11) .no)]⟩)]] => S_aencode_8 N f vs1 n2 n4 n5 vs6 l7 b8 b9 n10 n11 N l0 n3 (fun a0 => K (.exit 0) [(.ptr 0 1 0), (.ptr 0 3 0), (.v (.bytes a0) (.own (.slot 4) 5))] [[(1, ⟨46, [(.v (.int .i64 n4) .no), (.v (.int .i64 n5) .no), (.v (.sl 46 vs6) .no)]⟩), (3, ⟨113, [(.v (.str l7) .no), (.v (.bool b8) .no), (.v (.bool b9) .no), (.v (.int .i64 n10) .no), (.v (.int .i64 n11) .no)]⟩)]])
  | _, _ => none
noncomputable def B_aencode (N : Nat) (f : Int → Int → List V → Option (List UInt8)) (x0 : Int) (x1 : Int) (x2 : List V) : Option (List UInt8) :=
  bnd1 (s_forms N) fun x0_1 =>
  br (decide (x0 = 0)) (S_aencode_8 N f x2 (↑x2.length : Int) x0 x1 x2 ([110, 101, 118, 101, 114] : List UInt8) false false 0 0 N [UInt8.ofNat (IntKind.u8.wrap x0).toNat] 0 fun l1 => some l1)
    (br (decide (x0 = 1)) (S_aencode_8 N f x2 (↑x2.length : Int) x0 x1 x2 ([97, 108, 119, 97, 121, 115] : List UInt8) false false 0 0 N [UInt8.ofNat (IntKind.u8.wrap x0).toNat] 0 fun l2 => some l2)
      (br (decide (x0 = 2)) (S_aencode_8 N f x2 (↑x2.length : Int) x0 x1 x2 ([112, 105, 110] : List UInt8) true false 1 8 N [UInt8.ofNat (IntKind.u8.wrap x0).toNat, UInt8.ofNat (IntKind.u8.wrap x1).toNat] 0 fun l3 => some l3)
        (br (decide (x0 = 3)) (S_aencode_8 N f x2 (↑x2.length : Int) x0 x1 x2 ([107, 101, 121] : List UInt8) true false 1 8 N [UInt8.ofNat (IntKind.u8.wrap x0).toNat, UInt8.ofNat (IntKind.u8.wrap x1).toNat] 0 fun l4 => some l4)
          (br (decide (x0 = 4)) (S_aencode_8 N f x2 (↑x2.length : Int) x0 x1 x2 ([115, 116, 97, 116, 101] : List UInt8) true false 1 5 N [UInt8.ofNat (IntKind.u8.wrap x0).toNat, UInt8.ofNat (IntKind.u8.wrap x1).toNat] 0 fun l5 => some l5)
            (br (decide (x0 = 5)) (S_aencode_8 N f x2 (↑x2.length : Int) x0 x1 x2 ([108, 101, 118, 101, 108] : List UInt8) true false 1 51 N [UInt8.ofNat (IntKind.u8.wrap x0).toNat, UInt8.ofNat (IntKind.u8.wrap x1).toNat] 0 fun l6 => some l6)
              (br (decide (x0 = 6)) (S_aencode_8 N f x2 (↑x2.length : Int) x0 x1 x2 ([97, 110, 100] : List UInt8) false true 0 0 N [UInt8.ofNat (IntKind.u8.wrap x0).toNat, UInt8.ofNat (IntKind.u8.wrap (↑x2.length : Int)).toNat] 0 fun l7 => some l7)
                (br (decide (x0 = 7)) (S_aencode_8 N f x2 (↑x2.length : Int) x0 x1 x2 ([111, 114] : List UInt8) false true 0 0 N [UInt8.ofNat (IntKind.u8.wrap x0).toNat, UInt8.ofNat (IntKind.u8.wrap (↑x2.length : Int)).toNat] 0 fun l8 => some l8)
                  none)))))))
noncomputable def s_aencode (N : Nat) : Nat → Int → Int → List V → Option (List UInt8)
  | 0, _, _, _ => none
  | n + 1, x0, x1, x2 => B_aencode N (s_aencode N n) x0 x1 x2
noncomputable def cx_aencode (N : Nat) (f : Int → Int → List V → Option (List UInt8)) : Cx := { T := T, isPure := tabP [⟨87, e_aencode f⟩, ⟨103, e_forms (s_forms N)⟩], pureK := fun g ds K => tabK [⟨87, e_aencode f⟩, ⟨103, e_forms (s_forms N)⟩] g ds K, memK := fun g dst ds m K => tabMK [] g dst ds m K, meth := tabM [], keep := fun r => match r with | 8 => [1, 3, 4, 33, 34, 35] | _ => [], keepX := fun r => match r with | 8 => [1, 3, 4] | _ => [], loopT := fun r ds m K => match r with | 8 => l_aencode_8 N f ds m K | _ => none, jumps := 9 }
theorem F_aencode_8_ok {R : Type} (N : Nat) (f : Int → Int → List V → Option (List UInt8)) (vs1 : List V) (n2 : Int) (n4 : Int) (n5 : Int) (vs6 : List V) (l7 : List UInt8) (b8 : Bool) (b9 : Bool) (n10 : Int) (n11 : Int) (l0 : List UInt8) (n3 : Int) (L : List D → Mem → Option R) (K : Ex → List D → Mem → Option R) :
    roundK (fun st K => codeK (cx_aencode N f) (loopN Try.f87 0) st K) 45 [1, 3, 4, 33, 34, 35] [1, 3, 4] L [(.ptr 0 1 0), (.ptr 0 3 0), (.v (.bytes l0) (.own (.slot 4) 5)), (.v (.sl 46 vs1) .no), (.v (.int .i64 n2) .no), (.v (.int .i64 n3) .no)] [[(1, ⟨46, [(.v (.int .i64 n4) .no), (.v (.int .i64 n5) .no), (.v (.sl 46 vs6) .no)]⟩), (3, ⟨113, [(.v (.str l7) .no), (.v (.bool b8) .no), (.v (.bool b9) .no), (.v (.int .i64 n10) .no), (.v (.int .i64 n11) .no)]⟩)]] K = F_aencode_8 N f vs1 n2 n4 n5 vs6 l7 b8 b9 n10 n11 (fun l0 n3 => L [(.ptr 0 1 0), (.ptr 0 3 0), (.v (.bytes l0) (.own (.slot 4) 5)), (.v (.sl 46 vs1) .no), (.v (.int .i64 n2) .no), (.v (.int .i64 n3) .no)] [[(1, ⟨46, [(.v (.int .i64 n4) .no), (.v (.int .i64 n5) .no), (.v (.sl 46 vs6) .no)]⟩), (3, ⟨113, [(.v (.str l7) .no), (.v (.bool b8) .no), (.v (.bool b9) .no), (.v (.int .i64 n10) .no), (.v (.int .i64 n11) .no)]⟩)]]) (fun a0 => K (.exit 0) [(.ptr 0 1 0), (.ptr 0 3 0), (.v (.bytes a0) (.own (.slot 4) 5))] [[(1, ⟨46, [(.v (.int .i64 n4) .no), (.v (.int .i64 n5) .no), (.v (.sl 46 vs6) .no)]⟩), (3, ⟨113, [(.v (.str l7) .no), (.v (.bool b8) .no), (.v (.bool b9) .no), (.v (.int .i64 n10) .no), (.v (.int .i64 n11) .no)]⟩)]]) l0 n3 := by
  kernel_rfl
theorem S_aencode_8_ok {R : Type} (N : Nat) (f : Int → Int → List V → Option (List UInt8)) (vs1 : List V) (n2 : Int) (n4 : Int) (n5 : Int) (vs6 : List V) (l7 : List UInt8) (b8 : Bool) (b9 : Bool) (n10 : Int) (n11 : Int) (K : Ex → List D → Mem → Option R) : ∀ (t : Nat) (l0 : List UInt8) (n3 : Int),
    loopK (fun st K => codeK (cx_aencode N f) (loopN Try.f87 0) st K) 45 [1, 3, 4, 33, 34, 35] [1, 3, 4] t [(.ptr 0 1 0), (.ptr 0 3 0), (.v (.bytes l0) (.own (.slot 4) 5)), (.v (.sl 46 vs1) .no), (.v (.int .i64 n2) .no), (.v (.int .i64 n3) .no)] [[(1, ⟨46, [(.v (.int .i64 n4) .no), (.v (.int .i64 n5) .no), (.v (.sl 46 vs6) .no)]⟩), (3, ⟨113, [(.v (.str l7) .no), (.v (.bool b8) .no), (.v (.bool b9) .no), (.v (.int .i64 n10) .no), (.v (.int .i64 n11) .no)]⟩)]] K = S_aencode_8 N f vs1 n2 n4 n5 vs6 l7 b8 b9 n10 n11 t l0 n3 (fun a0 => K (.exit 0) [(.ptr 0 1 0), (.ptr 0 3 0), (.v (.bytes a0) (.own (.slot 4) 5))] [[(1, ⟨46, [(.v (.int .i64 n4) .no), (.v (.int .i64 n5) .no), (.v (.sl 46 vs6) .no)]⟩), (3, ⟨113, [(.v (.str l7) .no), (.v (.bool b8) .no), (.v (.bool b9) .no), (.v (.int .i64 n10) .no), (.v (.int .i64 n11) .no)]⟩)]])
  | 0, l0, n3 => rfl
  | t + 1, l0, n3 => (F_aencode_8_ok N f vs1 n2 n4 n5 vs6 l7 b8 b9 n10 n11 l0 n3 _ K).trans (congrArg (fun L => F_aencode_8 N f vs1 n2 n4 n5 vs6 l7 b8 b9 n10 n11 L (fun a0 => K (.exit 0) [(.ptr 0 1 0), (.ptr 0 3 0), (.v (.bytes a0) (.own (.slot 4) 5))] [[(1, ⟨46, [(.v (.int .i64 n4) .no), (.v (.int .i64 n5) .no), (.v (.sl 46 vs6) .no)]⟩), (3, ⟨113, [(.v (.str l7) .no), (.v (.bool b8) .no), (.v (.bool b9) .no), (.v (.int .i64 n10) .no), (.v (.int .i64 n11) .no)]⟩)]]) l0 n3) (funext fun l0 => funext fun n3 => S_aencode_8_ok N f vs1 n2 n4 n5 vs6 l7 b8 b9 n10 n11 K t l0 n3))
theorem B_aencode_ok (N : Nat) (f : Int → Int → List V → Option (List UInt8)) (x0 : Int) (x1 : Int) (x2 : List V) : bodyK (cx_aencode N f) Try.f87 [.agg [.v (.int .i64 x0) .no, .v (.int .i64 x1) .no, .v (.sl 46 x2) .no]] [] r_aencode = B_aencode N f x0 x1 x2 := by
  kernel_rfl
theorem go_aencode : Goes Try.prog 87 := goes_of Try.func87 (by kernel_rfl) (c := bodyOf Try.f87) (by kernel_rfl)
theorem eo_aencode (s : Int → Int → List V → Option (List UInt8)) (hs : ∀ (x0 : Int) (x1 : Int) (x2 : List V) (r0 : List UInt8), s x0 x1 x2 = some r0 → PureRet Try.prog T 87 [.agg [.v (.int .i64 x0) .no, .v (.int .i64 x1) .no, .v (.sl 46 x2) .no]] [.v (.bytes r0) .no]) : EntOK Try.prog T ⟨87, e_aencode s⟩ := by
  refine ⟨go_aencode, fun R ds K r h => ?_, fun R ds K => ?_⟩
  · simp only [e_aencode] at h
    split at h
    · obtain ⟨r0, h1, h2⟩ := bnd1_some h
      exact ⟨_, h2, hs _ _ _ _ h1⟩
    · cases h
  · simp only [e_aencode]
    split
    · rw [bnd1_b]; rfl
    · rfl
theorem co_aencode (N : Nat) (f : Int → Int → List V → Option (List UInt8)) (hf : ∀ (x0 : Int) (x1 : Int) (x2 : List V) (r0 : List UInt8), f x0 x1 x2 = some r0 → PureRet Try.prog T 87 [.agg [.v (.int .i64 x0) .no, .v (.int .i64 x1) .no, .v (.sl 46 x2) .no]] [.v (.bytes r0) .no]) : CxOK Try.prog (cx_aencode N f) :=
  cxOK_of2 (es := [⟨87, e_aencode f⟩, ⟨103, e_forms (s_forms N)⟩]) (me := []) (ms := []) T_ok ⟨eo_aencode f hf, eo_forms _ (p_forms N), trivial⟩ trivial trivial rfl (fun _ _ _ _ => rfl) (fun _ _ _ _ _ _ => rfl) rfl
theorem lk_aencode_8 (N : Nat) (f : Int → Int → List V → Option (List UInt8)) : LoopOK (cx_aencode N f) 45 (loopN Try.f87 0) := by
  refine loopOK_of (rid := 8) (by kernel_rfl) rfl rfl fun R ds m K r h => ?_
  have h : l_aencode_8 N f ds m K = some r := h
  unfold l_aencode_8 at h
  split at h
  · exact ⟨N, Eq.trans (S_aencode_8_ok ..) h⟩
  · cases h
theorem lo_aencode (N : Nat) (f : Int → Int → List V → Option (List UInt8)) : LoopsOK (cx_aencode N f) Try.f87.ntmps (bodyOf Try.f87) :=
  loopsOK_of (k := 1) (by kernel_rfl) ⟨trivial, lk_aencode_8 N f⟩
theorem p_aencode (N : Nat) : ∀ (M : Nat) (x0 : Int) (x1 : Int) (x2 : List V) (r0 : List UInt8), s_aencode N M x0 x1 x2 = some r0 → PureRet Try.prog T 87 [.agg [.v (.int .i64 x0) .no, .v (.int .i64 x1) .no, .v (.sl 46 x2) .no]] [.v (.bytes r0) .no]
  | 0, _, _, _, _, h => by cases h
  | M + 1, x0, x1, x2, r0, h => pure_of (cx := cx_aencode N (s_aencode N M)) (by kernel_rfl) (co_aencode N (s_aencode N M) (p_aencode N M)) Try.func87 (by kernel_rfl) (by kernel_rfl) (lo_aencode N (s_aencode N M)) rfl rfl rfl (rf := r_aencode) ((B_aencode_ok N (s_aencode N M) x0 x1 x2).trans h) (fun rs' m h => by
    unfold r_aencode at h
    split at h
    · cases h; exact ⟨rfl, rfl⟩
    · cases h)
end Go.Proofs.Ytllnklkjkjmjbaa.En
