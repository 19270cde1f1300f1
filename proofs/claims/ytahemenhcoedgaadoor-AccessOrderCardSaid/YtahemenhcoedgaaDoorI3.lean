/- Several texts in one. -/
import Derived.Test.YtahemenhcoedgaaDoorI2
import Derived.Deep.LoopGhost
import Derived.Deep.DeepMust
import Derived.Lib.AppendZeros
import Derived.Lib.SliceRun
import Derived.Lib.UnsafeStr
import Derived.Shelf.RegionOpenPlain
import Derived.Shelf.Strings.OnBuilder
import Derived.KernelRfl

set_option linter.unusedSimpArgs false
set_option linter.unusedVariables false
set_option linter.unusedSectionVars false
/- slices.Clone and slices.Concat of bytes: the walks; as entries of the engine. -/
namespace Go.Proofs.YtahemenhcoedgaaDoor.En
open Go Go.RowKit
set_option linter.unusedVariables false
theorem info8 : (Tryd.prog.info? 5).map (fun i => (i.zero, i.size, i.bytes)) = some (some (.int .u8 0), 1, 1) := by kernel_rfl
section
variable {T : TypeId → Option Ty} {E : Env} {g : G} {w w' : World} {A : Option Addr} {n c B : Nat} {xs : List UInt8}
/-- Bytes, as the walks have them. -/
theorem isB_of_rep {u : Value} (h : RepV g w (.bytes xs) u) : ∃ A n c, u = .slice A n c ∧ IsB w A n c xs := by
  cases h with
  | bytes xs A n c hn hc hm h =>
    refine ⟨A, n, c, rfl, ⟨by simp [hn], hc, hm, fun k v hv => ?_⟩⟩
    rw [List.getElem?_map, Option.map_eq_some_iff] at hv
    obtain ⟨x, hx, rfl⟩ := hv
    obtain ⟨b, off, e, _, h2⟩ := h k x hx
    exact ⟨b, off, e, h2⟩
/-- What a call leaves that makes one row of bytes. -/
theorem pure_of_own (hb : Below w.heap.size w w') {A : Option Addr} {n c : Nat} (ho : Own w' w.heap.size 5 A n c (xs.map u8)) :
    ∃ us' g', Ending.returned (.slice A n c) = .returned (retV us') ∧ (∀ E' : Env, RepDs E' g' w' [] [.v (.bytes xs) .no] us') ∧ PureTr g w g' w' := by
  refine ⟨[.slice A n c], { g with Γ := fun b => if b < w.heap.size then g.Γ b else .imm }, rfl, fun E' => ⟨rfl, fun k y hk => ?_⟩, ⟨⟨hb.os, hb.tape, hb.output, hb.size, hb.block⟩, fun b hlt => if_pos hlt, fun b hge => by
    show Perm.still (if b < w.heap.size then g.Γ b else .imm) = true
    rw [if_neg (by omega)]; rfl, rfl, rfl⟩⟩
  rcases k with _ | k
  · simp at hk
    subst hk
    have hr := ho.rd
    refine .v _ _ _ (.bytes xs A n c (by simpa using hr.len) hr.cap hr.max fun k x hx => ?_) trivial
    obtain ⟨b, off, e, h2⟩ := hr.at_ k (u8 x) (by simp [hx])
    refine ⟨b, off, e, ?_, h2⟩
    have hge : w.heap.size ≤ b := ho.block b (by subst e; rfl)
    unfold Stable
    show (match (if b < w.heap.size then g.Γ b else .imm) with | .imm => True | .low n => off + k < n | .own _ n => off + k < n | .box _ _ => False)
    rw [if_neg (by omega)]; trivial
  · simp at hk
end
set_option maxHeartbeats 1000000 in
set_option maxRecDepth 100000 in
theorem grow_nil (k : Nat) (w : World) (hk : k ≤ 1000000) :
    Calls Tryd.prog 112 #[.slice none 0 0, .int .i64 k] w fun e w' => ∃ A n c, e = .returned (.slice A 0 c) ∧ n = 0 ∧ Own w' w.heap.size 5 A n c [] ∧ Below w.heap.size w w' := by
  obtain ⟨i0, hi0, hz0, hz1, hz2⟩ := info_parts info8
  have mixed : Tryd.prog.follows .mixedOrders = true := by kernel_rfl
  by_cases h0 : k = 0
  · subst h0
    clear hi0 hz0 hz1 hz2
    go_enter Tryd.func112, Tryd.ntmps112
    go_wp2
    go_ret
    exact ⟨none, 0, 0, rfl, rfl, Own.nil _ _, Below.refl _ _⟩
  · have hrz : ∀ ty, (Builtin.append_ #[39, 3] ty #[.slice none 0 0, .int .i64 (k : Int)]).run Tryd.prog w = _ := fun ty =>
      Lib.run_append_nil_zeros w 39 3 ty 5 i0 _ .i64 .i64 Tryd.underlying39 Tryd.underlying3 hi0 hz0 k (by omega) (by omega) (by omega) (by rw [hz2]; omega)
    have hG1 : k ≤ grownCap w k 0 5 := grownCap_ge w _ _ _
    have hG2 := grownCap_le_maxLen w k 0 5 (by unfold maxLen; omega)
    generalize grownCap w k 0 5 = G at hrz hG1 hG2
    have hG63 : G ≤ 9223372036854775807 := by unfold maxLen at hG2; omega
    have h1 : ¬ ((k : Int) < 0) := by omega
    have h4 : (k : Int) > 0 := by omega
    have h5 : k ≤ 9223372036854775807 := by omega
    have HI := Lib.hid (And.intro hi0 (And.intro hz0 (And.intro hz1 hz2)))
    have HK := Lib.hid (And.intro hk (And.intro h0 hG2))
    clear hi0 hz0 hz1 hz2 hk h0 hG2
    go_enter Tryd.func112, Tryd.ntmps112
    go_wp2_with (at_builtin; refine Lib.wpList_append_run _ rfl _ _ _ _ rfl _ _ rfl rfl _ _ (hrz _) ?_)
    all_goals (go_ret)
    all_goals (
      refine ⟨some ⟨w.heap.size, 0, none⟩, 0, G, rfl, rfl, ⟨rfl, .inr ⟨w.heap.size, G, _, rfl, Nat.le_refl _, heap_alloc_new w _, by omega, HK.out.2.2, ?_, by simp⟩⟩, ((Below.refl _ _).alloc (Nat.le_refl _) _).drew⟩
      simp [Array.size_append, size_zeroCells]
      omega)
theorem flatten_take_le (ls : List (List UInt8)) (k : Nat) : (ls.take k).flatten.length ≤ ls.flatten.length := by
  conv => rhs; rw [← List.take_append_drop k ls]
  rw [List.flatten_append, List.length_append]
  omega
theorem flatten_take_succ (ls : List (List UInt8)) (k : Nat) (h : k < ls.length) : (ls.take (k + 1)).flatten = (ls.take k).flatten ++ ls[k] := by
  rw [List.take_succ_eq_append_getElem h, List.flatten_append]; simp
set_option maxHeartbeats 1000000 in
set_option maxRecDepth 100000 in
theorem concat_any (A : Option Addr) (n c : Nat) (ls : List (List UInt8)) (w : World) (h : IsBB w A n c ls) (hn : ls.flatten.length ≤ 1000000) :
    Calls Tryd.prog 98 #[.slice A n c] w fun e w' => ∃ A' n' c', e = .returned (.slice A' n' c') ∧ Own w' w.heap.size 5 A' n' c' (ls.flatten.map u8) ∧ Below w.heap.size w w' := by
  obtain ⟨i0, hi0, hz0, hz1, hz2⟩ := info_parts info8
  have hcap : n ≤ 9223372036854775807 := by have h1 := h.cap; have h2 := h.max; unfold maxLen at h2; omega
  have H := Lib.hid h
  have HI := Lib.hid (And.intro hi0 (And.intro hz0 (And.intro hz1 hz2)))
  clear h hi0 hz0 hz1 hz2
  go_enter Tryd.func98, Tryd.ntmps98
  go_wp2
  go_loopg [3, 11] n (fun g v i wr => ∃ k : Nat, k ≤ n ∧ g = n - k ∧ i = .int .i64 (k : Int) ∧ v = .int .i64 (((ls.take k).flatten.length : Nat) : Int) ∧ wr = w)
  case atStart => exact ⟨0, by omega, rfl, rfl, by simp, rfl⟩
  case round =>
    obtain ⟨k, hk, hg, rfl, rfl, hww⟩ := hrel
    obtain rfl : w = wr := hww.symm
    by_cases hlt : k < n
    · have hl : k < ls.length := by have := H.out.len; omega
      obtain ⟨A2, n2, c2, ⟨b, off, rfl, hc⟩, hr⟩ := H.out.at_ k _ (List.getElem?_eq_getElem hl)
      have hle := flatten_take_le ls (k + 1)
      have hsucc := flatten_take_succ ls k hl
      have hn2 : n2 = ls[k].length := (IsB.len hr).symm
      have hsum : (ls.take k).flatten.length + n2 ≤ 1000000 := by rw [hsucc, List.length_append] at hle; omega
      have Hs := Lib.hid (And.intro hsucc hn2)
      generalize hm : (ls.take k).flatten.length = m at hsum
      have Hm := Lib.hid hm
      have h7 : ¬ ((m : Int) + (n2 : Int) < 0) := by omega
      clear hsucc hle hn2 hm
      go_wp2
      go_roundg (n - (k + 1))
      case measure => omega
      case rel =>
        refine ⟨k + 1, by omega, rfl, by go_num, ?_, rfl⟩
        rw [Hs.out.1, List.length_append, Hm.out, ← Hs.out.2]
        go_num
    · have hkn : (ls.take k).flatten = ls.flatten := by
        have : k = ls.length := by have := H.out.len; omega
        rw [this, List.take_length]
      rw [hkn]
      generalize hm : ls.flatten.length = m at hn
      have Hm := Lib.hid hm
      clear hkn hm
      go_wp2_with fail
      refine (grow_nil m _ hn).mono ?_
      rintro e w1 ⟨A1, n1, c1, rfl, rfl, ho1, hb1⟩
      go_wp2_with fail
      have H1 := Lib.hid (And.intro ho1 hb1)
      clear ho1 hb1
      go_loopg [6, 27] n (fun g v i wr => ∃ k A' n' c', k ≤ n ∧ g = n - k ∧ i = .int .i64 (k : Int) ∧ v = .slice A' n' c' ∧ Own wr w.heap.size 5 A' n' c' ((ls.take k).flatten.map u8) ∧ Below w.heap.size w wr)
      case atStart => exact ⟨0, A1, 0, c1, by omega, rfl, rfl, rfl, by simpa using H1.out.1, H1.out.2⟩
      case round =>
        obtain ⟨k, A', n', c', hk, hg, rfl, rfl, hown, hb⟩ := hrel
        by_cases hlt : k < n
        · have hl : k < ls.length := by have := H.out.len; omega
          obtain ⟨A2, n2, c2, ⟨b, off, rfl, hc⟩, hr⟩ := H.out.at_ k _ (List.getElem?_eq_getElem hl)
          have hc2 : wr.cell? ⟨b, off + k, none⟩ = some (.slice A2 n2 c2) := by
            rw [hb.cell (p := ⟨b, off + k, none⟩) (World.block_lt_of_cell? w _ hc)]; exact hc
          have hr2 : Rd wr A2 n2 c2 (ls[k].map Go.Proofs.YtahemenhcoedgaaDoor.u8) := hr.below hb
          have hle := flatten_take_le ls (k + 1)
          have hsucc := flatten_take_succ ls k hl
          have hn' : n' = (ls.take k).flatten.length := by have := hown.1; rw [List.length_map] at this; omega
          have hn2 : n2 = ls[k].length := by have := hr2.len; rw [List.length_map] at this; omega
          have hsum : n' + n2 ≤ 1000000 := by rw [hsucc, List.length_append, Hm.out] at hle; omega
          have Hs := Lib.hid hsucc
          have Hn := Lib.hid (And.intro hn' hn2)
          clear hsucc hle hn' hn2
          go_wp2_with (at_builtin; refine wpList_append_rd _ rfl (.tmp 31) (.tmp 32) 39 rfl w.heap.size 5 i0 _ 1 Tryd.underlying39 HI.out.1 HI.out.2.1 HI.out.2.2.1 HI.out.2.2.2 rfl A' n' c' _ rfl hown A2 n2 c2 _ rfl hr2 (u8_one _) ?_ (by omega) hb.size ?_)
          case _ => omega
          intro A3 c3 w3 hown3 hg3 _
          have hb3 := hb.grown hg3 hb.size (hown.block)
          go_wp2
          go_roundg (n - (k + 1))
          case measure => omega
          case rel =>
            refine ⟨k + 1, A3, n' + n2, c3, by omega, rfl, by go_num, rfl, ?_, hb3⟩
            rw [Hs.out]; simpa using hown3
        · go_wp2
          go_ret
          refine ⟨A', n', c', rfl, ?_, hb⟩
          have : k = ls.length := by have := H.out.len; omega
          rw [this, List.take_length] at hown
          exact hown
/-- The bytes of a list of strings of bytes. -/
def flatB : List V → Option (List UInt8)
  | [] => some []
  | .bytes l :: r => (match flatB r with | some m => some (l ++ m) | none => none)
  | _ :: _ => none
theorem flatB_some : ∀ (vs : List V) (l : List UInt8), flatB vs = some l → ∃ ls : List (List UInt8), vs = ls.map V.bytes ∧ l = ls.flatten
  | [], l, h => ⟨[], rfl, by simpa [flatB] using h.symm⟩
  | .bytes x :: r, l, h => by
    unfold flatB at h
    cases hm : flatB r with
    | none => rw [hm] at h; cases h
    | some m =>
      rw [hm] at h
      injection h with h
      obtain ⟨ls, h1, h2⟩ := flatB_some r m hm
      exact ⟨x :: ls, by rw [h1]; rfl, by rw [← h, h2]; rfl⟩
  | .bool _ :: _, l, h => by cases h
  | .int _ _ :: _, l, h => by cases h
  | .str _ :: _, l, h => by cases h
  | .sl _ _ :: _, l, h => by cases h
  | .agg _ :: _, l, h => by cases h
  | .iface _ _ :: _, l, h => by cases h
  | .nilI :: _, l, h => by cases h
theorem flatMap_bytes (ls : List (List UInt8)) : (ls.map V.bytes).flatMap V.cells = ls.map V.bytes := by
  induction ls with
  | nil => rfl
  | cons l ls ih => simp only [List.map_cons, List.flatMap_cons, ih]; rfl
theorem isBB_of_rep {g : G} {w : World} {e : TypeId} {ls : List (List UInt8)} {u : Value} (h : RepV g w (.sl e (ls.map V.bytes)) u) : ∃ A n c, u = .slice A n c ∧ IsBB w A n c ls := by
  cases h with
  | sl e xs A n c us hn hc hm hs h hr =>
    rw [flatMap_bytes] at h hr
    refine ⟨A, n, c, rfl, ⟨by simpa using hn, hc, hm, fun k l hl => ?_⟩⟩
    have hk : (ls.map V.bytes)[k]? = some (.bytes l) := by simp [hl]
    obtain ⟨b, off, e1, _, e2⟩ := h k _ hk
    obtain ⟨A', n', c', e3, h4⟩ := isB_of_rep (hr k _ hk)
    exact ⟨A', n', c', ⟨b, off, e1, by rw [e2, e3]⟩, h4⟩
noncomputable def s_concat (N : Nat) (vs : List V) : Option (List UInt8) := (flatB vs).bind fun l => br (decide (l.length ≤ 1000000)) (some l) none
theorem p_concat (N : Nat) (x0 : List V) (r0 : List UInt8) (h : s_concat N x0 = some r0) : PureRet Tryd.prog T 98 [.v (.sl 39 x0) .no] [.v (.bytes r0) .no] := by
  unfold s_concat at h
  obtain ⟨l, h1, h2⟩ := Option.bind_eq_some_iff.1 h
  have hn : l.length ≤ 1000000 ∧ r0 = l := by
    unfold br at h2
    by_cases hx : l.length ≤ 1000000
    · simp [hx] at h2; exact ⟨hx, h2.symm⟩
    · simp [hx] at h2
  obtain ⟨hn, rfl⟩ := hn
  obtain ⟨ls, rfl, rfl⟩ := flatB_some x0 _ h1
  intro E g w us hsz hus
  obtain ⟨hl, hr⟩ := hus
  match us, hl with
  | [u], _ =>
  have hu := hr 0 _ rfl
  simp only [List.getD_cons_zero] at hu
  cases hu with
  | v x a v hv ha =>
  obtain ⟨A, n, c, rfl, hB⟩ := isBB_of_rep hv
  refine (concat_any A n c ls w hB hn).mono ?_
  rintro e w' ⟨A', n', c', rfl, ho, hb⟩
  exact pure_of_own hb ho
end Go.Proofs.YtahemenhcoedgaaDoor.En

/- The engine, part 2l: several entries of one function, told apart by the closure that it is given. -/
namespace Go.Proofs.YtahemenhcoedgaaDoor.En
open Go
set_option linter.unusedVariables false
def hasClos (g : Nat) : List D → Bool
  | [] => false
  | d :: r => match d with
    | .clos f _ => cond (Nat.beq f g) true (hasClos g r)
    | _ => hasClos g r
def selM (g : Nat) (a b : MEnt) : MEnt := ⟨a.f, fun dst ds m K => cond (hasClos g ds) (a.k dst ds m K) (b.k dst ds m K)⟩
section
variable {P : Program} {T : TypeId → Option Ty}
theorem selM_ok {g : Nat} {a b : MEnt} (h : a.f = b.f) (ha : MEntOK P T a) (hb : MEntOK P T b) : MEntOK P T (selM g a b) := by
  refine ⟨ha.goes, fun R dst ds m K r e => ?_⟩
  change cond (hasClos g ds) (a.k dst ds m K) (b.k dst ds m K) = some r at e
  cases hc : hasClos g ds with
  | true => rw [hc] at e; exact ha.ret R dst ds m K r e
  | false =>
    rw [hc] at e
    obtain ⟨rs, m', h1, h2⟩ := hb.ret R dst ds m K r e
    exact ⟨rs, m', h1, by rw [← h] at h2; exact h2⟩
end
end Go.Proofs.YtahemenhcoedgaaDoor.En

/- (*strings.Builder).String: the walk; as an entry. -/
namespace Go.Proofs.YtahemenhcoedgaaDoor.En
open Go Go.RowKit
set_option linter.unusedVariables false
end Go.Proofs.YtahemenhcoedgaaDoor.En

/- strings.Join: the library's proved summary, laid for this seat. -/
namespace Go.Proofs.YtahemenhcoedgaaDoor.En
open Go Go.RowKit Go.Shelf
set_option linter.unusedVariables false
/-- The numbers of the shelf's texts, in this program. -/
def ren : Go.Shelf.Ren := ⟨fun k => match k with | 156 => 83 | 165 => 103 | 166 => 104 | 169 => 105 | 240 => 116 | 241 => 117 | 276 => 122 | 277 => 123 | x => x,
  fun k => match k with | 0 => 0 | 3 => 3 | 4 => 4 | 5 => 5 | 9 => 9 | 20 => 20 | 31 => 96 | 37 => 39 | 70 => 112 | 72 => 114 | 75 => 117 | 76 => 118 | 80 => 120 | 127 => 131 | 164 => 138 | x => x, fun x => x⟩
theorem lays156 : Lays.n156 Tryd.prog ren := by
  constructor <;> first | kernel_rfl | (intro w; kernel_rfl)
set_option maxRecDepth 100000 in
theorem extra156 : Builder.Extra Tryd.prog ren := by
  refine ⟨⟨?_, ?_⟩, ?_, ?_, ?_, ?_, ?_, ?_, ?_, ?_⟩
  all_goals first | decide | kernel_rfl | (intro w; kernel_rfl)
/-- The strings of a list of values. -/
def flatS : List V → Option (List (List UInt8))
  | [] => some []
  | .str l :: r => (flatS r).map (l :: ·)
  | _ :: _ => none
theorem flatS_some : ∀ (vs : List V) (ls : List (List UInt8)), flatS vs = some ls → vs = ls.map V.str
  | [], ls, h => by cases h; rfl
  | v :: vs, ls, h => by
    cases v with
    | str l =>
      simp only [flatS, Option.map_eq_some_iff] at h
      obtain ⟨r, h1, rfl⟩ := h
      rw [flatS_some vs r h1]; rfl
    | _ => cases h
theorem flatMap_str (ls : List (List UInt8)) : (ls.map V.str).flatMap V.cells = ls.map V.str := by
  induction ls with
  | nil => rfl
  | cons l ls ih => simp only [List.map_cons, List.flatMap_cons, ih]; rfl
noncomputable def s_Join (N : Nat) (vs : List V) (sep : List UInt8) : Option (List UInt8) := (flatS vs).bind fun ls => br (decide ((Lib.join ls sep).length ≤ 1000000) && decide (ls.length ≤ 1000000)) (some (Lib.join ls sep)) none
/-- What a call leaves that gives a string. -/
theorem pure_of_str {T : TypeId → Option Ty} {g : G} {w w' : World} {xs : List UInt8} (hb : Below w.heap.size w w') (hx : xs.length ≤ 1000000) :
    ∃ us' g', Ending.returned (.string ⟨xs.toArray⟩) = .returned (retV us') ∧ (∀ E' : Env, RepDs E' g' w' [] [.v (.str xs) .no] us') ∧ PureTr g w g' w' := by
  refine ⟨[.string ⟨xs.toArray⟩], { g with Γ := fun b => if b < w.heap.size then g.Γ b else .imm }, rfl, fun E' => ⟨rfl, fun k y hk => ?_⟩, ⟨⟨hb.os, hb.tape, hb.output, hb.size, hb.block⟩, fun b hlt => if_pos hlt, fun b hge => by
    show Perm.still (if b < w.heap.size then g.Γ b else .imm) = true
    rw [if_neg (by omega)]; rfl, rfl, rfl⟩⟩
  rcases k with _ | k
  · simp at hk
    subst hk
    exact .v _ _ _ (.str xs (by omega)) trivial
  · simp at hk
theorem p_Join (N : Nat) (x0 : List V) (x1 r0 : List UInt8) (h : s_Join N x0 x1 = some r0) : PureRet Tryd.prog T 83 [.v (.sl 9 x0) .no, .v (.str x1) .no] [.v (.str r0) .no] := by
  unfold s_Join at h
  obtain ⟨ls, h1, h2⟩ := Option.bind_eq_some_iff.1 h
  have hn : ((Lib.join ls x1).length ≤ 1000000 ∧ ls.length ≤ 1000000) ∧ r0 = Lib.join ls x1 := by
    unfold br at h2
    by_cases hx : (Lib.join ls x1).length ≤ 1000000 ∧ ls.length ≤ 1000000
    · simp [hx] at h2; exact ⟨hx, h2.symm⟩
    · rcases Decidable.not_and_iff_or_not.1 hx with hx | hx <;> simp [hx] at h2
  obtain ⟨⟨hn, hc⟩, rfl⟩ := hn
  have hvs := flatS_some x0 _ h1
  subst hvs
  intro E g w us hsz hus
  obtain ⟨hl, hr⟩ := hus
  match us, hl with
  | [u, v], _ =>
  have hu := hr 0 _ rfl
  have hv := hr 1 _ rfl
  simp only [List.getD_cons_zero, List.getD_cons_succ] at hu hv
  cases hu with
  | v x a u hu ha =>
  cases hv with
  | v x a v hv ha' =>
  cases hv with
  | str s hs =>
  cases hu with
  | sl e xs A n c us hn' hc' hm hs' h' hr' =>
  rw [flatMap_str] at h' hr'
  have hlen : n = ls.length := by simpa using hn'.symm
  subst hlen
  cases ls with
  | nil =>
    refine (Any.strings_Join_none (P := Tryd.prog) lays156 extra156 A c ⟨x1.toArray⟩ w).mono ?_
    rintro e w' ⟨rfl, rfl⟩
    exact pure_of_str (T := T) (Below.refl _ _) (by simp [Lib.join])
  | cons l0 ls =>
    obtain ⟨b, off, rfl, _, hcell⟩ := h' 0 (.str l0) (by simp)
    have hcells : ∀ (j : Nat) x, ((l0 :: ls).map fun l : List UInt8 => (⟨l.toArray⟩ : ByteArray))[j]? = some x → w.cell? ⟨b, off + j, none⟩ = some (.string x) := by
      intro j x hj
      rw [List.getElem?_map, Option.map_eq_some_iff] at hj
      obtain ⟨l, hl, rfl⟩ := hj
      have hk : ((l0 :: ls).map V.str)[j]? = some (.str l) := by rw [List.getElem?_map, hl]; rfl
      obtain ⟨b', off', e', _, h2⟩ := h' j _ hk
      cases e'
      have h3 := hr' j _ hk
      rw [h2]
      generalize us j = q at h3
      cases h3
      rfl
    have hb : b < w.heap.size := cell_lt hcell
    have hmap : (((l0 :: ls).map fun l : List UInt8 => (⟨l.toArray⟩ : ByteArray)).map (·.data.toList)) = l0 :: ls := by
      rw [List.map_map]; exact List.map_id _
    have hC := Any.strings_Join (P := Tryd.prog) lays156 extra156 b off c ((l0 :: ls).map fun l : List UInt8 => (⟨l.toArray⟩ : ByteArray)) ⟨x1.toArray⟩ w hcells hb (by simp only [List.length_map]; omega) (by simpa using hc') (by rw [hmap]; simp only []; omega)
    rw [hmap, List.length_map] at hC
    refine hC.mono ?_
    rintro e w' ⟨rfl, hbl⟩
    exact pure_of_str (T := T) hbl hn
end Go.Proofs.YtahemenhcoedgaaDoor.En

/- The hand-made entries of the engine, together. -/

/- Functions of the program in plain Lean, joined to the program by evaluation; printed by a program. -/
namespace Go.Proofs.YtahemenhcoedgaaDoor.En
open Go Go.Proofs
set_option maxRecDepth 100000
set_option linter.unusedVariables false
noncomputable def e_Valid {R : Type} (s : Int → Option (Bool)) (ds : List D) (K : List D → Option R) : Option R :=
  match ds with
  | [.v (.int .i64 x0) .no] => bnd1 (s x0) fun r0 => K [.v (.bool r0) .no]
  | _ => none
noncomputable def r_Valid (rs : List D) (_ : Mem) : Option (Bool) :=
  match rs with
  | [.v (.bool r0) _] => some (r0)
  | _ => none
noncomputable def s_Valid (N : Nat) (x0 : Int) : Option (Bool) :=
  br (decide (x0 < 256)) (br (decide (0 < x0)) (some !decide (bitsI BinOp.and IntKind.i64 x0 31 = 31)) (some false))
  (br (decide (shrI IntKind.i64 x0 8 ≤ 255))
    (br (decide (bitsI BinOp.and IntKind.i64 (shrI IntKind.i64 x0 8) 31 = 31)) (br (decide (31 ≤ bitsI BinOp.and IntKind.i64 x0 255)) (some (decide (bitsI BinOp.and IntKind.i64 x0 255 ≤ 127))) (some false)) (some false)) (some false))
noncomputable def cx_Valid (N : Nat) : Cx := { T := T, isPure := tabP [], pureK := fun g ds K => tabK [] g ds K, memK := fun g dst ds m K => tabMK [] g dst ds m K, meth := tabM [], keep := fun _ => [], keepX := fun _ => [], loopT := fun _ _ _ _ => none, jumps := 9 }
theorem s_Valid_ok (N : Nat) (x0 : Int) : bodyK (cx_Valid N) Tryd.f94 [.v (.int .i64 x0) .no] [] r_Valid = s_Valid N x0 := by
  kernel_rfl
theorem go_Valid : Goes Tryd.prog 94 := goes_of Tryd.func94 (by kernel_rfl) (c := bodyOf Tryd.f94) (by kernel_rfl)
theorem eo_Valid (s : Int → Option (Bool)) (hs : ∀ (x0 : Int) (r0 : Bool), s x0 = some r0 → PureRet Tryd.prog T 94 [.v (.int .i64 x0) .no] [.v (.bool r0) .no]) : EntOK Tryd.prog T ⟨94, e_Valid s⟩ := by
  refine ⟨go_Valid, fun R ds K r h => ?_, fun R ds K => ?_⟩
  · simp only [e_Valid] at h
    split at h
    · obtain ⟨r0, h1, h2⟩ := bnd1_some h
      exact ⟨_, h2, hs _ _ h1⟩
    · cases h
  · simp only [e_Valid]
    split
    · rw [bnd1_b]; rfl
    · rfl
theorem co_Valid (N : Nat) : CxOK Tryd.prog (cx_Valid N) :=
  cxOK_of2 (es := []) (me := []) (ms := []) T_ok trivial trivial trivial rfl (fun _ _ _ _ => rfl) (fun _ _ _ _ _ _ => rfl) rfl
theorem lo_Valid (N : Nat) : LoopsOK (cx_Valid N) Tryd.f94.ntmps (bodyOf Tryd.f94) :=
  loopsOK_of (k := 0) (by kernel_rfl) trivial
theorem p_Valid (N : Nat) (x0 : Int) (r0 : Bool) (h : s_Valid N x0 = some r0) : PureRet Tryd.prog T 94 [.v (.int .i64 x0) .no] [.v (.bool r0) .no] :=
  pure_of (cx := cx_Valid N) (by kernel_rfl) (co_Valid N) Tryd.func94 (by kernel_rfl) (by kernel_rfl) (lo_Valid N) rfl rfl rfl (rf := r_Valid) ((s_Valid_ok N x0).trans h) (fun rs' m h => by
    unfold r_Valid at h
    split at h
    · cases h; exact ⟨rfl, rfl⟩
    · cases h)
noncomputable def e_Constructed {R : Type} (s : Int → Option (Bool)) (ds : List D) (K : List D → Option R) : Option R :=
  match ds with
  | [.v (.int .i64 x0) .no] => bnd1 (s x0) fun r0 => K [.v (.bool r0) .no]
  | _ => none
noncomputable def r_Constructed (rs : List D) (_ : Mem) : Option (Bool) :=
  match rs with
  | [.v (.bool r0) _] => some (r0)
  | _ => none
noncomputable def s_Constructed (N : Nat) (x0 : Int) : Option (Bool) :=
  br (decide (255 < x0)) (bnd1 (s_Valid N x0) fun b0 => br b0 (some !decide (bitsI BinOp.and IntKind.i64 (shrI IntKind.i64 x0 8) 32 = 0)) (some false))
  (bnd1 (s_Valid N x0) fun b1 => br b1 (some !decide (bitsI BinOp.and IntKind.i64 x0 32 = 0)) (some false))
noncomputable def cx_Constructed (N : Nat) : Cx := { T := T, isPure := tabP [⟨94, e_Valid (s_Valid N)⟩], pureK := fun g ds K => tabK [⟨94, e_Valid (s_Valid N)⟩] g ds K, memK := fun g dst ds m K => tabMK [] g dst ds m K, meth := tabM [], keep := fun _ => [], keepX := fun _ => [], loopT := fun _ _ _ _ => none, jumps := 9 }
theorem s_Constructed_ok (N : Nat) (x0 : Int) : bodyK (cx_Constructed N) Tryd.f95 [.v (.int .i64 x0) .no] [] r_Constructed = s_Constructed N x0 := by
  kernel_rfl
theorem go_Constructed : Goes Tryd.prog 95 := goes_of Tryd.func95 (by kernel_rfl) (c := bodyOf Tryd.f95) (by kernel_rfl)
theorem eo_Constructed (s : Int → Option (Bool)) (hs : ∀ (x0 : Int) (r0 : Bool), s x0 = some r0 → PureRet Tryd.prog T 95 [.v (.int .i64 x0) .no] [.v (.bool r0) .no]) : EntOK Tryd.prog T ⟨95, e_Constructed s⟩ := by
  refine ⟨go_Constructed, fun R ds K r h => ?_, fun R ds K => ?_⟩
  · simp only [e_Constructed] at h
    split at h
    · obtain ⟨r0, h1, h2⟩ := bnd1_some h
      exact ⟨_, h2, hs _ _ h1⟩
    · cases h
  · simp only [e_Constructed]
    split
    · rw [bnd1_b]; rfl
    · rfl
theorem co_Constructed (N : Nat) : CxOK Tryd.prog (cx_Constructed N) :=
  cxOK_of2 (es := [⟨94, e_Valid (s_Valid N)⟩]) (me := []) (ms := []) T_ok ⟨eo_Valid _ (p_Valid N), trivial⟩ trivial trivial rfl (fun _ _ _ _ => rfl) (fun _ _ _ _ _ _ => rfl) rfl
theorem lo_Constructed (N : Nat) : LoopsOK (cx_Constructed N) Tryd.f95.ntmps (bodyOf Tryd.f95) :=
  loopsOK_of (k := 0) (by kernel_rfl) trivial
theorem p_Constructed (N : Nat) (x0 : Int) (r0 : Bool) (h : s_Constructed N x0 = some r0) : PureRet Tryd.prog T 95 [.v (.int .i64 x0) .no] [.v (.bool r0) .no] :=
  pure_of (cx := cx_Constructed N) (by kernel_rfl) (co_Constructed N) Tryd.func95 (by kernel_rfl) (by kernel_rfl) (lo_Constructed N) rfl rfl rfl (rf := r_Constructed) ((s_Constructed_ok N x0).trans h) (fun rs' m h => by
    unfold r_Constructed at h
    split at h
    · cases h; exact ⟨rfl, rfl⟩
    · cases h)
noncomputable def e_tagBytes {R : Type} (s : Int → Option (List UInt8)) (ds : List D) (K : List D → Option R) : Option R :=
  match ds with
  | [.v (.int .i64 x0) .no] => bnd1 (s x0) fun r0 => K [.v (.bytes r0) .no]
  | _ => none
noncomputable def r_tagBytes (rs : List D) (_ : Mem) : Option (List UInt8) :=
  match rs with
  | [.v (.bytes r0) _] => some (r0)
  | _ => none
noncomputable def s_tagBytes (N : Nat) (x0 : Int) : Option (List UInt8) :=
  br (decide (255 < x0)) (some [UInt8.ofNat (IntKind.u8.wrap (shrI IntKind.i64 x0 8)).toNat, UInt8.ofNat (IntKind.u8.wrap x0).toNat]) (some [UInt8.ofNat (IntKind.u8.wrap x0).toNat])
noncomputable def cx_tagBytes (N : Nat) : Cx := { T := T, isPure := tabP [], pureK := fun g ds K => tabK [] g ds K, memK := fun g dst ds m K => tabMK [] g dst ds m K, meth := tabM [], keep := fun _ => [], keepX := fun _ => [], loopT := fun _ _ _ _ => none, jumps := 9 }
theorem s_tagBytes_ok (N : Nat) (x0 : Int) : bodyK (cx_tagBytes N) Tryd.f96 [.v (.int .i64 x0) .no] [] r_tagBytes = s_tagBytes N x0 := by
  kernel_rfl
theorem go_tagBytes : Goes Tryd.prog 96 := goes_of Tryd.func96 (by kernel_rfl) (c := bodyOf Tryd.f96) (by kernel_rfl)
theorem eo_tagBytes (s : Int → Option (List UInt8)) (hs : ∀ (x0 : Int) (r0 : List UInt8), s x0 = some r0 → PureRet Tryd.prog T 96 [.v (.int .i64 x0) .no] [.v (.bytes r0) .no]) : EntOK Tryd.prog T ⟨96, e_tagBytes s⟩ := by
  refine ⟨go_tagBytes, fun R ds K r h => ?_, fun R ds K => ?_⟩
  · simp only [e_tagBytes] at h
    split at h
    · obtain ⟨r0, h1, h2⟩ := bnd1_some h
      exact ⟨_, h2, hs _ _ h1⟩
    · cases h
  · simp only [e_tagBytes]
    split
    · rw [bnd1_b]; rfl
    · rfl
theorem co_tagBytes (N : Nat) : CxOK Tryd.prog (cx_tagBytes N) :=
  cxOK_of2 (es := []) (me := []) (ms := []) T_ok trivial trivial trivial rfl (fun _ _ _ _ => rfl) (fun _ _ _ _ _ _ => rfl) rfl
theorem lo_tagBytes (N : Nat) : LoopsOK (cx_tagBytes N) Tryd.f96.ntmps (bodyOf Tryd.f96) :=
  loopsOK_of (k := 0) (by kernel_rfl) trivial
theorem p_tagBytes (N : Nat) (x0 : Int) (r0 : List UInt8) (h : s_tagBytes N x0 = some r0) : PureRet Tryd.prog T 96 [.v (.int .i64 x0) .no] [.v (.bytes r0) .no] :=
  pure_of (cx := cx_tagBytes N) (by kernel_rfl) (co_tagBytes N) Tryd.func96 (by kernel_rfl) (by kernel_rfl) (lo_tagBytes N) rfl rfl rfl (rf := r_tagBytes) ((s_tagBytes_ok N x0).trans h) (fun rs' m h => by
    unfold r_tagBytes at h
    split at h
    · cases h; exact ⟨rfl, rfl⟩
    · cases h)
noncomputable def e_lengthBytes {R : Type} (s : Int → Option (List UInt8)) (ds : List D) (K : List D → Option R) : Option R :=
  match ds with
  | [.v (.int .i64 x0) .no] => bnd1 (s x0) fun r0 => K [.v (.bytes r0) .no]
  | _ => none
noncomputable def r_lengthBytes (rs : List D) (_ : Mem) : Option (List UInt8) :=
  match rs with
  | [.v (.bytes r0) _] => some (r0)
  | _ => none
noncomputable def s_lengthBytes (N : Nat) (x0 : Int) : Option (List UInt8) :=
  br (decide (x0 < 128)) (some [UInt8.ofNat (IntKind.u8.wrap x0).toNat])
  (br (decide (x0 < 256)) (some [UInt8.ofNat (Int.toNat 129), UInt8.ofNat (IntKind.u8.wrap x0).toNat])
    (some [UInt8.ofNat (Int.toNat 130), UInt8.ofNat (IntKind.u8.wrap (shrI IntKind.i64 x0 8)).toNat, UInt8.ofNat (IntKind.u8.wrap x0).toNat]))
noncomputable def cx_lengthBytes (N : Nat) : Cx := { T := T, isPure := tabP [], pureK := fun g ds K => tabK [] g ds K, memK := fun g dst ds m K => tabMK [] g dst ds m K, meth := tabM [], keep := fun _ => [], keepX := fun _ => [], loopT := fun _ _ _ _ => none, jumps := 9 }
theorem s_lengthBytes_ok (N : Nat) (x0 : Int) : bodyK (cx_lengthBytes N) Tryd.f97 [.v (.int .i64 x0) .no] [] r_lengthBytes = s_lengthBytes N x0 := by
  kernel_rfl
theorem go_lengthBytes : Goes Tryd.prog 97 := goes_of Tryd.func97 (by kernel_rfl) (c := bodyOf Tryd.f97) (by kernel_rfl)
theorem eo_lengthBytes (s : Int → Option (List UInt8)) (hs : ∀ (x0 : Int) (r0 : List UInt8), s x0 = some r0 → PureRet Tryd.prog T 97 [.v (.int .i64 x0) .no] [.v (.bytes r0) .no]) : EntOK Tryd.prog T ⟨97, e_lengthBytes s⟩ := by
  refine ⟨go_lengthBytes, fun R ds K r h => ?_, fun R ds K => ?_⟩
  · simp only [e_lengthBytes] at h
    split at h
    · obtain ⟨r0, h1, h2⟩ := bnd1_some h
      exact ⟨_, h2, hs _ _ h1⟩
    · cases h
  · simp only [e_lengthBytes]
    split
    · rw [bnd1_b]; rfl
    · rfl
theorem co_lengthBytes (N : Nat) : CxOK Tryd.prog (cx_lengthBytes N) :=
  cxOK_of2 (es := []) (me := []) (ms := []) T_ok trivial trivial trivial rfl (fun _ _ _ _ => rfl) (fun _ _ _ _ _ _ => rfl) rfl
theorem lo_lengthBytes (N : Nat) : LoopsOK (cx_lengthBytes N) Tryd.f97.ntmps (bodyOf Tryd.f97) :=
  loopsOK_of (k := 0) (by kernel_rfl) trivial
theorem p_lengthBytes (N : Nat) (x0 : Int) (r0 : List UInt8) (h : s_lengthBytes N x0 = some r0) : PureRet Tryd.prog T 97 [.v (.int .i64 x0) .no] [.v (.bytes r0) .no] :=
  pure_of (cx := cx_lengthBytes N) (by kernel_rfl) (co_lengthBytes N) Tryd.func97 (by kernel_rfl) (by kernel_rfl) (lo_lengthBytes N) rfl rfl rfl (rf := r_lengthBytes) ((s_lengthBytes_ok N x0).trans h) (fun rs' m h => by
    unfold r_lengthBytes at h
    split at h
    · cases h; exact ⟨rfl, rfl⟩
    · cases h)
noncomputable def e_valid {R : Type} (s : List V → Int → Option (Bool)) (ds : List D) (K : List D → Option R) : Option R :=
  match ds with
  | [.v (.sl 67 x0) .no, .v (.int .i64 x1) .no] => bnd1 (s x0 x1) fun r0 => K [.v (.bool r0) .no]
  | _ => none
noncomputable def e_valid1 {R : Type} (s : Int → List UInt8 → List V → Int → Option (Bool)) (dst : Nat) (ds : List D) (m : Mem) (K : List D → Mem → Option R) : Option R :=
  match ds with
  | [.agg [.v (.int .i64 x0) .no, .v (.bytes x1) .no, .v (.sl 67 x2) .no], .ptr (kv0 + 1) sv0 0] => viewK [(kv0, sv0)] m fun Bs => (match Bs with
    | [⟨3, [.v (.int .i64 y0) .no]⟩] => bnd1 (s x0 x1 x2 y0) fun r0 => putAllK [(kv0, sv0)] [⟨3, [.v (.int .i64 y0) .no]⟩] m fun m' => K [.v (.bool r0) .no] m'
    | _ => none)
  | _ => none
noncomputable def r_valid1 {α : Type} (K : Bool → Int → Option α) (rs : List D) (m : Mem) : Option α :=
  match rs, m with
  | [.v (.bool r0) _], [_, [(0, ⟨3, [.v (.int .i64 z0) .no]⟩)]] => K r0 z0
  | _, _ => none
noncomputable def C_valid1 {R : Type} (N : Nat) (f : List V → Int → Option (Bool)) (x0 : Int) (x1 : List UInt8) (x2 : List V) (y0 : Int) (K0 : Bool → Option R) : Option R :=
  br (decide (8 < y0)) (K0 true)
  (bnd1 (s_Valid N x0) fun b0 =>
    br (!b0) (K0 true) (bnd1 (s_Constructed N x0) fun b1 => br b1 (br (decide (0 < (↑x1.length : Int))) (K0 true) (bnd1 (f x2 (IntKind.i64.wrap (y0 + 1))) fun b2 => K0 !b2)) (K0 (decide (0 < (↑x2.length : Int))))))
noncomputable def s_valid1 (N : Nat) (f : List V → Int → Option (Bool)) (x0 : Int) (x1 : List UInt8) (x2 : List V) (y0 : Int) : Option (Bool) :=
  C_valid1 N f x0 x1 x2 y0 (fun r0 => some r0)
noncomputable def cx_valid1 (N : Nat) (f : List V → Int → Option (Bool)) : Cx := { T := T, isPure := tabP [⟨94, e_Valid (s_Valid N)⟩, ⟨95, e_Constructed (s_Constructed N)⟩, ⟨77, e_valid f⟩], pureK := fun g ds K => tabK [⟨94, e_Valid (s_Valid N)⟩, ⟨95, e_Constructed (s_Constructed N)⟩, ⟨77, e_valid f⟩] g ds K, memK := fun g dst ds m K => tabMK [] g dst ds m K, meth := tabM [], keep := fun _ => [], keepX := fun _ => [], loopT := fun _ _ _ _ => none, jumps := 9 }
theorem C_valid1_ok {R : Type} (N : Nat) (f : List V → Int → Option (Bool)) (x0 : Int) (x1 : List UInt8) (x2 : List V) (y0 : Int) (K : Bool → Int → Option R) : bodyK (cx_valid1 N f) Tryd.f93 [.agg [.v (.int .i64 x0) .no, .v (.bytes x1) .no, .v (.sl 67 x2) .no], .ptr 1 0 0] [frOf 0 [⟨3, [.v (.int .i64 y0) .no]⟩]] (r_valid1 K) = C_valid1 N f x0 x1 x2 y0 (fun r0 => K r0 y0) := by
  kernel_rfl
theorem go_valid : Goes Tryd.prog 77 := goes_of Tryd.func77 (by kernel_rfl) (c := bodyOf Tryd.f77) (by kernel_rfl)
theorem eo_valid (s : List V → Int → Option (Bool)) (hs : ∀ (x0 : List V) (x1 : Int) (r0 : Bool), s x0 x1 = some r0 → PureRet Tryd.prog T 77 [.v (.sl 67 x0) .no, .v (.int .i64 x1) .no] [.v (.bool r0) .no]) : EntOK Tryd.prog T ⟨77, e_valid s⟩ := by
  refine ⟨go_valid, fun R ds K r h => ?_, fun R ds K => ?_⟩
  · simp only [e_valid] at h
    split at h
    · obtain ⟨r0, h1, h2⟩ := bnd1_some h
      exact ⟨_, h2, hs _ _ _ h1⟩
    · cases h
  · simp only [e_valid]
    split
    · rw [bnd1_b]; rfl
    · rfl
theorem go_valid1 : Goes Tryd.prog 93 := goes_of Tryd.func93 (by kernel_rfl) (c := bodyOf Tryd.f93) (by kernel_rfl)
theorem eo_valid1 (s : Int → List UInt8 → List V → Int → Option (Bool)) (hs : ∀ (x0 : Int) (x1 : List UInt8) (x2 : List V) (y0 : Int) (r0 : Bool), s x0 x1 x2 y0 = some r0 → ViewRet Tryd.prog T 93 [.agg [.v (.int .i64 x0) .no, .v (.bytes x1) .no, .v (.sl 67 x2) .no], .ptr 1 0 0] [⟨3, [.v (.int .i64 y0) .no]⟩] [.v (.bool r0) .no] [⟨3, [.v (.int .i64 y0) .no]⟩]) : MEntOK Tryd.prog T ⟨93, e_valid1 s⟩ := by
  refine ⟨go_valid1, fun R dst ds m K r h => ?_⟩
  simp only [e_valid1] at h
  split at h
  · obtain ⟨Bs, a1, a2, a3, h⟩ := viewK_some h
    split at h
    · obtain ⟨r0, h1, h2⟩ := bnd1_some h
      rw [putAllK_eq] at h2
      exact ⟨_, _, h2, hs _ _ _ _ _ h1 _ _ m dst a1 a2 a3 ⟨aren_agg ⟨aren_v _, aren_v _, aren_v _, trivial⟩, aren_ptr _ rfl, trivial⟩⟩
    · cases h
  · cases h
theorem co_valid1 (N : Nat) (f : List V → Int → Option (Bool)) (hf : ∀ (x0 : List V) (x1 : Int) (r0 : Bool), f x0 x1 = some r0 → PureRet Tryd.prog T 77 [.v (.sl 67 x0) .no, .v (.int .i64 x1) .no] [.v (.bool r0) .no]) : CxOK Tryd.prog (cx_valid1 N f) :=
  cxOK_of2 (es := [⟨94, e_Valid (s_Valid N)⟩, ⟨95, e_Constructed (s_Constructed N)⟩, ⟨77, e_valid f⟩]) (me := []) (ms := []) T_ok ⟨eo_Valid _ (p_Valid N), eo_Constructed _ (p_Constructed N), eo_valid f hf, trivial⟩ trivial trivial rfl (fun _ _ _ _ => rfl) (fun _ _ _ _ _ _ => rfl) rfl
theorem lo_valid1 (N : Nat) (f : List V → Int → Option (Bool)) : LoopsOK (cx_valid1 N f) Tryd.f93.ntmps (bodyOf Tryd.f93) :=
  loopsOK_of (k := 0) (by kernel_rfl) trivial
open Classical in
theorem p_valid1 (N : Nat) (f : List V → Int → Option (Bool)) (hf : ∀ (x0 : List V) (x1 : Int) (r0 : Bool), f x0 x1 = some r0 → PureRet Tryd.prog T 77 [.v (.sl 67 x0) .no, .v (.int .i64 x1) .no] [.v (.bool r0) .no]) (x0 : Int) (x1 : List UInt8) (x2 : List V) (y0 : Int) (r0 : Bool) (h : s_valid1 N f x0 x1 x2 y0 = some r0) : ViewRet Tryd.prog T 93 [.agg [.v (.int .i64 x0) .no, .v (.bytes x1) .no, .v (.sl 67 x2) .no], .ptr 1 0 0] [⟨3, [.v (.int .i64 y0) .no]⟩] [.v (.bool r0) .no] [⟨3, [.v (.int .i64 y0) .no]⟩] := by
  refine view_of (Bs := [⟨3, [.v (.int .i64 y0) .no]⟩]) (Bs' := [⟨3, [.v (.int .i64 y0) .no]⟩]) (cx := cx_valid1 N f) (by kernel_rfl) (co_valid1 N f hf) Tryd.func93 (by kernel_rfl) (by kernel_rfl) (lo_valid1 N f) rfl rfl rfl rfl (rf := r_valid1 (fun r0' z'0 => if z'0 = y0 then some r0' else none)) (r := r0) ?_ ?_
  · exact (C_valid1_ok N f x0 x1 x2 y0 _).trans ((congrArg (fun K => C_valid1 N f x0 x1 x2 y0 K) (funext fun r0' => if_pos rfl)).trans h)
  · intro rs' m' hx
    unfold r_valid1 at hx
    split at hx
    · dsimp only at hx
      split at hx
      · rename_i hk
        subst hk
        cases hx; exact ⟨rfl, rfl, _, rfl⟩
      · cases hx
    · cases hx
noncomputable def e_IndexFuncV {R : Type} (s : List V → Int → Option (Int)) (dst : Nat) (ds : List D) (m : Mem) (K : List D → Mem → Option R) : Option R :=
  match ds with
  | [.v (.sl 67 x0) .no, .clos 93 [.ptr (kv0 + 1) sv0 0]] => viewK [(kv0, sv0)] m fun Bs => (match Bs with
    | [⟨3, [.v (.int .i64 y0) .no]⟩] => bnd1 (s x0 y0) fun r0 => putAllK [(kv0, sv0)] [⟨3, [.v (.int .i64 y0) .no]⟩] m fun m' => K [.v (.int .i64 r0) .no] m'
    | _ => none)
  | _ => none
noncomputable def r_IndexFuncV {α : Type} (K : Int → Int → Option α) (rs : List D) (m : Mem) : Option α :=
  match rs, m with
  | [.v (.int .i64 r0) _], [_, [(0, ⟨3, [.v (.int .i64 z0) .no]⟩)]] => K r0 z0
  | _, _ => none
noncomputable def F_IndexFuncV_2 {R : Type} (N : Nat) (f : List V → Int → Option (Bool)) (vs0 : List V) (n1 : Int) (n3 : Int) (Lq : Int → Option R) (K0 : Int → Option R) (K1 : Option R) (n2 : Int) : Option R :=
  br (decide (n2 < n1))
  (br (decide (0 ≤ n2) && decide (n2 < (↑vs0.length : Int)))
    (at? vs0 n2.toNat fun x0 =>
      x0.unAgg fun l1 =>
        unCons l1 fun x2 l3 =>
          V.unInt IntKind.i64 x2 fun n4 => unCons l3 fun x5 l6 => x5.unBytes fun l7 => unCons l6 fun x8 l9 => V.unSl 67 x8 fun l10 => unNil l9 (bnd1 (s_valid1 N f n4 l7 l10 n3) fun b11 => br b11 (K0 n2) (Lq (IntKind.i64.wrap (n2 + 1)))))
    none)
  K1
noncomputable def S_IndexFuncV_2 {R : Type} (N : Nat) (f : List V → Int → Option (Bool)) (vs0 : List V) (n1 : Int) (n3 : Int) : Nat → Int → (Int → Option R) → (Option R) → Option R
  | 0, _, _, _ => none
  | t + 1, n2, K0, K1 => F_IndexFuncV_2 N f vs0 n1 n3 (fun n2 => S_IndexFuncV_2 N f vs0 n1 n3 t n2 K0 K1) K0 K1 n2
noncomputable def l_IndexFuncV_2 {R : Type} (N : Nat) (f : List V → Int → Option (Bool)) (ds : List D) (m : Mem) (K : Ex → List D → Mem → Option R) : Option R :=
  match ds, m with
  | [(.v (.sl 67 vs0) .no), (.clos 93 [(.ptr 1 0 0)]), (.v (.int .i64 n1) .no), (.v (.int .i64 n2) .no)], [[], [(0, ⟨3, [(.v (.int .i64 n3) .no)]⟩)]] => S_IndexFuncV_2 N f vs0 n1 n3 N n2 (fun a0 => K .ret [(.v (.int .i64 a0) .no)] [[], [(0, ⟨3, [(.v (.int .i64 n3) .no)]⟩)]]) (K (.exit 0) [.any] [[], [(0, ⟨3, [(.v (.int .i64 n3) .no)]⟩)]])
  | _, _ => none
noncomputable def C_IndexFuncV {R : Type} (N : Nat) (f : List V → Int → Option (Bool)) (x0 : List V) (y0 : Int) (K0 : Int → Option R) : Option R :=
  S_IndexFuncV_2 N f x0 (↑x0.length : Int) y0 N 0 (fun n0 => K0 n0) (K0 (-1))
noncomputable def s_IndexFuncV (N : Nat) (f : List V → Int → Option (Bool)) (x0 : List V) (y0 : Int) : Option (Int) :=
  C_IndexFuncV N f x0 y0 (fun r0 => some r0)
noncomputable def cx_IndexFuncV (N : Nat) (f : List V → Int → Option (Bool)) : Cx := { T := T, isPure := tabP [], pureK := fun g ds K => tabK [] g ds K, memK := fun g dst ds m K => tabMK [⟨93, e_valid1 (s_valid1 N f)⟩] g dst ds m K, meth := tabM [], keep := fun r => match r with | 2 => [0, 1, 7, 8] | _ => [], keepX := fun r => match r with | 2 => [4] | _ => [], loopT := fun r ds m K => match r with | 2 => l_IndexFuncV_2 N f ds m K | _ => none, jumps := 9 }
theorem F_IndexFuncV_2_ok {R : Type} (N : Nat) (f : List V → Int → Option (Bool)) (vs0 : List V) (n1 : Int) (n3 : Int) (n2 : Int) (L : List D → Mem → Option R) (K : Ex → List D → Mem → Option R) :
    roundK (fun st K => codeK (cx_IndexFuncV N f) (loopN Tryd.f111 0) st K) 19 [0, 1, 7, 8] [4] L [(.v (.sl 67 vs0) .no), (.clos 93 [(.ptr 1 0 0)]), (.v (.int .i64 n1) .no), (.v (.int .i64 n2) .no)] [[], [(0, ⟨3, [(.v (.int .i64 n3) .no)]⟩)]] K = F_IndexFuncV_2 N f vs0 n1 n3 (fun n2 => L [(.v (.sl 67 vs0) .no), (.clos 93 [(.ptr 1 0 0)]), (.v (.int .i64 n1) .no), (.v (.int .i64 n2) .no)] [[], [(0, ⟨3, [(.v (.int .i64 n3) .no)]⟩)]]) (fun a0 => K .ret [(.v (.int .i64 a0) .no)] [[], [(0, ⟨3, [(.v (.int .i64 n3) .no)]⟩)]]) (K (.exit 0) [.any] [[], [(0, ⟨3, [(.v (.int .i64 n3) .no)]⟩)]]) n2 := by
  kernel_rfl
theorem S_IndexFuncV_2_ok {R : Type} (N : Nat) (f : List V → Int → Option (Bool)) (vs0 : List V) (n1 : Int) (n3 : Int) (K : Ex → List D → Mem → Option R) : ∀ (t : Nat) (n2 : Int),
    loopK (fun st K => codeK (cx_IndexFuncV N f) (loopN Tryd.f111 0) st K) 19 [0, 1, 7, 8] [4] t [(.v (.sl 67 vs0) .no), (.clos 93 [(.ptr 1 0 0)]), (.v (.int .i64 n1) .no), (.v (.int .i64 n2) .no)] [[], [(0, ⟨3, [(.v (.int .i64 n3) .no)]⟩)]] K = S_IndexFuncV_2 N f vs0 n1 n3 t n2 (fun a0 => K .ret [(.v (.int .i64 a0) .no)] [[], [(0, ⟨3, [(.v (.int .i64 n3) .no)]⟩)]]) (K (.exit 0) [.any] [[], [(0, ⟨3, [(.v (.int .i64 n3) .no)]⟩)]])
  | 0, n2 => rfl
  | t + 1, n2 => (F_IndexFuncV_2_ok N f vs0 n1 n3 n2 _ K).trans (congrArg (fun L => F_IndexFuncV_2 N f vs0 n1 n3 L (fun a0 => K .ret [(.v (.int .i64 a0) .no)] [[], [(0, ⟨3, [(.v (.int .i64 n3) .no)]⟩)]]) (K (.exit 0) [.any] [[], [(0, ⟨3, [(.v (.int .i64 n3) .no)]⟩)]]) n2) (funext fun n2 => S_IndexFuncV_2_ok N f vs0 n1 n3 K t n2))
theorem C_IndexFuncV_ok {R : Type} (N : Nat) (f : List V → Int → Option (Bool)) (x0 : List V) (y0 : Int) (K : Int → Int → Option R) : bodyK (cx_IndexFuncV N f) Tryd.f111 [.v (.sl 67 x0) .no, .clos 93 [.ptr 1 0 0]] [frOf 0 [⟨3, [.v (.int .i64 y0) .no]⟩]] (r_IndexFuncV K) = C_IndexFuncV N f x0 y0 (fun r0 => K r0 y0) := by
  kernel_rfl
theorem go_IndexFuncV : Goes Tryd.prog 111 := goes_of Tryd.func111 (by kernel_rfl) (c := bodyOf Tryd.f111) (by kernel_rfl)
theorem eo_IndexFuncV (s : List V → Int → Option (Int)) (hs : ∀ (x0 : List V) (y0 : Int) (r0 : Int), s x0 y0 = some r0 → ViewRet Tryd.prog T 111 [.v (.sl 67 x0) .no, .clos 93 [.ptr 1 0 0]] [⟨3, [.v (.int .i64 y0) .no]⟩] [.v (.int .i64 r0) .no] [⟨3, [.v (.int .i64 y0) .no]⟩]) : MEntOK Tryd.prog T ⟨111, e_IndexFuncV s⟩ := by
  refine ⟨go_IndexFuncV, fun R dst ds m K r h => ?_⟩
  simp only [e_IndexFuncV] at h
  split at h
  · obtain ⟨Bs, a1, a2, a3, h⟩ := viewK_some h
    split at h
    · obtain ⟨r0, h1, h2⟩ := bnd1_some h
      rw [putAllK_eq] at h2
      exact ⟨_, _, h2, hs _ _ _ h1 _ _ m dst a1 a2 a3 ⟨aren_v _, aren_clos ⟨aren_ptr _ rfl, trivial⟩, trivial⟩⟩
    · cases h
  · cases h
theorem co_IndexFuncV (N : Nat) (f : List V → Int → Option (Bool)) (hf : ∀ (x0 : List V) (x1 : Int) (r0 : Bool), f x0 x1 = some r0 → PureRet Tryd.prog T 77 [.v (.sl 67 x0) .no, .v (.int .i64 x1) .no] [.v (.bool r0) .no]) : CxOK Tryd.prog (cx_IndexFuncV N f) :=
  cxOK_of2 (es := []) (me := [⟨93, e_valid1 (s_valid1 N f)⟩]) (ms := []) T_ok trivial ⟨eo_valid1 _ (p_valid1 N f hf), trivial⟩ trivial rfl (fun _ _ _ _ => rfl) (fun _ _ _ _ _ _ => rfl) rfl
theorem lk_IndexFuncV_2 (N : Nat) (f : List V → Int → Option (Bool)) : LoopOK (cx_IndexFuncV N f) 19 (loopN Tryd.f111 0) := by
  refine loopOK_of (rid := 2) (by kernel_rfl) rfl rfl fun R ds m K r h => ?_
  have h : l_IndexFuncV_2 N f ds m K = some r := h
  unfold l_IndexFuncV_2 at h
  split at h
  · exact ⟨N, Eq.trans (S_IndexFuncV_2_ok ..) h⟩
  · cases h
theorem lo_IndexFuncV (N : Nat) (f : List V → Int → Option (Bool)) : LoopsOK (cx_IndexFuncV N f) Tryd.f111.ntmps (bodyOf Tryd.f111) :=
  loopsOK_of (k := 1) (by kernel_rfl) ⟨trivial, lk_IndexFuncV_2 N f⟩
open Classical in
theorem p_IndexFuncV (N : Nat) (f : List V → Int → Option (Bool)) (hf : ∀ (x0 : List V) (x1 : Int) (r0 : Bool), f x0 x1 = some r0 → PureRet Tryd.prog T 77 [.v (.sl 67 x0) .no, .v (.int .i64 x1) .no] [.v (.bool r0) .no]) (x0 : List V) (y0 : Int) (r0 : Int) (h : s_IndexFuncV N f x0 y0 = some r0) : ViewRet Tryd.prog T 111 [.v (.sl 67 x0) .no, .clos 93 [.ptr 1 0 0]] [⟨3, [.v (.int .i64 y0) .no]⟩] [.v (.int .i64 r0) .no] [⟨3, [.v (.int .i64 y0) .no]⟩] := by
  refine view_of (Bs := [⟨3, [.v (.int .i64 y0) .no]⟩]) (Bs' := [⟨3, [.v (.int .i64 y0) .no]⟩]) (cx := cx_IndexFuncV N f) (by kernel_rfl) (co_IndexFuncV N f hf) Tryd.func111 (by kernel_rfl) (by kernel_rfl) (lo_IndexFuncV N f) rfl rfl rfl rfl (rf := r_IndexFuncV (fun r0' z'0 => if z'0 = y0 then some r0' else none)) (r := r0) ?_ ?_
  · exact (C_IndexFuncV_ok N f x0 y0 _).trans ((congrArg (fun K => C_IndexFuncV N f x0 y0 K) (funext fun r0' => if_pos rfl)).trans h)
  · intro rs' m' hx
    unfold r_IndexFuncV at hx
    split at hx
    · dsimp only at hx
      split at hx
      · rename_i hk
        subst hk
        cases hx; exact ⟨rfl, rfl, _, rfl⟩
      · cases hx
    · cases hx
noncomputable def e_ContainsFuncV {R : Type} (s : List V → Int → Option (Bool)) (dst : Nat) (ds : List D) (m : Mem) (K : List D → Mem → Option R) : Option R :=
  match ds with
  | [.v (.sl 67 x0) .no, .clos 93 [.ptr (kv0 + 1) sv0 0]] => viewK [(kv0, sv0)] m fun Bs => (match Bs with
    | [⟨3, [.v (.int .i64 y0) .no]⟩] => bnd1 (s x0 y0) fun r0 => putAllK [(kv0, sv0)] [⟨3, [.v (.int .i64 y0) .no]⟩] m fun m' => K [.v (.bool r0) .no] m'
    | _ => none)
  | _ => none
noncomputable def r_ContainsFuncV {α : Type} (K : Bool → Int → Option α) (rs : List D) (m : Mem) : Option α :=
  match rs, m with
  | [.v (.bool r0) _], [_, [(0, ⟨3, [.v (.int .i64 z0) .no]⟩)]] => K r0 z0
  | _, _ => none
noncomputable def C_ContainsFuncV {R : Type} (N : Nat) (f : List V → Int → Option (Bool)) (x0 : List V) (y0 : Int) (K0 : Bool → Option R) : Option R :=
  bnd1 (s_IndexFuncV N f x0 y0) fun n0 => K0 (decide (0 ≤ n0))
noncomputable def s_ContainsFuncV (N : Nat) (f : List V → Int → Option (Bool)) (x0 : List V) (y0 : Int) : Option (Bool) :=
  C_ContainsFuncV N f x0 y0 (fun r0 => some r0)
noncomputable def cx_ContainsFuncV (N : Nat) (f : List V → Int → Option (Bool)) : Cx := { T := T, isPure := tabP [], pureK := fun g ds K => tabK [] g ds K, memK := fun g dst ds m K => tabMK [⟨111, e_IndexFuncV (s_IndexFuncV N f)⟩] g dst ds m K, meth := tabM [], keep := fun _ => [], keepX := fun _ => [], loopT := fun _ _ _ _ => none, jumps := 9 }
theorem C_ContainsFuncV_ok {R : Type} (N : Nat) (f : List V → Int → Option (Bool)) (x0 : List V) (y0 : Int) (K : Bool → Int → Option R) : bodyK (cx_ContainsFuncV N f) Tryd.f92 [.v (.sl 67 x0) .no, .clos 93 [.ptr 1 0 0]] [frOf 0 [⟨3, [.v (.int .i64 y0) .no]⟩]] (r_ContainsFuncV K) = C_ContainsFuncV N f x0 y0 (fun r0 => K r0 y0) := by
  kernel_rfl
theorem go_ContainsFuncV : Goes Tryd.prog 92 := goes_of Tryd.func92 (by kernel_rfl) (c := bodyOf Tryd.f92) (by kernel_rfl)
theorem eo_ContainsFuncV (s : List V → Int → Option (Bool)) (hs : ∀ (x0 : List V) (y0 : Int) (r0 : Bool), s x0 y0 = some r0 → ViewRet Tryd.prog T 92 [.v (.sl 67 x0) .no, .clos 93 [.ptr 1 0 0]] [⟨3, [.v (.int .i64 y0) .no]⟩] [.v (.bool r0) .no] [⟨3, [.v (.int .i64 y0) .no]⟩]) : MEntOK Tryd.prog T ⟨92, e_ContainsFuncV s⟩ := by
  refine ⟨go_ContainsFuncV, fun R dst ds m K r h => ?_⟩
  simp only [e_ContainsFuncV] at h
  split at h
  · obtain ⟨Bs, a1, a2, a3, h⟩ := viewK_some h
    split at h
    · obtain ⟨r0, h1, h2⟩ := bnd1_some h
      rw [putAllK_eq] at h2
      exact ⟨_, _, h2, hs _ _ _ h1 _ _ m dst a1 a2 a3 ⟨aren_v _, aren_clos ⟨aren_ptr _ rfl, trivial⟩, trivial⟩⟩
    · cases h
  · cases h
theorem co_ContainsFuncV (N : Nat) (f : List V → Int → Option (Bool)) (hf : ∀ (x0 : List V) (x1 : Int) (r0 : Bool), f x0 x1 = some r0 → PureRet Tryd.prog T 77 [.v (.sl 67 x0) .no, .v (.int .i64 x1) .no] [.v (.bool r0) .no]) : CxOK Tryd.prog (cx_ContainsFuncV N f) :=
  cxOK_of2 (es := []) (me := [⟨111, e_IndexFuncV (s_IndexFuncV N f)⟩]) (ms := []) T_ok trivial ⟨eo_IndexFuncV _ (p_IndexFuncV N f hf), trivial⟩ trivial rfl (fun _ _ _ _ => rfl) (fun _ _ _ _ _ _ => rfl) rfl
theorem lo_ContainsFuncV (N : Nat) (f : List V → Int → Option (Bool)) : LoopsOK (cx_ContainsFuncV N f) Tryd.f92.ntmps (bodyOf Tryd.f92) :=
  loopsOK_of (k := 0) (by kernel_rfl) trivial
open Classical in
theorem p_ContainsFuncV (N : Nat) (f : List V → Int → Option (Bool)) (hf : ∀ (x0 : List V) (x1 : Int) (r0 : Bool), f x0 x1 = some r0 → PureRet Tryd.prog T 77 [.v (.sl 67 x0) .no, .v (.int .i64 x1) .no] [.v (.bool r0) .no]) (x0 : List V) (y0 : Int) (r0 : Bool) (h : s_ContainsFuncV N f x0 y0 = some r0) : ViewRet Tryd.prog T 92 [.v (.sl 67 x0) .no, .clos 93 [.ptr 1 0 0]] [⟨3, [.v (.int .i64 y0) .no]⟩] [.v (.bool r0) .no] [⟨3, [.v (.int .i64 y0) .no]⟩] := by
  refine view_of (Bs := [⟨3, [.v (.int .i64 y0) .no]⟩]) (Bs' := [⟨3, [.v (.int .i64 y0) .no]⟩]) (cx := cx_ContainsFuncV N f) (by kernel_rfl) (co_ContainsFuncV N f hf) Tryd.func92 (by kernel_rfl) (by kernel_rfl) (lo_ContainsFuncV N f) rfl rfl rfl rfl (rf := r_ContainsFuncV (fun r0' z'0 => if z'0 = y0 then some r0' else none)) (r := r0) ?_ ?_
  · exact (C_ContainsFuncV_ok N f x0 y0 _).trans ((congrArg (fun K => C_ContainsFuncV N f x0 y0 K) (funext fun r0' => if_pos rfl)).trans h)
  · intro rs' m' hx
    unfold r_ContainsFuncV at hx
    split at hx
    · dsimp only at hx
      split at hx
      · rename_i hk
        subst hk
        cases hx; exact ⟨rfl, rfl, _, rfl⟩
      · cases hx
    · cases hx
noncomputable def r_valid (rs : List D) (_ : Mem) : Option (Bool) :=
  match rs with
  | [.v (.bool r0) _] => some (r0)
  | _ => none
noncomputable def B_valid (N : Nat) (f : List V → Int → Option (Bool)) (x0 : List V) (x1 : Int) : Option (Bool) :=
  bnd1 (s_ContainsFuncV N f x0 x1) fun b0 => some !b0
noncomputable def s_valid (N : Nat) : Nat → List V → Int → Option (Bool)
  | 0, _, _ => none
  | n + 1, x0, x1 => B_valid N (s_valid N n) x0 x1
noncomputable def cx_valid (N : Nat) (f : List V → Int → Option (Bool)) : Cx := { T := T, isPure := tabP [⟨77, e_valid f⟩], pureK := fun g ds K => tabK [⟨77, e_valid f⟩] g ds K, memK := fun g dst ds m K => tabMK [⟨92, e_ContainsFuncV (s_ContainsFuncV N f)⟩, ⟨93, e_valid1 (s_valid1 N f)⟩] g dst ds m K, meth := tabM [], keep := fun _ => [], keepX := fun _ => [], loopT := fun _ _ _ _ => none, jumps := 9 }
theorem B_valid_ok (N : Nat) (f : List V → Int → Option (Bool)) (x0 : List V) (x1 : Int) : bodyK (cx_valid N f) Tryd.f77 [.v (.sl 67 x0) .no, .v (.int .i64 x1) .no] [] r_valid = B_valid N f x0 x1 := by
  kernel_rfl
theorem co_valid (N : Nat) (f : List V → Int → Option (Bool)) (hf : ∀ (x0 : List V) (x1 : Int) (r0 : Bool), f x0 x1 = some r0 → PureRet Tryd.prog T 77 [.v (.sl 67 x0) .no, .v (.int .i64 x1) .no] [.v (.bool r0) .no]) : CxOK Tryd.prog (cx_valid N f) :=
  cxOK_of2 (es := [⟨77, e_valid f⟩]) (me := [⟨92, e_ContainsFuncV (s_ContainsFuncV N f)⟩, ⟨93, e_valid1 (s_valid1 N f)⟩]) (ms := []) T_ok ⟨eo_valid f hf, trivial⟩ ⟨eo_ContainsFuncV _ (p_ContainsFuncV N f hf), eo_valid1 _ (p_valid1 N f hf), trivial⟩ trivial rfl (fun _ _ _ _ => rfl) (fun _ _ _ _ _ _ => rfl) rfl
theorem lo_valid (N : Nat) (f : List V → Int → Option (Bool)) : LoopsOK (cx_valid N f) Tryd.f77.ntmps (bodyOf Tryd.f77) :=
  loopsOK_of (k := 0) (by kernel_rfl) trivial
theorem p_valid (N : Nat) : ∀ (M : Nat) (x0 : List V) (x1 : Int) (r0 : Bool), s_valid N M x0 x1 = some r0 → PureRet Tryd.prog T 77 [.v (.sl 67 x0) .no, .v (.int .i64 x1) .no] [.v (.bool r0) .no]
  | 0, _, _, _, h => by cases h
  | M + 1, x0, x1, r0, h => pure_of (cx := cx_valid N (s_valid N M)) (by kernel_rfl) (co_valid N (s_valid N M) (p_valid N M)) Tryd.func77 (by kernel_rfl) (by kernel_rfl) (lo_valid N (s_valid N M)) rfl rfl rfl (rf := r_valid) ((B_valid_ok N (s_valid N M) x0 x1).trans h) (fun rs' m h => by
    unfold r_valid at h
    split at h
    · cases h; exact ⟨rfl, rfl⟩
    · cases h)
noncomputable def e_size {R : Type} (s : List V → Option (Int)) (ds : List D) (K : List D → Option R) : Option R :=
  match ds with
  | [.v (.sl 67 x0) .no] => bnd1 (s x0) fun r0 => K [.v (.int .i64 r0) .no]
  | _ => none
noncomputable def r_size (rs : List D) (_ : Mem) : Option (Int) :=
  match rs with
  | [.v (.int .i64 r0) _] => some (r0)
  | _ => none
noncomputable def F_size_3 {R : Type} (N : Nat) (f : List V → Option (Int)) (vs1 : List V) (n2 : Int) (Lq : Int → Int → Option R) (K0 : Int → Option R) (n0 : Int) (n3 : Int) : Option R :=
  br (decide (n3 < n2))
  (br (decide (0 ≤ n3) && decide (n3 < (↑vs1.length : Int)))
    (at? vs1 n3.toNat fun x0 =>
      x0.unAgg fun l1 =>
        unCons l1 fun x2 l3 =>
          V.unInt IntKind.i64 x2 fun n4 =>
            unCons l3 fun x5 l6 =>
              x5.unBytes fun l7 =>
                unCons l6 fun x8 l9 =>
                  V.unSl 67 x8 fun l10 =>
                    unNil l9
                      (bnd1 (f l10) fun n11 =>
                        bnd1 (s_tagBytes N n4) fun l12 =>
                          bnd1 (s_lengthBytes N (IntKind.i64.wrap ((↑l7.length : Int) + n11))) fun l13 =>
                            br (decide (4096 < IntKind.i64.wrap (n0 + IntKind.i64.wrap (IntKind.i64.wrap ((↑l12.length : Int) + (↑l13.length : Int)) + IntKind.i64.wrap ((↑l7.length : Int) + n11)))))
                              (K0 (IntKind.i64.wrap (n0 + IntKind.i64.wrap (IntKind.i64.wrap ((↑l12.length : Int) + (↑l13.length : Int)) + IntKind.i64.wrap ((↑l7.length : Int) + n11)))))
                              (Lq (IntKind.i64.wrap (n0 + IntKind.i64.wrap (IntKind.i64.wrap ((↑l12.length : Int) + (↑l13.length : Int)) + IntKind.i64.wrap ((↑l7.length : Int) + n11)))) (IntKind.i64.wrap (n3 + 1)))))
    none)
  (K0 n0)
noncomputable def S_size_3 {R : Type} (N : Nat) (f : List V → Option (Int)) (vs1 : List V) (n2 : Int) : Nat → Int → Int → (Int → Option R) → Option R
  | 0, _, _, _ => none
  | t + 1, n0, n3, K0 => F_size_3 N f vs1 n2 (fun n0 n3 => S_size_3 N f vs1 n2 t n0 n3 K0) K0 n0 n3
noncomputable def l_size_3 {R : Type} (N : Nat) (f : List V → Option (Int)) (ds : List D) (m : Mem) (K : Ex → List D → Mem → Option R) : Option R :=
  match ds, m with
  | [(.v (.int .i64 n0) .no), (.v (.sl 67 vs1) .no), (.v (.int .i64 n2) .no), (.v (.int .i64 n3) .no)], [[]] => S_size_3 N f vs1 n2 N n0 n3 (fun a0 => K (.exit 0) [(.v (.int .i64 a0) .no)] [[]])
  | _, _ => none
noncomputable def B_size (N : Nat) (f : List V → Option (Int)) (x0 : List V) : Option (Int) :=
  S_size_3 N f x0 (↑x0.length : Int) N 0 0 fun n0 => some n0
noncomputable def s_size (N : Nat) : Nat → List V → Option (Int)
  | 0, _ => none
  | n + 1, x0 => B_size N (s_size N n) x0
noncomputable def cx_size (N : Nat) (f : List V → Option (Int)) : Cx := { T := T, isPure := tabP [⟨78, e_size f⟩, ⟨96, e_tagBytes (s_tagBytes N)⟩, ⟨97, e_lengthBytes (s_lengthBytes N)⟩], pureK := fun g ds K => tabK [⟨78, e_size f⟩, ⟨96, e_tagBytes (s_tagBytes N)⟩, ⟨97, e_lengthBytes (s_lengthBytes N)⟩] g ds K, memK := fun g dst ds m K => tabMK [] g dst ds m K, meth := tabM [], keep := fun r => match r with | 3 => [3, 7, 8, 9] | _ => [], keepX := fun r => match r with | 3 => [3] | _ => [], loopT := fun r ds m K => match r with | 3 => l_size_3 N f ds m K | _ => none, jumps := 9 }
theorem F_size_3_ok {R : Type} (N : Nat) (f : List V → Option (Int)) (vs1 : List V) (n2 : Int) (n0 : Int) (n3 : Int) (L : List D → Mem → Option R) (K : Ex → List D → Mem → Option R) :
    roundK (fun st K => codeK (cx_size N f) (loopN Tryd.f78 0) st K) 36 [3, 7, 8, 9] [3] L [(.v (.int .i64 n0) .no), (.v (.sl 67 vs1) .no), (.v (.int .i64 n2) .no), (.v (.int .i64 n3) .no)] [[]] K = F_size_3 N f vs1 n2 (fun n0 n3 => L [(.v (.int .i64 n0) .no), (.v (.sl 67 vs1) .no), (.v (.int .i64 n2) .no), (.v (.int .i64 n3) .no)] [[]]) (fun a0 => K (.exit 0) [(.v (.int .i64 a0) .no)] [[]]) n0 n3 := by
  kernel_rfl
theorem S_size_3_ok {R : Type} (N : Nat) (f : List V → Option (Int)) (vs1 : List V) (n2 : Int) (K : Ex → List D → Mem → Option R) : ∀ (t : Nat) (n0 : Int) (n3 : Int),
    loopK (fun st K => codeK (cx_size N f) (loopN Tryd.f78 0) st K) 36 [3, 7, 8, 9] [3] t [(.v (.int .i64 n0) .no), (.v (.sl 67 vs1) .no), (.v (.int .i64 n2) .no), (.v (.int .i64 n3) .no)] [[]] K = S_size_3 N f vs1 n2 t n0 n3 (fun a0 => K (.exit 0) [(.v (.int .i64 a0) .no)] [[]])
  | 0, n0, n3 => rfl
  | t + 1, n0, n3 => (F_size_3_ok N f vs1 n2 n0 n3 _ K).trans (congrArg (fun L => F_size_3 N f vs1 n2 L (fun a0 => K (.exit 0) [(.v (.int .i64 a0) .no)] [[]]) n0 n3) (funext fun n0 => funext fun n3 => S_size_3_ok N f vs1 n2 K t n0 n3))
theorem B_size_ok (N : Nat) (f : List V → Option (Int)) (x0 : List V) : bodyK (cx_size N f) Tryd.f78 [.v (.sl 67 x0) .no] [] r_size = B_size N f x0 := by
  kernel_rfl
theorem go_size : Goes Tryd.prog 78 := goes_of Tryd.func78 (by kernel_rfl) (c := bodyOf Tryd.f78) (by kernel_rfl)
theorem eo_size (s : List V → Option (Int)) (hs : ∀ (x0 : List V) (r0 : Int), s x0 = some r0 → PureRet Tryd.prog T 78 [.v (.sl 67 x0) .no] [.v (.int .i64 r0) .no]) : EntOK Tryd.prog T ⟨78, e_size s⟩ := by
  refine ⟨go_size, fun R ds K r h => ?_, fun R ds K => ?_⟩
  · simp only [e_size] at h
    split at h
    · obtain ⟨r0, h1, h2⟩ := bnd1_some h
      exact ⟨_, h2, hs _ _ h1⟩
    · cases h
  · simp only [e_size]
    split
    · rw [bnd1_b]; rfl
    · rfl
theorem co_size (N : Nat) (f : List V → Option (Int)) (hf : ∀ (x0 : List V) (r0 : Int), f x0 = some r0 → PureRet Tryd.prog T 78 [.v (.sl 67 x0) .no] [.v (.int .i64 r0) .no]) : CxOK Tryd.prog (cx_size N f) :=
  cxOK_of2 (es := [⟨78, e_size f⟩, ⟨96, e_tagBytes (s_tagBytes N)⟩, ⟨97, e_lengthBytes (s_lengthBytes N)⟩]) (me := []) (ms := []) T_ok ⟨eo_size f hf, eo_tagBytes _ (p_tagBytes N), eo_lengthBytes _ (p_lengthBytes N), trivial⟩ trivial trivial rfl (fun _ _ _ _ => rfl) (fun _ _ _ _ _ _ => rfl) rfl
theorem lk_size_3 (N : Nat) (f : List V → Option (Int)) : LoopOK (cx_size N f) 36 (loopN Tryd.f78 0) := by
  refine loopOK_of (rid := 3) (by kernel_rfl) rfl rfl fun R ds m K r h => ?_
  have h : l_size_3 N f ds m K = some r := h
  unfold l_size_3 at h
  split at h
  · exact ⟨N, Eq.trans (S_size_3_ok ..) h⟩
  · cases h
theorem lo_size (N : Nat) (f : List V → Option (Int)) : LoopsOK (cx_size N f) Tryd.f78.ntmps (bodyOf Tryd.f78) :=
  loopsOK_of (k := 1) (by kernel_rfl) ⟨trivial, lk_size_3 N f⟩
theorem p_size (N : Nat) : ∀ (M : Nat) (x0 : List V) (r0 : Int), s_size N M x0 = some r0 → PureRet Tryd.prog T 78 [.v (.sl 67 x0) .no] [.v (.int .i64 r0) .no]
  | 0, _, _, h => by cases h
  | M + 1, x0, r0, h => pure_of (cx := cx_size N (s_size N M)) (by kernel_rfl) (co_size N (s_size N M) (p_size N M)) Tryd.func78 (by kernel_rfl) (by kernel_rfl) (lo_size N (s_size N M)) rfl rfl rfl (rf := r_size) ((B_size_ok N (s_size N M) x0).trans h) (fun rs' m h => by
    unfold r_size at h
    split at h
    · cases h; exact ⟨rfl, rfl⟩
    · cases h)
noncomputable def e_concat {R : Type} (s : List V → Option (List UInt8)) (ds : List D) (K : List D → Option R) : Option R :=
  match ds with
  | [.v (.sl 39 x0) .no] => bnd1 (s x0) fun r0 => K [.v (.bytes r0) .no]
  | _ => none
theorem go_concat : Goes Tryd.prog 98 := goes_of Tryd.func98 (by kernel_rfl) (c := bodyOf Tryd.f98) (by kernel_rfl)
theorem eo_concat (s : List V → Option (List UInt8)) (hs : ∀ (x0 : List V) (r0 : List UInt8), s x0 = some r0 → PureRet Tryd.prog T 98 [.v (.sl 39 x0) .no] [.v (.bytes r0) .no]) : EntOK Tryd.prog T ⟨98, e_concat s⟩ := by
  refine ⟨go_concat, fun R ds K r h => ?_, fun R ds K => ?_⟩
  · simp only [e_concat] at h
    split at h
    · obtain ⟨r0, h1, h2⟩ := bnd1_some h
      exact ⟨_, h2, hs _ _ h1⟩
    · cases h
  · simp only [e_concat]
    split
    · rw [bnd1_b]; rfl
    · rfl
noncomputable def e_encode {R : Type} (s : List V → Option (List UInt8)) (ds : List D) (K : List D → Option R) : Option R :=
  match ds with
  | [.v (.sl 67 x0) .no] => bnd1 (s x0) fun r0 => K [.v (.bytes r0) .no]
  | _ => none
noncomputable def r_encode (rs : List D) (_ : Mem) : Option (List UInt8) :=
  match rs with
  | [.v (.bytes r0) _] => some (r0)
  | _ => none
noncomputable def F_encode_3 {R : Type} (N : Nat) (f : List V → Option (List UInt8)) (vs1 : List V) (n2 : Int) (Lq : List UInt8 → Int → Option R) (K0 : List UInt8 → Option R) (l0 : List UInt8) (n3 : Int) : Option R :=
  br (decide (n3 < n2))
  (br (decide (0 ≤ n3) && decide (n3 < (↑vs1.length : Int)))
    (at? vs1 n3.toNat fun x0 =>
      x0.unAgg fun l1 =>
        unCons l1 fun x2 l3 =>
          V.unInt IntKind.i64 x2 fun n4 =>
            unCons l3 fun x5 l6 =>
              x5.unBytes fun l7 =>
                unCons l6 fun x8 l9 =>
                  V.unSl 67 x8 fun l10 =>
                    unNil l9
                      (bnd1 (s_Constructed N n4) fun b11 =>
                        br b11
                          (bnd1 (f l10) fun l12 =>
                            bnd1 (s_tagBytes N n4) fun l13 => bnd1 (s_lengthBytes N (↑l12.length : Int)) fun l14 => bnd1 (s_concat N [V.bytes l0, V.bytes l13, V.bytes l14, V.bytes l12]) fun l15 => Lq l15 (IntKind.i64.wrap (n3 + 1)))
                          (bnd1 (s_tagBytes N n4) fun l16 => bnd1 (s_lengthBytes N (↑l7.length : Int)) fun l17 => bnd1 (s_concat N [V.bytes l0, V.bytes l16, V.bytes l17, V.bytes l7]) fun l18 => Lq l18 (IntKind.i64.wrap (n3 + 1)))))
    none)
  (K0 l0)
noncomputable def S_encode_3 {R : Type} (N : Nat) (f : List V → Option (List UInt8)) (vs1 : List V) (n2 : Int) : Nat → List UInt8 → Int → (List UInt8 → Option R) → Option R
  | 0, _, _, _ => none
  | t + 1, l0, n3, K0 => F_encode_3 N f vs1 n2 (fun l0 n3 => S_encode_3 N f vs1 n2 t l0 n3 K0) K0 l0 n3
noncomputable def l_encode_3 {R : Type} (N : Nat) (f : List V → Option (List UInt8)) (ds : List D) (m : Mem) (K : Ex → List D → Mem → Option R) : Option R :=
  match ds, m with
  | [(.v (.bytes l0) .no), (.v (.sl 67 vs1) .no), (.v (.int .i64 n2) .no), (.v (.int .i64 n3) .no), .any], [[]] => S_encode_3 N f vs1 n2 N l0 n3 (fun a0 => K (.exit 0) [(.v (.bytes a0) .no)] [[]])
  | _, _ => none
noncomputable def B_encode (N : Nat) (f : List V → Option (List UInt8)) (x0 : List V) : Option (List UInt8) :=
  S_encode_3 N f x0 (↑x0.length : Int) N [] 0 fun l0 => some l0
noncomputable def s_encode (N : Nat) : Nat → List V → Option (List UInt8)
  | 0, _ => none
  | n + 1, x0 => B_encode N (s_encode N n) x0
noncomputable def cx_encode (N : Nat) (f : List V → Option (List UInt8)) : Cx := { T := T, isPure := tabP [⟨79, e_encode f⟩, ⟨95, e_Constructed (s_Constructed N)⟩, ⟨96, e_tagBytes (s_tagBytes N)⟩, ⟨97, e_lengthBytes (s_lengthBytes N)⟩, ⟨98, e_concat (s_concat N)⟩], pureK := fun g ds K => tabK [⟨79, e_encode f⟩, ⟨95, e_Constructed (s_Constructed N)⟩, ⟨96, e_tagBytes (s_tagBytes N)⟩, ⟨97, e_lengthBytes (s_lengthBytes N)⟩, ⟨98, e_concat (s_concat N)⟩] g ds K, memK := fun g dst ds m K => tabMK [] g dst ds m K, meth := tabM [], keep := fun r => match r with | 3 => [3, 7, 8, 9, 200003] | _ => [], keepX := fun r => match r with | 3 => [3] | _ => [], loopT := fun r ds m K => match r with | 3 => l_encode_3 N f ds m K | _ => none, jumps := 9 }
theorem F_encode_3_ok {R : Type} (N : Nat) (f : List V → Option (List UInt8)) (vs1 : List V) (n2 : Int) (l0 : List UInt8) (n3 : Int) (L : List D → Mem → Option R) (K : Ex → List D → Mem → Option R) :
    roundK (fun st K => codeK (cx_encode N f) (loopN Tryd.f79 0) st K) 33 [3, 7, 8, 9, 200003] [3] L [(.v (.bytes l0) .no), (.v (.sl 67 vs1) .no), (.v (.int .i64 n2) .no), (.v (.int .i64 n3) .no), .any] [[]] K = F_encode_3 N f vs1 n2 (fun l0 n3 => L [(.v (.bytes l0) .no), (.v (.sl 67 vs1) .no), (.v (.int .i64 n2) .no), (.v (.int .i64 n3) .no), .any] [[]]) (fun a0 => K (.exit 0) [(.v (.bytes a0) .no)] [[]]) l0 n3 := by
  kernel_rfl
theorem S_encode_3_ok {R : Type} (N : Nat) (f : List V → Option (List UInt8)) (vs1 : List V) (n2 : Int) (K : Ex → List D → Mem → Option R) : ∀ (t : Nat) (l0 : List UInt8) (n3 : Int),
    loopK (fun st K => codeK (cx_encode N f) (loopN Tryd.f79 0) st K) 33 [3, 7, 8, 9, 200003] [3] t [(.v (.bytes l0) .no), (.v (.sl 67 vs1) .no), (.v (.int .i64 n2) .no), (.v (.int .i64 n3) .no), .any] [[]] K = S_encode_3 N f vs1 n2 t l0 n3 (fun a0 => K (.exit 0) [(.v (.bytes a0) .no)] [[]])
  | 0, l0, n3 => rfl
  | t + 1, l0, n3 => (F_encode_3_ok N f vs1 n2 l0 n3 _ K).trans (congrArg (fun L => F_encode_3 N f vs1 n2 L (fun a0 => K (.exit 0) [(.v (.bytes a0) .no)] [[]]) l0 n3) (funext fun l0 => funext fun n3 => S_encode_3_ok N f vs1 n2 K t l0 n3))
theorem B_encode_ok (N : Nat) (f : List V → Option (List UInt8)) (x0 : List V) : bodyK (cx_encode N f) Tryd.f79 [.v (.sl 67 x0) .no] [] r_encode = B_encode N f x0 := by
  kernel_rfl
theorem go_encode : Goes Tryd.prog 79 := goes_of Tryd.func79 (by kernel_rfl) (c := bodyOf Tryd.f79) (by kernel_rfl)
theorem eo_encode (s : List V → Option (List UInt8)) (hs : ∀ (x0 : List V) (r0 : List UInt8), s x0 = some r0 → PureRet Tryd.prog T 79 [.v (.sl 67 x0) .no] [.v (.bytes r0) .no]) : EntOK Tryd.prog T ⟨79, e_encode s⟩ := by
  refine ⟨go_encode, fun R ds K r h => ?_, fun R ds K => ?_⟩
  · simp only [e_encode] at h
    split at h
    · obtain ⟨r0, h1, h2⟩ := bnd1_some h
      exact ⟨_, h2, hs _ _ h1⟩
    · cases h
  · simp only [e_encode]
    split
    · rw [bnd1_b]; rfl
    · rfl
theorem co_encode (N : Nat) (f : List V → Option (List UInt8)) (hf : ∀ (x0 : List V) (r0 : List UInt8), f x0 = some r0 → PureRet Tryd.prog T 79 [.v (.sl 67 x0) .no] [.v (.bytes r0) .no]) : CxOK Tryd.prog (cx_encode N f) :=
  cxOK_of2 (es := [⟨79, e_encode f⟩, ⟨95, e_Constructed (s_Constructed N)⟩, ⟨96, e_tagBytes (s_tagBytes N)⟩, ⟨97, e_lengthBytes (s_lengthBytes N)⟩, ⟨98, e_concat (s_concat N)⟩]) (me := []) (ms := []) T_ok ⟨eo_encode f hf, eo_Constructed _ (p_Constructed N), eo_tagBytes _ (p_tagBytes N), eo_lengthBytes _ (p_lengthBytes N), eo_concat _ (p_concat N), trivial⟩ trivial trivial rfl (fun _ _ _ _ => rfl) (fun _ _ _ _ _ _ => rfl) rfl
theorem lk_encode_3 (N : Nat) (f : List V → Option (List UInt8)) : LoopOK (cx_encode N f) 33 (loopN Tryd.f79 0) := by
  refine loopOK_of (rid := 3) (by kernel_rfl) rfl rfl fun R ds m K r h => ?_
  have h : l_encode_3 N f ds m K = some r := h
  unfold l_encode_3 at h
  split at h
  · exact ⟨N, Eq.trans (S_encode_3_ok ..) h⟩
  · cases h
theorem lo_encode (N : Nat) (f : List V → Option (List UInt8)) : LoopsOK (cx_encode N f) Tryd.f79.ntmps (bodyOf Tryd.f79) :=
  loopsOK_of (k := 1) (by kernel_rfl) ⟨trivial, lk_encode_3 N f⟩
theorem p_encode (N : Nat) : ∀ (M : Nat) (x0 : List V) (r0 : List UInt8), s_encode N M x0 = some r0 → PureRet Tryd.prog T 79 [.v (.sl 67 x0) .no] [.v (.bytes r0) .no]
  | 0, _, _, h => by cases h
  | M + 1, x0, r0, h => pure_of (cx := cx_encode N (s_encode N M)) (by kernel_rfl) (co_encode N (s_encode N M) (p_encode N M)) Tryd.func79 (by kernel_rfl) (by kernel_rfl) (lo_encode N (s_encode N M)) rfl rfl rfl (rf := r_encode) ((B_encode_ok N (s_encode N M) x0).trans h) (fun rs' m h => by
    unfold r_encode at h
    split at h
    · cases h; exact ⟨rfl, rfl⟩
    · cases h)
noncomputable def e_Encode {R : Type} (s : List V → Option (List UInt8 × Int)) (ds : List D) (K : List D → Option R) : Option R :=
  match ds with
  | [.v (.sl 67 x0) .no] => bnd2 (s x0) fun r0 r1 => K [.v (.bytes r0) .no, .v (.int .i64 r1) .no]
  | _ => none
noncomputable def r_Encode (rs : List D) (_ : Mem) : Option (List UInt8 × Int) :=
  match rs with
  | [.v (.bytes r0) _, .v (.int .i64 r1) _] => some (r0, r1)
  | _ => none
noncomputable def s_Encode (N : Nat) (x0 : List V) : Option (List UInt8 × Int) :=
  bnd1 (s_valid N N x0 1) fun b0 => br (!b0) (some ([], 1)) (bnd1 (s_size N N x0) fun n1 => br (decide (4096 < n1)) (some ([], 3)) (bnd1 (s_encode N N x0) fun l2 => some (l2, 0)))
noncomputable def cx_Encode (N : Nat) : Cx := { T := T, isPure := tabP [⟨77, e_valid (s_valid N N)⟩, ⟨78, e_size (s_size N N)⟩, ⟨79, e_encode (s_encode N N)⟩], pureK := fun g ds K => tabK [⟨77, e_valid (s_valid N N)⟩, ⟨78, e_size (s_size N N)⟩, ⟨79, e_encode (s_encode N N)⟩] g ds K, memK := fun g dst ds m K => tabMK [] g dst ds m K, meth := tabM [], keep := fun _ => [], keepX := fun _ => [], loopT := fun _ _ _ _ => none, jumps := 9 }
theorem s_Encode_ok (N : Nat) (x0 : List V) : bodyK (cx_Encode N) Tryd.f52 [.v (.sl 67 x0) .no] [] r_Encode = s_Encode N x0 := by
  kernel_rfl
theorem go_Encode : Goes Tryd.prog 52 := goes_of Tryd.func52 (by kernel_rfl) (c := bodyOf Tryd.f52) (by kernel_rfl)
theorem eo_Encode (s : List V → Option (List UInt8 × Int)) (hs : ∀ (x0 : List V) (r0 : List UInt8) (r1 : Int), s x0 = some (r0, r1) → PureRet Tryd.prog T 52 [.v (.sl 67 x0) .no] [.v (.bytes r0) .no, .v (.int .i64 r1) .no]) : EntOK Tryd.prog T ⟨52, e_Encode s⟩ := by
  refine ⟨go_Encode, fun R ds K r h => ?_, fun R ds K => ?_⟩
  · simp only [e_Encode] at h
    split at h
    · obtain ⟨r0, r1, h1, h2⟩ := bnd2_some h
      exact ⟨_, h2, hs _ _ _ h1⟩
    · cases h
  · simp only [e_Encode]
    split
    · rw [bnd2_b]; rfl
    · rfl
theorem co_Encode (N : Nat) : CxOK Tryd.prog (cx_Encode N) :=
  cxOK_of2 (es := [⟨77, e_valid (s_valid N N)⟩, ⟨78, e_size (s_size N N)⟩, ⟨79, e_encode (s_encode N N)⟩]) (me := []) (ms := []) T_ok ⟨eo_valid _ (p_valid N N), eo_size _ (p_size N N), eo_encode _ (p_encode N N), trivial⟩ trivial trivial rfl (fun _ _ _ _ => rfl) (fun _ _ _ _ _ _ => rfl) rfl
theorem lo_Encode (N : Nat) : LoopsOK (cx_Encode N) Tryd.f52.ntmps (bodyOf Tryd.f52) :=
  loopsOK_of (k := 0) (by kernel_rfl) trivial
theorem p_Encode (N : Nat) (x0 : List V) (r0 : List UInt8) (r1 : Int) (h : s_Encode N x0 = some (r0, r1)) : PureRet Tryd.prog T 52 [.v (.sl 67 x0) .no] [.v (.bytes r0) .no, .v (.int .i64 r1) .no] :=
  pure_of (cx := cx_Encode N) (by kernel_rfl) (co_Encode N) Tryd.func52 (by kernel_rfl) (by kernel_rfl) (lo_Encode N) rfl rfl rfl (rf := r_Encode) ((s_Encode_ok N x0).trans h) (fun rs' m h => by
    unfold r_Encode at h
    split at h
    · cases h; exact ⟨rfl, rfl⟩
    · cases h)
noncomputable def e_forms {R : Type} (s : Option Unit) (ds : List D) (K : List D → Option R) : Option R :=
  match ds with
  | [] => bnd1 s fun _ => K [D.agg
    [D.v (V.str ([110, 101, 118, 101, 114] : List UInt8)) Att.no, D.v (V.bool false) Att.no, D.v (V.bool false) Att.no, D.v (V.int IntKind.i64 0) Att.no, D.v (V.int IntKind.i64 0) Att.no, D.v (V.str ([97, 108, 119, 97, 121, 115] : List UInt8)) Att.no,
      D.v (V.bool false) Att.no, D.v (V.bool false) Att.no, D.v (V.int IntKind.i64 0) Att.no, D.v (V.int IntKind.i64 0) Att.no, D.v (V.str ([112, 105, 110] : List UInt8)) Att.no, D.v (V.bool true) Att.no, D.v (V.bool false) Att.no,
      D.v (V.int IntKind.i64 1) Att.no, D.v (V.int IntKind.i64 8) Att.no, D.v (V.str ([107, 101, 121] : List UInt8)) Att.no, D.v (V.bool true) Att.no, D.v (V.bool false) Att.no, D.v (V.int IntKind.i64 1) Att.no, D.v (V.int IntKind.i64 8) Att.no,
      D.v (V.str ([115, 116, 97, 116, 101] : List UInt8)) Att.no, D.v (V.bool true) Att.no, D.v (V.bool false) Att.no, D.v (V.int IntKind.i64 1) Att.no, D.v (V.int IntKind.i64 5) Att.no, D.v (V.str ([108, 101, 118, 101, 108] : List UInt8)) Att.no,
      D.v (V.bool true) Att.no, D.v (V.bool false) Att.no, D.v (V.int IntKind.i64 1) Att.no, D.v (V.int IntKind.i64 51) Att.no, D.v (V.str ([97, 110, 100] : List UInt8)) Att.no, D.v (V.bool false) Att.no, D.v (V.bool true) Att.no,
      D.v (V.int IntKind.i64 0) Att.no, D.v (V.int IntKind.i64 0) Att.no, D.v (V.str ([111, 114] : List UInt8)) Att.no, D.v (V.bool false) Att.no, D.v (V.bool true) Att.no, D.v (V.int IntKind.i64 0) Att.no, D.v (V.int IntKind.i64 0) Att.no]]
  | _ => none
noncomputable def s_forms (N : Nat) : Option Unit := some ()
noncomputable def cx_forms (N : Nat) : Cx := { T := T, isPure := tabP [], pureK := fun g ds K => tabK [] g ds K, memK := fun g dst ds m K => tabMK [] g dst ds m K, meth := tabM [], keep := fun _ => [], keepX := fun _ => [], loopT := fun _ _ _ _ => none, jumps := 9 }
theorem b_forms_ok {R : Type} (N : Nat) (K : List D → Mem → Option R) : bodyK (cx_forms N) Tryd.f67 [] [] K = K [D.agg
    [D.v (V.str ([110, 101, 118, 101, 114] : List UInt8)) Att.no, D.v (V.bool false) Att.no, D.v (V.bool false) Att.no, D.v (V.int IntKind.i64 0) Att.no, D.v (V.int IntKind.i64 0) Att.no, D.v (V.str ([97, 108, 119, 97, 121, 115] : List UInt8)) Att.no,
      D.v (V.bool false) Att.no, D.v (V.bool false) Att.no, D.v (V.int IntKind.i64 0) Att.no, D.v (V.int IntKind.i64 0) Att.no, D.v (V.str ([112, 105, 110] : List UInt8)) Att.no, D.v (V.bool true) Att.no, D.v (V.bool false) Att.no,
      D.v (V.int IntKind.i64 1) Att.no, D.v (V.int IntKind.i64 8) Att.no, D.v (V.str ([107, 101, 121] : List UInt8)) Att.no, D.v (V.bool true) Att.no, D.v (V.bool false) Att.no, D.v (V.int IntKind.i64 1) Att.no, D.v (V.int IntKind.i64 8) Att.no,
      D.v (V.str ([115, 116, 97, 116, 101] : List UInt8)) Att.no, D.v (V.bool true) Att.no, D.v (V.bool false) Att.no, D.v (V.int IntKind.i64 1) Att.no, D.v (V.int IntKind.i64 5) Att.no, D.v (V.str ([108, 101, 118, 101, 108] : List UInt8)) Att.no,
      D.v (V.bool true) Att.no, D.v (V.bool false) Att.no, D.v (V.int IntKind.i64 1) Att.no, D.v (V.int IntKind.i64 51) Att.no, D.v (V.str ([97, 110, 100] : List UInt8)) Att.no, D.v (V.bool false) Att.no, D.v (V.bool true) Att.no,
      D.v (V.int IntKind.i64 0) Att.no, D.v (V.int IntKind.i64 0) Att.no, D.v (V.str ([111, 114] : List UInt8)) Att.no, D.v (V.bool false) Att.no, D.v (V.bool true) Att.no, D.v (V.int IntKind.i64 0) Att.no, D.v (V.int IntKind.i64 0) Att.no]] [[(0,
      { ty := 80,
        cells :=
          [D.v (V.str ([110, 101, 118, 101, 114] : List UInt8)) Att.no, D.v (V.bool false) Att.no, D.v (V.bool false) Att.no, D.v (V.int IntKind.i64 0) Att.no, D.v (V.int IntKind.i64 0) Att.no, D.v (V.str ([97, 108, 119, 97, 121, 115] : List UInt8)) Att.no,
            D.v (V.bool false) Att.no, D.v (V.bool false) Att.no, D.v (V.int IntKind.i64 0) Att.no, D.v (V.int IntKind.i64 0) Att.no, D.v (V.str ([112, 105, 110] : List UInt8)) Att.no, D.v (V.bool true) Att.no, D.v (V.bool false) Att.no,
            D.v (V.int IntKind.i64 1) Att.no, D.v (V.int IntKind.i64 8) Att.no, D.v (V.str ([107, 101, 121] : List UInt8)) Att.no, D.v (V.bool true) Att.no, D.v (V.bool false) Att.no, D.v (V.int IntKind.i64 1) Att.no, D.v (V.int IntKind.i64 8) Att.no,
            D.v (V.str ([115, 116, 97, 116, 101] : List UInt8)) Att.no, D.v (V.bool true) Att.no, D.v (V.bool false) Att.no, D.v (V.int IntKind.i64 1) Att.no, D.v (V.int IntKind.i64 5) Att.no, D.v (V.str ([108, 101, 118, 101, 108] : List UInt8)) Att.no,
            D.v (V.bool true) Att.no, D.v (V.bool false) Att.no, D.v (V.int IntKind.i64 1) Att.no, D.v (V.int IntKind.i64 51) Att.no, D.v (V.str ([97, 110, 100] : List UInt8)) Att.no, D.v (V.bool false) Att.no, D.v (V.bool true) Att.no,
            D.v (V.int IntKind.i64 0) Att.no, D.v (V.int IntKind.i64 0) Att.no, D.v (V.str ([111, 114] : List UInt8)) Att.no, D.v (V.bool false) Att.no, D.v (V.bool true) Att.no, D.v (V.int IntKind.i64 0) Att.no, D.v (V.int IntKind.i64 0) Att.no] })]] := by
  kernel_rfl
theorem go_forms : Goes Tryd.prog 67 := goes_of Tryd.func67 (by kernel_rfl) (c := bodyOf Tryd.f67) (by kernel_rfl)
theorem co_forms (N : Nat) : CxOK Tryd.prog (cx_forms N) :=
  cxOK_of2 (es := []) (me := []) (ms := []) T_ok trivial trivial trivial rfl (fun _ _ _ _ => rfl) (fun _ _ _ _ _ _ => rfl) rfl
theorem lo_forms (N : Nat) : LoopsOK (cx_forms N) Tryd.f67.ntmps (bodyOf Tryd.f67) :=
  loopsOK_of (k := 0) (by kernel_rfl) trivial
open Classical in
theorem p_forms (N : Nat) : PureRet Tryd.prog T 67 [] [D.agg
    [D.v (V.str ([110, 101, 118, 101, 114] : List UInt8)) Att.no, D.v (V.bool false) Att.no, D.v (V.bool false) Att.no, D.v (V.int IntKind.i64 0) Att.no, D.v (V.int IntKind.i64 0) Att.no, D.v (V.str ([97, 108, 119, 97, 121, 115] : List UInt8)) Att.no,
      D.v (V.bool false) Att.no, D.v (V.bool false) Att.no, D.v (V.int IntKind.i64 0) Att.no, D.v (V.int IntKind.i64 0) Att.no, D.v (V.str ([112, 105, 110] : List UInt8)) Att.no, D.v (V.bool true) Att.no, D.v (V.bool false) Att.no,
      D.v (V.int IntKind.i64 1) Att.no, D.v (V.int IntKind.i64 8) Att.no, D.v (V.str ([107, 101, 121] : List UInt8)) Att.no, D.v (V.bool true) Att.no, D.v (V.bool false) Att.no, D.v (V.int IntKind.i64 1) Att.no, D.v (V.int IntKind.i64 8) Att.no,
      D.v (V.str ([115, 116, 97, 116, 101] : List UInt8)) Att.no, D.v (V.bool true) Att.no, D.v (V.bool false) Att.no, D.v (V.int IntKind.i64 1) Att.no, D.v (V.int IntKind.i64 5) Att.no, D.v (V.str ([108, 101, 118, 101, 108] : List UInt8)) Att.no,
      D.v (V.bool true) Att.no, D.v (V.bool false) Att.no, D.v (V.int IntKind.i64 1) Att.no, D.v (V.int IntKind.i64 51) Att.no, D.v (V.str ([97, 110, 100] : List UInt8)) Att.no, D.v (V.bool false) Att.no, D.v (V.bool true) Att.no,
      D.v (V.int IntKind.i64 0) Att.no, D.v (V.int IntKind.i64 0) Att.no, D.v (V.str ([111, 114] : List UInt8)) Att.no, D.v (V.bool false) Att.no, D.v (V.bool true) Att.no, D.v (V.int IntKind.i64 0) Att.no, D.v (V.int IntKind.i64 0) Att.no]] :=
  pure_of (cx := cx_forms N) (by kernel_rfl) (co_forms N) Tryd.func67 (by kernel_rfl) (by kernel_rfl) (lo_forms N) rfl rfl rfl (rf := fun rs _ => if rs = [D.agg
    [D.v (V.str ([110, 101, 118, 101, 114] : List UInt8)) Att.no, D.v (V.bool false) Att.no, D.v (V.bool false) Att.no, D.v (V.int IntKind.i64 0) Att.no, D.v (V.int IntKind.i64 0) Att.no, D.v (V.str ([97, 108, 119, 97, 121, 115] : List UInt8)) Att.no,
      D.v (V.bool false) Att.no, D.v (V.bool false) Att.no, D.v (V.int IntKind.i64 0) Att.no, D.v (V.int IntKind.i64 0) Att.no, D.v (V.str ([112, 105, 110] : List UInt8)) Att.no, D.v (V.bool true) Att.no, D.v (V.bool false) Att.no,
      D.v (V.int IntKind.i64 1) Att.no, D.v (V.int IntKind.i64 8) Att.no, D.v (V.str ([107, 101, 121] : List UInt8)) Att.no, D.v (V.bool true) Att.no, D.v (V.bool false) Att.no, D.v (V.int IntKind.i64 1) Att.no, D.v (V.int IntKind.i64 8) Att.no,
      D.v (V.str ([115, 116, 97, 116, 101] : List UInt8)) Att.no, D.v (V.bool true) Att.no, D.v (V.bool false) Att.no, D.v (V.int IntKind.i64 1) Att.no, D.v (V.int IntKind.i64 5) Att.no, D.v (V.str ([108, 101, 118, 101, 108] : List UInt8)) Att.no,
      D.v (V.bool true) Att.no, D.v (V.bool false) Att.no, D.v (V.int IntKind.i64 1) Att.no, D.v (V.int IntKind.i64 51) Att.no, D.v (V.str ([97, 110, 100] : List UInt8)) Att.no, D.v (V.bool false) Att.no, D.v (V.bool true) Att.no,
      D.v (V.int IntKind.i64 0) Att.no, D.v (V.int IntKind.i64 0) Att.no, D.v (V.str ([111, 114] : List UInt8)) Att.no, D.v (V.bool false) Att.no, D.v (V.bool true) Att.no, D.v (V.int IntKind.i64 0) Att.no, D.v (V.int IntKind.i64 0) Att.no]] then some () else none) (r := ()) ((b_forms_ok N _).trans (if_pos rfl)) (fun rs' m h => by
    split at h
    · rename_i e; subst e; exact ⟨by kernel_rfl, by kernel_rfl⟩
    · cases h)
theorem eo_forms (s : Option Unit) (hs : PureRet Tryd.prog T 67 [] [D.agg
    [D.v (V.str ([110, 101, 118, 101, 114] : List UInt8)) Att.no, D.v (V.bool false) Att.no, D.v (V.bool false) Att.no, D.v (V.int IntKind.i64 0) Att.no, D.v (V.int IntKind.i64 0) Att.no, D.v (V.str ([97, 108, 119, 97, 121, 115] : List UInt8)) Att.no,
      D.v (V.bool false) Att.no, D.v (V.bool false) Att.no, D.v (V.int IntKind.i64 0) Att.no, D.v (V.int IntKind.i64 0) Att.no, D.v (V.str ([112, 105, 110] : List UInt8)) Att.no, D.v (V.bool true) Att.no, D.v (V.bool false) Att.no,
      D.v (V.int IntKind.i64 1) Att.no, D.v (V.int IntKind.i64 8) Att.no, D.v (V.str ([107, 101, 121] : List UInt8)) Att.no, D.v (V.bool true) Att.no, D.v (V.bool false) Att.no, D.v (V.int IntKind.i64 1) Att.no, D.v (V.int IntKind.i64 8) Att.no,
      D.v (V.str ([115, 116, 97, 116, 101] : List UInt8)) Att.no, D.v (V.bool true) Att.no, D.v (V.bool false) Att.no, D.v (V.int IntKind.i64 1) Att.no, D.v (V.int IntKind.i64 5) Att.no, D.v (V.str ([108, 101, 118, 101, 108] : List UInt8)) Att.no,
      D.v (V.bool true) Att.no, D.v (V.bool false) Att.no, D.v (V.int IntKind.i64 1) Att.no, D.v (V.int IntKind.i64 51) Att.no, D.v (V.str ([97, 110, 100] : List UInt8)) Att.no, D.v (V.bool false) Att.no, D.v (V.bool true) Att.no,
      D.v (V.int IntKind.i64 0) Att.no, D.v (V.int IntKind.i64 0) Att.no, D.v (V.str ([111, 114] : List UInt8)) Att.no, D.v (V.bool false) Att.no, D.v (V.bool true) Att.no, D.v (V.int IntKind.i64 0) Att.no, D.v (V.int IntKind.i64 0) Att.no]]) : EntOK Tryd.prog T ⟨67, e_forms s⟩ := by
  refine ⟨go_forms, fun R ds K r h => ?_, fun R ds K => ?_⟩
  · simp only [e_forms] at h
    split at h
    · obtain ⟨_, h1, h2⟩ := bnd1_some h
      exact ⟨_, h2, hs⟩
    · cases h
  · simp only [e_forms]
    split
    · rw [bnd1_b]; rfl
    · rfl
noncomputable def e_avalid {R : Type} (s : Int → Int → List V → Int → Option (Bool)) (ds : List D) (K : List D → Option R) : Option R :=
  match ds with
  | [.agg [.v (.int .i64 x0) .no, .v (.int .i64 x1) .no, .v (.sl 24 x2) .no], .v (.int .i64 x3) .no] => bnd1 (s x0 x1 x2 x3) fun r0 => K [.v (.bool r0) .no]
  | _ => none
noncomputable def e_avalid1 {R : Type} (s : Int → Int → List V → Int → Option (Bool)) (dst : Nat) (ds : List D) (m : Mem) (K : List D → Mem → Option R) : Option R :=
  match ds with
  | [.agg [.v (.int .i64 x0) .no, .v (.int .i64 x1) .no, .v (.sl 24 x2) .no], .ptr (kv0 + 1) sv0 0] => viewK [(kv0, sv0)] m fun Bs => (match Bs with
    | [⟨3, [.v (.int .i64 y0) .no]⟩] => bnd1 (s x0 x1 x2 y0) fun r0 => putAllK [(kv0, sv0)] [⟨3, [.v (.int .i64 y0) .no]⟩] m fun m' => K [.v (.bool r0) .no] m'
    | _ => none)
  | _ => none
noncomputable def r_avalid1 {α : Type} (K : Bool → Int → Option α) (rs : List D) (m : Mem) : Option α :=
  match rs, m with
  | [.v (.bool r0) _], [_, [(0, ⟨3, [.v (.int .i64 z0) .no]⟩)]] => K r0 z0
  | _, _ => none
noncomputable def C_avalid1 {R : Type} (N : Nat) (f : Int → Int → List V → Int → Option (Bool)) (x0 : Int) (x1 : Int) (x2 : List V) (y0 : Int) (K0 : Bool → Option R) : Option R :=
  bnd1 (f x0 x1 x2 (IntKind.i64.wrap (y0 + 1))) fun b0 => K0 !b0
noncomputable def s_avalid1 (N : Nat) (f : Int → Int → List V → Int → Option (Bool)) (x0 : Int) (x1 : Int) (x2 : List V) (y0 : Int) : Option (Bool) :=
  C_avalid1 N f x0 x1 x2 y0 (fun r0 => some r0)
noncomputable def cx_avalid1 (N : Nat) (f : Int → Int → List V → Int → Option (Bool)) : Cx := { T := T, isPure := tabP [⟨39, e_avalid f⟩], pureK := fun g ds K => tabK [⟨39, e_avalid f⟩] g ds K, memK := fun g dst ds m K => tabMK [] g dst ds m K, meth := tabM [], keep := fun _ => [], keepX := fun _ => [], loopT := fun _ _ _ _ => none, jumps := 9 }
theorem C_avalid1_ok {R : Type} (N : Nat) (f : Int → Int → List V → Int → Option (Bool)) (x0 : Int) (x1 : Int) (x2 : List V) (y0 : Int) (K : Bool → Int → Option R) : bodyK (cx_avalid1 N f) Tryd.f69 [.agg [.v (.int .i64 x0) .no, .v (.int .i64 x1) .no, .v (.sl 24 x2) .no], .ptr 1 0 0] [frOf 0 [⟨3, [.v (.int .i64 y0) .no]⟩]] (r_avalid1 K) = C_avalid1 N f x0 x1 x2 y0 (fun r0 => K r0 y0) := by
  kernel_rfl
theorem go_avalid : Goes Tryd.prog 39 := goes_of Tryd.func39 (by kernel_rfl) (c := bodyOf Tryd.f39) (by kernel_rfl)
theorem eo_avalid (s : Int → Int → List V → Int → Option (Bool)) (hs : ∀ (x0 : Int) (x1 : Int) (x2 : List V) (x3 : Int) (r0 : Bool), s x0 x1 x2 x3 = some r0 → PureRet Tryd.prog T 39 [.agg [.v (.int .i64 x0) .no, .v (.int .i64 x1) .no, .v (.sl 24 x2) .no], .v (.int .i64 x3) .no] [.v (.bool r0) .no]) : EntOK Tryd.prog T ⟨39, e_avalid s⟩ := by
  refine ⟨go_avalid, fun R ds K r h => ?_, fun R ds K => ?_⟩
  · simp only [e_avalid] at h
    split at h
    · obtain ⟨r0, h1, h2⟩ := bnd1_some h
      exact ⟨_, h2, hs _ _ _ _ _ h1⟩
    · cases h
  · simp only [e_avalid]
    split
    · rw [bnd1_b]; rfl
    · rfl
theorem go_avalid1 : Goes Tryd.prog 69 := goes_of Tryd.func69 (by kernel_rfl) (c := bodyOf Tryd.f69) (by kernel_rfl)
theorem eo_avalid1 (s : Int → Int → List V → Int → Option (Bool)) (hs : ∀ (x0 : Int) (x1 : Int) (x2 : List V) (y0 : Int) (r0 : Bool), s x0 x1 x2 y0 = some r0 → ViewRet Tryd.prog T 69 [.agg [.v (.int .i64 x0) .no, .v (.int .i64 x1) .no, .v (.sl 24 x2) .no], .ptr 1 0 0] [⟨3, [.v (.int .i64 y0) .no]⟩] [.v (.bool r0) .no] [⟨3, [.v (.int .i64 y0) .no]⟩]) : MEntOK Tryd.prog T ⟨69, e_avalid1 s⟩ := by
  refine ⟨go_avalid1, fun R dst ds m K r h => ?_⟩
  simp only [e_avalid1] at h
  split at h
  · obtain ⟨Bs, a1, a2, a3, h⟩ := viewK_some h
    split at h
    · obtain ⟨r0, h1, h2⟩ := bnd1_some h
      rw [putAllK_eq] at h2
      exact ⟨_, _, h2, hs _ _ _ _ _ h1 _ _ m dst a1 a2 a3 ⟨aren_agg ⟨aren_v _, aren_v _, aren_v _, trivial⟩, aren_ptr _ rfl, trivial⟩⟩
    · cases h
  · cases h
theorem co_avalid1 (N : Nat) (f : Int → Int → List V → Int → Option (Bool)) (hf : ∀ (x0 : Int) (x1 : Int) (x2 : List V) (x3 : Int) (r0 : Bool), f x0 x1 x2 x3 = some r0 → PureRet Tryd.prog T 39 [.agg [.v (.int .i64 x0) .no, .v (.int .i64 x1) .no, .v (.sl 24 x2) .no], .v (.int .i64 x3) .no] [.v (.bool r0) .no]) : CxOK Tryd.prog (cx_avalid1 N f) :=
  cxOK_of2 (es := [⟨39, e_avalid f⟩]) (me := []) (ms := []) T_ok ⟨eo_avalid f hf, trivial⟩ trivial trivial rfl (fun _ _ _ _ => rfl) (fun _ _ _ _ _ _ => rfl) rfl
theorem lo_avalid1 (N : Nat) (f : Int → Int → List V → Int → Option (Bool)) : LoopsOK (cx_avalid1 N f) Tryd.f69.ntmps (bodyOf Tryd.f69) :=
  loopsOK_of (k := 0) (by kernel_rfl) trivial
open Classical in
theorem p_avalid1 (N : Nat) (f : Int → Int → List V → Int → Option (Bool)) (hf : ∀ (x0 : Int) (x1 : Int) (x2 : List V) (x3 : Int) (r0 : Bool), f x0 x1 x2 x3 = some r0 → PureRet Tryd.prog T 39 [.agg [.v (.int .i64 x0) .no, .v (.int .i64 x1) .no, .v (.sl 24 x2) .no], .v (.int .i64 x3) .no] [.v (.bool r0) .no]) (x0 : Int) (x1 : Int) (x2 : List V) (y0 : Int) (r0 : Bool) (h : s_avalid1 N f x0 x1 x2 y0 = some r0) : ViewRet Tryd.prog T 69 [.agg [.v (.int .i64 x0) .no, .v (.int .i64 x1) .no, .v (.sl 24 x2) .no], .ptr 1 0 0] [⟨3, [.v (.int .i64 y0) .no]⟩] [.v (.bool r0) .no] [⟨3, [.v (.int .i64 y0) .no]⟩] := by
  refine view_of (Bs := [⟨3, [.v (.int .i64 y0) .no]⟩]) (Bs' := [⟨3, [.v (.int .i64 y0) .no]⟩]) (cx := cx_avalid1 N f) (by kernel_rfl) (co_avalid1 N f hf) Tryd.func69 (by kernel_rfl) (by kernel_rfl) (lo_avalid1 N f) rfl rfl rfl rfl (rf := r_avalid1 (fun r0' z'0 => if z'0 = y0 then some r0' else none)) (r := r0) ?_ ?_
  · exact (C_avalid1_ok N f x0 x1 x2 y0 _).trans ((congrArg (fun K => C_avalid1 N f x0 x1 x2 y0 K) (funext fun r0' => if_pos rfl)).trans h)
  · intro rs' m' hx
    unfold r_avalid1 at hx
    split at hx
    · dsimp only at hx
      split at hx
      · rename_i hk
        subst hk
        cases hx; exact ⟨rfl, rfl, _, rfl⟩
      · cases hx
    · cases hx
noncomputable def e_IndexFuncA {R : Type} (s : List V → Int → Option (Int)) (dst : Nat) (ds : List D) (m : Mem) (K : List D → Mem → Option R) : Option R :=
  match ds with
  | [.v (.sl 24 x0) .no, .clos 69 [.ptr (kv0 + 1) sv0 0]] => viewK [(kv0, sv0)] m fun Bs => (match Bs with
    | [⟨3, [.v (.int .i64 y0) .no]⟩] => bnd1 (s x0 y0) fun r0 => putAllK [(kv0, sv0)] [⟨3, [.v (.int .i64 y0) .no]⟩] m fun m' => K [.v (.int .i64 r0) .no] m'
    | _ => none)
  | _ => none
noncomputable def r_IndexFuncA {α : Type} (K : Int → Int → Option α) (rs : List D) (m : Mem) : Option α :=
  match rs, m with
  | [.v (.int .i64 r0) _], [_, [(0, ⟨3, [.v (.int .i64 z0) .no]⟩)]] => K r0 z0
  | _, _ => none
noncomputable def F_IndexFuncA_2 {R : Type} (N : Nat) (f : Int → Int → List V → Int → Option (Bool)) (vs0 : List V) (n1 : Int) (n3 : Int) (Lq : Int → Option R) (K0 : Int → Option R) (K1 : Option R) (n2 : Int) : Option R :=
  br (decide (n2 < n1))
  (br (decide (0 ≤ n2) && decide (n2 < (↑vs0.length : Int)))
    (at? vs0 n2.toNat fun x0 =>
      x0.unAgg fun l1 =>
        unCons l1 fun x2 l3 =>
          V.unInt IntKind.i64 x2 fun n4 =>
            unCons l3 fun x5 l6 => V.unInt IntKind.i64 x5 fun n7 => unCons l6 fun x8 l9 => V.unSl 24 x8 fun l10 => unNil l9 (bnd1 (s_avalid1 N f n4 n7 l10 n3) fun b11 => br b11 (K0 n2) (Lq (IntKind.i64.wrap (n2 + 1)))))
    none)
  K1
noncomputable def S_IndexFuncA_2 {R : Type} (N : Nat) (f : Int → Int → List V → Int → Option (Bool)) (vs0 : List V) (n1 : Int) (n3 : Int) : Nat → Int → (Int → Option R) → (Option R) → Option R
  | 0, _, _, _ => none
  | t + 1, n2, K0, K1 => F_IndexFuncA_2 N f vs0 n1 n3 (fun n2 => S_IndexFuncA_2 N f vs0 n1 n3 t n2 K0 K1) K0 K1 n2
noncomputable def l_IndexFuncA_2 {R : Type} (N : Nat) (f : Int → Int → List V → Int → Option (Bool)) (ds : List D) (m : Mem) (K : Ex → List D → Mem → Option R) : Option R :=
  match ds, m with
  | [(.v (.sl 24 vs0) .no), (.clos 69 [(.ptr 1 0 0)]), (.v (.int .i64 n1) .no), (.v (.int .i64 n2) .no)], [[], [(0, ⟨3, [(.v (.int .i64 n3) .no)]⟩)]] => S_IndexFuncA_2 N f vs0 n1 n3 N n2 (fun a0 => K .ret [(.v (.int .i64 a0) .no)] [[], [(0, ⟨3, [(.v (.int .i64 n3) .no)]⟩)]]) (K (.exit 0) [.any] [[], [(0, ⟨3, [(.v (.int .i64 n3) .no)]⟩)]])
  | _, _ => none
noncomputable def C_IndexFuncA {R : Type} (N : Nat) (f : Int → Int → List V → Int → Option (Bool)) (x0 : List V) (y0 : Int) (K0 : Int → Option R) : Option R :=
  S_IndexFuncA_2 N f x0 (↑x0.length : Int) y0 N 0 (fun n0 => K0 n0) (K0 (-1))
noncomputable def s_IndexFuncA (N : Nat) (f : Int → Int → List V → Int → Option (Bool)) (x0 : List V) (y0 : Int) : Option (Int) :=
  C_IndexFuncA N f x0 y0 (fun r0 => some r0)
noncomputable def cx_IndexFuncA (N : Nat) (f : Int → Int → List V → Int → Option (Bool)) : Cx := { T := T, isPure := tabP [], pureK := fun g ds K => tabK [] g ds K, memK := fun g dst ds m K => tabMK [⟨69, e_avalid1 (s_avalid1 N f)⟩] g dst ds m K, meth := tabM [], keep := fun r => match r with | 2 => [0, 1, 7, 8] | _ => [], keepX := fun r => match r with | 2 => [4] | _ => [], loopT := fun r ds m K => match r with | 2 => l_IndexFuncA_2 N f ds m K | _ => none, jumps := 9 }
theorem F_IndexFuncA_2_ok {R : Type} (N : Nat) (f : Int → Int → List V → Int → Option (Bool)) (vs0 : List V) (n1 : Int) (n3 : Int) (n2 : Int) (L : List D → Mem → Option R) (K : Ex → List D → Mem → Option R) :
    roundK (fun st K => codeK (cx_IndexFuncA N f) (loopN Tryd.f90 0) st K) 19 [0, 1, 7, 8] [4] L [(.v (.sl 24 vs0) .no), (.clos 69 [(.ptr 1 0 0)]), (.v (.int .i64 n1) .no), (.v (.int .i64 n2) .no)] [[], [(0, ⟨3, [(.v (.int .i64 n3) .no)]⟩)]] K = F_IndexFuncA_2 N f vs0 n1 n3 (fun n2 => L [(.v (.sl 24 vs0) .no), (.clos 69 [(.ptr 1 0 0)]), (.v (.int .i64 n1) .no), (.v (.int .i64 n2) .no)] [[], [(0, ⟨3, [(.v (.int .i64 n3) .no)]⟩)]]) (fun a0 => K .ret [(.v (.int .i64 a0) .no)] [[], [(0, ⟨3, [(.v (.int .i64 n3) .no)]⟩)]]) (K (.exit 0) [.any] [[], [(0, ⟨3, [(.v (.int .i64 n3) .no)]⟩)]]) n2 := by
  kernel_rfl
theorem S_IndexFuncA_2_ok {R : Type} (N : Nat) (f : Int → Int → List V → Int → Option (Bool)) (vs0 : List V) (n1 : Int) (n3 : Int) (K : Ex → List D → Mem → Option R) : ∀ (t : Nat) (n2 : Int),
    loopK (fun st K => codeK (cx_IndexFuncA N f) (loopN Tryd.f90 0) st K) 19 [0, 1, 7, 8] [4] t [(.v (.sl 24 vs0) .no), (.clos 69 [(.ptr 1 0 0)]), (.v (.int .i64 n1) .no), (.v (.int .i64 n2) .no)] [[], [(0, ⟨3, [(.v (.int .i64 n3) .no)]⟩)]] K = S_IndexFuncA_2 N f vs0 n1 n3 t n2 (fun a0 => K .ret [(.v (.int .i64 a0) .no)] [[], [(0, ⟨3, [(.v (.int .i64 n3) .no)]⟩)]]) (K (.exit 0) [.any] [[], [(0, ⟨3, [(.v (.int .i64 n3) .no)]⟩)]])
  | 0, n2 => rfl
  | t + 1, n2 => (F_IndexFuncA_2_ok N f vs0 n1 n3 n2 _ K).trans (congrArg (fun L => F_IndexFuncA_2 N f vs0 n1 n3 L (fun a0 => K .ret [(.v (.int .i64 a0) .no)] [[], [(0, ⟨3, [(.v (.int .i64 n3) .no)]⟩)]]) (K (.exit 0) [.any] [[], [(0, ⟨3, [(.v (.int .i64 n3) .no)]⟩)]]) n2) (funext fun n2 => S_IndexFuncA_2_ok N f vs0 n1 n3 K t n2))
theorem C_IndexFuncA_ok {R : Type} (N : Nat) (f : Int → Int → List V → Int → Option (Bool)) (x0 : List V) (y0 : Int) (K : Int → Int → Option R) : bodyK (cx_IndexFuncA N f) Tryd.f90 [.v (.sl 24 x0) .no, .clos 69 [.ptr 1 0 0]] [frOf 0 [⟨3, [.v (.int .i64 y0) .no]⟩]] (r_IndexFuncA K) = C_IndexFuncA N f x0 y0 (fun r0 => K r0 y0) := by
  kernel_rfl
theorem go_IndexFuncA : Goes Tryd.prog 90 := goes_of Tryd.func90 (by kernel_rfl) (c := bodyOf Tryd.f90) (by kernel_rfl)
theorem eo_IndexFuncA (s : List V → Int → Option (Int)) (hs : ∀ (x0 : List V) (y0 : Int) (r0 : Int), s x0 y0 = some r0 → ViewRet Tryd.prog T 90 [.v (.sl 24 x0) .no, .clos 69 [.ptr 1 0 0]] [⟨3, [.v (.int .i64 y0) .no]⟩] [.v (.int .i64 r0) .no] [⟨3, [.v (.int .i64 y0) .no]⟩]) : MEntOK Tryd.prog T ⟨90, e_IndexFuncA s⟩ := by
  refine ⟨go_IndexFuncA, fun R dst ds m K r h => ?_⟩
  simp only [e_IndexFuncA] at h
  split at h
  · obtain ⟨Bs, a1, a2, a3, h⟩ := viewK_some h
    split at h
    · obtain ⟨r0, h1, h2⟩ := bnd1_some h
      rw [putAllK_eq] at h2
      exact ⟨_, _, h2, hs _ _ _ h1 _ _ m dst a1 a2 a3 ⟨aren_v _, aren_clos ⟨aren_ptr _ rfl, trivial⟩, trivial⟩⟩
    · cases h
  · cases h
theorem co_IndexFuncA (N : Nat) (f : Int → Int → List V → Int → Option (Bool)) (hf : ∀ (x0 : Int) (x1 : Int) (x2 : List V) (x3 : Int) (r0 : Bool), f x0 x1 x2 x3 = some r0 → PureRet Tryd.prog T 39 [.agg [.v (.int .i64 x0) .no, .v (.int .i64 x1) .no, .v (.sl 24 x2) .no], .v (.int .i64 x3) .no] [.v (.bool r0) .no]) : CxOK Tryd.prog (cx_IndexFuncA N f) :=
  cxOK_of2 (es := []) (me := [⟨69, e_avalid1 (s_avalid1 N f)⟩]) (ms := []) T_ok trivial ⟨eo_avalid1 _ (p_avalid1 N f hf), trivial⟩ trivial rfl (fun _ _ _ _ => rfl) (fun _ _ _ _ _ _ => rfl) rfl
theorem lk_IndexFuncA_2 (N : Nat) (f : Int → Int → List V → Int → Option (Bool)) : LoopOK (cx_IndexFuncA N f) 19 (loopN Tryd.f90 0) := by
  refine loopOK_of (rid := 2) (by kernel_rfl) rfl rfl fun R ds m K r h => ?_
  have h : l_IndexFuncA_2 N f ds m K = some r := h
  unfold l_IndexFuncA_2 at h
  split at h
  · exact ⟨N, Eq.trans (S_IndexFuncA_2_ok ..) h⟩
  · cases h
theorem lo_IndexFuncA (N : Nat) (f : Int → Int → List V → Int → Option (Bool)) : LoopsOK (cx_IndexFuncA N f) Tryd.f90.ntmps (bodyOf Tryd.f90) :=
  loopsOK_of (k := 1) (by kernel_rfl) ⟨trivial, lk_IndexFuncA_2 N f⟩
open Classical in
theorem p_IndexFuncA (N : Nat) (f : Int → Int → List V → Int → Option (Bool)) (hf : ∀ (x0 : Int) (x1 : Int) (x2 : List V) (x3 : Int) (r0 : Bool), f x0 x1 x2 x3 = some r0 → PureRet Tryd.prog T 39 [.agg [.v (.int .i64 x0) .no, .v (.int .i64 x1) .no, .v (.sl 24 x2) .no], .v (.int .i64 x3) .no] [.v (.bool r0) .no]) (x0 : List V) (y0 : Int) (r0 : Int) (h : s_IndexFuncA N f x0 y0 = some r0) : ViewRet Tryd.prog T 90 [.v (.sl 24 x0) .no, .clos 69 [.ptr 1 0 0]] [⟨3, [.v (.int .i64 y0) .no]⟩] [.v (.int .i64 r0) .no] [⟨3, [.v (.int .i64 y0) .no]⟩] := by
  refine view_of (Bs := [⟨3, [.v (.int .i64 y0) .no]⟩]) (Bs' := [⟨3, [.v (.int .i64 y0) .no]⟩]) (cx := cx_IndexFuncA N f) (by kernel_rfl) (co_IndexFuncA N f hf) Tryd.func90 (by kernel_rfl) (by kernel_rfl) (lo_IndexFuncA N f) rfl rfl rfl rfl (rf := r_IndexFuncA (fun r0' z'0 => if z'0 = y0 then some r0' else none)) (r := r0) ?_ ?_
  · exact (C_IndexFuncA_ok N f x0 y0 _).trans ((congrArg (fun K => C_IndexFuncA N f x0 y0 K) (funext fun r0' => if_pos rfl)).trans h)
  · intro rs' m' hx
    unfold r_IndexFuncA at hx
    split at hx
    · dsimp only at hx
      split at hx
      · rename_i hk
        subst hk
        cases hx; exact ⟨rfl, rfl, _, rfl⟩
      · cases hx
    · cases hx
noncomputable def e_ContainsFuncA {R : Type} (s : List V → Int → Option (Bool)) (dst : Nat) (ds : List D) (m : Mem) (K : List D → Mem → Option R) : Option R :=
  match ds with
  | [.v (.sl 24 x0) .no, .clos 69 [.ptr (kv0 + 1) sv0 0]] => viewK [(kv0, sv0)] m fun Bs => (match Bs with
    | [⟨3, [.v (.int .i64 y0) .no]⟩] => bnd1 (s x0 y0) fun r0 => putAllK [(kv0, sv0)] [⟨3, [.v (.int .i64 y0) .no]⟩] m fun m' => K [.v (.bool r0) .no] m'
    | _ => none)
  | _ => none
noncomputable def r_ContainsFuncA {α : Type} (K : Bool → Int → Option α) (rs : List D) (m : Mem) : Option α :=
  match rs, m with
  | [.v (.bool r0) _], [_, [(0, ⟨3, [.v (.int .i64 z0) .no]⟩)]] => K r0 z0
  | _, _ => none
noncomputable def C_ContainsFuncA {R : Type} (N : Nat) (f : Int → Int → List V → Int → Option (Bool)) (x0 : List V) (y0 : Int) (K0 : Bool → Option R) : Option R :=
  bnd1 (s_IndexFuncA N f x0 y0) fun n0 => K0 (decide (0 ≤ n0))
noncomputable def s_ContainsFuncA (N : Nat) (f : Int → Int → List V → Int → Option (Bool)) (x0 : List V) (y0 : Int) : Option (Bool) :=
  C_ContainsFuncA N f x0 y0 (fun r0 => some r0)
noncomputable def cx_ContainsFuncA (N : Nat) (f : Int → Int → List V → Int → Option (Bool)) : Cx := { T := T, isPure := tabP [], pureK := fun g ds K => tabK [] g ds K, memK := fun g dst ds m K => tabMK [⟨90, e_IndexFuncA (s_IndexFuncA N f)⟩] g dst ds m K, meth := tabM [], keep := fun _ => [], keepX := fun _ => [], loopT := fun _ _ _ _ => none, jumps := 9 }
theorem C_ContainsFuncA_ok {R : Type} (N : Nat) (f : Int → Int → List V → Int → Option (Bool)) (x0 : List V) (y0 : Int) (K : Bool → Int → Option R) : bodyK (cx_ContainsFuncA N f) Tryd.f68 [.v (.sl 24 x0) .no, .clos 69 [.ptr 1 0 0]] [frOf 0 [⟨3, [.v (.int .i64 y0) .no]⟩]] (r_ContainsFuncA K) = C_ContainsFuncA N f x0 y0 (fun r0 => K r0 y0) := by
  kernel_rfl
theorem go_ContainsFuncA : Goes Tryd.prog 68 := goes_of Tryd.func68 (by kernel_rfl) (c := bodyOf Tryd.f68) (by kernel_rfl)
theorem eo_ContainsFuncA (s : List V → Int → Option (Bool)) (hs : ∀ (x0 : List V) (y0 : Int) (r0 : Bool), s x0 y0 = some r0 → ViewRet Tryd.prog T 68 [.v (.sl 24 x0) .no, .clos 69 [.ptr 1 0 0]] [⟨3, [.v (.int .i64 y0) .no]⟩] [.v (.bool r0) .no] [⟨3, [.v (.int .i64 y0) .no]⟩]) : MEntOK Tryd.prog T ⟨68, e_ContainsFuncA s⟩ := by
  refine ⟨go_ContainsFuncA, fun R dst ds m K r h => ?_⟩
  simp only [e_ContainsFuncA] at h
  split at h
  · obtain ⟨Bs, a1, a2, a3, h⟩ := viewK_some h
    split at h
    · obtain ⟨r0, h1, h2⟩ := bnd1_some h
      rw [putAllK_eq] at h2
      exact ⟨_, _, h2, hs _ _ _ h1 _ _ m dst a1 a2 a3 ⟨aren_v _, aren_clos ⟨aren_ptr _ rfl, trivial⟩, trivial⟩⟩
    · cases h
  · cases h
theorem co_ContainsFuncA (N : Nat) (f : Int → Int → List V → Int → Option (Bool)) (hf : ∀ (x0 : Int) (x1 : Int) (x2 : List V) (x3 : Int) (r0 : Bool), f x0 x1 x2 x3 = some r0 → PureRet Tryd.prog T 39 [.agg [.v (.int .i64 x0) .no, .v (.int .i64 x1) .no, .v (.sl 24 x2) .no], .v (.int .i64 x3) .no] [.v (.bool r0) .no]) : CxOK Tryd.prog (cx_ContainsFuncA N f) :=
  cxOK_of2 (es := []) (me := [⟨90, e_IndexFuncA (s_IndexFuncA N f)⟩]) (ms := []) T_ok trivial ⟨eo_IndexFuncA _ (p_IndexFuncA N f hf), trivial⟩ trivial rfl (fun _ _ _ _ => rfl) (fun _ _ _ _ _ _ => rfl) rfl
theorem lo_ContainsFuncA (N : Nat) (f : Int → Int → List V → Int → Option (Bool)) : LoopsOK (cx_ContainsFuncA N f) Tryd.f68.ntmps (bodyOf Tryd.f68) :=
  loopsOK_of (k := 0) (by kernel_rfl) trivial
open Classical in
theorem p_ContainsFuncA (N : Nat) (f : Int → Int → List V → Int → Option (Bool)) (hf : ∀ (x0 : Int) (x1 : Int) (x2 : List V) (x3 : Int) (r0 : Bool), f x0 x1 x2 x3 = some r0 → PureRet Tryd.prog T 39 [.agg [.v (.int .i64 x0) .no, .v (.int .i64 x1) .no, .v (.sl 24 x2) .no], .v (.int .i64 x3) .no] [.v (.bool r0) .no]) (x0 : List V) (y0 : Int) (r0 : Bool) (h : s_ContainsFuncA N f x0 y0 = some r0) : ViewRet Tryd.prog T 68 [.v (.sl 24 x0) .no, .clos 69 [.ptr 1 0 0]] [⟨3, [.v (.int .i64 y0) .no]⟩] [.v (.bool r0) .no] [⟨3, [.v (.int .i64 y0) .no]⟩] := by
  refine view_of (Bs := [⟨3, [.v (.int .i64 y0) .no]⟩]) (Bs' := [⟨3, [.v (.int .i64 y0) .no]⟩]) (cx := cx_ContainsFuncA N f) (by kernel_rfl) (co_ContainsFuncA N f hf) Tryd.func68 (by kernel_rfl) (by kernel_rfl) (lo_ContainsFuncA N f) rfl rfl rfl rfl (rf := r_ContainsFuncA (fun r0' z'0 => if z'0 = y0 then some r0' else none)) (r := r0) ?_ ?_
  · exact (C_ContainsFuncA_ok N f x0 y0 _).trans ((congrArg (fun K => C_ContainsFuncA N f x0 y0 K) (funext fun r0' => if_pos rfl)).trans h)
  · intro rs' m' hx
    unfold r_ContainsFuncA at hx
    split at hx
    · dsimp only at hx
      split at hx
      · rename_i hk
        subst hk
        cases hx; exact ⟨rfl, rfl, _, rfl⟩
      · cases hx
    · cases hx
noncomputable def r_avalid (rs : List D) (_ : Mem) : Option (Bool) :=
  match rs with
  | [.v (.bool r0) _] => some (r0)
  | _ => none
noncomputable def B_avalid (N : Nat) (f : Int → Int → List V → Int → Option (Bool)) (x0 : Int) (x1 : Int) (x2 : List V) (x3 : Int) : Option (Bool) :=
  br (decide (x0 < 0)) (some false)
  (br (decide (7 < x0)) (some false)
    (bnd1 (s_forms N) fun x0_1 =>
      br (decide (x0 = 0))
        (br (!decide (x1 = 0)) (some false)
          (br (decide (0 < (↑x2.length : Int))) (some false)
            (br (decide (x0 = 5)) (br (!decide (bitsI BinOp.andNot IntKind.i64 x1 51 = 0)) (some false) (bnd1 (s_ContainsFuncA N f x2 x3) fun b1 => some !b1)) (bnd1 (s_ContainsFuncA N f x2 x3) fun b2 => some !b2))))
        (br (decide (x0 = 1))
          (br (!decide (x1 = 0)) (some false)
            (br (decide (0 < (↑x2.length : Int))) (some false)
              (br (decide (x0 = 5)) (br (!decide (bitsI BinOp.andNot IntKind.i64 x1 51 = 0)) (some false) (bnd1 (s_ContainsFuncA N f x2 x3) fun b3 => some !b3)) (bnd1 (s_ContainsFuncA N f x2 x3) fun b4 => some !b4))))
          (br (decide (x0 = 2))
            (br (decide (x1 < 1)) (some false)
              (br (decide (8 < x1)) (some false)
                (br (decide (0 < (↑x2.length : Int))) (some false)
                  (br (decide (x0 = 5)) (br (!decide (bitsI BinOp.andNot IntKind.i64 x1 51 = 0)) (some false) (bnd1 (s_ContainsFuncA N f x2 x3) fun b5 => some !b5)) (bnd1 (s_ContainsFuncA N f x2 x3) fun b6 => some !b6)))))
            (br (decide (x0 = 3))
              (br (decide (x1 < 1)) (some false)
                (br (decide (8 < x1)) (some false)
                  (br (decide (0 < (↑x2.length : Int))) (some false)
                    (br (decide (x0 = 5)) (br (!decide (bitsI BinOp.andNot IntKind.i64 x1 51 = 0)) (some false) (bnd1 (s_ContainsFuncA N f x2 x3) fun b7 => some !b7)) (bnd1 (s_ContainsFuncA N f x2 x3) fun b8 => some !b8)))))
              (br (decide (x0 = 4))
                (br (decide (x1 < 1)) (some false)
                  (br (decide (5 < x1)) (some false)
                    (br (decide (0 < (↑x2.length : Int))) (some false)
                      (br (decide (x0 = 5)) (br (!decide (bitsI BinOp.andNot IntKind.i64 x1 51 = 0)) (some false) (bnd1 (s_ContainsFuncA N f x2 x3) fun b9 => some !b9)) (bnd1 (s_ContainsFuncA N f x2 x3) fun b10 => some !b10)))))
                (br (decide (x0 = 5))
                  (br (decide (x1 < 1)) (some false)
                    (br (decide (51 < x1)) (some false)
                      (br (decide (0 < (↑x2.length : Int))) (some false)
                        (br (decide (x0 = 5)) (br (!decide (bitsI BinOp.andNot IntKind.i64 x1 51 = 0)) (some false) (bnd1 (s_ContainsFuncA N f x2 x3) fun b11 => some !b11)) (bnd1 (s_ContainsFuncA N f x2 x3) fun b12 => some !b12)))))
                  (br (decide (x0 = 6))
                    (br (!decide (x1 = 0)) (some false)
                      (br (decide ((↑x2.length : Int) = 0)) (some false)
                        (br (decide (x0 = 5)) (br (!decide (bitsI BinOp.andNot IntKind.i64 x1 51 = 0)) (some false) (bnd1 (s_ContainsFuncA N f x2 x3) fun b13 => some !b13)) (bnd1 (s_ContainsFuncA N f x2 x3) fun b14 => some !b14))))
                    (br (decide (x0 = 7))
                      (br (!decide (x1 = 0)) (some false)
                        (br (decide ((↑x2.length : Int) = 0)) (some false)
                          (br (decide (x0 = 5)) (br (!decide (bitsI BinOp.andNot IntKind.i64 x1 51 = 0)) (some false) (bnd1 (s_ContainsFuncA N f x2 x3) fun b15 => some !b15)) (bnd1 (s_ContainsFuncA N f x2 x3) fun b16 => some !b16))))
                      none)))))))))
noncomputable def s_avalid (N : Nat) : Nat → Int → Int → List V → Int → Option (Bool)
  | 0, _, _, _, _ => none
  | n + 1, x0, x1, x2, x3 => B_avalid N (s_avalid N n) x0 x1 x2 x3
noncomputable def cx_avalid (N : Nat) (f : Int → Int → List V → Int → Option (Bool)) : Cx := { T := T, isPure := tabP [⟨39, e_avalid f⟩, ⟨67, e_forms (s_forms N)⟩], pureK := fun g ds K => tabK [⟨39, e_avalid f⟩, ⟨67, e_forms (s_forms N)⟩] g ds K, memK := fun g dst ds m K => tabMK [⟨68, e_ContainsFuncA (s_ContainsFuncA N f)⟩, ⟨69, e_avalid1 (s_avalid1 N f)⟩] g dst ds m K, meth := tabM [], keep := fun _ => [], keepX := fun _ => [], loopT := fun _ _ _ _ => none, jumps := 9 }
theorem B_avalid_ok (N : Nat) (f : Int → Int → List V → Int → Option (Bool)) (x0 : Int) (x1 : Int) (x2 : List V) (x3 : Int) : bodyK (cx_avalid N f) Tryd.f39 [.agg [.v (.int .i64 x0) .no, .v (.int .i64 x1) .no, .v (.sl 24 x2) .no], .v (.int .i64 x3) .no] [] r_avalid = B_avalid N f x0 x1 x2 x3 := by
  kernel_rfl
theorem co_avalid (N : Nat) (f : Int → Int → List V → Int → Option (Bool)) (hf : ∀ (x0 : Int) (x1 : Int) (x2 : List V) (x3 : Int) (r0 : Bool), f x0 x1 x2 x3 = some r0 → PureRet Tryd.prog T 39 [.agg [.v (.int .i64 x0) .no, .v (.int .i64 x1) .no, .v (.sl 24 x2) .no], .v (.int .i64 x3) .no] [.v (.bool r0) .no]) : CxOK Tryd.prog (cx_avalid N f) :=
  cxOK_of2 (es := [⟨39, e_avalid f⟩, ⟨67, e_forms (s_forms N)⟩]) (me := [⟨68, e_ContainsFuncA (s_ContainsFuncA N f)⟩, ⟨69, e_avalid1 (s_avalid1 N f)⟩]) (ms := []) T_ok ⟨eo_avalid f hf, eo_forms _ (p_forms N), trivial⟩ ⟨eo_ContainsFuncA _ (p_ContainsFuncA N f hf), eo_avalid1 _ (p_avalid1 N f hf), trivial⟩ trivial rfl (fun _ _ _ _ => rfl) (fun _ _ _ _ _ _ => rfl) rfl
theorem lo_avalid (N : Nat) (f : Int → Int → List V → Int → Option (Bool)) : LoopsOK (cx_avalid N f) Tryd.f39.ntmps (bodyOf Tryd.f39) :=
  loopsOK_of (k := 0) (by kernel_rfl) trivial
theorem p_avalid (N : Nat) : ∀ (M : Nat) (x0 : Int) (x1 : Int) (x2 : List V) (x3 : Int) (r0 : Bool), s_avalid N M x0 x1 x2 x3 = some r0 → PureRet Tryd.prog T 39 [.agg [.v (.int .i64 x0) .no, .v (.int .i64 x1) .no, .v (.sl 24 x2) .no], .v (.int .i64 x3) .no] [.v (.bool r0) .no]
  | 0, _, _, _, _, _, h => by cases h
  | M + 1, x0, x1, x2, x3, r0, h => pure_of (cx := cx_avalid N (s_avalid N M)) (by kernel_rfl) (co_avalid N (s_avalid N M) (p_avalid N M)) Tryd.func39 (by kernel_rfl) (by kernel_rfl) (lo_avalid N (s_avalid N M)) rfl rfl rfl (rf := r_avalid) ((B_avalid_ok N (s_avalid N M) x0 x1 x2 x3).trans h) (fun rs' m h => by
    unfold r_avalid at h
    split at h
    · cases h; exact ⟨rfl, rfl⟩
    · cases h)
noncomputable def e_measure {R : Type} (s : Int → Int → List V → Option (Int × Int)) (ds : List D) (K : List D → Option R) : Option R :=
  match ds with
  | [.agg [.v (.int .i64 x0) .no, .v (.int .i64 x1) .no, .v (.sl 24 x2) .no]] => bnd2 (s x0 x1 x2) fun r0 r1 => K [.v (.int .i64 r0) .no, .v (.int .i64 r1) .no]
  | _ => none
noncomputable def r_measure (rs : List D) (_ : Mem) : Option (Int × Int) :=
  match rs with
  | [.v (.int .i64 r0) _, .v (.int .i64 r1) _] => some (r0, r1)
  | _ => none
noncomputable def F_measure_3 {R : Type} (N : Nat) (f : Int → Int → List V → Option (Int × Int)) (vs2 : List V) (n3 : Int) (n5 : Int) (n6 : Int) (vs7 : List V) (Lq : Int → Int → Int → Option R) (K0 : Int → Int → Option R) (n0 : Int) (n1 : Int) (n4 : Int) : Option R :=
  br (decide (n4 < n3))
  (br (decide (0 ≤ n4) && decide (n4 < (↑vs2.length : Int)))
    (at? vs2 n4.toNat fun x0 =>
      x0.unAgg fun l1 =>
        unCons l1 fun x2 l3 =>
          V.unInt IntKind.i64 x2 fun n4_1 =>
            unCons l3 fun x5 l6 =>
              V.unInt IntKind.i64 x5 fun n7 =>
                unCons l6 fun x8 l9 =>
                  V.unSl 24 x8 fun l10 =>
                    unNil l9
                      (bnd2 (f n4_1 n7 l10) fun n11 n12 =>
                        Lq (IntKind.i64.wrap (n0 + n11))
                          (match true with
                          | true => max n1 n12
                          | false => min n1 n12)
                          (IntKind.i64.wrap (n4 + 1))))
    none)
  (K0 n0 n1)
noncomputable def S_measure_3 {R : Type} (N : Nat) (f : Int → Int → List V → Option (Int × Int)) (vs2 : List V) (n3 : Int) (n5 : Int) (n6 : Int) (vs7 : List V) : Nat → Int → Int → Int → (Int → Int → Option R) → Option R
  | 0, _, _, _, _ => none
  | t + 1, n0, n1, n4, K0 => F_measure_3 N f vs2 n3 n5 n6 vs7 (fun n0 n1 n4 => S_measure_3 N f vs2 n3 n5 n6 vs7 t n0 n1 n4 K0) K0 n0 n1 n4
noncomputable def l_measure_3 {R : Type} (N : Nat) (f : Int → Int → List V → Option (Int × Int)) (ds : List D) (m : Mem) (K : Ex → List D → Mem → Option R) : Option R :=
  match ds, m with
  | [(.ptr 0 1 0), (.v (.int .i64 n0) .no), (.v (.int .i64 n1) .no), (.v (.sl 24 vs2) .no), (.v (.int .i64 n3) .no), (.v (.int .i64 n4) .no)], [[(1, ⟨24, [(.v (.int .i64 n5) .no), (.v (.int .i64 n6) .no), (.v (.sl 24 vs7) .no)]⟩)]] => S_measure_3 N f vs2 n3 n5 n6 vs7 N n0 n1 n4 (fun a0 a1 => K (.exit 0) [(.ptr 0 1 0), (.v (.int .i64 a0) .no), (.v (.int .i64 a1) .no)] [[(1, ⟨24, [(.v (.int .i64 n5) .no), (.v (.int .i64 n6) .no), (.v (.sl 24 vs7) .no)]⟩)]])
  | _, _ => none
noncomputable def B_measure (N : Nat) (f : Int → Int → List V → Option (Int × Int)) (x0 : Int) (x1 : Int) (x2 : List V) : Option (Int × Int) :=
  S_measure_3 N f x2 (↑x2.length : Int) x0 x1 x2 N 1 0 0 fun n0 n1 => some (n0, IntKind.i64.wrap (n1 + 1))
noncomputable def s_measure (N : Nat) : Nat → Int → Int → List V → Option (Int × Int)
  | 0, _, _, _ => none
  | n + 1, x0, x1, x2 => B_measure N (s_measure N n) x0 x1 x2
noncomputable def cx_measure (N : Nat) (f : Int → Int → List V → Option (Int × Int)) : Cx := { T := T, isPure := tabP [⟨40, e_measure f⟩], pureK := fun g ds K => tabK [⟨40, e_measure f⟩] g ds K, memK := fun g dst ds m K => tabMK [] g dst ds m K, meth := tabM [], keep := fun r => match r with | 3 => [1, 4, 5, 11, 12, 13] | _ => [], keepX := fun r => match r with | 3 => [1, 4, 5] | _ => [], loopT := fun r ds m K => match r with | 3 => l_measure_3 N f ds m K | _ => none, jumps := 9 }
theorem F_measure_3_ok {R : Type} (N : Nat) (f : Int → Int → List V → Option (Int × Int)) (vs2 : List V) (n3 : Int) (n5 : Int) (n6 : Int) (vs7 : List V) (n0 : Int) (n1 : Int) (n4 : Int) (L : List D → Mem → Option R) (K : Ex → List D → Mem → Option R) :
    roundK (fun st K => codeK (cx_measure N f) (loopN Tryd.f40 0) st K) 32 [1, 4, 5, 11, 12, 13] [1, 4, 5] L [(.ptr 0 1 0), (.v (.int .i64 n0) .no), (.v (.int .i64 n1) .no), (.v (.sl 24 vs2) .no), (.v (.int .i64 n3) .no), (.v (.int .i64 n4) .no)] [[(1, ⟨24, [(.v (.int .i64 n5) .no), (.v (.int .i64 n6) .no), (.v (.sl 24 vs7) .no)]⟩)]] K = F_measure_3 N f vs2 n3 n5 n6 vs7 (fun n0 n1 n4 => L [(.ptr 0 1 0), (.v (.int .i64 n0) .no), (.v (.int .i64 n1) .no), (.v (.sl 24 vs2) .no), (.v (.int .i64 n3) .no), (.v (.int .i64 n4) .no)] [[(1, ⟨24, [(.v (.int .i64 n5) .no), (.v (.int .i64 n6) .no), (.v (.sl 24 vs7) .no)]⟩)]]) (fun a0 a1 => K (.exit 0) [(.ptr 0 1 0), (.v (.int .i64 a0) .no), (.v (.int .i64 a1) .no)] [[(1, ⟨24, [(.v (.int .i64 n5) .no), (.v (.int .i64 n6) .no), (.v (.sl 24 vs7) .no)]⟩)]]) n0 n1 n4 := by
  kernel_rfl
theorem S_measure_3_ok {R : Type} (N : Nat) (f : Int → Int → List V → Option (Int × Int)) (vs2 : List V) (n3 : Int) (n5 : Int) (n6 : Int) (vs7 : List V) (K : Ex → List D → Mem → Option R) : ∀ (t : Nat) (n0 : Int) (n1 : Int) (n4 : Int),
    loopK (fun st K => codeK (cx_measure N f) (loopN Tryd.f40 0) st K) 32 [1, 4, 5, 11, 12, 13] [1, 4, 5] t [(.ptr 0 1 0), (.v (.int .i64 n0) .no), (.v (.int .i64 n1) .no), (.v (.sl 24 vs2) .no), (.v (.int .i64 n3) .no), (.v (.int .i64 n4) .no)] [[(1, ⟨24, [(.v (.int .i64 n5) .no), (.v (.int .i64 n6) .no), (.v (.sl 24 vs7) .no)]⟩)]] K = S_measure_3 N f vs2 n3 n5 n6 vs7 t n0 n1 n4 (fun a0 a1 => K (.exit 0) [(.ptr 0 1 0), (.v (.int .i64 a0) .no), (.v (.int .i64 a1) .no)] [[(1, ⟨24, [(.v (.int .i64 n5) .no), (.v (.int .i64 n6) .no), (.v (.sl 24 vs7) .no)]⟩)]])
  | 0, n0, n1, n4 => rfl
  | t + 1, n0, n1, n4 => (F_measure_3_ok N f vs2 n3 n5 n6 vs7 n0 n1 n4 _ K).trans (congrArg (fun L => F_measure_3 N f vs2 n3 n5 n6 vs7 L (fun a0 a1 => K (.exit 0) [(.ptr 0 1 0), (.v (.int .i64 a0) .no), (.v (.int .i64 a1) .no)] [[(1, ⟨24, [(.v (.int .i64 n5) .no), (.v (.int .i64 n6) .no), (.v (.sl 24 vs7) .no)]⟩)]]) n0 n1 n4) (funext fun n0 => funext fun n1 => funext fun n4 => S_measure_3_ok N f vs2 n3 n5 n6 vs7 K t n0 n1 n4))
theorem B_measure_ok (N : Nat) (f : Int → Int → List V → Option (Int × Int)) (x0 : Int) (x1 : Int) (x2 : List V) : bodyK (cx_measure N f) Tryd.f40 [.agg [.v (.int .i64 x0) .no, .v (.int .i64 x1) .no, .v (.sl 24 x2) .no]] [] r_measure = B_measure N f x0 x1 x2 := by
  kernel_rfl
theorem go_measure : Goes Tryd.prog 40 := goes_of Tryd.func40 (by kernel_rfl) (c := bodyOf Tryd.f40) (by kernel_rfl)
theorem eo_measure (s : Int → Int → List V → Option (Int × Int)) (hs : ∀ (x0 : Int) (x1 : Int) (x2 : List V) (r0 : Int) (r1 : Int), s x0 x1 x2 = some (r0, r1) → PureRet Tryd.prog T 40 [.agg [.v (.int .i64 x0) .no, .v (.int .i64 x1) .no, .v (.sl 24 x2) .no]] [.v (.int .i64 r0) .no, .v (.int .i64 r1) .no]) : EntOK Tryd.prog T ⟨40, e_measure s⟩ := by
  refine ⟨go_measure, fun R ds K r h => ?_, fun R ds K => ?_⟩
  · simp only [e_measure] at h
    split at h
    · obtain ⟨r0, r1, h1, h2⟩ := bnd2_some h
      exact ⟨_, h2, hs _ _ _ _ _ h1⟩
    · cases h
  · simp only [e_measure]
    split
    · rw [bnd2_b]; rfl
    · rfl
theorem co_measure (N : Nat) (f : Int → Int → List V → Option (Int × Int)) (hf : ∀ (x0 : Int) (x1 : Int) (x2 : List V) (r0 : Int) (r1 : Int), f x0 x1 x2 = some (r0, r1) → PureRet Tryd.prog T 40 [.agg [.v (.int .i64 x0) .no, .v (.int .i64 x1) .no, .v (.sl 24 x2) .no]] [.v (.int .i64 r0) .no, .v (.int .i64 r1) .no]) : CxOK Tryd.prog (cx_measure N f) :=
  cxOK_of2 (es := [⟨40, e_measure f⟩]) (me := []) (ms := []) T_ok ⟨eo_measure f hf, trivial⟩ trivial trivial rfl (fun _ _ _ _ => rfl) (fun _ _ _ _ _ _ => rfl) rfl
theorem lk_measure_3 (N : Nat) (f : Int → Int → List V → Option (Int × Int)) : LoopOK (cx_measure N f) 32 (loopN Tryd.f40 0) := by
  refine loopOK_of (rid := 3) (by kernel_rfl) rfl rfl fun R ds m K r h => ?_
  have h : l_measure_3 N f ds m K = some r := h
  unfold l_measure_3 at h
  split at h
  · exact ⟨N, Eq.trans (S_measure_3_ok ..) h⟩
  · cases h
theorem lo_measure (N : Nat) (f : Int → Int → List V → Option (Int × Int)) : LoopsOK (cx_measure N f) Tryd.f40.ntmps (bodyOf Tryd.f40) :=
  loopsOK_of (k := 1) (by kernel_rfl) ⟨trivial, lk_measure_3 N f⟩
theorem p_measure (N : Nat) : ∀ (M : Nat) (x0 : Int) (x1 : Int) (x2 : List V) (r0 : Int) (r1 : Int), s_measure N M x0 x1 x2 = some (r0, r1) → PureRet Tryd.prog T 40 [.agg [.v (.int .i64 x0) .no, .v (.int .i64 x1) .no, .v (.sl 24 x2) .no]] [.v (.int .i64 r0) .no, .v (.int .i64 r1) .no]
  | 0, _, _, _, _, _, h => by cases h
  | M + 1, x0, x1, x2, r0, r1, h => pure_of (cx := cx_measure N (s_measure N M)) (by kernel_rfl) (co_measure N (s_measure N M) (p_measure N M)) Tryd.func40 (by kernel_rfl) (by kernel_rfl) (lo_measure N (s_measure N M)) rfl rfl rfl (rf := r_measure) ((B_measure_ok N (s_measure N M) x0 x1 x2).trans h) (fun rs' m h => by
    unfold r_measure at h
    split at h
    · cases h; exact ⟨rfl, rfl⟩
    · cases h)
noncomputable def e_aCheck {R : Type} (s : Int → Int → List V → Option (Int)) (ds : List D) (K : List D → Option R) : Option R :=
  match ds with
  | [.agg [.v (.int .i64 x0) .no, .v (.int .i64 x1) .no, .v (.sl 24 x2) .no]] => bnd1 (s x0 x1 x2) fun r0 => K [.v (.int .i64 r0) .no]
  | _ => none
noncomputable def r_aCheck (rs : List D) (_ : Mem) : Option (Int) :=
  match rs with
  | [.v (.int .i64 r0) _] => some (r0)
  | _ => none
noncomputable def s_aCheck (N : Nat) (x0 : Int) (x1 : Int) (x2 : List V) : Option (Int) :=
  bnd1 (s_avalid N N x0 x1 x2 1) fun b0 => br (!b0) (some 1) (bnd2 (s_measure N N x0 x1 x2) fun n1 n2 => br (decide (16 < n1)) (some 3) (br (decide (8 < n2)) (some 3) (some 0)))
noncomputable def cx_aCheck (N : Nat) : Cx := { T := T, isPure := tabP [⟨39, e_avalid (s_avalid N N)⟩, ⟨40, e_measure (s_measure N N)⟩], pureK := fun g ds K => tabK [⟨39, e_avalid (s_avalid N N)⟩, ⟨40, e_measure (s_measure N N)⟩] g ds K, memK := fun g dst ds m K => tabMK [] g dst ds m K, meth := tabM [], keep := fun _ => [], keepX := fun _ => [], loopT := fun _ _ _ _ => none, jumps := 9 }
theorem s_aCheck_ok (N : Nat) (x0 : Int) (x1 : Int) (x2 : List V) : bodyK (cx_aCheck N) Tryd.f17 [.agg [.v (.int .i64 x0) .no, .v (.int .i64 x1) .no, .v (.sl 24 x2) .no]] [] r_aCheck = s_aCheck N x0 x1 x2 := by
  kernel_rfl
theorem go_aCheck : Goes Tryd.prog 17 := goes_of Tryd.func17 (by kernel_rfl) (c := bodyOf Tryd.f17) (by kernel_rfl)
theorem eo_aCheck (s : Int → Int → List V → Option (Int)) (hs : ∀ (x0 : Int) (x1 : Int) (x2 : List V) (r0 : Int), s x0 x1 x2 = some r0 → PureRet Tryd.prog T 17 [.agg [.v (.int .i64 x0) .no, .v (.int .i64 x1) .no, .v (.sl 24 x2) .no]] [.v (.int .i64 r0) .no]) : EntOK Tryd.prog T ⟨17, e_aCheck s⟩ := by
  refine ⟨go_aCheck, fun R ds K r h => ?_, fun R ds K => ?_⟩
  · simp only [e_aCheck] at h
    split at h
    · obtain ⟨r0, h1, h2⟩ := bnd1_some h
      exact ⟨_, h2, hs _ _ _ _ h1⟩
    · cases h
  · simp only [e_aCheck]
    split
    · rw [bnd1_b]; rfl
    · rfl
theorem co_aCheck (N : Nat) : CxOK Tryd.prog (cx_aCheck N) :=
  cxOK_of2 (es := [⟨39, e_avalid (s_avalid N N)⟩, ⟨40, e_measure (s_measure N N)⟩]) (me := []) (ms := []) T_ok ⟨eo_avalid _ (p_avalid N N), eo_measure _ (p_measure N N), trivial⟩ trivial trivial rfl (fun _ _ _ _ => rfl) (fun _ _ _ _ _ _ => rfl) rfl
theorem lo_aCheck (N : Nat) : LoopsOK (cx_aCheck N) Tryd.f17.ntmps (bodyOf Tryd.f17) :=
  loopsOK_of (k := 0) (by kernel_rfl) trivial
theorem p_aCheck (N : Nat) (x0 : Int) (x1 : Int) (x2 : List V) (r0 : Int) (h : s_aCheck N x0 x1 x2 = some r0) : PureRet Tryd.prog T 17 [.agg [.v (.int .i64 x0) .no, .v (.int .i64 x1) .no, .v (.sl 24 x2) .no]] [.v (.int .i64 r0) .no] :=
  pure_of (cx := cx_aCheck N) (by kernel_rfl) (co_aCheck N) Tryd.func17 (by kernel_rfl) (by kernel_rfl) (lo_aCheck N) rfl rfl rfl (rf := r_aCheck) ((s_aCheck_ok N x0 x1 x2).trans h) (fun rs' m h => by
    unfold r_aCheck at h
    split at h
    · cases h; exact ⟨rfl, rfl⟩
    · cases h)
noncomputable def e_aCheckRules {R : Type} (s : List V → Option (Int)) (ds : List D) (K : List D → Option R) : Option R :=
  match ds with
  | [.v (.sl 53 x0) .no] => bnd1 (s x0) fun r0 => K [.v (.int .i64 r0) .no]
  | _ => none
noncomputable def r_aCheckRules (rs : List D) (_ : Mem) : Option (Int) :=
  match rs with
  | [.v (.int .i64 r0) _] => some (r0)
  | _ => none
noncomputable def F_aCheckRules_4 {R : Type} (N : Nat) (vs0 : List V) (n1 : Int) (Lq : Int → Option R) (K0 : Int → Option R) (K1 : Option R) (n2 : Int) : Option R :=
  br (decide (n2 < n1))
  (br (decide (0 ≤ n2) && decide (n2 < (↑vs0.length : Int)))
    (at? vs0 n2.toNat fun x0 =>
      x0.unAgg fun l1 =>
        unCons l1 fun x2 l3 =>
          V.unInt IntKind.i64 x2 fun n4 =>
            unCons l3 fun x5 l6 =>
              V.unInt IntKind.i64 x5 fun n7 =>
                unCons l6 fun x8 l9 =>
                  V.unInt IntKind.i64 x8 fun n10 =>
                    unCons l9 fun x11 l12 =>
                      V.unSl 24 x11 fun l13 => unNil l12 (br (decide (n4 < 1)) (K0 1) (br (decide (255 < n4)) (K0 1) (bnd1 (s_aCheck N n7 n10 l13) fun n14 => br (!decide (n14 = 0)) (K0 n14) (Lq (IntKind.i64.wrap (n2 + 1)))))))
    none)
  K1
noncomputable def S_aCheckRules_4 {R : Type} (N : Nat) (vs0 : List V) (n1 : Int) : Nat → Int → (Int → Option R) → (Option R) → Option R
  | 0, _, _, _ => none
  | t + 1, n2, K0, K1 => F_aCheckRules_4 N vs0 n1 (fun n2 => S_aCheckRules_4 N vs0 n1 t n2 K0 K1) K0 K1 n2
noncomputable def l_aCheckRules_4 {R : Type} (N : Nat) (ds : List D) (m : Mem) (K : Ex → List D → Mem → Option R) : Option R :=
  match ds, m with
  | [(.v (.sl 53 vs0) .no), (.v (.int .i64 n1) .no), (.v (.int .i64 n2) .no)], [[]] => S_aCheckRules_4 N vs0 n1 N n2 (fun a0 => K .ret [(.v (.int .i64 a0) .no)] [[]]) (K (.exit 0) [.any] [[]])
  | _, _ => none
noncomputable def s_aCheckRules (N : Nat) (x0 : List V) : Option (Int) :=
  br (decide (8 < (↑x0.length : Int))) (some 3) (S_aCheckRules_4 N x0 (↑x0.length : Int) N 0 (fun n0 => some n0) (some 0))
noncomputable def cx_aCheckRules (N : Nat) : Cx := { T := T, isPure := tabP [⟨17, e_aCheck (s_aCheck N)⟩], pureK := fun g ds K => tabK [⟨17, e_aCheck (s_aCheck N)⟩] g ds K, memK := fun g dst ds m K => tabMK [] g dst ds m K, meth := tabM [], keep := fun r => match r with | 4 => [9, 10, 11] | _ => [], keepX := fun r => match r with | 4 => [2] | _ => [], loopT := fun r ds m K => match r with | 4 => l_aCheckRules_4 N ds m K | _ => none, jumps := 9 }
theorem F_aCheckRules_4_ok {R : Type} (N : Nat) (vs0 : List V) (n1 : Int) (n2 : Int) (L : List D → Mem → Option R) (K : Ex → List D → Mem → Option R) :
    roundK (fun st K => codeK (cx_aCheckRules N) (loopN Tryd.f30 0) st K) 30 [9, 10, 11] [2] L [(.v (.sl 53 vs0) .no), (.v (.int .i64 n1) .no), (.v (.int .i64 n2) .no)] [[]] K = F_aCheckRules_4 N vs0 n1 (fun n2 => L [(.v (.sl 53 vs0) .no), (.v (.int .i64 n1) .no), (.v (.int .i64 n2) .no)] [[]]) (fun a0 => K .ret [(.v (.int .i64 a0) .no)] [[]]) (K (.exit 0) [.any] [[]]) n2 := by
  kernel_rfl
theorem S_aCheckRules_4_ok {R : Type} (N : Nat) (vs0 : List V) (n1 : Int) (K : Ex → List D → Mem → Option R) : ∀ (t : Nat) (n2 : Int),
    loopK (fun st K => codeK (cx_aCheckRules N) (loopN Tryd.f30 0) st K) 30 [9, 10, 11] [2] t [(.v (.sl 53 vs0) .no), (.v (.int .i64 n1) .no), (.v (.int .i64 n2) .no)] [[]] K = S_aCheckRules_4 N vs0 n1 t n2 (fun a0 => K .ret [(.v (.int .i64 a0) .no)] [[]]) (K (.exit 0) [.any] [[]])
  | 0, n2 => rfl
  | t + 1, n2 => (F_aCheckRules_4_ok N vs0 n1 n2 _ K).trans (congrArg (fun L => F_aCheckRules_4 N vs0 n1 L (fun a0 => K .ret [(.v (.int .i64 a0) .no)] [[]]) (K (.exit 0) [.any] [[]]) n2) (funext fun n2 => S_aCheckRules_4_ok N vs0 n1 K t n2))
theorem s_aCheckRules_ok (N : Nat) (x0 : List V) : bodyK (cx_aCheckRules N) Tryd.f30 [.v (.sl 53 x0) .no] [] r_aCheckRules = s_aCheckRules N x0 := by
  kernel_rfl
theorem go_aCheckRules : Goes Tryd.prog 30 := goes_of Tryd.func30 (by kernel_rfl) (c := bodyOf Tryd.f30) (by kernel_rfl)
theorem eo_aCheckRules (s : List V → Option (Int)) (hs : ∀ (x0 : List V) (r0 : Int), s x0 = some r0 → PureRet Tryd.prog T 30 [.v (.sl 53 x0) .no] [.v (.int .i64 r0) .no]) : EntOK Tryd.prog T ⟨30, e_aCheckRules s⟩ := by
  refine ⟨go_aCheckRules, fun R ds K r h => ?_, fun R ds K => ?_⟩
  · simp only [e_aCheckRules] at h
    split at h
    · obtain ⟨r0, h1, h2⟩ := bnd1_some h
      exact ⟨_, h2, hs _ _ h1⟩
    · cases h
  · simp only [e_aCheckRules]
    split
    · rw [bnd1_b]; rfl
    · rfl
theorem co_aCheckRules (N : Nat) : CxOK Tryd.prog (cx_aCheckRules N) :=
  cxOK_of2 (es := [⟨17, e_aCheck (s_aCheck N)⟩]) (me := []) (ms := []) T_ok ⟨eo_aCheck _ (p_aCheck N), trivial⟩ trivial trivial rfl (fun _ _ _ _ => rfl) (fun _ _ _ _ _ _ => rfl) rfl
theorem lk_aCheckRules_4 (N : Nat) : LoopOK (cx_aCheckRules N) 30 (loopN Tryd.f30 0) := by
  refine loopOK_of (rid := 4) (by kernel_rfl) rfl rfl fun R ds m K r h => ?_
  have h : l_aCheckRules_4 N ds m K = some r := h
  unfold l_aCheckRules_4 at h
  split at h
  · exact ⟨N, Eq.trans (S_aCheckRules_4_ok ..) h⟩
  · cases h
theorem lo_aCheckRules (N : Nat) : LoopsOK (cx_aCheckRules N) Tryd.f30.ntmps (bodyOf Tryd.f30) :=
  loopsOK_of (k := 1) (by kernel_rfl) ⟨trivial, lk_aCheckRules_4 N⟩
theorem p_aCheckRules (N : Nat) (x0 : List V) (r0 : Int) (h : s_aCheckRules N x0 = some r0) : PureRet Tryd.prog T 30 [.v (.sl 53 x0) .no] [.v (.int .i64 r0) .no] :=
  pure_of (cx := cx_aCheckRules N) (by kernel_rfl) (co_aCheckRules N) Tryd.func30 (by kernel_rfl) (by kernel_rfl) (lo_aCheckRules N) rfl rfl rfl (rf := r_aCheckRules) ((s_aCheckRules_ok N x0).trans h) (fun rs' m h => by
    unfold r_aCheckRules at h
    split at h
    · cases h; exact ⟨rfl, rfl⟩
    · cases h)
noncomputable def e_asat {R : Type} (s : Int → Int → List V → Int → Int → Int → Int → Option (Bool)) (ds : List D) (K : List D → Option R) : Option R :=
  match ds with
  | [.agg [.v (.int .i64 x0) .no, .v (.int .i64 x1) .no, .v (.sl 24 x2) .no], .agg [.v (.int .i64 x3) .no, .v (.int .i64 x4) .no, .v (.int .i64 x5) .no, .v (.int .i64 x6) .no]] => bnd1 (s x0 x1 x2 x3 x4 x5 x6) fun r0 => K [.v (.bool r0) .no]
  | _ => none
noncomputable def e_satno {R : Type} (s : Int → Int → List V → Int → Int → Int → Int → Option (Bool)) (dst : Nat) (ds : List D) (m : Mem) (K : List D → Mem → Option R) : Option R :=
  match ds with
  | [.agg [.v (.int .i64 x0) .no, .v (.int .i64 x1) .no, .v (.sl 24 x2) .no], .ptr (kv0 + 1) sv0 0] => viewK [(kv0, sv0)] m fun Bs => (match Bs with
    | [⟨31, [.v (.int .i64 y0) .no, .v (.int .i64 y1) .no, .v (.int .i64 y2) .no, .v (.int .i64 y3) .no]⟩] => bnd1 (s x0 x1 x2 y0 y1 y2 y3) fun r0 => putAllK [(kv0, sv0)] [⟨31, [.v (.int .i64 y0) .no, .v (.int .i64 y1) .no, .v (.int .i64 y2) .no, .v (.int .i64 y3) .no]⟩] m fun m' => K [.v (.bool r0) .no] m'
    | _ => none)
  | _ => none
noncomputable def r_satno {α : Type} (K : Bool → Int → Int → Int → Int → Option α) (rs : List D) (m : Mem) : Option α :=
  match rs, m with
  | [.v (.bool r0) _], [_, [(0, ⟨31, [.v (.int .i64 z0) .no, .v (.int .i64 z1) .no, .v (.int .i64 z2) .no, .v (.int .i64 z3) .no]⟩)]] => K r0 z0 z1 z2 z3
  | _, _ => none
noncomputable def C_satno {R : Type} (N : Nat) (f : Int → Int → List V → Int → Int → Int → Int → Option (Bool)) (x0 : Int) (x1 : Int) (x2 : List V) (y0 : Int) (y1 : Int) (y2 : Int) (y3 : Int) (K0 : Bool → Option R) : Option R :=
  bnd1 (f x0 x1 x2 y0 y1 y2 y3) fun b0 => K0 !b0
noncomputable def s_satno (N : Nat) (f : Int → Int → List V → Int → Int → Int → Int → Option (Bool)) (x0 : Int) (x1 : Int) (x2 : List V) (y0 : Int) (y1 : Int) (y2 : Int) (y3 : Int) : Option (Bool) :=
  C_satno N f x0 x1 x2 y0 y1 y2 y3 (fun r0 => some r0)
noncomputable def cx_satno (N : Nat) (f : Int → Int → List V → Int → Int → Int → Int → Option (Bool)) : Cx := { T := T, isPure := tabP [⟨44, e_asat f⟩], pureK := fun g ds K => tabK [⟨44, e_asat f⟩] g ds K, memK := fun g dst ds m K => tabMK [] g dst ds m K, meth := tabM [], keep := fun _ => [], keepX := fun _ => [], loopT := fun _ _ _ _ => none, jumps := 9 }
theorem C_satno_ok {R : Type} (N : Nat) (f : Int → Int → List V → Int → Int → Int → Int → Option (Bool)) (x0 : Int) (x1 : Int) (x2 : List V) (y0 : Int) (y1 : Int) (y2 : Int) (y3 : Int) (K : Bool → Int → Int → Int → Int → Option R) : bodyK (cx_satno N f) Tryd.f70 [.agg [.v (.int .i64 x0) .no, .v (.int .i64 x1) .no, .v (.sl 24 x2) .no], .ptr 1 0 0] [frOf 0 [⟨31, [.v (.int .i64 y0) .no, .v (.int .i64 y1) .no, .v (.int .i64 y2) .no, .v (.int .i64 y3) .no]⟩]] (r_satno K) = C_satno N f x0 x1 x2 y0 y1 y2 y3 (fun r0 => K r0 y0 y1 y2 y3) := by
  kernel_rfl
theorem go_asat : Goes Tryd.prog 44 := goes_of Tryd.func44 (by kernel_rfl) (c := bodyOf Tryd.f44) (by kernel_rfl)
theorem eo_asat (s : Int → Int → List V → Int → Int → Int → Int → Option (Bool)) (hs : ∀ (x0 : Int) (x1 : Int) (x2 : List V) (x3 : Int) (x4 : Int) (x5 : Int) (x6 : Int) (r0 : Bool), s x0 x1 x2 x3 x4 x5 x6 = some r0 → PureRet Tryd.prog T 44 [.agg [.v (.int .i64 x0) .no, .v (.int .i64 x1) .no, .v (.sl 24 x2) .no], .agg [.v (.int .i64 x3) .no, .v (.int .i64 x4) .no, .v (.int .i64 x5) .no, .v (.int .i64 x6) .no]] [.v (.bool r0) .no]) : EntOK Tryd.prog T ⟨44, e_asat s⟩ := by
  refine ⟨go_asat, fun R ds K r h => ?_, fun R ds K => ?_⟩
  · simp only [e_asat] at h
    split at h
    · obtain ⟨r0, h1, h2⟩ := bnd1_some h
      exact ⟨_, h2, hs _ _ _ _ _ _ _ _ h1⟩
    · cases h
  · simp only [e_asat]
    split
    · rw [bnd1_b]; rfl
    · rfl
theorem go_satno : Goes Tryd.prog 70 := goes_of Tryd.func70 (by kernel_rfl) (c := bodyOf Tryd.f70) (by kernel_rfl)
theorem eo_satno (s : Int → Int → List V → Int → Int → Int → Int → Option (Bool)) (hs : ∀ (x0 : Int) (x1 : Int) (x2 : List V) (y0 : Int) (y1 : Int) (y2 : Int) (y3 : Int) (r0 : Bool), s x0 x1 x2 y0 y1 y2 y3 = some r0 → ViewRet Tryd.prog T 70 [.agg [.v (.int .i64 x0) .no, .v (.int .i64 x1) .no, .v (.sl 24 x2) .no], .ptr 1 0 0] [⟨31, [.v (.int .i64 y0) .no, .v (.int .i64 y1) .no, .v (.int .i64 y2) .no, .v (.int .i64 y3) .no]⟩] [.v (.bool r0) .no] [⟨31, [.v (.int .i64 y0) .no, .v (.int .i64 y1) .no, .v (.int .i64 y2) .no, .v (.int .i64 y3) .no]⟩]) : MEntOK Tryd.prog T ⟨70, e_satno s⟩ := by
  refine ⟨go_satno, fun R dst ds m K r h => ?_⟩
  simp only [e_satno] at h
  split at h
  · obtain ⟨Bs, a1, a2, a3, h⟩ := viewK_some h
    split at h
    · obtain ⟨r0, h1, h2⟩ := bnd1_some h
      rw [putAllK_eq] at h2
      exact ⟨_, _, h2, hs _ _ _ _ _ _ _ _ h1 _ _ m dst a1 a2 a3 ⟨aren_agg ⟨aren_v _, aren_v _, aren_v _, trivial⟩, aren_ptr _ rfl, trivial⟩⟩
    · cases h
  · cases h
theorem co_satno (N : Nat) (f : Int → Int → List V → Int → Int → Int → Int → Option (Bool)) (hf : ∀ (x0 : Int) (x1 : Int) (x2 : List V) (x3 : Int) (x4 : Int) (x5 : Int) (x6 : Int) (r0 : Bool), f x0 x1 x2 x3 x4 x5 x6 = some r0 → PureRet Tryd.prog T 44 [.agg [.v (.int .i64 x0) .no, .v (.int .i64 x1) .no, .v (.sl 24 x2) .no], .agg [.v (.int .i64 x3) .no, .v (.int .i64 x4) .no, .v (.int .i64 x5) .no, .v (.int .i64 x6) .no]] [.v (.bool r0) .no]) : CxOK Tryd.prog (cx_satno N f) :=
  cxOK_of2 (es := [⟨44, e_asat f⟩]) (me := []) (ms := []) T_ok ⟨eo_asat f hf, trivial⟩ trivial trivial rfl (fun _ _ _ _ => rfl) (fun _ _ _ _ _ _ => rfl) rfl
theorem lo_satno (N : Nat) (f : Int → Int → List V → Int → Int → Int → Int → Option (Bool)) : LoopsOK (cx_satno N f) Tryd.f70.ntmps (bodyOf Tryd.f70) :=
  loopsOK_of (k := 0) (by kernel_rfl) trivial
open Classical in
theorem p_satno (N : Nat) (f : Int → Int → List V → Int → Int → Int → Int → Option (Bool)) (hf : ∀ (x0 : Int) (x1 : Int) (x2 : List V) (x3 : Int) (x4 : Int) (x5 : Int) (x6 : Int) (r0 : Bool), f x0 x1 x2 x3 x4 x5 x6 = some r0 → PureRet Tryd.prog T 44 [.agg [.v (.int .i64 x0) .no, .v (.int .i64 x1) .no, .v (.sl 24 x2) .no], .agg [.v (.int .i64 x3) .no, .v (.int .i64 x4) .no, .v (.int .i64 x5) .no, .v (.int .i64 x6) .no]] [.v (.bool r0) .no]) (x0 : Int) (x1 : Int) (x2 : List V) (y0 : Int) (y1 : Int) (y2 : Int) (y3 : Int) (r0 : Bool) (h : s_satno N f x0 x1 x2 y0 y1 y2 y3 = some r0) : ViewRet Tryd.prog T 70 [.agg [.v (.int .i64 x0) .no, .v (.int .i64 x1) .no, .v (.sl 24 x2) .no], .ptr 1 0 0] [⟨31, [.v (.int .i64 y0) .no, .v (.int .i64 y1) .no, .v (.int .i64 y2) .no, .v (.int .i64 y3) .no]⟩] [.v (.bool r0) .no] [⟨31, [.v (.int .i64 y0) .no, .v (.int .i64 y1) .no, .v (.int .i64 y2) .no, .v (.int .i64 y3) .no]⟩] := by
  refine view_of (Bs := [⟨31, [.v (.int .i64 y0) .no, .v (.int .i64 y1) .no, .v (.int .i64 y2) .no, .v (.int .i64 y3) .no]⟩]) (Bs' := [⟨31, [.v (.int .i64 y0) .no, .v (.int .i64 y1) .no, .v (.int .i64 y2) .no, .v (.int .i64 y3) .no]⟩]) (cx := cx_satno N f) (by kernel_rfl) (co_satno N f hf) Tryd.func70 (by kernel_rfl) (by kernel_rfl) (lo_satno N f) rfl rfl rfl rfl (rf := r_satno (fun r0' z'0 z'1 z'2 z'3 => if z'0 = y0 ∧ z'1 = y1 ∧ z'2 = y2 ∧ z'3 = y3 then some r0' else none)) (r := r0) ?_ ?_
  · exact (C_satno_ok N f x0 x1 x2 y0 y1 y2 y3 _).trans ((congrArg (fun K => C_satno N f x0 x1 x2 y0 y1 y2 y3 K) (funext fun r0' => if_pos ⟨rfl, rfl, rfl, rfl⟩)).trans h)
  · intro rs' m' hx
    unfold r_satno at hx
    split at hx
    · dsimp only at hx
      split at hx
      · rename_i hk
        obtain ⟨rfl, rfl, rfl, rfl⟩ := hk
        cases hx; exact ⟨rfl, rfl, _, rfl⟩
      · cases hx
    · cases hx
end Go.Proofs.YtahemenhcoedgaaDoor.En

/- Functions of the program in plain Lean, joined to the program by evaluation; printed by a program. -/
namespace Go.Proofs.YtahemenhcoedgaaDoor.En
open Go Go.Proofs
set_option maxRecDepth 100000
set_option linter.unusedVariables false
noncomputable def e_satyes {R : Type} (s : Int → Int → List V → Int → Int → Int → Int → Option (Bool)) (dst : Nat) (ds : List D) (m : Mem) (K : List D → Mem → Option R) : Option R :=
  match ds with
  | [.agg [.v (.int .i64 x0) .no, .v (.int .i64 x1) .no, .v (.sl 24 x2) .no], .ptr (kv0 + 1) sv0 0] => viewK [(kv0, sv0)] m fun Bs => (match Bs with
    | [⟨31, [.v (.int .i64 y0) .no, .v (.int .i64 y1) .no, .v (.int .i64 y2) .no, .v (.int .i64 y3) .no]⟩] => bnd1 (s x0 x1 x2 y0 y1 y2 y3) fun r0 => putAllK [(kv0, sv0)] [⟨31, [.v (.int .i64 y0) .no, .v (.int .i64 y1) .no, .v (.int .i64 y2) .no, .v (.int .i64 y3) .no]⟩] m fun m' => K [.v (.bool r0) .no] m'
    | _ => none)
  | _ => none
noncomputable def r_satyes {α : Type} (K : Bool → Int → Int → Int → Int → Option α) (rs : List D) (m : Mem) : Option α :=
  match rs, m with
  | [.v (.bool r0) _], [_, [(0, ⟨31, [.v (.int .i64 z0) .no, .v (.int .i64 z1) .no, .v (.int .i64 z2) .no, .v (.int .i64 z3) .no]⟩)]] => K r0 z0 z1 z2 z3
  | _, _ => none
noncomputable def C_satyes {R : Type} (N : Nat) (f : Int → Int → List V → Int → Int → Int → Int → Option (Bool)) (x0 : Int) (x1 : Int) (x2 : List V) (y0 : Int) (y1 : Int) (y2 : Int) (y3 : Int) (K0 : Bool → Option R) : Option R :=
  bnd1 (f x0 x1 x2 y0 y1 y2 y3) fun b0 => K0 b0
noncomputable def s_satyes (N : Nat) (f : Int → Int → List V → Int → Int → Int → Int → Option (Bool)) (x0 : Int) (x1 : Int) (x2 : List V) (y0 : Int) (y1 : Int) (y2 : Int) (y3 : Int) : Option (Bool) :=
  C_satyes N f x0 x1 x2 y0 y1 y2 y3 (fun r0 => some r0)
noncomputable def cx_satyes (N : Nat) (f : Int → Int → List V → Int → Int → Int → Int → Option (Bool)) : Cx := { T := T, isPure := tabP [⟨44, e_asat f⟩], pureK := fun g ds K => tabK [⟨44, e_asat f⟩] g ds K, memK := fun g dst ds m K => tabMK [] g dst ds m K, meth := tabM [], keep := fun _ => [], keepX := fun _ => [], loopT := fun _ _ _ _ => none, jumps := 9 }
theorem C_satyes_ok {R : Type} (N : Nat) (f : Int → Int → List V → Int → Int → Int → Int → Option (Bool)) (x0 : Int) (x1 : Int) (x2 : List V) (y0 : Int) (y1 : Int) (y2 : Int) (y3 : Int) (K : Bool → Int → Int → Int → Int → Option R) : bodyK (cx_satyes N f) Tryd.f71 [.agg [.v (.int .i64 x0) .no, .v (.int .i64 x1) .no, .v (.sl 24 x2) .no], .ptr 1 0 0] [frOf 0 [⟨31, [.v (.int .i64 y0) .no, .v (.int .i64 y1) .no, .v (.int .i64 y2) .no, .v (.int .i64 y3) .no]⟩]] (r_satyes K) = C_satyes N f x0 x1 x2 y0 y1 y2 y3 (fun r0 => K r0 y0 y1 y2 y3) := by
  kernel_rfl
theorem go_satyes : Goes Tryd.prog 71 := goes_of Tryd.func71 (by kernel_rfl) (c := bodyOf Tryd.f71) (by kernel_rfl)
theorem eo_satyes (s : Int → Int → List V → Int → Int → Int → Int → Option (Bool)) (hs : ∀ (x0 : Int) (x1 : Int) (x2 : List V) (y0 : Int) (y1 : Int) (y2 : Int) (y3 : Int) (r0 : Bool), s x0 x1 x2 y0 y1 y2 y3 = some r0 → ViewRet Tryd.prog T 71 [.agg [.v (.int .i64 x0) .no, .v (.int .i64 x1) .no, .v (.sl 24 x2) .no], .ptr 1 0 0] [⟨31, [.v (.int .i64 y0) .no, .v (.int .i64 y1) .no, .v (.int .i64 y2) .no, .v (.int .i64 y3) .no]⟩] [.v (.bool r0) .no] [⟨31, [.v (.int .i64 y0) .no, .v (.int .i64 y1) .no, .v (.int .i64 y2) .no, .v (.int .i64 y3) .no]⟩]) : MEntOK Tryd.prog T ⟨71, e_satyes s⟩ := by
  refine ⟨go_satyes, fun R dst ds m K r h => ?_⟩
  simp only [e_satyes] at h
  split at h
  · obtain ⟨Bs, a1, a2, a3, h⟩ := viewK_some h
    split at h
    · obtain ⟨r0, h1, h2⟩ := bnd1_some h
      rw [putAllK_eq] at h2
      exact ⟨_, _, h2, hs _ _ _ _ _ _ _ _ h1 _ _ m dst a1 a2 a3 ⟨aren_agg ⟨aren_v _, aren_v _, aren_v _, trivial⟩, aren_ptr _ rfl, trivial⟩⟩
    · cases h
  · cases h
theorem co_satyes (N : Nat) (f : Int → Int → List V → Int → Int → Int → Int → Option (Bool)) (hf : ∀ (x0 : Int) (x1 : Int) (x2 : List V) (x3 : Int) (x4 : Int) (x5 : Int) (x6 : Int) (r0 : Bool), f x0 x1 x2 x3 x4 x5 x6 = some r0 → PureRet Tryd.prog T 44 [.agg [.v (.int .i64 x0) .no, .v (.int .i64 x1) .no, .v (.sl 24 x2) .no], .agg [.v (.int .i64 x3) .no, .v (.int .i64 x4) .no, .v (.int .i64 x5) .no, .v (.int .i64 x6) .no]] [.v (.bool r0) .no]) : CxOK Tryd.prog (cx_satyes N f) :=
  cxOK_of2 (es := [⟨44, e_asat f⟩]) (me := []) (ms := []) T_ok ⟨eo_asat f hf, trivial⟩ trivial trivial rfl (fun _ _ _ _ => rfl) (fun _ _ _ _ _ _ => rfl) rfl
theorem lo_satyes (N : Nat) (f : Int → Int → List V → Int → Int → Int → Int → Option (Bool)) : LoopsOK (cx_satyes N f) Tryd.f71.ntmps (bodyOf Tryd.f71) :=
  loopsOK_of (k := 0) (by kernel_rfl) trivial
open Classical in
theorem p_satyes (N : Nat) (f : Int → Int → List V → Int → Int → Int → Int → Option (Bool)) (hf : ∀ (x0 : Int) (x1 : Int) (x2 : List V) (x3 : Int) (x4 : Int) (x5 : Int) (x6 : Int) (r0 : Bool), f x0 x1 x2 x3 x4 x5 x6 = some r0 → PureRet Tryd.prog T 44 [.agg [.v (.int .i64 x0) .no, .v (.int .i64 x1) .no, .v (.sl 24 x2) .no], .agg [.v (.int .i64 x3) .no, .v (.int .i64 x4) .no, .v (.int .i64 x5) .no, .v (.int .i64 x6) .no]] [.v (.bool r0) .no]) (x0 : Int) (x1 : Int) (x2 : List V) (y0 : Int) (y1 : Int) (y2 : Int) (y3 : Int) (r0 : Bool) (h : s_satyes N f x0 x1 x2 y0 y1 y2 y3 = some r0) : ViewRet Tryd.prog T 71 [.agg [.v (.int .i64 x0) .no, .v (.int .i64 x1) .no, .v (.sl 24 x2) .no], .ptr 1 0 0] [⟨31, [.v (.int .i64 y0) .no, .v (.int .i64 y1) .no, .v (.int .i64 y2) .no, .v (.int .i64 y3) .no]⟩] [.v (.bool r0) .no] [⟨31, [.v (.int .i64 y0) .no, .v (.int .i64 y1) .no, .v (.int .i64 y2) .no, .v (.int .i64 y3) .no]⟩] := by
  refine view_of (Bs := [⟨31, [.v (.int .i64 y0) .no, .v (.int .i64 y1) .no, .v (.int .i64 y2) .no, .v (.int .i64 y3) .no]⟩]) (Bs' := [⟨31, [.v (.int .i64 y0) .no, .v (.int .i64 y1) .no, .v (.int .i64 y2) .no, .v (.int .i64 y3) .no]⟩]) (cx := cx_satyes N f) (by kernel_rfl) (co_satyes N f hf) Tryd.func71 (by kernel_rfl) (by kernel_rfl) (lo_satyes N f) rfl rfl rfl rfl (rf := r_satyes (fun r0' z'0 z'1 z'2 z'3 => if z'0 = y0 ∧ z'1 = y1 ∧ z'2 = y2 ∧ z'3 = y3 then some r0' else none)) (r := r0) ?_ ?_
  · exact (C_satyes_ok N f x0 x1 x2 y0 y1 y2 y3 _).trans ((congrArg (fun K => C_satyes N f x0 x1 x2 y0 y1 y2 y3 K) (funext fun r0' => if_pos ⟨rfl, rfl, rfl, rfl⟩)).trans h)
  · intro rs' m' hx
    unfold r_satyes at hx
    split at hx
    · dsimp only at hx
      split at hx
      · rename_i hk
        obtain ⟨rfl, rfl, rfl, rfl⟩ := hk
        cases hx; exact ⟨rfl, rfl, _, rfl⟩
      · cases hx
    · cases hx
noncomputable def e_IndexFuncN {R : Type} (s : List V → Int → Int → Int → Int → Option (Int)) (dst : Nat) (ds : List D) (m : Mem) (K : List D → Mem → Option R) : Option R :=
  match ds with
  | [.v (.sl 24 x0) .no, .clos 70 [.ptr (kv0 + 1) sv0 0]] => viewK [(kv0, sv0)] m fun Bs => (match Bs with
    | [⟨31, [.v (.int .i64 y0) .no, .v (.int .i64 y1) .no, .v (.int .i64 y2) .no, .v (.int .i64 y3) .no]⟩] => bnd1 (s x0 y0 y1 y2 y3) fun r0 => putAllK [(kv0, sv0)] [⟨31, [.v (.int .i64 y0) .no, .v (.int .i64 y1) .no, .v (.int .i64 y2) .no, .v (.int .i64 y3) .no]⟩] m fun m' => K [.v (.int .i64 r0) .no] m'
    | _ => none)
  | _ => none
noncomputable def r_IndexFuncN {α : Type} (K : Int → Int → Int → Int → Int → Option α) (rs : List D) (m : Mem) : Option α :=
  match rs, m with
  | [.v (.int .i64 r0) _], [_, [(0, ⟨31, [.v (.int .i64 z0) .no, .v (.int .i64 z1) .no, .v (.int .i64 z2) .no, .v (.int .i64 z3) .no]⟩)]] => K r0 z0 z1 z2 z3
  | _, _ => none
noncomputable def F_IndexFuncN_2 {R : Type} (N : Nat) (f : Int → Int → List V → Int → Int → Int → Int → Option (Bool)) (vs0 : List V) (n1 : Int) (n3 : Int) (n4 : Int) (n5 : Int) (n6 : Int) (Lq : Int → Option R) (K0 : Int → Option R) (K1 : Option R) (n2 : Int) : Option R :=
  br (decide (n2 < n1))
  (br (decide (0 ≤ n2) && decide (n2 < (↑vs0.length : Int)))
    (at? vs0 n2.toNat fun x0 =>
      x0.unAgg fun l1 =>
        unCons l1 fun x2 l3 =>
          V.unInt IntKind.i64 x2 fun n4_1 =>
            unCons l3 fun x5 l6 => V.unInt IntKind.i64 x5 fun n7 => unCons l6 fun x8 l9 => V.unSl 24 x8 fun l10 => unNil l9 (bnd1 (s_satno N f n4_1 n7 l10 n3 n4 n5 n6) fun b11 => br b11 (K0 n2) (Lq (IntKind.i64.wrap (n2 + 1)))))
    none)
  K1
noncomputable def S_IndexFuncN_2 {R : Type} (N : Nat) (f : Int → Int → List V → Int → Int → Int → Int → Option (Bool)) (vs0 : List V) (n1 : Int) (n3 : Int) (n4 : Int) (n5 : Int) (n6 : Int) : Nat → Int → (Int → Option R) → (Option R) → Option R
  | 0, _, _, _ => none
  | t + 1, n2, K0, K1 => F_IndexFuncN_2 N f vs0 n1 n3 n4 n5 n6 (fun n2 => S_IndexFuncN_2 N f vs0 n1 n3 n4 n5 n6 t n2 K0 K1) K0 K1 n2
noncomputable def l_IndexFuncN_2 {R : Type} (N : Nat) (f : Int → Int → List V → Int → Int → Int → Int → Option (Bool)) (ds : List D) (m : Mem) (K : Ex → List D → Mem → Option R) : Option R :=
  match ds, m with
  | [(.v (.sl 24 vs0) .no), (.clos 70 [(.ptr 1 0 0)]), (.v (.int .i64 n1) .no), (.v (.int .i64 n2) .no)], [[], [(0, ⟨31, [(.v (.int .i64 n3) .no), (.v (.int .i64 n4) .no), (.v (.int .i64 n5) .no), (.v (.int .i64 n6) .no)]⟩)]] => S_IndexFuncN_2 N f vs0 n1 n3 n4 n5 n6 N n2 (fun a0 => K .ret [(.v (.int .i64 a0) .no)] [[], [(0, ⟨31, [(.v (.int .i64 n3) .no), (.v (.int .i64 n4) .no), (.v (.int .i64 n5) .no), (.v (.int .i64 n6) .no)]⟩)]]) (K (.exit 0) [.any] [[], [(0, ⟨31, [(.v (.int .i64 n3) .no), (.v (.int .i64 n4) .no), (.v (.int .i64 n5) .no), (.v (.int .i64 n6) .no)]⟩)]])
  | _, _ => none
noncomputable def C_IndexFuncN {R : Type} (N : Nat) (f : Int → Int → List V → Int → Int → Int → Int → Option (Bool)) (x0 : List V) (y0 : Int) (y1 : Int) (y2 : Int) (y3 : Int) (K0 : Int → Option R) : Option R :=
  S_IndexFuncN_2 N f x0 (↑x0.length : Int) y0 y1 y2 y3 N 0 (fun n0 => K0 n0) (K0 (-1))
noncomputable def s_IndexFuncN (N : Nat) (f : Int → Int → List V → Int → Int → Int → Int → Option (Bool)) (x0 : List V) (y0 : Int) (y1 : Int) (y2 : Int) (y3 : Int) : Option (Int) :=
  C_IndexFuncN N f x0 y0 y1 y2 y3 (fun r0 => some r0)
noncomputable def cx_IndexFuncN (N : Nat) (f : Int → Int → List V → Int → Int → Int → Int → Option (Bool)) : Cx := { T := T, isPure := tabP [], pureK := fun g ds K => tabK [] g ds K, memK := fun g dst ds m K => tabMK [⟨70, e_satno (s_satno N f)⟩] g dst ds m K, meth := tabM [], keep := fun r => match r with | 2 => [0, 1, 7, 8] | _ => [], keepX := fun r => match r with | 2 => [4] | _ => [], loopT := fun r ds m K => match r with | 2 => l_IndexFuncN_2 N f ds m K | _ => none, jumps := 9 }
theorem F_IndexFuncN_2_ok {R : Type} (N : Nat) (f : Int → Int → List V → Int → Int → Int → Int → Option (Bool)) (vs0 : List V) (n1 : Int) (n3 : Int) (n4 : Int) (n5 : Int) (n6 : Int) (n2 : Int) (L : List D → Mem → Option R) (K : Ex → List D → Mem → Option R) :
    roundK (fun st K => codeK (cx_IndexFuncN N f) (loopN Tryd.f90 0) st K) 19 [0, 1, 7, 8] [4] L [(.v (.sl 24 vs0) .no), (.clos 70 [(.ptr 1 0 0)]), (.v (.int .i64 n1) .no), (.v (.int .i64 n2) .no)] [[], [(0, ⟨31, [(.v (.int .i64 n3) .no), (.v (.int .i64 n4) .no), (.v (.int .i64 n5) .no), (.v (.int .i64 n6) .no)]⟩)]] K = F_IndexFuncN_2 N f vs0 n1 n3 n4 n5 n6 (fun n2 => L [(.v (.sl 24 vs0) .no), (.clos 70 [(.ptr 1 0 0)]), (.v (.int .i64 n1) .no), (.v (.int .i64 n2) .no)] [[], [(0, ⟨31, [(.v (.int .i64 n3) .no), (.v (.int .i64 n4) .no), (.v (.int .i64 n5) .no), (.v (.int .i64 n6) .no)]⟩)]]) (fun a0 => K .ret [(.v (.int .i64 a0) .no)] [[], [(0, ⟨31, [(.v (.int .i64 n3) .no), (.v (.int .i64 n4) .no), (.v (.int .i64 n5) .no), (.v (.int .i64 n6) .no)]⟩)]]) (K (.exit 0) [.any] [[], [(0, ⟨31, [(.v (.int .i64 n3) .no), (.v (.int .i64 n4) .no), (.v (.int .i64 n5) .no), (.v (.int .i64 n6) .no)]⟩)]]) n2 := by
  kernel_rfl
theorem S_IndexFuncN_2_ok {R : Type} (N : Nat) (f : Int → Int → List V → Int → Int → Int → Int → Option (Bool)) (vs0 : List V) (n1 : Int) (n3 : Int) (n4 : Int) (n5 : Int) (n6 : Int) (K : Ex → List D → Mem → Option R) : ∀ (t : Nat) (n2 : Int),
    loopK (fun st K => codeK (cx_IndexFuncN N f) (loopN Tryd.f90 0) st K) 19 [0, 1, 7, 8] [4] t [(.v (.sl 24 vs0) .no), (.clos 70 [(.ptr 1 0 0)]), (.v (.int .i64 n1) .no), (.v (.int .i64 n2) .no)] [[], [(0, ⟨31, [(.v (.int .i64 n3) .no), (.v (.int .i64 n4) .no), (.v (.int .i64 n5) .no), (.v (.int .i64 n6) .no)]⟩)]] K = S_IndexFuncN_2 N f vs0 n1 n3 n4 n5 n6 t n2 (fun a0 => K .ret [(.v (.int .i64 a0) .no)] [[], [(0, ⟨31, [(.v (.int .i64 n3) .no), (.v (.int .i64 n4) .no), (.v (.int .i64 n5) .no), (.v (.int .i64 n6) .no)]⟩)]]) (K (.exit 0) [.any] [[], [(0, ⟨31, [(.v (.int .i64 n3) .no), (.v (.int .i64 n4) .no), (.v (.int .i64 n5) .no), (.v (.int .i64 n6) .no)]⟩)]])
  | 0, n2 => rfl
  | t + 1, n2 => (F_IndexFuncN_2_ok N f vs0 n1 n3 n4 n5 n6 n2 _ K).trans (congrArg (fun L => F_IndexFuncN_2 N f vs0 n1 n3 n4 n5 n6 L (fun a0 => K .ret [(.v (.int .i64 a0) .no)] [[], [(0, ⟨31, [(.v (.int .i64 n3) .no), (.v (.int .i64 n4) .no), (.v (.int .i64 n5) .no), (.v (.int .i64 n6) .no)]⟩)]]) (K (.exit 0) [.any] [[], [(0, ⟨31, [(.v (.int .i64 n3) .no), (.v (.int .i64 n4) .no), (.v (.int .i64 n5) .no), (.v (.int .i64 n6) .no)]⟩)]]) n2) (funext fun n2 => S_IndexFuncN_2_ok N f vs0 n1 n3 n4 n5 n6 K t n2))
theorem C_IndexFuncN_ok {R : Type} (N : Nat) (f : Int → Int → List V → Int → Int → Int → Int → Option (Bool)) (x0 : List V) (y0 : Int) (y1 : Int) (y2 : Int) (y3 : Int) (K : Int → Int → Int → Int → Int → Option R) : bodyK (cx_IndexFuncN N f) Tryd.f90 [.v (.sl 24 x0) .no, .clos 70 [.ptr 1 0 0]] [frOf 0 [⟨31, [.v (.int .i64 y0) .no, .v (.int .i64 y1) .no, .v (.int .i64 y2) .no, .v (.int .i64 y3) .no]⟩]] (r_IndexFuncN K) = C_IndexFuncN N f x0 y0 y1 y2 y3 (fun r0 => K r0 y0 y1 y2 y3) := by
  kernel_rfl
theorem go_IndexFuncN : Goes Tryd.prog 90 := goes_of Tryd.func90 (by kernel_rfl) (c := bodyOf Tryd.f90) (by kernel_rfl)
theorem eo_IndexFuncN (s : List V → Int → Int → Int → Int → Option (Int)) (hs : ∀ (x0 : List V) (y0 : Int) (y1 : Int) (y2 : Int) (y3 : Int) (r0 : Int), s x0 y0 y1 y2 y3 = some r0 → ViewRet Tryd.prog T 90 [.v (.sl 24 x0) .no, .clos 70 [.ptr 1 0 0]] [⟨31, [.v (.int .i64 y0) .no, .v (.int .i64 y1) .no, .v (.int .i64 y2) .no, .v (.int .i64 y3) .no]⟩] [.v (.int .i64 r0) .no] [⟨31, [.v (.int .i64 y0) .no, .v (.int .i64 y1) .no, .v (.int .i64 y2) .no, .v (.int .i64 y3) .no]⟩]) : MEntOK Tryd.prog T ⟨90, e_IndexFuncN s⟩ := by
  refine ⟨go_IndexFuncN, fun R dst ds m K r h => ?_⟩
  simp only [e_IndexFuncN] at h
  split at h
  · obtain ⟨Bs, a1, a2, a3, h⟩ := viewK_some h
    split at h
    · obtain ⟨r0, h1, h2⟩ := bnd1_some h
      rw [putAllK_eq] at h2
      exact ⟨_, _, h2, hs _ _ _ _ _ _ h1 _ _ m dst a1 a2 a3 ⟨aren_v _, aren_clos ⟨aren_ptr _ rfl, trivial⟩, trivial⟩⟩
    · cases h
  · cases h
theorem co_IndexFuncN (N : Nat) (f : Int → Int → List V → Int → Int → Int → Int → Option (Bool)) (hf : ∀ (x0 : Int) (x1 : Int) (x2 : List V) (x3 : Int) (x4 : Int) (x5 : Int) (x6 : Int) (r0 : Bool), f x0 x1 x2 x3 x4 x5 x6 = some r0 → PureRet Tryd.prog T 44 [.agg [.v (.int .i64 x0) .no, .v (.int .i64 x1) .no, .v (.sl 24 x2) .no], .agg [.v (.int .i64 x3) .no, .v (.int .i64 x4) .no, .v (.int .i64 x5) .no, .v (.int .i64 x6) .no]] [.v (.bool r0) .no]) : CxOK Tryd.prog (cx_IndexFuncN N f) :=
  cxOK_of2 (es := []) (me := [⟨70, e_satno (s_satno N f)⟩]) (ms := []) T_ok trivial ⟨eo_satno _ (p_satno N f hf), trivial⟩ trivial rfl (fun _ _ _ _ => rfl) (fun _ _ _ _ _ _ => rfl) rfl
theorem lk_IndexFuncN_2 (N : Nat) (f : Int → Int → List V → Int → Int → Int → Int → Option (Bool)) : LoopOK (cx_IndexFuncN N f) 19 (loopN Tryd.f90 0) := by
  refine loopOK_of (rid := 2) (by kernel_rfl) rfl rfl fun R ds m K r h => ?_
  have h : l_IndexFuncN_2 N f ds m K = some r := h
  unfold l_IndexFuncN_2 at h
  split at h
  · exact ⟨N, Eq.trans (S_IndexFuncN_2_ok ..) h⟩
  · cases h
theorem lo_IndexFuncN (N : Nat) (f : Int → Int → List V → Int → Int → Int → Int → Option (Bool)) : LoopsOK (cx_IndexFuncN N f) Tryd.f90.ntmps (bodyOf Tryd.f90) :=
  loopsOK_of (k := 1) (by kernel_rfl) ⟨trivial, lk_IndexFuncN_2 N f⟩
open Classical in
theorem p_IndexFuncN (N : Nat) (f : Int → Int → List V → Int → Int → Int → Int → Option (Bool)) (hf : ∀ (x0 : Int) (x1 : Int) (x2 : List V) (x3 : Int) (x4 : Int) (x5 : Int) (x6 : Int) (r0 : Bool), f x0 x1 x2 x3 x4 x5 x6 = some r0 → PureRet Tryd.prog T 44 [.agg [.v (.int .i64 x0) .no, .v (.int .i64 x1) .no, .v (.sl 24 x2) .no], .agg [.v (.int .i64 x3) .no, .v (.int .i64 x4) .no, .v (.int .i64 x5) .no, .v (.int .i64 x6) .no]] [.v (.bool r0) .no]) (x0 : List V) (y0 : Int) (y1 : Int) (y2 : Int) (y3 : Int) (r0 : Int) (h : s_IndexFuncN N f x0 y0 y1 y2 y3 = some r0) : ViewRet Tryd.prog T 90 [.v (.sl 24 x0) .no, .clos 70 [.ptr 1 0 0]] [⟨31, [.v (.int .i64 y0) .no, .v (.int .i64 y1) .no, .v (.int .i64 y2) .no, .v (.int .i64 y3) .no]⟩] [.v (.int .i64 r0) .no] [⟨31, [.v (.int .i64 y0) .no, .v (.int .i64 y1) .no, .v (.int .i64 y2) .no, .v (.int .i64 y3) .no]⟩] := by
  refine view_of (Bs := [⟨31, [.v (.int .i64 y0) .no, .v (.int .i64 y1) .no, .v (.int .i64 y2) .no, .v (.int .i64 y3) .no]⟩]) (Bs' := [⟨31, [.v (.int .i64 y0) .no, .v (.int .i64 y1) .no, .v (.int .i64 y2) .no, .v (.int .i64 y3) .no]⟩]) (cx := cx_IndexFuncN N f) (by kernel_rfl) (co_IndexFuncN N f hf) Tryd.func90 (by kernel_rfl) (by kernel_rfl) (lo_IndexFuncN N f) rfl rfl rfl rfl (rf := r_IndexFuncN (fun r0' z'0 z'1 z'2 z'3 => if z'0 = y0 ∧ z'1 = y1 ∧ z'2 = y2 ∧ z'3 = y3 then some r0' else none)) (r := r0) ?_ ?_
  · exact (C_IndexFuncN_ok N f x0 y0 y1 y2 y3 _).trans ((congrArg (fun K => C_IndexFuncN N f x0 y0 y1 y2 y3 K) (funext fun r0' => if_pos ⟨rfl, rfl, rfl, rfl⟩)).trans h)
  · intro rs' m' hx
    unfold r_IndexFuncN at hx
    split at hx
    · dsimp only at hx
      split at hx
      · rename_i hk
        obtain ⟨rfl, rfl, rfl, rfl⟩ := hk
        cases hx; exact ⟨rfl, rfl, _, rfl⟩
      · cases hx
    · cases hx
noncomputable def e_ContainsFuncN {R : Type} (s : List V → Int → Int → Int → Int → Option (Bool)) (dst : Nat) (ds : List D) (m : Mem) (K : List D → Mem → Option R) : Option R :=
  match ds with
  | [.v (.sl 24 x0) .no, .clos 70 [.ptr (kv0 + 1) sv0 0]] => viewK [(kv0, sv0)] m fun Bs => (match Bs with
    | [⟨31, [.v (.int .i64 y0) .no, .v (.int .i64 y1) .no, .v (.int .i64 y2) .no, .v (.int .i64 y3) .no]⟩] => bnd1 (s x0 y0 y1 y2 y3) fun r0 => putAllK [(kv0, sv0)] [⟨31, [.v (.int .i64 y0) .no, .v (.int .i64 y1) .no, .v (.int .i64 y2) .no, .v (.int .i64 y3) .no]⟩] m fun m' => K [.v (.bool r0) .no] m'
    | _ => none)
  | _ => none
noncomputable def r_ContainsFuncN {α : Type} (K : Bool → Int → Int → Int → Int → Option α) (rs : List D) (m : Mem) : Option α :=
  match rs, m with
  | [.v (.bool r0) _], [_, [(0, ⟨31, [.v (.int .i64 z0) .no, .v (.int .i64 z1) .no, .v (.int .i64 z2) .no, .v (.int .i64 z3) .no]⟩)]] => K r0 z0 z1 z2 z3
  | _, _ => none
noncomputable def C_ContainsFuncN {R : Type} (N : Nat) (f : Int → Int → List V → Int → Int → Int → Int → Option (Bool)) (x0 : List V) (y0 : Int) (y1 : Int) (y2 : Int) (y3 : Int) (K0 : Bool → Option R) : Option R :=
  bnd1 (s_IndexFuncN N f x0 y0 y1 y2 y3) fun n0 => K0 (decide (0 ≤ n0))
noncomputable def s_ContainsFuncN (N : Nat) (f : Int → Int → List V → Int → Int → Int → Int → Option (Bool)) (x0 : List V) (y0 : Int) (y1 : Int) (y2 : Int) (y3 : Int) : Option (Bool) :=
  C_ContainsFuncN N f x0 y0 y1 y2 y3 (fun r0 => some r0)
noncomputable def cx_ContainsFuncN (N : Nat) (f : Int → Int → List V → Int → Int → Int → Int → Option (Bool)) : Cx := { T := T, isPure := tabP [], pureK := fun g ds K => tabK [] g ds K, memK := fun g dst ds m K => tabMK [⟨90, e_IndexFuncN (s_IndexFuncN N f)⟩] g dst ds m K, meth := tabM [], keep := fun _ => [], keepX := fun _ => [], loopT := fun _ _ _ _ => none, jumps := 9 }
theorem C_ContainsFuncN_ok {R : Type} (N : Nat) (f : Int → Int → List V → Int → Int → Int → Int → Option (Bool)) (x0 : List V) (y0 : Int) (y1 : Int) (y2 : Int) (y3 : Int) (K : Bool → Int → Int → Int → Int → Option R) : bodyK (cx_ContainsFuncN N f) Tryd.f68 [.v (.sl 24 x0) .no, .clos 70 [.ptr 1 0 0]] [frOf 0 [⟨31, [.v (.int .i64 y0) .no, .v (.int .i64 y1) .no, .v (.int .i64 y2) .no, .v (.int .i64 y3) .no]⟩]] (r_ContainsFuncN K) = C_ContainsFuncN N f x0 y0 y1 y2 y3 (fun r0 => K r0 y0 y1 y2 y3) := by
  kernel_rfl
theorem go_ContainsFuncN : Goes Tryd.prog 68 := goes_of Tryd.func68 (by kernel_rfl) (c := bodyOf Tryd.f68) (by kernel_rfl)
theorem eo_ContainsFuncN (s : List V → Int → Int → Int → Int → Option (Bool)) (hs : ∀ (x0 : List V) (y0 : Int) (y1 : Int) (y2 : Int) (y3 : Int) (r0 : Bool), s x0 y0 y1 y2 y3 = some r0 → ViewRet Tryd.prog T 68 [.v (.sl 24 x0) .no, .clos 70 [.ptr 1 0 0]] [⟨31, [.v (.int .i64 y0) .no, .v (.int .i64 y1) .no, .v (.int .i64 y2) .no, .v (.int .i64 y3) .no]⟩] [.v (.bool r0) .no] [⟨31, [.v (.int .i64 y0) .no, .v (.int .i64 y1) .no, .v (.int .i64 y2) .no, .v (.int .i64 y3) .no]⟩]) : MEntOK Tryd.prog T ⟨68, e_ContainsFuncN s⟩ := by
  refine ⟨go_ContainsFuncN, fun R dst ds m K r h => ?_⟩
  simp only [e_ContainsFuncN] at h
  split at h
  · obtain ⟨Bs, a1, a2, a3, h⟩ := viewK_some h
    split at h
    · obtain ⟨r0, h1, h2⟩ := bnd1_some h
      rw [putAllK_eq] at h2
      exact ⟨_, _, h2, hs _ _ _ _ _ _ h1 _ _ m dst a1 a2 a3 ⟨aren_v _, aren_clos ⟨aren_ptr _ rfl, trivial⟩, trivial⟩⟩
    · cases h
  · cases h
theorem co_ContainsFuncN (N : Nat) (f : Int → Int → List V → Int → Int → Int → Int → Option (Bool)) (hf : ∀ (x0 : Int) (x1 : Int) (x2 : List V) (x3 : Int) (x4 : Int) (x5 : Int) (x6 : Int) (r0 : Bool), f x0 x1 x2 x3 x4 x5 x6 = some r0 → PureRet Tryd.prog T 44 [.agg [.v (.int .i64 x0) .no, .v (.int .i64 x1) .no, .v (.sl 24 x2) .no], .agg [.v (.int .i64 x3) .no, .v (.int .i64 x4) .no, .v (.int .i64 x5) .no, .v (.int .i64 x6) .no]] [.v (.bool r0) .no]) : CxOK Tryd.prog (cx_ContainsFuncN N f) :=
  cxOK_of2 (es := []) (me := [⟨90, e_IndexFuncN (s_IndexFuncN N f)⟩]) (ms := []) T_ok trivial ⟨eo_IndexFuncN _ (p_IndexFuncN N f hf), trivial⟩ trivial rfl (fun _ _ _ _ => rfl) (fun _ _ _ _ _ _ => rfl) rfl
theorem lo_ContainsFuncN (N : Nat) (f : Int → Int → List V → Int → Int → Int → Int → Option (Bool)) : LoopsOK (cx_ContainsFuncN N f) Tryd.f68.ntmps (bodyOf Tryd.f68) :=
  loopsOK_of (k := 0) (by kernel_rfl) trivial
open Classical in
theorem p_ContainsFuncN (N : Nat) (f : Int → Int → List V → Int → Int → Int → Int → Option (Bool)) (hf : ∀ (x0 : Int) (x1 : Int) (x2 : List V) (x3 : Int) (x4 : Int) (x5 : Int) (x6 : Int) (r0 : Bool), f x0 x1 x2 x3 x4 x5 x6 = some r0 → PureRet Tryd.prog T 44 [.agg [.v (.int .i64 x0) .no, .v (.int .i64 x1) .no, .v (.sl 24 x2) .no], .agg [.v (.int .i64 x3) .no, .v (.int .i64 x4) .no, .v (.int .i64 x5) .no, .v (.int .i64 x6) .no]] [.v (.bool r0) .no]) (x0 : List V) (y0 : Int) (y1 : Int) (y2 : Int) (y3 : Int) (r0 : Bool) (h : s_ContainsFuncN N f x0 y0 y1 y2 y3 = some r0) : ViewRet Tryd.prog T 68 [.v (.sl 24 x0) .no, .clos 70 [.ptr 1 0 0]] [⟨31, [.v (.int .i64 y0) .no, .v (.int .i64 y1) .no, .v (.int .i64 y2) .no, .v (.int .i64 y3) .no]⟩] [.v (.bool r0) .no] [⟨31, [.v (.int .i64 y0) .no, .v (.int .i64 y1) .no, .v (.int .i64 y2) .no, .v (.int .i64 y3) .no]⟩] := by
  refine view_of (Bs := [⟨31, [.v (.int .i64 y0) .no, .v (.int .i64 y1) .no, .v (.int .i64 y2) .no, .v (.int .i64 y3) .no]⟩]) (Bs' := [⟨31, [.v (.int .i64 y0) .no, .v (.int .i64 y1) .no, .v (.int .i64 y2) .no, .v (.int .i64 y3) .no]⟩]) (cx := cx_ContainsFuncN N f) (by kernel_rfl) (co_ContainsFuncN N f hf) Tryd.func68 (by kernel_rfl) (by kernel_rfl) (lo_ContainsFuncN N f) rfl rfl rfl rfl (rf := r_ContainsFuncN (fun r0' z'0 z'1 z'2 z'3 => if z'0 = y0 ∧ z'1 = y1 ∧ z'2 = y2 ∧ z'3 = y3 then some r0' else none)) (r := r0) ?_ ?_
  · exact (C_ContainsFuncN_ok N f x0 y0 y1 y2 y3 _).trans ((congrArg (fun K => C_ContainsFuncN N f x0 y0 y1 y2 y3 K) (funext fun r0' => if_pos ⟨rfl, rfl, rfl, rfl⟩)).trans h)
  · intro rs' m' hx
    unfold r_ContainsFuncN at hx
    split at hx
    · dsimp only at hx
      split at hx
      · rename_i hk
        obtain ⟨rfl, rfl, rfl, rfl⟩ := hk
        cases hx; exact ⟨rfl, rfl, _, rfl⟩
      · cases hx
    · cases hx
noncomputable def e_IndexFuncY {R : Type} (s : List V → Int → Int → Int → Int → Option (Int)) (dst : Nat) (ds : List D) (m : Mem) (K : List D → Mem → Option R) : Option R :=
  match ds with
  | [.v (.sl 24 x0) .no, .clos 71 [.ptr (kv0 + 1) sv0 0]] => viewK [(kv0, sv0)] m fun Bs => (match Bs with
    | [⟨31, [.v (.int .i64 y0) .no, .v (.int .i64 y1) .no, .v (.int .i64 y2) .no, .v (.int .i64 y3) .no]⟩] => bnd1 (s x0 y0 y1 y2 y3) fun r0 => putAllK [(kv0, sv0)] [⟨31, [.v (.int .i64 y0) .no, .v (.int .i64 y1) .no, .v (.int .i64 y2) .no, .v (.int .i64 y3) .no]⟩] m fun m' => K [.v (.int .i64 r0) .no] m'
    | _ => none)
  | _ => none
noncomputable def r_IndexFuncY {α : Type} (K : Int → Int → Int → Int → Int → Option α) (rs : List D) (m : Mem) : Option α :=
  match rs, m with
  | [.v (.int .i64 r0) _], [_, [(0, ⟨31, [.v (.int .i64 z0) .no, .v (.int .i64 z1) .no, .v (.int .i64 z2) .no, .v (.int .i64 z3) .no]⟩)]] => K r0 z0 z1 z2 z3
  | _, _ => none
noncomputable def F_IndexFuncY_2 {R : Type} (N : Nat) (f : Int → Int → List V → Int → Int → Int → Int → Option (Bool)) (vs0 : List V) (n1 : Int) (n3 : Int) (n4 : Int) (n5 : Int) (n6 : Int) (Lq : Int → Option R) (K0 : Int → Option R) (K1 : Option R) (n2 : Int) : Option R :=
  br (decide (n2 < n1))
  (br (decide (0 ≤ n2) && decide (n2 < (↑vs0.length : Int)))
    (at? vs0 n2.toNat fun x0 =>
      x0.unAgg fun l1 =>
        unCons l1 fun x2 l3 =>
          V.unInt IntKind.i64 x2 fun n4_1 =>
            unCons l3 fun x5 l6 => V.unInt IntKind.i64 x5 fun n7 => unCons l6 fun x8 l9 => V.unSl 24 x8 fun l10 => unNil l9 (bnd1 (s_satyes N f n4_1 n7 l10 n3 n4 n5 n6) fun b11 => br b11 (K0 n2) (Lq (IntKind.i64.wrap (n2 + 1)))))
    none)
  K1
noncomputable def S_IndexFuncY_2 {R : Type} (N : Nat) (f : Int → Int → List V → Int → Int → Int → Int → Option (Bool)) (vs0 : List V) (n1 : Int) (n3 : Int) (n4 : Int) (n5 : Int) (n6 : Int) : Nat → Int → (Int → Option R) → (Option R) → Option R
  | 0, _, _, _ => none
  | t + 1, n2, K0, K1 => F_IndexFuncY_2 N f vs0 n1 n3 n4 n5 n6 (fun n2 => S_IndexFuncY_2 N f vs0 n1 n3 n4 n5 n6 t n2 K0 K1) K0 K1 n2
noncomputable def l_IndexFuncY_2 {R : Type} (N : Nat) (f : Int → Int → List V → Int → Int → Int → Int → Option (Bool)) (ds : List D) (m : Mem) (K : Ex → List D → Mem → Option R) : Option R :=
  match ds, m with
  | [(.v (.sl 24 vs0) .no), (.clos 71 [(.ptr 1 0 0)]), (.v (.int .i64 n1) .no), (.v (.int .i64 n2) .no)], [[], [(0, ⟨31, [(.v (.int .i64 n3) .no), (.v (.int .i64 n4) .no), (.v (.int .i64 n5) .no), (.v (.int .i64 n6) .no)]⟩)]] => S_IndexFuncY_2 N f vs0 n1 n3 n4 n5 n6 N n2 (fun a0 => K .ret [(.v (.int .i64 a0) .no)] [[], [(0, ⟨31, [(.v (.int .i64 n3) .no), (.v (.int .i64 n4) .no), (.v (.int .i64 n5) .no), (.v (.int .i64 n6) .no)]⟩)]]) (K (.exit 0) [.any] [[], [(0, ⟨31, [(.v (.int .i64 n3) .no), (.v (.int .i64 n4) .no), (.v (.int .i64 n5) .no), (.v (.int .i64 n6) .no)]⟩)]])
  | _, _ => none
noncomputable def C_IndexFuncY {R : Type} (N : Nat) (f : Int → Int → List V → Int → Int → Int → Int → Option (Bool)) (x0 : List V) (y0 : Int) (y1 : Int) (y2 : Int) (y3 : Int) (K0 : Int → Option R) : Option R :=
  S_IndexFuncY_2 N f x0 (↑x0.length : Int) y0 y1 y2 y3 N 0 (fun n0 => K0 n0) (K0 (-1))
noncomputable def s_IndexFuncY (N : Nat) (f : Int → Int → List V → Int → Int → Int → Int → Option (Bool)) (x0 : List V) (y0 : Int) (y1 : Int) (y2 : Int) (y3 : Int) : Option (Int) :=
  C_IndexFuncY N f x0 y0 y1 y2 y3 (fun r0 => some r0)
noncomputable def cx_IndexFuncY (N : Nat) (f : Int → Int → List V → Int → Int → Int → Int → Option (Bool)) : Cx := { T := T, isPure := tabP [], pureK := fun g ds K => tabK [] g ds K, memK := fun g dst ds m K => tabMK [⟨71, e_satyes (s_satyes N f)⟩] g dst ds m K, meth := tabM [], keep := fun r => match r with | 2 => [0, 1, 7, 8] | _ => [], keepX := fun r => match r with | 2 => [4] | _ => [], loopT := fun r ds m K => match r with | 2 => l_IndexFuncY_2 N f ds m K | _ => none, jumps := 9 }
theorem F_IndexFuncY_2_ok {R : Type} (N : Nat) (f : Int → Int → List V → Int → Int → Int → Int → Option (Bool)) (vs0 : List V) (n1 : Int) (n3 : Int) (n4 : Int) (n5 : Int) (n6 : Int) (n2 : Int) (L : List D → Mem → Option R) (K : Ex → List D → Mem → Option R) :
    roundK (fun st K => codeK (cx_IndexFuncY N f) (loopN Tryd.f90 0) st K) 19 [0, 1, 7, 8] [4] L [(.v (.sl 24 vs0) .no), (.clos 71 [(.ptr 1 0 0)]), (.v (.int .i64 n1) .no), (.v (.int .i64 n2) .no)] [[], [(0, ⟨31, [(.v (.int .i64 n3) .no), (.v (.int .i64 n4) .no), (.v (.int .i64 n5) .no), (.v (.int .i64 n6) .no)]⟩)]] K = F_IndexFuncY_2 N f vs0 n1 n3 n4 n5 n6 (fun n2 => L [(.v (.sl 24 vs0) .no), (.clos 71 [(.ptr 1 0 0)]), (.v (.int .i64 n1) .no), (.v (.int .i64 n2) .no)] [[], [(0, ⟨31, [(.v (.int .i64 n3) .no), (.v (.int .i64 n4) .no), (.v (.int .i64 n5) .no), (.v (.int .i64 n6) .no)]⟩)]]) (fun a0 => K .ret [(.v (.int .i64 a0) .no)] [[], [(0, ⟨31, [(.v (.int .i64 n3) .no), (.v (.int .i64 n4) .no), (.v (.int .i64 n5) .no), (.v (.int .i64 n6) .no)]⟩)]]) (K (.exit 0) [.any] [[], [(0, ⟨31, [(.v (.int .i64 n3) .no), (.v (.int .i64 n4) .no), (.v (.int .i64 n5) .no), (.v (.int .i64 n6) .no)]⟩)]]) n2 := by
  kernel_rfl
theorem S_IndexFuncY_2_ok {R : Type} (N : Nat) (f : Int → Int → List V → Int → Int → Int → Int → Option (Bool)) (vs0 : List V) (n1 : Int) (n3 : Int) (n4 : Int) (n5 : Int) (n6 : Int) (K : Ex → List D → Mem → Option R) : ∀ (t : Nat) (n2 : Int),
    loopK (fun st K => codeK (cx_IndexFuncY N f) (loopN Tryd.f90 0) st K) 19 [0, 1, 7, 8] [4] t [(.v (.sl 24 vs0) .no), (.clos 71 [(.ptr 1 0 0)]), (.v (.int .i64 n1) .no), (.v (.int .i64 n2) .no)] [[], [(0, ⟨31, [(.v (.int .i64 n3) .no), (.v (.int .i64 n4) .no), (.v (.int .i64 n5) .no), (.v (.int .i64 n6) .no)]⟩)]] K = S_IndexFuncY_2 N f vs0 n1 n3 n4 n5 n6 t n2 (fun a0 => K .ret [(.v (.int .i64 a0) .no)] [[], [(0, ⟨31, [(.v (.int .i64 n3) .no), (.v (.int .i64 n4) .no), (.v (.int .i64 n5) .no), (.v (.int .i64 n6) .no)]⟩)]]) (K (.exit 0) [.any] [[], [(0, ⟨31, [(.v (.int .i64 n3) .no), (.v (.int .i64 n4) .no), (.v (.int .i64 n5) .no), (.v (.int .i64 n6) .no)]⟩)]])
  | 0, n2 => rfl
  | t + 1, n2 => (F_IndexFuncY_2_ok N f vs0 n1 n3 n4 n5 n6 n2 _ K).trans (congrArg (fun L => F_IndexFuncY_2 N f vs0 n1 n3 n4 n5 n6 L (fun a0 => K .ret [(.v (.int .i64 a0) .no)] [[], [(0, ⟨31, [(.v (.int .i64 n3) .no), (.v (.int .i64 n4) .no), (.v (.int .i64 n5) .no), (.v (.int .i64 n6) .no)]⟩)]]) (K (.exit 0) [.any] [[], [(0, ⟨31, [(.v (.int .i64 n3) .no), (.v (.int .i64 n4) .no), (.v (.int .i64 n5) .no), (.v (.int .i64 n6) .no)]⟩)]]) n2) (funext fun n2 => S_IndexFuncY_2_ok N f vs0 n1 n3 n4 n5 n6 K t n2))
theorem C_IndexFuncY_ok {R : Type} (N : Nat) (f : Int → Int → List V → Int → Int → Int → Int → Option (Bool)) (x0 : List V) (y0 : Int) (y1 : Int) (y2 : Int) (y3 : Int) (K : Int → Int → Int → Int → Int → Option R) : bodyK (cx_IndexFuncY N f) Tryd.f90 [.v (.sl 24 x0) .no, .clos 71 [.ptr 1 0 0]] [frOf 0 [⟨31, [.v (.int .i64 y0) .no, .v (.int .i64 y1) .no, .v (.int .i64 y2) .no, .v (.int .i64 y3) .no]⟩]] (r_IndexFuncY K) = C_IndexFuncY N f x0 y0 y1 y2 y3 (fun r0 => K r0 y0 y1 y2 y3) := by
  kernel_rfl
theorem go_IndexFuncY : Goes Tryd.prog 90 := goes_of Tryd.func90 (by kernel_rfl) (c := bodyOf Tryd.f90) (by kernel_rfl)
theorem eo_IndexFuncY (s : List V → Int → Int → Int → Int → Option (Int)) (hs : ∀ (x0 : List V) (y0 : Int) (y1 : Int) (y2 : Int) (y3 : Int) (r0 : Int), s x0 y0 y1 y2 y3 = some r0 → ViewRet Tryd.prog T 90 [.v (.sl 24 x0) .no, .clos 71 [.ptr 1 0 0]] [⟨31, [.v (.int .i64 y0) .no, .v (.int .i64 y1) .no, .v (.int .i64 y2) .no, .v (.int .i64 y3) .no]⟩] [.v (.int .i64 r0) .no] [⟨31, [.v (.int .i64 y0) .no, .v (.int .i64 y1) .no, .v (.int .i64 y2) .no, .v (.int .i64 y3) .no]⟩]) : MEntOK Tryd.prog T ⟨90, e_IndexFuncY s⟩ := by
  refine ⟨go_IndexFuncY, fun R dst ds m K r h => ?_⟩
  simp only [e_IndexFuncY] at h
  split at h
  · obtain ⟨Bs, a1, a2, a3, h⟩ := viewK_some h
    split at h
    · obtain ⟨r0, h1, h2⟩ := bnd1_some h
      rw [putAllK_eq] at h2
      exact ⟨_, _, h2, hs _ _ _ _ _ _ h1 _ _ m dst a1 a2 a3 ⟨aren_v _, aren_clos ⟨aren_ptr _ rfl, trivial⟩, trivial⟩⟩
    · cases h
  · cases h
theorem co_IndexFuncY (N : Nat) (f : Int → Int → List V → Int → Int → Int → Int → Option (Bool)) (hf : ∀ (x0 : Int) (x1 : Int) (x2 : List V) (x3 : Int) (x4 : Int) (x5 : Int) (x6 : Int) (r0 : Bool), f x0 x1 x2 x3 x4 x5 x6 = some r0 → PureRet Tryd.prog T 44 [.agg [.v (.int .i64 x0) .no, .v (.int .i64 x1) .no, .v (.sl 24 x2) .no], .agg [.v (.int .i64 x3) .no, .v (.int .i64 x4) .no, .v (.int .i64 x5) .no, .v (.int .i64 x6) .no]] [.v (.bool r0) .no]) : CxOK Tryd.prog (cx_IndexFuncY N f) :=
  cxOK_of2 (es := []) (me := [⟨71, e_satyes (s_satyes N f)⟩]) (ms := []) T_ok trivial ⟨eo_satyes _ (p_satyes N f hf), trivial⟩ trivial rfl (fun _ _ _ _ => rfl) (fun _ _ _ _ _ _ => rfl) rfl
theorem lk_IndexFuncY_2 (N : Nat) (f : Int → Int → List V → Int → Int → Int → Int → Option (Bool)) : LoopOK (cx_IndexFuncY N f) 19 (loopN Tryd.f90 0) := by
  refine loopOK_of (rid := 2) (by kernel_rfl) rfl rfl fun R ds m K r h => ?_
  have h : l_IndexFuncY_2 N f ds m K = some r := h
  unfold l_IndexFuncY_2 at h
  split at h
  · exact ⟨N, Eq.trans (S_IndexFuncY_2_ok ..) h⟩
  · cases h
theorem lo_IndexFuncY (N : Nat) (f : Int → Int → List V → Int → Int → Int → Int → Option (Bool)) : LoopsOK (cx_IndexFuncY N f) Tryd.f90.ntmps (bodyOf Tryd.f90) :=
  loopsOK_of (k := 1) (by kernel_rfl) ⟨trivial, lk_IndexFuncY_2 N f⟩
open Classical in
theorem p_IndexFuncY (N : Nat) (f : Int → Int → List V → Int → Int → Int → Int → Option (Bool)) (hf : ∀ (x0 : Int) (x1 : Int) (x2 : List V) (x3 : Int) (x4 : Int) (x5 : Int) (x6 : Int) (r0 : Bool), f x0 x1 x2 x3 x4 x5 x6 = some r0 → PureRet Tryd.prog T 44 [.agg [.v (.int .i64 x0) .no, .v (.int .i64 x1) .no, .v (.sl 24 x2) .no], .agg [.v (.int .i64 x3) .no, .v (.int .i64 x4) .no, .v (.int .i64 x5) .no, .v (.int .i64 x6) .no]] [.v (.bool r0) .no]) (x0 : List V) (y0 : Int) (y1 : Int) (y2 : Int) (y3 : Int) (r0 : Int) (h : s_IndexFuncY N f x0 y0 y1 y2 y3 = some r0) : ViewRet Tryd.prog T 90 [.v (.sl 24 x0) .no, .clos 71 [.ptr 1 0 0]] [⟨31, [.v (.int .i64 y0) .no, .v (.int .i64 y1) .no, .v (.int .i64 y2) .no, .v (.int .i64 y3) .no]⟩] [.v (.int .i64 r0) .no] [⟨31, [.v (.int .i64 y0) .no, .v (.int .i64 y1) .no, .v (.int .i64 y2) .no, .v (.int .i64 y3) .no]⟩] := by
  refine view_of (Bs := [⟨31, [.v (.int .i64 y0) .no, .v (.int .i64 y1) .no, .v (.int .i64 y2) .no, .v (.int .i64 y3) .no]⟩]) (Bs' := [⟨31, [.v (.int .i64 y0) .no, .v (.int .i64 y1) .no, .v (.int .i64 y2) .no, .v (.int .i64 y3) .no]⟩]) (cx := cx_IndexFuncY N f) (by kernel_rfl) (co_IndexFuncY N f hf) Tryd.func90 (by kernel_rfl) (by kernel_rfl) (lo_IndexFuncY N f) rfl rfl rfl rfl (rf := r_IndexFuncY (fun r0' z'0 z'1 z'2 z'3 => if z'0 = y0 ∧ z'1 = y1 ∧ z'2 = y2 ∧ z'3 = y3 then some r0' else none)) (r := r0) ?_ ?_
  · exact (C_IndexFuncY_ok N f x0 y0 y1 y2 y3 _).trans ((congrArg (fun K => C_IndexFuncY N f x0 y0 y1 y2 y3 K) (funext fun r0' => if_pos ⟨rfl, rfl, rfl, rfl⟩)).trans h)
  · intro rs' m' hx
    unfold r_IndexFuncY at hx
    split at hx
    · dsimp only at hx
      split at hx
      · rename_i hk
        obtain ⟨rfl, rfl, rfl, rfl⟩ := hk
        cases hx; exact ⟨rfl, rfl, _, rfl⟩
      · cases hx
    · cases hx
noncomputable def e_ContainsFuncY {R : Type} (s : List V → Int → Int → Int → Int → Option (Bool)) (dst : Nat) (ds : List D) (m : Mem) (K : List D → Mem → Option R) : Option R :=
  match ds with
  | [.v (.sl 24 x0) .no, .clos 71 [.ptr (kv0 + 1) sv0 0]] => viewK [(kv0, sv0)] m fun Bs => (match Bs with
    | [⟨31, [.v (.int .i64 y0) .no, .v (.int .i64 y1) .no, .v (.int .i64 y2) .no, .v (.int .i64 y3) .no]⟩] => bnd1 (s x0 y0 y1 y2 y3) fun r0 => putAllK [(kv0, sv0)] [⟨31, [.v (.int .i64 y0) .no, .v (.int .i64 y1) .no, .v (.int .i64 y2) .no, .v (.int .i64 y3) .no]⟩] m fun m' => K [.v (.bool r0) .no] m'
    | _ => none)
  | _ => none
noncomputable def r_ContainsFuncY {α : Type} (K : Bool → Int → Int → Int → Int → Option α) (rs : List D) (m : Mem) : Option α :=
  match rs, m with
  | [.v (.bool r0) _], [_, [(0, ⟨31, [.v (.int .i64 z0) .no, .v (.int .i64 z1) .no, .v (.int .i64 z2) .no, .v (.int .i64 z3) .no]⟩)]] => K r0 z0 z1 z2 z3
  | _, _ => none
noncomputable def C_ContainsFuncY {R : Type} (N : Nat) (f : Int → Int → List V → Int → Int → Int → Int → Option (Bool)) (x0 : List V) (y0 : Int) (y1 : Int) (y2 : Int) (y3 : Int) (K0 : Bool → Option R) : Option R :=
  bnd1 (s_IndexFuncY N f x0 y0 y1 y2 y3) fun n0 => K0 (decide (0 ≤ n0))
noncomputable def s_ContainsFuncY (N : Nat) (f : Int → Int → List V → Int → Int → Int → Int → Option (Bool)) (x0 : List V) (y0 : Int) (y1 : Int) (y2 : Int) (y3 : Int) : Option (Bool) :=
  C_ContainsFuncY N f x0 y0 y1 y2 y3 (fun r0 => some r0)
noncomputable def cx_ContainsFuncY (N : Nat) (f : Int → Int → List V → Int → Int → Int → Int → Option (Bool)) : Cx := { T := T, isPure := tabP [], pureK := fun g ds K => tabK [] g ds K, memK := fun g dst ds m K => tabMK [⟨90, e_IndexFuncY (s_IndexFuncY N f)⟩] g dst ds m K, meth := tabM [], keep := fun _ => [], keepX := fun _ => [], loopT := fun _ _ _ _ => none, jumps := 9 }
theorem C_ContainsFuncY_ok {R : Type} (N : Nat) (f : Int → Int → List V → Int → Int → Int → Int → Option (Bool)) (x0 : List V) (y0 : Int) (y1 : Int) (y2 : Int) (y3 : Int) (K : Bool → Int → Int → Int → Int → Option R) : bodyK (cx_ContainsFuncY N f) Tryd.f68 [.v (.sl 24 x0) .no, .clos 71 [.ptr 1 0 0]] [frOf 0 [⟨31, [.v (.int .i64 y0) .no, .v (.int .i64 y1) .no, .v (.int .i64 y2) .no, .v (.int .i64 y3) .no]⟩]] (r_ContainsFuncY K) = C_ContainsFuncY N f x0 y0 y1 y2 y3 (fun r0 => K r0 y0 y1 y2 y3) := by
  kernel_rfl
theorem go_ContainsFuncY : Goes Tryd.prog 68 := goes_of Tryd.func68 (by kernel_rfl) (c := bodyOf Tryd.f68) (by kernel_rfl)
theorem eo_ContainsFuncY (s : List V → Int → Int → Int → Int → Option (Bool)) (hs : ∀ (x0 : List V) (y0 : Int) (y1 : Int) (y2 : Int) (y3 : Int) (r0 : Bool), s x0 y0 y1 y2 y3 = some r0 → ViewRet Tryd.prog T 68 [.v (.sl 24 x0) .no, .clos 71 [.ptr 1 0 0]] [⟨31, [.v (.int .i64 y0) .no, .v (.int .i64 y1) .no, .v (.int .i64 y2) .no, .v (.int .i64 y3) .no]⟩] [.v (.bool r0) .no] [⟨31, [.v (.int .i64 y0) .no, .v (.int .i64 y1) .no, .v (.int .i64 y2) .no, .v (.int .i64 y3) .no]⟩]) : MEntOK Tryd.prog T ⟨68, e_ContainsFuncY s⟩ := by
  refine ⟨go_ContainsFuncY, fun R dst ds m K r h => ?_⟩
  simp only [e_ContainsFuncY] at h
  split at h
  · obtain ⟨Bs, a1, a2, a3, h⟩ := viewK_some h
    split at h
    · obtain ⟨r0, h1, h2⟩ := bnd1_some h
      rw [putAllK_eq] at h2
      exact ⟨_, _, h2, hs _ _ _ _ _ _ h1 _ _ m dst a1 a2 a3 ⟨aren_v _, aren_clos ⟨aren_ptr _ rfl, trivial⟩, trivial⟩⟩
    · cases h
  · cases h
theorem co_ContainsFuncY (N : Nat) (f : Int → Int → List V → Int → Int → Int → Int → Option (Bool)) (hf : ∀ (x0 : Int) (x1 : Int) (x2 : List V) (x3 : Int) (x4 : Int) (x5 : Int) (x6 : Int) (r0 : Bool), f x0 x1 x2 x3 x4 x5 x6 = some r0 → PureRet Tryd.prog T 44 [.agg [.v (.int .i64 x0) .no, .v (.int .i64 x1) .no, .v (.sl 24 x2) .no], .agg [.v (.int .i64 x3) .no, .v (.int .i64 x4) .no, .v (.int .i64 x5) .no, .v (.int .i64 x6) .no]] [.v (.bool r0) .no]) : CxOK Tryd.prog (cx_ContainsFuncY N f) :=
  cxOK_of2 (es := []) (me := [⟨90, e_IndexFuncY (s_IndexFuncY N f)⟩]) (ms := []) T_ok trivial ⟨eo_IndexFuncY _ (p_IndexFuncY N f hf), trivial⟩ trivial rfl (fun _ _ _ _ => rfl) (fun _ _ _ _ _ _ => rfl) rfl
theorem lo_ContainsFuncY (N : Nat) (f : Int → Int → List V → Int → Int → Int → Int → Option (Bool)) : LoopsOK (cx_ContainsFuncY N f) Tryd.f68.ntmps (bodyOf Tryd.f68) :=
  loopsOK_of (k := 0) (by kernel_rfl) trivial
open Classical in
theorem p_ContainsFuncY (N : Nat) (f : Int → Int → List V → Int → Int → Int → Int → Option (Bool)) (hf : ∀ (x0 : Int) (x1 : Int) (x2 : List V) (x3 : Int) (x4 : Int) (x5 : Int) (x6 : Int) (r0 : Bool), f x0 x1 x2 x3 x4 x5 x6 = some r0 → PureRet Tryd.prog T 44 [.agg [.v (.int .i64 x0) .no, .v (.int .i64 x1) .no, .v (.sl 24 x2) .no], .agg [.v (.int .i64 x3) .no, .v (.int .i64 x4) .no, .v (.int .i64 x5) .no, .v (.int .i64 x6) .no]] [.v (.bool r0) .no]) (x0 : List V) (y0 : Int) (y1 : Int) (y2 : Int) (y3 : Int) (r0 : Bool) (h : s_ContainsFuncY N f x0 y0 y1 y2 y3 = some r0) : ViewRet Tryd.prog T 68 [.v (.sl 24 x0) .no, .clos 71 [.ptr 1 0 0]] [⟨31, [.v (.int .i64 y0) .no, .v (.int .i64 y1) .no, .v (.int .i64 y2) .no, .v (.int .i64 y3) .no]⟩] [.v (.bool r0) .no] [⟨31, [.v (.int .i64 y0) .no, .v (.int .i64 y1) .no, .v (.int .i64 y2) .no, .v (.int .i64 y3) .no]⟩] := by
  refine view_of (Bs := [⟨31, [.v (.int .i64 y0) .no, .v (.int .i64 y1) .no, .v (.int .i64 y2) .no, .v (.int .i64 y3) .no]⟩]) (Bs' := [⟨31, [.v (.int .i64 y0) .no, .v (.int .i64 y1) .no, .v (.int .i64 y2) .no, .v (.int .i64 y3) .no]⟩]) (cx := cx_ContainsFuncY N f) (by kernel_rfl) (co_ContainsFuncY N f hf) Tryd.func68 (by kernel_rfl) (by kernel_rfl) (lo_ContainsFuncY N f) rfl rfl rfl rfl (rf := r_ContainsFuncY (fun r0' z'0 z'1 z'2 z'3 => if z'0 = y0 ∧ z'1 = y1 ∧ z'2 = y2 ∧ z'3 = y3 then some r0' else none)) (r := r0) ?_ ?_
  · exact (C_ContainsFuncY_ok N f x0 y0 y1 y2 y3 _).trans ((congrArg (fun K => C_ContainsFuncY N f x0 y0 y1 y2 y3 K) (funext fun r0' => if_pos ⟨rfl, rfl, rfl, rfl⟩)).trans h)
  · intro rs' m' hx
    unfold r_ContainsFuncY at hx
    split at hx
    · dsimp only at hx
      split at hx
      · rename_i hk
        obtain ⟨rfl, rfl, rfl, rfl⟩ := hk
        cases hx; exact ⟨rfl, rfl, _, rfl⟩
      · cases hx
    · cases hx
noncomputable def r_asat (rs : List D) (_ : Mem) : Option (Bool) :=
  match rs with
  | [.v (.bool r0) _] => some (r0)
  | _ => none
noncomputable def B_asat (N : Nat) (f : Int → Int → List V → Int → Int → Int → Int → Option (Bool)) (x0 : Int) (x1 : Int) (x2 : List V) (x3 : Int) (x4 : Int) (x5 : Int) (x6 : Int) : Option (Bool) :=
  br (decide (x0 = 6)) (bnd1 (s_ContainsFuncN N f x2 x3 x4 x5 x6) fun b0 => some !b0)
  (br (decide (x0 = 7)) (bnd1 (s_ContainsFuncY N f x2 x3 x4 x5 x6) fun b1 => some b1)
    (br (decide (x0 = 2)) (br (decide (0 ≤ x1)) (some (decide (bitsI BinOp.and IntKind.i64 (shrI IntKind.i64 x3 x1) 1 = 1))) none)
      (br (decide (x0 = 3)) (br (decide (0 ≤ x1)) (some (decide (bitsI BinOp.and IntKind.i64 (shrI IntKind.i64 x4 x1) 1 = 1))) none)
        (br (decide (x0 = 4)) (some (decide (x1 ≤ x5))) (br (decide (x0 = 5)) (some (decide (bitsI BinOp.and IntKind.i64 x6 x1 = x1))) (some (decide (x0 = 1))))))))
noncomputable def s_asat (N : Nat) : Nat → Int → Int → List V → Int → Int → Int → Int → Option (Bool)
  | 0, _, _, _, _, _, _, _ => none
  | n + 1, x0, x1, x2, x3, x4, x5, x6 => B_asat N (s_asat N n) x0 x1 x2 x3 x4 x5 x6
noncomputable def cx_asat (N : Nat) (f : Int → Int → List V → Int → Int → Int → Int → Option (Bool)) : Cx := { T := T, isPure := tabP [⟨44, e_asat f⟩], pureK := fun g ds K => tabK [⟨44, e_asat f⟩] g ds K, memK := fun g dst ds m K => tabMK [(selM 70 ⟨68, e_ContainsFuncN (s_ContainsFuncN N f)⟩ ⟨68, e_ContainsFuncY (s_ContainsFuncY N f)⟩), ⟨70, e_satno (s_satno N f)⟩, ⟨71, e_satyes (s_satyes N f)⟩] g dst ds m K, meth := tabM [], keep := fun _ => [], keepX := fun _ => [], loopT := fun _ _ _ _ => none, jumps := 9 }
theorem B_asat_ok (N : Nat) (f : Int → Int → List V → Int → Int → Int → Int → Option (Bool)) (x0 : Int) (x1 : Int) (x2 : List V) (x3 : Int) (x4 : Int) (x5 : Int) (x6 : Int) : bodyK (cx_asat N f) Tryd.f44 [.agg [.v (.int .i64 x0) .no, .v (.int .i64 x1) .no, .v (.sl 24 x2) .no], .agg [.v (.int .i64 x3) .no, .v (.int .i64 x4) .no, .v (.int .i64 x5) .no, .v (.int .i64 x6) .no]] [] r_asat = B_asat N f x0 x1 x2 x3 x4 x5 x6 := by
  kernel_rfl
theorem co_asat (N : Nat) (f : Int → Int → List V → Int → Int → Int → Int → Option (Bool)) (hf : ∀ (x0 : Int) (x1 : Int) (x2 : List V) (x3 : Int) (x4 : Int) (x5 : Int) (x6 : Int) (r0 : Bool), f x0 x1 x2 x3 x4 x5 x6 = some r0 → PureRet Tryd.prog T 44 [.agg [.v (.int .i64 x0) .no, .v (.int .i64 x1) .no, .v (.sl 24 x2) .no], .agg [.v (.int .i64 x3) .no, .v (.int .i64 x4) .no, .v (.int .i64 x5) .no, .v (.int .i64 x6) .no]] [.v (.bool r0) .no]) : CxOK Tryd.prog (cx_asat N f) :=
  cxOK_of2 (es := [⟨44, e_asat f⟩]) (me := [(selM 70 ⟨68, e_ContainsFuncN (s_ContainsFuncN N f)⟩ ⟨68, e_ContainsFuncY (s_ContainsFuncY N f)⟩), ⟨70, e_satno (s_satno N f)⟩, ⟨71, e_satyes (s_satyes N f)⟩]) (ms := []) T_ok ⟨eo_asat f hf, trivial⟩ ⟨selM_ok rfl (eo_ContainsFuncN _ (p_ContainsFuncN N f hf)) (eo_ContainsFuncY _ (p_ContainsFuncY N f hf)), eo_satno _ (p_satno N f hf), eo_satyes _ (p_satyes N f hf), trivial⟩ trivial rfl (fun _ _ _ _ => rfl) (fun _ _ _ _ _ _ => rfl) rfl
theorem lo_asat (N : Nat) (f : Int → Int → List V → Int → Int → Int → Int → Option (Bool)) : LoopsOK (cx_asat N f) Tryd.f44.ntmps (bodyOf Tryd.f44) :=
  loopsOK_of (k := 0) (by kernel_rfl) trivial
theorem p_asat (N : Nat) : ∀ (M : Nat) (x0 : Int) (x1 : Int) (x2 : List V) (x3 : Int) (x4 : Int) (x5 : Int) (x6 : Int) (r0 : Bool), s_asat N M x0 x1 x2 x3 x4 x5 x6 = some r0 → PureRet Tryd.prog T 44 [.agg [.v (.int .i64 x0) .no, .v (.int .i64 x1) .no, .v (.sl 24 x2) .no], .agg [.v (.int .i64 x3) .no, .v (.int .i64 x4) .no, .v (.int .i64 x5) .no, .v (.int .i64 x6) .no]] [.v (.bool r0) .no]
  | 0, _, _, _, _, _, _, _, _, h => by cases h
  | M + 1, x0, x1, x2, x3, x4, x5, x6, r0, h => pure_of (cx := cx_asat N (s_asat N M)) (by kernel_rfl) (co_asat N (s_asat N M) (p_asat N M)) Tryd.func44 (by kernel_rfl) (by kernel_rfl) (lo_asat N (s_asat N M)) rfl rfl rfl (rf := r_asat) ((B_asat_ok N (s_asat N M) x0 x1 x2 x3 x4 x5 x6).trans h) (fun rs' m h => by
    unfold r_asat at h
    split at h
    · cases h; exact ⟨rfl, rfl⟩
    · cases h)
noncomputable def e_aHolds {R : Type} (s : Int → Int → List V → Int → Int → Int → Int → Option (Bool)) (ds : List D) (K : List D → Option R) : Option R :=
  match ds with
  | [.agg [.v (.int .i64 x0) .no, .v (.int .i64 x1) .no, .v (.sl 24 x2) .no], .agg [.v (.int .i64 x3) .no, .v (.int .i64 x4) .no, .v (.int .i64 x5) .no, .v (.int .i64 x6) .no]] => bnd1 (s x0 x1 x2 x3 x4 x5 x6) fun r0 => K [.v (.bool r0) .no]
  | _ => none
noncomputable def r_aHolds (rs : List D) (_ : Mem) : Option (Bool) :=
  match rs with
  | [.v (.bool r0) _] => some (r0)
  | _ => none
noncomputable def s_aHolds (N : Nat) (x0 : Int) (x1 : Int) (x2 : List V) (x3 : Int) (x4 : Int) (x5 : Int) (x6 : Int) : Option (Bool) :=
  bnd1 (s_aCheck N x0 x1 x2) fun n0 => br (decide (n0 = 0)) (bnd1 (s_asat N N x0 x1 x2 x3 x4 x5 x6) fun b1 => some b1) (some false)
noncomputable def cx_aHolds (N : Nat) : Cx := { T := T, isPure := tabP [⟨17, e_aCheck (s_aCheck N)⟩, ⟨44, e_asat (s_asat N N)⟩], pureK := fun g ds K => tabK [⟨17, e_aCheck (s_aCheck N)⟩, ⟨44, e_asat (s_asat N N)⟩] g ds K, memK := fun g dst ds m K => tabMK [] g dst ds m K, meth := tabM [], keep := fun _ => [], keepX := fun _ => [], loopT := fun _ _ _ _ => none, jumps := 9 }
theorem s_aHolds_ok (N : Nat) (x0 : Int) (x1 : Int) (x2 : List V) (x3 : Int) (x4 : Int) (x5 : Int) (x6 : Int) : bodyK (cx_aHolds N) Tryd.f19 [.agg [.v (.int .i64 x0) .no, .v (.int .i64 x1) .no, .v (.sl 24 x2) .no], .agg [.v (.int .i64 x3) .no, .v (.int .i64 x4) .no, .v (.int .i64 x5) .no, .v (.int .i64 x6) .no]] [] r_aHolds = s_aHolds N x0 x1 x2 x3 x4 x5 x6 := by
  kernel_rfl
theorem go_aHolds : Goes Tryd.prog 19 := goes_of Tryd.func19 (by kernel_rfl) (c := bodyOf Tryd.f19) (by kernel_rfl)
theorem eo_aHolds (s : Int → Int → List V → Int → Int → Int → Int → Option (Bool)) (hs : ∀ (x0 : Int) (x1 : Int) (x2 : List V) (x3 : Int) (x4 : Int) (x5 : Int) (x6 : Int) (r0 : Bool), s x0 x1 x2 x3 x4 x5 x6 = some r0 → PureRet Tryd.prog T 19 [.agg [.v (.int .i64 x0) .no, .v (.int .i64 x1) .no, .v (.sl 24 x2) .no], .agg [.v (.int .i64 x3) .no, .v (.int .i64 x4) .no, .v (.int .i64 x5) .no, .v (.int .i64 x6) .no]] [.v (.bool r0) .no]) : EntOK Tryd.prog T ⟨19, e_aHolds s⟩ := by
  refine ⟨go_aHolds, fun R ds K r h => ?_, fun R ds K => ?_⟩
  · simp only [e_aHolds] at h
    split at h
    · obtain ⟨r0, h1, h2⟩ := bnd1_some h
      exact ⟨_, h2, hs _ _ _ _ _ _ _ _ h1⟩
    · cases h
  · simp only [e_aHolds]
    split
    · rw [bnd1_b]; rfl
    · rfl
theorem co_aHolds (N : Nat) : CxOK Tryd.prog (cx_aHolds N) :=
  cxOK_of2 (es := [⟨17, e_aCheck (s_aCheck N)⟩, ⟨44, e_asat (s_asat N N)⟩]) (me := []) (ms := []) T_ok ⟨eo_aCheck _ (p_aCheck N), eo_asat _ (p_asat N N), trivial⟩ trivial trivial rfl (fun _ _ _ _ => rfl) (fun _ _ _ _ _ _ => rfl) rfl
theorem lo_aHolds (N : Nat) : LoopsOK (cx_aHolds N) Tryd.f19.ntmps (bodyOf Tryd.f19) :=
  loopsOK_of (k := 0) (by kernel_rfl) trivial
theorem p_aHolds (N : Nat) (x0 : Int) (x1 : Int) (x2 : List V) (x3 : Int) (x4 : Int) (x5 : Int) (x6 : Int) (r0 : Bool) (h : s_aHolds N x0 x1 x2 x3 x4 x5 x6 = some r0) : PureRet Tryd.prog T 19 [.agg [.v (.int .i64 x0) .no, .v (.int .i64 x1) .no, .v (.sl 24 x2) .no], .agg [.v (.int .i64 x3) .no, .v (.int .i64 x4) .no, .v (.int .i64 x5) .no, .v (.int .i64 x6) .no]] [.v (.bool r0) .no] :=
  pure_of (cx := cx_aHolds N) (by kernel_rfl) (co_aHolds N) Tryd.func19 (by kernel_rfl) (by kernel_rfl) (lo_aHolds N) rfl rfl rfl (rf := r_aHolds) ((s_aHolds_ok N x0 x1 x2 x3 x4 x5 x6).trans h) (fun rs' m h => by
    unfold r_aHolds at h
    split at h
    · cases h; exact ⟨rfl, rfl⟩
    · cases h)
noncomputable def e_join {R : Type} (s : Int → Int → Int → Int → Int → Int → Int → Int → Option (Int × Int × Int × Int)) (ds : List D) (K : List D → Option R) : Option R :=
  match ds with
  | [.agg [.v (.int .i64 x0) .no, .v (.int .i64 x1) .no, .v (.int .i64 x2) .no, .v (.int .i64 x3) .no], .agg [.v (.int .i64 x4) .no, .v (.int .i64 x5) .no, .v (.int .i64 x6) .no, .v (.int .i64 x7) .no]] => bnd4 (s x0 x1 x2 x3 x4 x5 x6 x7) fun r0 r1 r2 r3 => K [.agg [.v (.int .i64 r0) .no, .v (.int .i64 r1) .no, .v (.int .i64 r2) .no, .v (.int .i64 r3) .no]]
  | _ => none
noncomputable def r_join (rs : List D) (_ : Mem) : Option (Int × Int × Int × Int) :=
  match rs with
  | [.agg [.v (.int .i64 r0) _, .v (.int .i64 r1) _, .v (.int .i64 r2) _, .v (.int .i64 r3) _]] => some (r0, r1, r2, r3)
  | _ => none
noncomputable def s_join (N : Nat) (x0 : Int) (x1 : Int) (x2 : Int) (x3 : Int) (x4 : Int) (x5 : Int) (x6 : Int) (x7 : Int) : Option (Int × Int × Int × Int) :=
  some
  (bitsI BinOp.or IntKind.i64 x0 x4, bitsI BinOp.or IntKind.i64 x1 x5,
    match true with
    | true => max x2 x6
    | false => min x2 x6,
    bitsI BinOp.or IntKind.i64 x3 x7)
noncomputable def cx_join (N : Nat) : Cx := { T := T, isPure := tabP [], pureK := fun g ds K => tabK [] g ds K, memK := fun g dst ds m K => tabMK [] g dst ds m K, meth := tabM [], keep := fun _ => [], keepX := fun _ => [], loopT := fun _ _ _ _ => none, jumps := 9 }
theorem s_join_ok (N : Nat) (x0 : Int) (x1 : Int) (x2 : Int) (x3 : Int) (x4 : Int) (x5 : Int) (x6 : Int) (x7 : Int) : bodyK (cx_join N) Tryd.f74 [.agg [.v (.int .i64 x0) .no, .v (.int .i64 x1) .no, .v (.int .i64 x2) .no, .v (.int .i64 x3) .no], .agg [.v (.int .i64 x4) .no, .v (.int .i64 x5) .no, .v (.int .i64 x6) .no, .v (.int .i64 x7) .no]] [] r_join = s_join N x0 x1 x2 x3 x4 x5 x6 x7 := by
  kernel_rfl
theorem go_join : Goes Tryd.prog 74 := goes_of Tryd.func74 (by kernel_rfl) (c := bodyOf Tryd.f74) (by kernel_rfl)
theorem eo_join (s : Int → Int → Int → Int → Int → Int → Int → Int → Option (Int × Int × Int × Int)) (hs : ∀ (x0 : Int) (x1 : Int) (x2 : Int) (x3 : Int) (x4 : Int) (x5 : Int) (x6 : Int) (x7 : Int) (r0 : Int) (r1 : Int) (r2 : Int) (r3 : Int), s x0 x1 x2 x3 x4 x5 x6 x7 = some (r0, r1, r2, r3) → PureRet Tryd.prog T 74 [.agg [.v (.int .i64 x0) .no, .v (.int .i64 x1) .no, .v (.int .i64 x2) .no, .v (.int .i64 x3) .no], .agg [.v (.int .i64 x4) .no, .v (.int .i64 x5) .no, .v (.int .i64 x6) .no, .v (.int .i64 x7) .no]] [.agg [.v (.int .i64 r0) .no, .v (.int .i64 r1) .no, .v (.int .i64 r2) .no, .v (.int .i64 r3) .no]]) : EntOK Tryd.prog T ⟨74, e_join s⟩ := by
  refine ⟨go_join, fun R ds K r h => ?_, fun R ds K => ?_⟩
  · simp only [e_join] at h
    split at h
    · obtain ⟨r0, r1, r2, r3, h1, h2⟩ := bnd4_some h
      exact ⟨_, h2, hs _ _ _ _ _ _ _ _ _ _ _ _ h1⟩
    · cases h
  · simp only [e_join]
    split
    · rw [bnd4_b]; rfl
    · rfl
theorem co_join (N : Nat) : CxOK Tryd.prog (cx_join N) :=
  cxOK_of2 (es := []) (me := []) (ms := []) T_ok trivial trivial trivial rfl (fun _ _ _ _ => rfl) (fun _ _ _ _ _ _ => rfl) rfl
theorem lo_join (N : Nat) : LoopsOK (cx_join N) Tryd.f74.ntmps (bodyOf Tryd.f74) :=
  loopsOK_of (k := 0) (by kernel_rfl) trivial
theorem p_join (N : Nat) (x0 : Int) (x1 : Int) (x2 : Int) (x3 : Int) (x4 : Int) (x5 : Int) (x6 : Int) (x7 : Int) (r0 : Int) (r1 : Int) (r2 : Int) (r3 : Int) (h : s_join N x0 x1 x2 x3 x4 x5 x6 x7 = some (r0, r1, r2, r3)) : PureRet Tryd.prog T 74 [.agg [.v (.int .i64 x0) .no, .v (.int .i64 x1) .no, .v (.int .i64 x2) .no, .v (.int .i64 x3) .no], .agg [.v (.int .i64 x4) .no, .v (.int .i64 x5) .no, .v (.int .i64 x6) .no, .v (.int .i64 x7) .no]] [.agg [.v (.int .i64 r0) .no, .v (.int .i64 r1) .no, .v (.int .i64 r2) .no, .v (.int .i64 r3) .no]] :=
  pure_of (cx := cx_join N) (by kernel_rfl) (co_join N) Tryd.func74 (by kernel_rfl) (by kernel_rfl) (lo_join N) rfl rfl rfl (rf := r_join) ((s_join_ok N x0 x1 x2 x3 x4 x5 x6 x7).trans h) (fun rs' m h => by
    unfold r_join at h
    split at h
    · cases h; exact ⟨rfl, rfl⟩
    · cases h)
noncomputable def e_IndexS {R : Type} (s : List V → Int → Int → Int → Int → Option (Int)) (ds : List D) (K : List D → Option R) : Option R :=
  match ds with
  | [.v (.sl 31 x0) .no, .agg [.v (.int .i64 x1) .no, .v (.int .i64 x2) .no, .v (.int .i64 x3) .no, .v (.int .i64 x4) .no]] => bnd1 (s x0 x1 x2 x3 x4) fun r0 => K [.v (.int .i64 r0) .no]
  | _ => none
noncomputable def r_IndexS (rs : List D) (_ : Mem) : Option (Int) :=
  match rs with
  | [.v (.int .i64 r0) _] => some (r0)
  | _ => none
noncomputable def F_IndexS_2 {R : Type} (N : Nat) (vs0 : List V) (n1 : Int) (n3 : Int) (n4 : Int) (n5 : Int) (n6 : Int) (Lq : Int → Option R) (K0 : Int → Option R) (K1 : Option R) (n2 : Int) : Option R :=
  br (decide (n2 < n1))
  (br (decide (0 ≤ n2) && decide (n2 < (↑vs0.length : Int)))
    (at? vs0 n2.toNat fun x0 =>
      x0.unAgg fun l1 =>
        unCons l1 fun x2 l3 =>
          V.unInt IntKind.i64 x2 fun n4_1 =>
            unCons l3 fun x5 l6 =>
              V.unInt IntKind.i64 x5 fun n7 =>
                unCons l6 fun x8 l9 =>
                  V.unInt IntKind.i64 x8 fun n10 =>
                    unCons l9 fun x11 l12 => V.unInt IntKind.i64 x11 fun n13 => unNil l12 (br (decide (n3 = n4_1) && (decide (n4 = n7) && (decide (n5 = n10) && (decide (n6 = n13) && true)))) (K0 n2) (Lq (IntKind.i64.wrap (n2 + 1)))))
    none)
  K1
noncomputable def S_IndexS_2 {R : Type} (N : Nat) (vs0 : List V) (n1 : Int) (n3 : Int) (n4 : Int) (n5 : Int) (n6 : Int) : Nat → Int → (Int → Option R) → (Option R) → Option R
  | 0, _, _, _ => none
  | t + 1, n2, K0, K1 => F_IndexS_2 N vs0 n1 n3 n4 n5 n6 (fun n2 => S_IndexS_2 N vs0 n1 n3 n4 n5 n6 t n2 K0 K1) K0 K1 n2
noncomputable def l_IndexS_2 {R : Type} (N : Nat) (ds : List D) (m : Mem) (K : Ex → List D → Mem → Option R) : Option R :=
  match ds, m with
  | [(.v (.sl 31 vs0) .no), (.ptr 0 3 0), (.v (.int .i64 n1) .no), (.v (.int .i64 n2) .no)], [[(3, ⟨31, [(.v (.int .i64 n3) .no), (.v (.int .i64 n4) .no), (.v (.int .i64 n5) .no), (.v (.int .i64 n6) .no)]⟩)]] => S_IndexS_2 N vs0 n1 n3 n4 n5 n6 N n2 (fun a0 => K .ret [(.ptr 0 3 0), (.v (.int .i64 a0) .no)] [[(3, ⟨31, [(.v (.int .i64 n3) .no), (.v (.int .i64 n4) .no), (.v (.int .i64 n5) .no), (.v (.int .i64 n6) .no)]⟩)]]) (K (.exit 0) [(.ptr 0 3 0), .any] [[(3, ⟨31, [(.v (.int .i64 n3) .no), (.v (.int .i64 n4) .no), (.v (.int .i64 n5) .no), (.v (.int .i64 n6) .no)]⟩)]])
  | _, _ => none
noncomputable def s_IndexS (N : Nat) (x0 : List V) (x1 : Int) (x2 : Int) (x3 : Int) (x4 : Int) : Option (Int) :=
  S_IndexS_2 N x0 (↑x0.length : Int) x1 x2 x3 x4 N 0 (fun n0 => some n0) (some (-1))
noncomputable def cx_IndexS (N : Nat) : Cx := { T := T, isPure := tabP [], pureK := fun g ds K => tabK [] g ds K, memK := fun g dst ds m K => tabMK [] g dst ds m K, meth := tabM [], keep := fun r => match r with | 2 => [0, 3, 7, 8] | _ => [], keepX := fun r => match r with | 2 => [3, 4] | _ => [], loopT := fun r ds m K => match r with | 2 => l_IndexS_2 N ds m K | _ => none, jumps := 9 }
theorem F_IndexS_2_ok {R : Type} (N : Nat) (vs0 : List V) (n1 : Int) (n3 : Int) (n4 : Int) (n5 : Int) (n6 : Int) (n2 : Int) (L : List D → Mem → Option R) (K : Ex → List D → Mem → Option R) :
    roundK (fun st K => codeK (cx_IndexS N) (loopN Tryd.f91 0) st K) 19 [0, 3, 7, 8] [3, 4] L [(.v (.sl 31 vs0) .no), (.ptr 0 3 0), (.v (.int .i64 n1) .no), (.v (.int .i64 n2) .no)] [[(3, ⟨31, [(.v (.int .i64 n3) .no), (.v (.int .i64 n4) .no), (.v (.int .i64 n5) .no), (.v (.int .i64 n6) .no)]⟩)]] K = F_IndexS_2 N vs0 n1 n3 n4 n5 n6 (fun n2 => L [(.v (.sl 31 vs0) .no), (.ptr 0 3 0), (.v (.int .i64 n1) .no), (.v (.int .i64 n2) .no)] [[(3, ⟨31, [(.v (.int .i64 n3) .no), (.v (.int .i64 n4) .no), (.v (.int .i64 n5) .no), (.v (.int .i64 n6) .no)]⟩)]]) (fun a0 => K .ret [(.ptr 0 3 0), (.v (.int .i64 a0) .no)] [[(3, ⟨31, [(.v (.int .i64 n3) .no), (.v (.int .i64 n4) .no), (.v (.int .i64 n5) .no), (.v (.int .i64 n6) .no)]⟩)]]) (K (.exit 0) [(.ptr 0 3 0), .any] [[(3, ⟨31, [(.v (.int .i64 n3) .no), (.v (.int .i64 n4) .no), (.v (.int .i64 n5) .no), (.v (.int .i64 n6) .no)]⟩)]]) n2 := by
  kernel_rfl
theorem S_IndexS_2_ok {R : Type} (N : Nat) (vs0 : List V) (n1 : Int) (n3 : Int) (n4 : Int) (n5 : Int) (n6 : Int) (K : Ex → List D → Mem → Option R) : ∀ (t : Nat) (n2 : Int),
    loopK (fun st K => codeK (cx_IndexS N) (loopN Tryd.f91 0) st K) 19 [0, 3, 7, 8] [3, 4] t [(.v (.sl 31 vs0) .no), (.ptr 0 3 0), (.v (.int .i64 n1) .no), (.v (.int .i64 n2) .no)] [[(3, ⟨31, [(.v (.int .i64 n3) .no), (.v (.int .i64 n4) .no), (.v (.int .i64 n5) .no), (.v (.int .i64 n6) .no)]⟩)]] K = S_IndexS_2 N vs0 n1 n3 n4 n5 n6 t n2 (fun a0 => K .ret [(.ptr 0 3 0), (.v (.int .i64 a0) .no)] [[(3, ⟨31, [(.v (.int .i64 n3) .no), (.v (.int .i64 n4) .no), (.v (.int .i64 n5) .no), (.v (.int .i64 n6) .no)]⟩)]]) (K (.exit 0) [(.ptr 0 3 0), .any] [[(3, ⟨31, [(.v (.int .i64 n3) .no), (.v (.int .i64 n4) .no), (.v (.int .i64 n5) .no), (.v (.int .i64 n6) .no)]⟩)]])
  | 0, n2 => rfl
  | t + 1, n2 => (F_IndexS_2_ok N vs0 n1 n3 n4 n5 n6 n2 _ K).trans (congrArg (fun L => F_IndexS_2 N vs0 n1 n3 n4 n5 n6 L (fun a0 => K .ret [(.ptr 0 3 0), (.v (.int .i64 a0) .no)] [[(3, ⟨31, [(.v (.int .i64 n3) .no), (.v (.int .i64 n4) .no), (.v (.int .i64 n5) .no), (.v (.int .i64 n6) .no)]⟩)]]) (K (.exit 0) [(.ptr 0 3 0), .any] [[(3, ⟨31, [(.v (.int .i64 n3) .no), (.v (.int .i64 n4) .no), (.v (.int .i64 n5) .no), (.v (.int .i64 n6) .no)]⟩)]]) n2) (funext fun n2 => S_IndexS_2_ok N vs0 n1 n3 n4 n5 n6 K t n2))
theorem s_IndexS_ok (N : Nat) (x0 : List V) (x1 : Int) (x2 : Int) (x3 : Int) (x4 : Int) : bodyK (cx_IndexS N) Tryd.f91 [.v (.sl 31 x0) .no, .agg [.v (.int .i64 x1) .no, .v (.int .i64 x2) .no, .v (.int .i64 x3) .no, .v (.int .i64 x4) .no]] [] r_IndexS = s_IndexS N x0 x1 x2 x3 x4 := by
  kernel_rfl
theorem go_IndexS : Goes Tryd.prog 91 := goes_of Tryd.func91 (by kernel_rfl) (c := bodyOf Tryd.f91) (by kernel_rfl)
theorem eo_IndexS (s : List V → Int → Int → Int → Int → Option (Int)) (hs : ∀ (x0 : List V) (x1 : Int) (x2 : Int) (x3 : Int) (x4 : Int) (r0 : Int), s x0 x1 x2 x3 x4 = some r0 → PureRet Tryd.prog T 91 [.v (.sl 31 x0) .no, .agg [.v (.int .i64 x1) .no, .v (.int .i64 x2) .no, .v (.int .i64 x3) .no, .v (.int .i64 x4) .no]] [.v (.int .i64 r0) .no]) : EntOK Tryd.prog T ⟨91, e_IndexS s⟩ := by
  refine ⟨go_IndexS, fun R ds K r h => ?_, fun R ds K => ?_⟩
  · simp only [e_IndexS] at h
    split at h
    · obtain ⟨r0, h1, h2⟩ := bnd1_some h
      exact ⟨_, h2, hs _ _ _ _ _ _ h1⟩
    · cases h
  · simp only [e_IndexS]
    split
    · rw [bnd1_b]; rfl
    · rfl
theorem co_IndexS (N : Nat) : CxOK Tryd.prog (cx_IndexS N) :=
  cxOK_of2 (es := []) (me := []) (ms := []) T_ok trivial trivial trivial rfl (fun _ _ _ _ => rfl) (fun _ _ _ _ _ _ => rfl) rfl
theorem lk_IndexS_2 (N : Nat) : LoopOK (cx_IndexS N) 19 (loopN Tryd.f91 0) := by
  refine loopOK_of (rid := 2) (by kernel_rfl) rfl rfl fun R ds m K r h => ?_
  have h : l_IndexS_2 N ds m K = some r := h
  unfold l_IndexS_2 at h
  split at h
  · exact ⟨N, Eq.trans (S_IndexS_2_ok ..) h⟩
  · cases h
theorem lo_IndexS (N : Nat) : LoopsOK (cx_IndexS N) Tryd.f91.ntmps (bodyOf Tryd.f91) :=
  loopsOK_of (k := 1) (by kernel_rfl) ⟨trivial, lk_IndexS_2 N⟩
theorem p_IndexS (N : Nat) (x0 : List V) (x1 : Int) (x2 : Int) (x3 : Int) (x4 : Int) (r0 : Int) (h : s_IndexS N x0 x1 x2 x3 x4 = some r0) : PureRet Tryd.prog T 91 [.v (.sl 31 x0) .no, .agg [.v (.int .i64 x1) .no, .v (.int .i64 x2) .no, .v (.int .i64 x3) .no, .v (.int .i64 x4) .no]] [.v (.int .i64 r0) .no] :=
  pure_of (cx := cx_IndexS N) (by kernel_rfl) (co_IndexS N) Tryd.func91 (by kernel_rfl) (by kernel_rfl) (lo_IndexS N) rfl rfl rfl (rf := r_IndexS) ((s_IndexS_ok N x0 x1 x2 x3 x4).trans h) (fun rs' m h => by
    unfold r_IndexS at h
    split at h
    · cases h; exact ⟨rfl, rfl⟩
    · cases h)
noncomputable def e_ContainsS {R : Type} (s : List V → Int → Int → Int → Int → Option (Bool)) (ds : List D) (K : List D → Option R) : Option R :=
  match ds with
  | [.v (.sl 31 x0) .no, .agg [.v (.int .i64 x1) .no, .v (.int .i64 x2) .no, .v (.int .i64 x3) .no, .v (.int .i64 x4) .no]] => bnd1 (s x0 x1 x2 x3 x4) fun r0 => K [.v (.bool r0) .no]
  | _ => none
noncomputable def r_ContainsS (rs : List D) (_ : Mem) : Option (Bool) :=
  match rs with
  | [.v (.bool r0) _] => some (r0)
  | _ => none
noncomputable def s_ContainsS (N : Nat) (x0 : List V) (x1 : Int) (x2 : Int) (x3 : Int) (x4 : Int) : Option (Bool) :=
  bnd1 (s_IndexS N x0 x1 x2 x3 x4) fun n0 => some (decide (0 ≤ n0))
noncomputable def cx_ContainsS (N : Nat) : Cx := { T := T, isPure := tabP [⟨91, e_IndexS (s_IndexS N)⟩], pureK := fun g ds K => tabK [⟨91, e_IndexS (s_IndexS N)⟩] g ds K, memK := fun g dst ds m K => tabMK [] g dst ds m K, meth := tabM [], keep := fun _ => [], keepX := fun _ => [], loopT := fun _ _ _ _ => none, jumps := 9 }
theorem s_ContainsS_ok (N : Nat) (x0 : List V) (x1 : Int) (x2 : Int) (x3 : Int) (x4 : Int) : bodyK (cx_ContainsS N) Tryd.f75 [.v (.sl 31 x0) .no, .agg [.v (.int .i64 x1) .no, .v (.int .i64 x2) .no, .v (.int .i64 x3) .no, .v (.int .i64 x4) .no]] [] r_ContainsS = s_ContainsS N x0 x1 x2 x3 x4 := by
  kernel_rfl
theorem go_ContainsS : Goes Tryd.prog 75 := goes_of Tryd.func75 (by kernel_rfl) (c := bodyOf Tryd.f75) (by kernel_rfl)
theorem eo_ContainsS (s : List V → Int → Int → Int → Int → Option (Bool)) (hs : ∀ (x0 : List V) (x1 : Int) (x2 : Int) (x3 : Int) (x4 : Int) (r0 : Bool), s x0 x1 x2 x3 x4 = some r0 → PureRet Tryd.prog T 75 [.v (.sl 31 x0) .no, .agg [.v (.int .i64 x1) .no, .v (.int .i64 x2) .no, .v (.int .i64 x3) .no, .v (.int .i64 x4) .no]] [.v (.bool r0) .no]) : EntOK Tryd.prog T ⟨75, e_ContainsS s⟩ := by
  refine ⟨go_ContainsS, fun R ds K r h => ?_, fun R ds K => ?_⟩
  · simp only [e_ContainsS] at h
    split at h
    · obtain ⟨r0, h1, h2⟩ := bnd1_some h
      exact ⟨_, h2, hs _ _ _ _ _ _ h1⟩
    · cases h
  · simp only [e_ContainsS]
    split
    · rw [bnd1_b]; rfl
    · rfl
theorem co_ContainsS (N : Nat) : CxOK Tryd.prog (cx_ContainsS N) :=
  cxOK_of2 (es := [⟨91, e_IndexS (s_IndexS N)⟩]) (me := []) (ms := []) T_ok ⟨eo_IndexS _ (p_IndexS N), trivial⟩ trivial trivial rfl (fun _ _ _ _ => rfl) (fun _ _ _ _ _ _ => rfl) rfl
theorem lo_ContainsS (N : Nat) : LoopsOK (cx_ContainsS N) Tryd.f75.ntmps (bodyOf Tryd.f75) :=
  loopsOK_of (k := 0) (by kernel_rfl) trivial
theorem p_ContainsS (N : Nat) (x0 : List V) (x1 : Int) (x2 : Int) (x3 : Int) (x4 : Int) (r0 : Bool) (h : s_ContainsS N x0 x1 x2 x3 x4 = some r0) : PureRet Tryd.prog T 75 [.v (.sl 31 x0) .no, .agg [.v (.int .i64 x1) .no, .v (.int .i64 x2) .no, .v (.int .i64 x3) .no, .v (.int .i64 x4) .no]] [.v (.bool r0) .no] :=
  pure_of (cx := cx_ContainsS N) (by kernel_rfl) (co_ContainsS N) Tryd.func75 (by kernel_rfl) (by kernel_rfl) (lo_ContainsS N) rfl rfl rfl (rf := r_ContainsS) ((s_ContainsS_ok N x0 x1 x2 x3 x4).trans h) (fun rs' m h => by
    unfold r_ContainsS at h
    split at h
    · cases h; exact ⟨rfl, rfl⟩
    · cases h)
noncomputable def e_least {R : Type} (s : Int → Int → List V → Option (List V)) (ds : List D) (K : List D → Option R) : Option R :=
  match ds with
  | [.agg [.v (.int .i64 x0) .no, .v (.int .i64 x1) .no, .v (.sl 24 x2) .no]] => bnd1 (s x0 x1 x2) fun r0 => K [.v (.sl 31 r0) .no]
  | _ => none
noncomputable def r_least (rs : List D) (_ : Mem) : Option (List V) :=
  match rs with
  | [.v (.sl 31 r0) _] => some (r0)
  | _ => none
noncomputable def F_least_15 {R : Type} (N : Nat) (f : Int → Int → List V → Option (List V)) (vs1 : List V) (n2 : Int) (n4 : Int) (n5 : Int) (vs6 : List V) (Lq : List V → Int → Option R) (K0 : List V → Option R) (vs0 : List V) (n3 : Int) : Option R :=
  br (decide (n3 < n2))
  (br (decide (0 ≤ n3) && decide (n3 < (↑vs1.length : Int)))
    (at? vs1 n3.toNat fun x0 =>
      x0.unAgg fun l1 =>
        unCons l1 fun x2 l3 =>
          V.unInt IntKind.i64 x2 fun n4 =>
            unCons l3 fun x5 l6 =>
              V.unInt IntKind.i64 x5 fun n7 =>
                unCons l6 fun x8 l9 => V.unSl 24 x8 fun l10 => unNil l9 (bnd1 (f n4 n7 l10) fun l11 => br (decide ((vs0.length + l11.length) * 32 ≤ 140737488355328)) (Lq (vs0 ++ l11) (IntKind.i64.wrap (n3 + 1))) none))
    none)
  (K0 vs0)
noncomputable def S_least_15 {R : Type} (N : Nat) (f : Int → Int → List V → Option (List V)) (vs1 : List V) (n2 : Int) (n4 : Int) (n5 : Int) (vs6 : List V) : Nat → List V → Int → (List V → Option R) → Option R
  | 0, _, _, _ => none
  | t + 1, vs0, n3, K0 => F_least_15 N f vs1 n2 n4 n5 vs6 (fun vs0 n3 => S_least_15 N f vs1 n2 n4 n5 vs6 t vs0 n3 K0) K0 vs0 n3
noncomputable def l_least_15 {R : Type} (N : Nat) (f : Int → Int → List V → Option (List V)) (ds : List D) (m : Mem) (K : Ex → List D → Mem → Option R) : Option R :=
  match ds, m with
  | [(.ptr 0 1 0), (.v (.sl 31 vs0) (.own (.slot 3) 31)), .any, .any, .any, .any, (.v (.sl 24 vs1) .no), (.v (.int .i64 n2) .no), (.v (.int .i64 n3) .no)], [[(1, ⟨24, [(.v (.int .i64 n4) .no), (.v (.int .i64 n5) .no), (.v (.sl 24 vs6) .no)]⟩)]] => S_least_15 N f vs1 n2 n4 n5 vs6 N vs0 n3 (fun a0 => K (.exit 1) [(.ptr 0 1 0), (.v (.sl 31 a0) (.own (.slot 3) 31)), .any, .any, .any, .any] [[(1, ⟨24, [(.v (.int .i64 n4) .no), (.v (.int .i64 n5) .no), (.v (.sl 24 vs6) .no)]⟩)]])
  | _, _ => none
noncomputable def F_least_30 {R : Type} (N : Nat) (f : Int → Int → List V → Option (List V)) (vs0 : List V) (vs2 : List V) (n3 : Int) (n4 : Int) (vs5 : List V) (n6 : Int) (n7 : Int) (vs8 : List V) (n9 : Int) (n11 : Int) (n12 : Int) (vs13 : List V) (n14 : Int) (n15 : Int) (vs16 : List V) (n17 : Int) (n18 : Int) (n19 : Int) (n20 : Int) (Lq : List V → Int → Option R) (K0 : List V → Option R) (vs1 : List V) (n10 : Int) : Option R :=
  br (decide (n10 < n9))
  (br (decide (0 ≤ n10) && decide (n10 < (↑vs8.length : Int)))
    (at? vs8 n10.toNat fun x0 =>
      x0.unAgg fun l1 =>
        unCons l1 fun x2 l3 =>
          V.unInt IntKind.i64 x2 fun n4 =>
            unCons l3 fun x5 l6 =>
              V.unInt IntKind.i64 x5 fun n7 =>
                unCons l6 fun x8 l9 =>
                  V.unInt IntKind.i64 x8 fun n10_1 =>
                    unCons l9 fun x11 l12 =>
                      V.unInt IntKind.i64 x11 fun n13 =>
                        unNil l12
                          (bnd4 (s_join N n17 n18 n19 n20 n4 n7 n10_1 n13) fun n14 n15 n16 n17 =>
                            bnd1 (s_ContainsS N vs1 n14 n15 n16 n17) fun b18 =>
                              br (!b18)
                                (br (decide ((vs1.length + [V.agg [V.int IntKind.i64 n14, V.int IntKind.i64 n15, V.int IntKind.i64 n16, V.int IntKind.i64 n17]].length) * 32 ≤ 140737488355328))
                                  (Lq (vs1 ++ [V.agg [V.int IntKind.i64 n14, V.int IntKind.i64 n15, V.int IntKind.i64 n16, V.int IntKind.i64 n17]]) (IntKind.i64.wrap (n10 + 1))) none)
                                (Lq vs1 (IntKind.i64.wrap (n10 + 1)))))
    none)
  (K0 vs1)
noncomputable def S_least_30 {R : Type} (N : Nat) (f : Int → Int → List V → Option (List V)) (vs0 : List V) (vs2 : List V) (n3 : Int) (n4 : Int) (vs5 : List V) (n6 : Int) (n7 : Int) (vs8 : List V) (n9 : Int) (n11 : Int) (n12 : Int) (vs13 : List V) (n14 : Int) (n15 : Int) (vs16 : List V) (n17 : Int) (n18 : Int) (n19 : Int) (n20 : Int) : Nat → List V → Int → (List V → Option R) → Option R
  | 0, _, _, _ => none
  | t + 1, vs1, n10, K0 => F_least_30 N f vs0 vs2 n3 n4 vs5 n6 n7 vs8 n9 n11 n12 vs13 n14 n15 vs16 n17 n18 n19 n20 (fun vs1 n10 => S_least_30 N f vs0 vs2 n3 n4 vs5 n6 n7 vs8 n9 n11 n12 vs13 n14 n15 vs16 n17 n18 n19 n20 t vs1 n10 K0) K0 vs1 n10
noncomputable def l_least_30 {R : Type} (N : Nat) (f : Int → Int → List V → Option (List V)) (ds : List D) (m : Mem) (K : Ex → List D → Mem → Option R) : Option R :=
  match ds, m with
  | [(.ptr 0 1 0), .any, (.v (.sl 31 vs0) (.own (.slot 6) 31)), (.ptr 0 8 0), (.v (.sl 31 vs1) (.own (.slot 9) 31)), (.ptr 0 11 0), (.v (.sl 24 vs2) .no), (.v (.int .i64 n3) .no), (.v (.int .i64 n4) .no), (.v (.sl 31 vs5) .no), (.v (.int .i64 n6) .no), (.v (.int .i64 n7) .no), (.v (.sl 31 vs8) .no), (.v (.int .i64 n9) .no), (.v (.int .i64 n10) .no)], [[(1, ⟨24, [(.v (.int .i64 n11) .no), (.v (.int .i64 n12) .no), (.v (.sl 24 vs13) .no)]⟩), (8, ⟨24, [(.v (.int .i64 n14) .no), (.v (.int .i64 n15) .no), (.v (.sl 24 vs16) .no)]⟩), (11, ⟨31, [(.v (.int .i64 n17) .no), (.v (.int .i64 n18) .no), (.v (.int .i64 n19) .no), (.v (.int .i64 n20) .no)]⟩)]] => S_least_30 N f vs0 vs2 n3 n4 vs5 n6 n7 vs8 n9 n11 n12 vs13 n14 n15 vs16 n17 n18 n19 n20 N vs1 n10 (fun a1 => K (.exit 7) [(.ptr 0 1 0), .any, (.v (.sl 31 vs0) (.own (.slot 6) 31)), (.ptr 0 8 0), (.v (.sl 31 a1) (.own (.slot 9) 31)), (.ptr 0 11 0), (.v (.sl 24 vs2) .no), (.v (.int .i64 n3) .no), (.v (.int .i64 n4) .no), (.v (.sl 31 vs5) .no), (.v (.int .i64 n6) .no), (.v (.int .i64 n7) .no)] [[(1, ⟨24, [(.v (.int .i64 n11) .no), (.v (.int .i64 n12) .no), (.v (.sl 24 vs13) .no)]⟩), (8, ⟨24, [(.v (.int .i64 n14) .no), (.v (.int .i64 n15) .no), (.v (.sl 24 vs16) .no)]⟩), (11, ⟨31, [(.v (.int .i64 n17) .no), (.v (.int .i64 n18) .no), (.v (.int .i64 n19) .no), (.v (.int .i64 n20) .no)]⟩)]])
  | _, _ => none
noncomputable def F_least_27 {R : Type} (N : Nat) (f : Int → Int → List V → Option (List V)) (vs0 : List V) (vs2 : List V) (n3 : Int) (n4 : Int) (vs5 : List V) (n6 : Int) (n8 : Int) (n9 : Int) (vs10 : List V) (n11 : Int) (n12 : Int) (vs13 : List V) (Lq : List V → Int → Option R) (K0 : List V → Option R) (vs1 : List V) (n7 : Int) : Option R :=
  br (decide (n7 < n6))
  (br (decide (0 ≤ n7) && decide (n7 < (↑vs5.length : Int)))
    (at? vs5 n7.toNat fun x0 =>
      x0.unAgg fun l1 =>
        unCons l1 fun x2 l3 =>
          V.unInt IntKind.i64 x2 fun n4_1 =>
            unCons l3 fun x5 l6 =>
              V.unInt IntKind.i64 x5 fun n7_1 =>
                unCons l6 fun x8 l9 =>
                  V.unInt IntKind.i64 x8 fun n10 =>
                    unCons l9 fun x11 l12 =>
                      V.unInt IntKind.i64 x11 fun n13 => unNil l12 (S_least_30 N f vs0 vs2 n3 n4 vs5 n6 n7 vs0 (↑vs0.length : Int) n8 n9 vs10 n11 n12 vs13 n4_1 n7_1 n10 n13 N vs1 0 fun l14 => Lq l14 (IntKind.i64.wrap (n7 + 1))))
    none)
  (K0 vs1)
noncomputable def S_least_27 {R : Type} (N : Nat) (f : Int → Int → List V → Option (List V)) (vs0 : List V) (vs2 : List V) (n3 : Int) (n4 : Int) (vs5 : List V) (n6 : Int) (n8 : Int) (n9 : Int) (vs10 : List V) (n11 : Int) (n12 : Int) (vs13 : List V) : Nat → List V → Int → (List V → Option R) → Option R
  | 0, _, _, _ => none
  | t + 1, vs1, n7, K0 => F_least_27 N f vs0 vs2 n3 n4 vs5 n6 n8 n9 vs10 n11 n12 vs13 (fun vs1 n7 => S_least_27 N f vs0 vs2 n3 n4 vs5 n6 n8 n9 vs10 n11 n12 vs13 t vs1 n7 K0) K0 vs1 n7
noncomputable def l_least_27 {R : Type} (N : Nat) (f : Int → Int → List V → Option (List V)) (ds : List D) (m : Mem) (K : Ex → List D → Mem → Option R) : Option R :=
  match ds, m with
  | [(.ptr 0 1 0), .any, (.v (.sl 31 vs0) (.own (.slot 6) 31)), (.ptr 0 8 0), (.v (.sl 31 vs1) (.own (.slot 9) 31)), (.v (.sl 24 vs2) .no), (.v (.int .i64 n3) .no), (.v (.int .i64 n4) .no), (.v (.sl 31 vs5) .no), (.v (.int .i64 n6) .no), (.v (.int .i64 n7) .no)], [[(1, ⟨24, [(.v (.int .i64 n8) .no), (.v (.int .i64 n9) .no), (.v (.sl 24 vs10) .no)]⟩), (8, ⟨24, [(.v (.int .i64 n11) .no), (.v (.int .i64 n12) .no), (.v (.sl 24 vs13) .no)]⟩)]] => S_least_27 N f vs0 vs2 n3 n4 vs5 n6 n8 n9 vs10 n11 n12 vs13 N vs1 n7 (fun a0 => K (.exit 5) [(.ptr 0 1 0), .any, (.ptr 0 8 0), (.v (.sl 31 a0) (.own (.slot 9) 31)), (.v (.sl 24 vs2) .no), (.v (.int .i64 n3) .no), (.v (.int .i64 n4) .no)] [[(1, ⟨24, [(.v (.int .i64 n8) .no), (.v (.int .i64 n9) .no), (.v (.sl 24 vs10) .no)]⟩), (8, ⟨24, [(.v (.int .i64 n11) .no), (.v (.int .i64 n12) .no), (.v (.sl 24 vs13) .no)]⟩)]])
  | _, _ => none
noncomputable def F_least_23 {R : Type} (N : Nat) (f : Int → Int → List V → Option (List V)) (vs1 : List V) (n2 : Int) (n4 : Int) (n5 : Int) (vs6 : List V) (Lq : List V → Int → Option R) (K0 : List V → Option R) (vs0 : List V) (n3 : Int) : Option R :=
  br (decide (n3 < n2))
  (br (decide (0 ≤ n3) && decide (n3 < (↑vs1.length : Int)))
    (at? vs1 n3.toNat fun x0 =>
      x0.unAgg fun l1 =>
        unCons l1 fun x2 l3 =>
          V.unInt IntKind.i64 x2 fun n4_1 =>
            unCons l3 fun x5 l6 =>
              V.unInt IntKind.i64 x5 fun n7 =>
                unCons l6 fun x8 l9 => V.unSl 24 x8 fun l10 => unNil l9 (bnd1 (f n4_1 n7 l10) fun l11 => S_least_27 N f vs0 vs1 n2 n3 l11 (↑l11.length : Int) n4 n5 vs6 n4_1 n7 l10 N [] 0 fun l12 => Lq l12 (IntKind.i64.wrap (n3 + 1))))
    none)
  (K0 vs0)
noncomputable def S_least_23 {R : Type} (N : Nat) (f : Int → Int → List V → Option (List V)) (vs1 : List V) (n2 : Int) (n4 : Int) (n5 : Int) (vs6 : List V) : Nat → List V → Int → (List V → Option R) → Option R
  | 0, _, _, _ => none
  | t + 1, vs0, n3, K0 => F_least_23 N f vs1 n2 n4 n5 vs6 (fun vs0 n3 => S_least_23 N f vs1 n2 n4 n5 vs6 t vs0 n3 K0) K0 vs0 n3
noncomputable def l_least_23 {R : Type} (N : Nat) (f : Int → Int → List V → Option (List V)) (ds : List D) (m : Mem) (K : Ex → List D → Mem → Option R) : Option R :=
  match ds, m with
  | [(.ptr 0 1 0), .any, (.v (.sl 31 vs0) (.own (.slot 6) 31)), (.v (.sl 24 vs1) .no), (.v (.int .i64 n2) .no), (.v (.int .i64 n3) .no)], [[(1, ⟨24, [(.v (.int .i64 n4) .no), (.v (.int .i64 n5) .no), (.v (.sl 24 vs6) .no)]⟩)]] => S_least_23 N f vs1 n2 n4 n5 vs6 N vs0 n3 (fun a0 => K (.exit 3) [(.ptr 0 1 0), .any, (.v (.sl 31 a0) (.own (.slot 6) 31))] [[(1, ⟨24, [(.v (.int .i64 n4) .no), (.v (.int .i64 n5) .no), (.v (.sl 24 vs6) .no)]⟩)]])
  | _, _ => none
noncomputable def B_least (N : Nat) (f : Int → Int → List V → Option (List V)) (x0 : Int) (x1 : Int) (x2 : List V) : Option (List V) :=
  br (decide (x0 = 1)) (some [V.agg [V.int IntKind.i64 0, V.int IntKind.i64 0, V.int IntKind.i64 0, V.int IntKind.i64 0]])
  (br (decide (x0 = 2)) (br (decide (0 ≤ x1)) (some [V.agg [V.int IntKind.i64 (shlI IntKind.i64 1 x1), V.int IntKind.i64 0, V.int IntKind.i64 0, V.int IntKind.i64 0]]) none)
    (br (decide (x0 = 3)) (br (decide (0 ≤ x1)) (some [V.agg [V.int IntKind.i64 0, V.int IntKind.i64 (shlI IntKind.i64 1 x1), V.int IntKind.i64 0, V.int IntKind.i64 0]]) none)
      (br (decide (x0 = 4)) (some [V.agg [V.int IntKind.i64 0, V.int IntKind.i64 0, V.int IntKind.i64 x1, V.int IntKind.i64 0]])
        (br (decide (x0 = 5)) (some [V.agg [V.int IntKind.i64 0, V.int IntKind.i64 0, V.int IntKind.i64 0, V.int IntKind.i64 x1]])
          (br (decide (x0 = 7)) (S_least_15 N f x2 (↑x2.length : Int) x0 x1 x2 N [] 0 fun l0 => some l0)
            (br (decide (x0 = 6)) (S_least_23 N f x2 (↑x2.length : Int) x0 x1 x2 N [V.agg [V.int IntKind.i64 0, V.int IntKind.i64 0, V.int IntKind.i64 0, V.int IntKind.i64 0]] 0 fun l1 => some l1) (some [])))))))
noncomputable def s_least (N : Nat) : Nat → Int → Int → List V → Option (List V)
  | 0, _, _, _ => none
  | n + 1, x0, x1, x2 => B_least N (s_least N n) x0 x1 x2
noncomputable def cx_least (N : Nat) (f : Int → Int → List V → Option (List V)) : Cx := { T := T, isPure := tabP [⟨48, e_least f⟩, ⟨74, e_join (s_join N)⟩, ⟨75, e_ContainsS (s_ContainsS N)⟩], pureK := fun g ds K => tabK [⟨48, e_least f⟩, ⟨74, e_join (s_join N)⟩, ⟨75, e_ContainsS (s_ContainsS N)⟩] g ds K, memK := fun g dst ds m K => tabMK [] g dst ds m K, meth := tabM [], keep := fun r => match r with | 15 => [1, 3, 8, 11, 13, 14, 50, 51, 52] | 23 => [1, 5, 6, 67, 68, 69] | 27 => [1, 5, 6, 8, 9, 67, 68, 69, 74, 75, 76] | 30 => [1, 5, 6, 8, 9, 11, 67, 68, 69, 74, 75, 76, 80, 81, 82] | _ => [], keepX := fun r => match r with | 15 => [1, 3, 8, 11, 13, 14] | 23 => [1, 5, 6] | 27 => [1, 5, 8, 9, 67, 68, 69] | 30 => [1, 5, 6, 8, 9, 11, 67, 68, 69, 74, 75, 76] | _ => [], loopT := fun r ds m K => match r with | 15 => l_least_15 N f ds m K | 30 => l_least_30 N f ds m K | 27 => l_least_27 N f ds m K | 23 => l_least_23 N f ds m K | _ => none, jumps := 9 }
theorem F_least_15_ok {R : Type} (N : Nat) (f : Int → Int → List V → Option (List V)) (vs1 : List V) (n2 : Int) (n4 : Int) (n5 : Int) (vs6 : List V) (vs0 : List V) (n3 : Int) (L : List D → Mem → Option R) (K : Ex → List D → Mem → Option R) :
    roundK (fun st K => codeK (cx_least N f) (loopN Tryd.f48 0) st K) 102 [1, 3, 8, 11, 13, 14, 50, 51, 52] [1, 3, 8, 11, 13, 14] L [(.ptr 0 1 0), (.v (.sl 31 vs0) (.own (.slot 3) 31)), .any, .any, .any, .any, (.v (.sl 24 vs1) .no), (.v (.int .i64 n2) .no), (.v (.int .i64 n3) .no)] [[(1, ⟨24, [(.v (.int .i64 n4) .no), (.v (.int .i64 n5) .no), (.v (.sl 24 vs6) .no)]⟩)]] K = F_least_15 N f vs1 n2 n4 n5 vs6 (fun vs0 n3 => L [(.ptr 0 1 0), (.v (.sl 31 vs0) (.own (.slot 3) 31)), .any, .any, .any, .any, (.v (.sl 24 vs1) .no), (.v (.int .i64 n2) .no), (.v (.int .i64 n3) .no)] [[(1, ⟨24, [(.v (.int .i64 n4) .no), (.v (.int .i64 n5) .no), (.v (.sl 24 vs6) .no)]⟩)]]) (fun a0 => K (.exit 1) [(.ptr 0 1 0), (.v (.sl 31 a0) (.own (.slot 3) 31)), .any, .any, .any, .any] [[(1, ⟨24, [(.v (.int .i64 n4) .no), (.v (.int .i64 n5) .no), (.v (.sl 24 vs6) .no)]⟩)]]) vs0 n3 := by
  kernel_rfl
theorem S_least_15_ok {R : Type} (N : Nat) (f : Int → Int → List V → Option (List V)) (vs1 : List V) (n2 : Int) (n4 : Int) (n5 : Int) (vs6 : List V) (K : Ex → List D → Mem → Option R) : ∀ (t : Nat) (vs0 : List V) (n3 : Int),
    loopK (fun st K => codeK (cx_least N f) (loopN Tryd.f48 0) st K) 102 [1, 3, 8, 11, 13, 14, 50, 51, 52] [1, 3, 8, 11, 13, 14] t [(.ptr 0 1 0), (.v (.sl 31 vs0) (.own (.slot 3) 31)), .any, .any, .any, .any, (.v (.sl 24 vs1) .no), (.v (.int .i64 n2) .no), (.v (.int .i64 n3) .no)] [[(1, ⟨24, [(.v (.int .i64 n4) .no), (.v (.int .i64 n5) .no), (.v (.sl 24 vs6) .no)]⟩)]] K = S_least_15 N f vs1 n2 n4 n5 vs6 t vs0 n3 (fun a0 => K (.exit 1) [(.ptr 0 1 0), (.v (.sl 31 a0) (.own (.slot 3) 31)), .any, .any, .any, .any] [[(1, ⟨24, [(.v (.int .i64 n4) .no), (.v (.int .i64 n5) .no), (.v (.sl 24 vs6) .no)]⟩)]])
  | 0, vs0, n3 => rfl
  | t + 1, vs0, n3 => (F_least_15_ok N f vs1 n2 n4 n5 vs6 vs0 n3 _ K).trans (congrArg (fun L => F_least_15 N f vs1 n2 n4 n5 vs6 L (fun a0 => K (.exit 1) [(.ptr 0 1 0), (.v (.sl 31 a0) (.own (.slot 3) 31)), .any, .any, .any, .any] [[(1, ⟨24, [(.v (.int .i64 n4) .no), (.v (.int .i64 n5) .no), (.v (.sl 24 vs6) .no)]⟩)]]) vs0 n3) (funext fun vs0 => funext fun n3 => S_least_15_ok N f vs1 n2 n4 n5 vs6 K t vs0 n3))
theorem F_least_30_ok {R : Type} (N : Nat) (f : Int → Int → List V → Option (List V)) (vs0 : List V) (vs2 : List V) (n3 : Int) (n4 : Int) (vs5 : List V) (n6 : Int) (n7 : Int) (vs8 : List V) (n9 : Int) (n11 : Int) (n12 : Int) (vs13 : List V) (n14 : Int) (n15 : Int) (vs16 : List V) (n17 : Int) (n18 : Int) (n19 : Int) (n20 : Int) (vs1 : List V) (n10 : Int) (L : List D → Mem → Option R) (K : Ex → List D → Mem → Option R) :
    roundK (fun st K => codeK (cx_least N f) (loopN Tryd.f48 3) st K) 102 [1, 5, 6, 8, 9, 11, 67, 68, 69, 74, 75, 76, 80, 81, 82] [1, 5, 6, 8, 9, 11, 67, 68, 69, 74, 75, 76] L [(.ptr 0 1 0), .any, (.v (.sl 31 vs0) (.own (.slot 6) 31)), (.ptr 0 8 0), (.v (.sl 31 vs1) (.own (.slot 9) 31)), (.ptr 0 11 0), (.v (.sl 24 vs2) .no), (.v (.int .i64 n3) .no), (.v (.int .i64 n4) .no), (.v (.sl 31 vs5) .no), (.v (.int .i64 n6) .no), (.v (.int .i64 n7) .no), (.v (.sl 31 vs8) .no), (.v (.int .i64 n9) .no), (.v (.int .i64 n10) .no)] [[(1, ⟨24, [(.v (.int .i64 n11) .no), (.v (.int .i64 n12) .no), (.v (.sl 24 vs13) .no)]⟩), (8, ⟨24, [(.v (.int .i64 n14) .no), (.v (.int .i64 n15) .no), (.v (.sl 24 vs16) .no)]⟩), (11, ⟨31, [(.v (.int .i64 n17) .no), (.v (.int .i64 n18) .no), (.v (.int .i64 n19) .no), (.v (.int .i64 n20) .no)]⟩)]] K = F_least_30 N f vs0 vs2 n3 n4 vs5 n6 n7 vs8 n9 n11 n12 vs13 n14 n15 vs16 n17 n18 n19 n20 (fun vs1 n10 => L [(.ptr 0 1 0), .any, (.v (.sl 31 vs0) (.own (.slot 6) 31)), (.ptr 0 8 0), (.v (.sl 31 vs1) (.own (.slot 9) 31)), (.ptr 0 11 0), (.v (.sl 24 vs2) .no), (.v (.int .i64 n3) .no), (.v (.int .i64 n4) .no), (.v (.sl 31 vs5) .no), (.v (.int .i64 n6) .no), (.v (.int .i64 n7) .no), (.v (.sl 31 vs8) .no), (.v (.int .i64 n9) .no), (.v (.int .i64 n10) .no)] [[(1, ⟨24, [(.v (.int .i64 n11) .no), (.v (.int .i64 n12) .no), (.v (.sl 24 vs13) .no)]⟩), (8, ⟨24, [(.v (.int .i64 n14) .no), (.v (.int .i64 n15) .no), (.v (.sl 24 vs16) .no)]⟩), (11, ⟨31, [(.v (.int .i64 n17) .no), (.v (.int .i64 n18) .no), (.v (.int .i64 n19) .no), (.v (.int .i64 n20) .no)]⟩)]]) (fun a1 => K (.exit 7) [(.ptr 0 1 0), .any, (.v (.sl 31 vs0) (.own (.slot 6) 31)), (.ptr 0 8 0), (.v (.sl 31 a1) (.own (.slot 9) 31)), (.ptr 0 11 0), (.v (.sl 24 vs2) .no), (.v (.int .i64 n3) .no), (.v (.int .i64 n4) .no), (.v (.sl 31 vs5) .no), (.v (.int .i64 n6) .no), (.v (.int .i64 n7) .no)] [[(1, ⟨24, [(.v (.int .i64 n11) .no), (.v (.int .i64 n12) .no), (.v (.sl 24 vs13) .no)]⟩), (8, ⟨24, [(.v (.int .i64 n14) .no), (.v (.int .i64 n15) .no), (.v (.sl 24 vs16) .no)]⟩), (11, ⟨31, [(.v (.int .i64 n17) .no), (.v (.int .i64 n18) .no), (.v (.int .i64 n19) .no), (.v (.int .i64 n20) .no)]⟩)]]) vs1 n10 := by
  kernel_rfl
theorem S_least_30_ok {R : Type} (N : Nat) (f : Int → Int → List V → Option (List V)) (vs0 : List V) (vs2 : List V) (n3 : Int) (n4 : Int) (vs5 : List V) (n6 : Int) (n7 : Int) (vs8 : List V) (n9 : Int) (n11 : Int) (n12 : Int) (vs13 : List V) (n14 : Int) (n15 : Int) (vs16 : List V) (n17 : Int) (n18 : Int) (n19 : Int) (n20 : Int) (K : Ex → List D → Mem → Option R) : ∀ (t : Nat) (vs1 : List V) (n10 : Int),
    loopK (fun st K => codeK (cx_least N f) (loopN Tryd.f48 3) st K) 102 [1, 5, 6, 8, 9, 11, 67, 68, 69, 74, 75, 76, 80, 81, 82] [1, 5, 6, 8, 9, 11, 67, 68, 69, 74, 75, 76] t [(.ptr 0 1 0), .any, (.v (.sl 31 vs0) (.own (.slot 6) 31)), (.ptr 0 8 0), (.v (.sl 31 vs1) (.own (.slot 9) 31)), (.ptr 0 11 0), (.v (.sl 24 vs2) .no), (.v (.int .i64 n3) .no), (.v (.int .i64 n4) .no), (.v (.sl 31 vs5) .no), (.v (.int .i64 n6) .no), (.v (.int .i64 n7) .no), (.v (.sl 31 vs8) .no), (.v (.int .i64 n9) .no), (.v (.int .i64 n10) .no)] [[(1, ⟨24, [(.v (.int .i64 n11) .no), (.v (.int .i64 n12) .no), (.v (.sl 24 vs13) .no)]⟩), (8, ⟨24, [(.v (.int .i64 n14) .no), (.v (.int .i64 n15) .no), (.v (.sl 24 vs16) .no)]⟩), (11, ⟨31, [(.v (.int .i64 n17) .no), (.v (.int .i64 n18) .no), (.v (.int .i64 n19) .no), (.v (.int .i64 n20) .no)]⟩)]] K = S_least_30 N f vs0 vs2 n3 n4 vs5 n6 n7 vs8 n9 n11 n12 vs13 n14 n15 vs16 n17 n18 n19 n20 t vs1 n10 (fun a1 => K (.exit 7) [(.ptr 0 1 0), .any, (.v (.sl 31 vs0) (.own (.slot 6) 31)), (.ptr 0 8 0), (.v (.sl 31 a1) (.own (.slot 9) 31)), (.ptr 0 11 0), (.v (.sl 24 vs2) .no), (.v (.int .i64 n3) .no), (.v (.int .i64 n4) .no), (.v (.sl 31 vs5) .no), (.v (.int .i64 n6) .no), (.v (.int .i64 n7) .no)] [[(1, ⟨24, [(.v (.int .i64 n11) .no), (.v (.int .i64 n12) .no), (.v (.sl 24 vs13) .no)]⟩), (8, ⟨24, [(.v (.int .i64 n14) .no), (.v (.int .i64 n15) .no), (.v (.sl 24 vs16) .no)]⟩), (11, ⟨31, [(.v (.int .i64 n17) .no), (.v (.int .i64 n18) .no), (.v (.int .i64 n19) .no), (.v (.int .i64 n20) .no)]⟩)]])
  | 0, vs1, n10 => rfl
  | t + 1, vs1, n10 => (F_least_30_ok N f vs0 vs2 n3 n4 vs5 n6 n7 vs8 n9 n11 n12 vs13 n14 n15 vs16 n17 n18 n19 n20 vs1 n10 _ K).trans (congrArg (fun L => F_least_30 N f vs0 vs2 n3 n4 vs5 n6 n7 vs8 n9 n11 n12 vs13 n14 n15 vs16 n17 n18 n19 n20 L (fun a1 => K (.exit 7) [(.ptr 0 1 0), .any, (.v (.sl 31 vs0) (.own (.slot 6) 31)), (.ptr 0 8 0), (.v (.sl 31 a1) (.own (.slot 9) 31)), (.ptr 0 11 0), (.v (.sl 24 vs2) .no), (.v (.int .i64 n3) .no), (.v (.int .i64 n4) .no), (.v (.sl 31 vs5) .no), (.v (.int .i64 n6) .no), (.v (.int .i64 n7) .no)] [[(1, ⟨24, [(.v (.int .i64 n11) .no), (.v (.int .i64 n12) .no), (.v (.sl 24 vs13) .no)]⟩), (8, ⟨24, [(.v (.int .i64 n14) .no), (.v (.int .i64 n15) .no), (.v (.sl 24 vs16) .no)]⟩), (11, ⟨31, [(.v (.int .i64 n17) .no), (.v (.int .i64 n18) .no), (.v (.int .i64 n19) .no), (.v (.int .i64 n20) .no)]⟩)]]) vs1 n10) (funext fun vs1 => funext fun n10 => S_least_30_ok N f vs0 vs2 n3 n4 vs5 n6 n7 vs8 n9 n11 n12 vs13 n14 n15 vs16 n17 n18 n19 n20 K t vs1 n10))
theorem F_least_27_ok {R : Type} (N : Nat) (f : Int → Int → List V → Option (List V)) (vs0 : List V) (vs2 : List V) (n3 : Int) (n4 : Int) (vs5 : List V) (n6 : Int) (n8 : Int) (n9 : Int) (vs10 : List V) (n11 : Int) (n12 : Int) (vs13 : List V) (vs1 : List V) (n7 : Int) (L : List D → Mem → Option R) (K : Ex → List D → Mem → Option R) :
    roundK (fun st K => codeK (cx_least N f) (loopN Tryd.f48 2) st K) 102 [1, 5, 6, 8, 9, 67, 68, 69, 74, 75, 76] [1, 5, 8, 9, 67, 68, 69] L [(.ptr 0 1 0), .any, (.v (.sl 31 vs0) (.own (.slot 6) 31)), (.ptr 0 8 0), (.v (.sl 31 vs1) (.own (.slot 9) 31)), (.v (.sl 24 vs2) .no), (.v (.int .i64 n3) .no), (.v (.int .i64 n4) .no), (.v (.sl 31 vs5) .no), (.v (.int .i64 n6) .no), (.v (.int .i64 n7) .no)] [[(1, ⟨24, [(.v (.int .i64 n8) .no), (.v (.int .i64 n9) .no), (.v (.sl 24 vs10) .no)]⟩), (8, ⟨24, [(.v (.int .i64 n11) .no), (.v (.int .i64 n12) .no), (.v (.sl 24 vs13) .no)]⟩)]] K = F_least_27 N f vs0 vs2 n3 n4 vs5 n6 n8 n9 vs10 n11 n12 vs13 (fun vs1 n7 => L [(.ptr 0 1 0), .any, (.v (.sl 31 vs0) (.own (.slot 6) 31)), (.ptr 0 8 0), (.v (.sl 31 vs1) (.own (.slot 9) 31)), (.v (.sl 24 vs2) .no), (.v (.int .i64 n3) .no), (.v (.int .i64 n4) .no), (.v (.sl 31 vs5) .no), (.v (.int .i64 n6) .no), (.v (.int .i64 n7) .no)] [[(1, ⟨24, [(.v (.int .i64 n8) .no), (.v (.int .i64 n9) .no), (.v (.sl 24 vs10) .no)]⟩), (8, ⟨24, [(.v (.int .i64 n11) .no), (.v (.int .i64 n12) .no), (.v (.sl 24 vs13) .no)]⟩)]]) (fun a0 => K (.exit 5) [(.ptr 0 1 0), .any, (.ptr 0 8 0), (.v (.sl 31 a0) (.own (.slot 9) 31)), (.v (.sl 24 vs2) .no), (.v (.int .i64 n3) .no), (.v (.int .i64 n4) .no)] [[(1, ⟨24, [(.v (.int .i64 n8) .no), (.v (.int .i64 n9) .no), (.v (.sl 24 vs10) .no)]⟩), (8, ⟨24, [(.v (.int .i64 n11) .no), (.v (.int .i64 n12) .no), (.v (.sl 24 vs13) .no)]⟩)]]) vs1 n7 := by
  kernel_rfl
theorem S_least_27_ok {R : Type} (N : Nat) (f : Int → Int → List V → Option (List V)) (vs0 : List V) (vs2 : List V) (n3 : Int) (n4 : Int) (vs5 : List V) (n6 : Int) (n8 : Int) (n9 : Int) (vs10 : List V) (n11 : Int) (n12 : Int) (vs13 : List V) (K : Ex → List D → Mem → Option R) : ∀ (t : Nat) (vs1 : List V) (n7 : Int),
    loopK (fun st K => codeK (cx_least N f) (loopN Tryd.f48 2) st K) 102 [1, 5, 6, 8, 9, 67, 68, 69, 74, 75, 76] [1, 5, 8, 9, 67, 68, 69] t [(.ptr 0 1 0), .any, (.v (.sl 31 vs0) (.own (.slot 6) 31)), (.ptr 0 8 0), (.v (.sl 31 vs1) (.own (.slot 9) 31)), (.v (.sl 24 vs2) .no), (.v (.int .i64 n3) .no), (.v (.int .i64 n4) .no), (.v (.sl 31 vs5) .no), (.v (.int .i64 n6) .no), (.v (.int .i64 n7) .no)] [[(1, ⟨24, [(.v (.int .i64 n8) .no), (.v (.int .i64 n9) .no), (.v (.sl 24 vs10) .no)]⟩), (8, ⟨24, [(.v (.int .i64 n11) .no), (.v (.int .i64 n12) .no), (.v (.sl 24 vs13) .no)]⟩)]] K = S_least_27 N f vs0 vs2 n3 n4 vs5 n6 n8 n9 vs10 n11 n12 vs13 t vs1 n7 (fun a0 => K (.exit 5) [(.ptr 0 1 0), .any, (.ptr 0 8 0), (.v (.sl 31 a0) (.own (.slot 9) 31)), (.v (.sl 24 vs2) .no), (.v (.int .i64 n3) .no), (.v (.int .i64 n4) .no)] [[(1, ⟨24, [(.v (.int .i64 n8) .no), (.v (.int .i64 n9) .no), (.v (.sl 24 vs10) .no)]⟩), (8, ⟨24, [(.v (.int .i64 n11) .no), (.v (.int .i64 n12) .no), (.v (.sl 24 vs13) .no)]⟩)]])
  | 0, vs1, n7 => rfl
  | t + 1, vs1, n7 => (F_least_27_ok N f vs0 vs2 n3 n4 vs5 n6 n8 n9 vs10 n11 n12 vs13 vs1 n7 _ K).trans (congrArg (fun L => F_least_27 N f vs0 vs2 n3 n4 vs5 n6 n8 n9 vs10 n11 n12 vs13 L (fun a0 => K (.exit 5) [(.ptr 0 1 0), .any, (.ptr 0 8 0), (.v (.sl 31 a0) (.own (.slot 9) 31)), (.v (.sl 24 vs2) .no), (.v (.int .i64 n3) .no), (.v (.int .i64 n4) .no)] [[(1, ⟨24, [(.v (.int .i64 n8) .no), (.v (.int .i64 n9) .no), (.v (.sl 24 vs10) .no)]⟩), (8, ⟨24, [(.v (.int .i64 n11) .no), (.v (.int .i64 n12) .no), (.v (.sl 24 vs13) .no)]⟩)]]) vs1 n7) (funext fun vs1 => funext fun n7 => S_least_27_ok N f vs0 vs2 n3 n4 vs5 n6 n8 n9 vs10 n11 n12 vs13 K t vs1 n7))
theorem F_least_23_ok {R : Type} (N : Nat) (f : Int → Int → List V → Option (List V)) (vs1 : List V) (n2 : Int) (n4 : Int) (n5 : Int) (vs6 : List V) (vs0 : List V) (n3 : Int) (L : List D → Mem → Option R) (K : Ex → List D → Mem → Option R) :
    roundK (fun st K => codeK (cx_least N f) (loopN Tryd.f48 1) st K) 102 [1, 5, 6, 67, 68, 69] [1, 5, 6] L [(.ptr 0 1 0), .any, (.v (.sl 31 vs0) (.own (.slot 6) 31)), (.v (.sl 24 vs1) .no), (.v (.int .i64 n2) .no), (.v (.int .i64 n3) .no)] [[(1, ⟨24, [(.v (.int .i64 n4) .no), (.v (.int .i64 n5) .no), (.v (.sl 24 vs6) .no)]⟩)]] K = F_least_23 N f vs1 n2 n4 n5 vs6 (fun vs0 n3 => L [(.ptr 0 1 0), .any, (.v (.sl 31 vs0) (.own (.slot 6) 31)), (.v (.sl 24 vs1) .no), (.v (.int .i64 n2) .no), (.v (.int .i64 n3) .no)] [[(1, ⟨24, [(.v (.int .i64 n4) .no), (.v (.int .i64 n5) .no), (.v (.sl 24 vs6) .no)]⟩)]]) (fun a0 => K (.exit 3) [(.ptr 0 1 0), .any, (.v (.sl 31 a0) (.own (.slot 6) 31))] [[(1, ⟨24, [(.v (.int .i64 n4) .no), (.v (.int .i64 n5) .no), (.v (.sl 24 vs6) .no)]⟩)]]) vs0 n3 := by
  kernel_rfl
theorem S_least_23_ok {R : Type} (N : Nat) (f : Int → Int → List V → Option (List V)) (vs1 : List V) (n2 : Int) (n4 : Int) (n5 : Int) (vs6 : List V) (K : Ex → List D → Mem → Option R) : ∀ (t : Nat) (vs0 : List V) (n3 : Int),
    loopK (fun st K => codeK (cx_least N f) (loopN Tryd.f48 1) st K) 102 [1, 5, 6, 67, 68, 69] [1, 5, 6] t [(.ptr 0 1 0), .any, (.v (.sl 31 vs0) (.own (.slot 6) 31)), (.v (.sl 24 vs1) .no), (.v (.int .i64 n2) .no), (.v (.int .i64 n3) .no)] [[(1, ⟨24, [(.v (.int .i64 n4) .no), (.v (.int .i64 n5) .no), (.v (.sl 24 vs6) .no)]⟩)]] K = S_least_23 N f vs1 n2 n4 n5 vs6 t vs0 n3 (fun a0 => K (.exit 3) [(.ptr 0 1 0), .any, (.v (.sl 31 a0) (.own (.slot 6) 31))] [[(1, ⟨24, [(.v (.int .i64 n4) .no), (.v (.int .i64 n5) .no), (.v (.sl 24 vs6) .no)]⟩)]])
  | 0, vs0, n3 => rfl
  | t + 1, vs0, n3 => (F_least_23_ok N f vs1 n2 n4 n5 vs6 vs0 n3 _ K).trans (congrArg (fun L => F_least_23 N f vs1 n2 n4 n5 vs6 L (fun a0 => K (.exit 3) [(.ptr 0 1 0), .any, (.v (.sl 31 a0) (.own (.slot 6) 31))] [[(1, ⟨24, [(.v (.int .i64 n4) .no), (.v (.int .i64 n5) .no), (.v (.sl 24 vs6) .no)]⟩)]]) vs0 n3) (funext fun vs0 => funext fun n3 => S_least_23_ok N f vs1 n2 n4 n5 vs6 K t vs0 n3))
theorem B_least_ok (N : Nat) (f : Int → Int → List V → Option (List V)) (x0 : Int) (x1 : Int) (x2 : List V) : bodyK (cx_least N f) Tryd.f48 [.agg [.v (.int .i64 x0) .no, .v (.int .i64 x1) .no, .v (.sl 24 x2) .no]] [] r_least = B_least N f x0 x1 x2 := by
  kernel_rfl
theorem go_least : Goes Tryd.prog 48 := goes_of Tryd.func48 (by kernel_rfl) (c := bodyOf Tryd.f48) (by kernel_rfl)
theorem eo_least (s : Int → Int → List V → Option (List V)) (hs : ∀ (x0 : Int) (x1 : Int) (x2 : List V) (r0 : List V), s x0 x1 x2 = some r0 → PureRet Tryd.prog T 48 [.agg [.v (.int .i64 x0) .no, .v (.int .i64 x1) .no, .v (.sl 24 x2) .no]] [.v (.sl 31 r0) .no]) : EntOK Tryd.prog T ⟨48, e_least s⟩ := by
  refine ⟨go_least, fun R ds K r h => ?_, fun R ds K => ?_⟩
  · simp only [e_least] at h
    split at h
    · obtain ⟨r0, h1, h2⟩ := bnd1_some h
      exact ⟨_, h2, hs _ _ _ _ h1⟩
    · cases h
  · simp only [e_least]
    split
    · rw [bnd1_b]; rfl
    · rfl
theorem co_least (N : Nat) (f : Int → Int → List V → Option (List V)) (hf : ∀ (x0 : Int) (x1 : Int) (x2 : List V) (r0 : List V), f x0 x1 x2 = some r0 → PureRet Tryd.prog T 48 [.agg [.v (.int .i64 x0) .no, .v (.int .i64 x1) .no, .v (.sl 24 x2) .no]] [.v (.sl 31 r0) .no]) : CxOK Tryd.prog (cx_least N f) :=
  cxOK_of2 (es := [⟨48, e_least f⟩, ⟨74, e_join (s_join N)⟩, ⟨75, e_ContainsS (s_ContainsS N)⟩]) (me := []) (ms := []) T_ok ⟨eo_least f hf, eo_join _ (p_join N), eo_ContainsS _ (p_ContainsS N), trivial⟩ trivial trivial rfl (fun _ _ _ _ => rfl) (fun _ _ _ _ _ _ => rfl) rfl
theorem lk_least_15 (N : Nat) (f : Int → Int → List V → Option (List V)) : LoopOK (cx_least N f) 102 (loopN Tryd.f48 0) := by
  refine loopOK_of (rid := 15) (by kernel_rfl) rfl rfl fun R ds m K r h => ?_
  have h : l_least_15 N f ds m K = some r := h
  unfold l_least_15 at h
  split at h
  · exact ⟨N, Eq.trans (S_least_15_ok ..) h⟩
  · cases h
theorem lk_least_23 (N : Nat) (f : Int → Int → List V → Option (List V)) : LoopOK (cx_least N f) 102 (loopN Tryd.f48 1) := by
  refine loopOK_of (rid := 23) (by kernel_rfl) rfl rfl fun R ds m K r h => ?_
  have h : l_least_23 N f ds m K = some r := h
  unfold l_least_23 at h
  split at h
  · exact ⟨N, Eq.trans (S_least_23_ok ..) h⟩
  · cases h
theorem lk_least_27 (N : Nat) (f : Int → Int → List V → Option (List V)) : LoopOK (cx_least N f) 102 (loopN Tryd.f48 2) := by
  refine loopOK_of (rid := 27) (by kernel_rfl) rfl rfl fun R ds m K r h => ?_
  have h : l_least_27 N f ds m K = some r := h
  unfold l_least_27 at h
  split at h
  · exact ⟨N, Eq.trans (S_least_27_ok ..) h⟩
  · cases h
theorem lk_least_30 (N : Nat) (f : Int → Int → List V → Option (List V)) : LoopOK (cx_least N f) 102 (loopN Tryd.f48 3) := by
  refine loopOK_of (rid := 30) (by kernel_rfl) rfl rfl fun R ds m K r h => ?_
  have h : l_least_30 N f ds m K = some r := h
  unfold l_least_30 at h
  split at h
  · exact ⟨N, Eq.trans (S_least_30_ok ..) h⟩
  · cases h
theorem lo_least (N : Nat) (f : Int → Int → List V → Option (List V)) : LoopsOK (cx_least N f) Tryd.f48.ntmps (bodyOf Tryd.f48) :=
  loopsOK_of (k := 4) (by kernel_rfl) ⟨⟨⟨⟨trivial, lk_least_15 N f⟩, lk_least_23 N f⟩, lk_least_27 N f⟩, lk_least_30 N f⟩
theorem p_least (N : Nat) : ∀ (M : Nat) (x0 : Int) (x1 : Int) (x2 : List V) (r0 : List V), s_least N M x0 x1 x2 = some r0 → PureRet Tryd.prog T 48 [.agg [.v (.int .i64 x0) .no, .v (.int .i64 x1) .no, .v (.sl 24 x2) .no]] [.v (.sl 31 r0) .no]
  | 0, _, _, _, _, h => by cases h
  | M + 1, x0, x1, x2, r0, h => pure_of (cx := cx_least N (s_least N M)) (by kernel_rfl) (co_least N (s_least N M) (p_least N M)) Tryd.func48 (by kernel_rfl) (by kernel_rfl) (lo_least N (s_least N M)) rfl rfl rfl (rf := r_least) ((B_least_ok N (s_least N M) x0 x1 x2).trans h) (fun rs' m h => by
    unfold r_least at h
    split at h
    · cases h; exact ⟨rfl, rfl⟩
    · cases h)
noncomputable def e_Implies1 {R : Type} (s : Int → Int → Int → Int → Int → Int → List V → Option (Bool)) (dst : Nat) (ds : List D) (m : Mem) (K : List D → Mem → Option R) : Option R :=
  match ds with
  | [.agg [.v (.int .i64 x0) .no, .v (.int .i64 x1) .no, .v (.int .i64 x2) .no, .v (.int .i64 x3) .no], .ptr (kv0 + 1) sv0 0] => viewK [(kv0, sv0)] m fun Bs => (match Bs with
    | [⟨24, [.v (.int .i64 y0) .no, .v (.int .i64 y1) .no, .v (.sl 24 y2) .no]⟩] => bnd1 (s x0 x1 x2 x3 y0 y1 y2) fun r0 => putAllK [(kv0, sv0)] [⟨24, [.v (.int .i64 y0) .no, .v (.int .i64 y1) .no, .v (.sl 24 y2) .no]⟩] m fun m' => K [.v (.bool r0) .no] m'
    | _ => none)
  | _ => none
noncomputable def r_Implies1 {α : Type} (K : Bool → Int → Int → List V → Option α) (rs : List D) (m : Mem) : Option α :=
  match rs, m with
  | [.v (.bool r0) _], [_, [(0, ⟨24, [.v (.int .i64 z0) .no, .v (.int .i64 z1) .no, .v (.sl 24 z2) .no]⟩)]] => K r0 z0 z1 z2
  | _, _ => none
noncomputable def C_Implies1 {R : Type} (N : Nat) (x0 : Int) (x1 : Int) (x2 : Int) (x3 : Int) (y0 : Int) (y1 : Int) (y2 : List V) (K0 : Bool → Option R) : Option R :=
  bnd1 (s_asat N N y0 y1 y2 x0 x1 x2 x3) fun b0 => K0 !b0
noncomputable def s_Implies1 (N : Nat) (x0 : Int) (x1 : Int) (x2 : Int) (x3 : Int) (y0 : Int) (y1 : Int) (y2 : List V) : Option (Bool) :=
  C_Implies1 N x0 x1 x2 x3 y0 y1 y2 (fun r0 => some r0)
noncomputable def cx_Implies1 (N : Nat) : Cx := { T := T, isPure := tabP [⟨44, e_asat (s_asat N N)⟩], pureK := fun g ds K => tabK [⟨44, e_asat (s_asat N N)⟩] g ds K, memK := fun g dst ds m K => tabMK [] g dst ds m K, meth := tabM [], keep := fun _ => [], keepX := fun _ => [], loopT := fun _ _ _ _ => none, jumps := 9 }
theorem C_Implies1_ok {R : Type} (N : Nat) (x0 : Int) (x1 : Int) (x2 : Int) (x3 : Int) (y0 : Int) (y1 : Int) (y2 : List V) (K : Bool → Int → Int → List V → Option R) : bodyK (cx_Implies1 N) Tryd.f49 [.agg [.v (.int .i64 x0) .no, .v (.int .i64 x1) .no, .v (.int .i64 x2) .no, .v (.int .i64 x3) .no], .ptr 1 0 0] [frOf 0 [⟨24, [.v (.int .i64 y0) .no, .v (.int .i64 y1) .no, .v (.sl 24 y2) .no]⟩]] (r_Implies1 K) = C_Implies1 N x0 x1 x2 x3 y0 y1 y2 (fun r0 => K r0 y0 y1 y2) := by
  kernel_rfl
theorem go_Implies1 : Goes Tryd.prog 49 := goes_of Tryd.func49 (by kernel_rfl) (c := bodyOf Tryd.f49) (by kernel_rfl)
theorem eo_Implies1 (s : Int → Int → Int → Int → Int → Int → List V → Option (Bool)) (hs : ∀ (x0 : Int) (x1 : Int) (x2 : Int) (x3 : Int) (y0 : Int) (y1 : Int) (y2 : List V) (r0 : Bool), s x0 x1 x2 x3 y0 y1 y2 = some r0 → ViewRet Tryd.prog T 49 [.agg [.v (.int .i64 x0) .no, .v (.int .i64 x1) .no, .v (.int .i64 x2) .no, .v (.int .i64 x3) .no], .ptr 1 0 0] [⟨24, [.v (.int .i64 y0) .no, .v (.int .i64 y1) .no, .v (.sl 24 y2) .no]⟩] [.v (.bool r0) .no] [⟨24, [.v (.int .i64 y0) .no, .v (.int .i64 y1) .no, .v (.sl 24 y2) .no]⟩]) : MEntOK Tryd.prog T ⟨49, e_Implies1 s⟩ := by
  refine ⟨go_Implies1, fun R dst ds m K r h => ?_⟩
  simp only [e_Implies1] at h
  split at h
  · obtain ⟨Bs, a1, a2, a3, h⟩ := viewK_some h
    split at h
    · obtain ⟨r0, h1, h2⟩ := bnd1_some h
      rw [putAllK_eq] at h2
      exact ⟨_, _, h2, hs _ _ _ _ _ _ _ _ h1 _ _ m dst a1 a2 a3 ⟨aren_agg ⟨aren_v _, aren_v _, aren_v _, aren_v _, trivial⟩, aren_ptr _ rfl, trivial⟩⟩
    · cases h
  · cases h
theorem co_Implies1 (N : Nat) : CxOK Tryd.prog (cx_Implies1 N) :=
  cxOK_of2 (es := [⟨44, e_asat (s_asat N N)⟩]) (me := []) (ms := []) T_ok ⟨eo_asat _ (p_asat N N), trivial⟩ trivial trivial rfl (fun _ _ _ _ => rfl) (fun _ _ _ _ _ _ => rfl) rfl
theorem lo_Implies1 (N : Nat) : LoopsOK (cx_Implies1 N) Tryd.f49.ntmps (bodyOf Tryd.f49) :=
  loopsOK_of (k := 0) (by kernel_rfl) trivial
open Classical in
theorem p_Implies1 (N : Nat) (x0 : Int) (x1 : Int) (x2 : Int) (x3 : Int) (y0 : Int) (y1 : Int) (y2 : List V) (r0 : Bool) (h : s_Implies1 N x0 x1 x2 x3 y0 y1 y2 = some r0) : ViewRet Tryd.prog T 49 [.agg [.v (.int .i64 x0) .no, .v (.int .i64 x1) .no, .v (.int .i64 x2) .no, .v (.int .i64 x3) .no], .ptr 1 0 0] [⟨24, [.v (.int .i64 y0) .no, .v (.int .i64 y1) .no, .v (.sl 24 y2) .no]⟩] [.v (.bool r0) .no] [⟨24, [.v (.int .i64 y0) .no, .v (.int .i64 y1) .no, .v (.sl 24 y2) .no]⟩] := by
  refine view_of (Bs := [⟨24, [.v (.int .i64 y0) .no, .v (.int .i64 y1) .no, .v (.sl 24 y2) .no]⟩]) (Bs' := [⟨24, [.v (.int .i64 y0) .no, .v (.int .i64 y1) .no, .v (.sl 24 y2) .no]⟩]) (cx := cx_Implies1 N) (by kernel_rfl) (co_Implies1 N) Tryd.func49 (by kernel_rfl) (by kernel_rfl) (lo_Implies1 N) rfl rfl rfl rfl (rf := r_Implies1 (fun r0' z'0 z'1 z'2 => if z'0 = y0 ∧ z'1 = y1 ∧ z'2 = y2 then some r0' else none)) (r := r0) ?_ ?_
  · exact (C_Implies1_ok N x0 x1 x2 x3 y0 y1 y2 _).trans ((congrArg (fun K => C_Implies1 N x0 x1 x2 x3 y0 y1 y2 K) (funext fun r0' => if_pos ⟨rfl, rfl, rfl⟩)).trans h)
  · intro rs' m' hx
    unfold r_Implies1 at hx
    split at hx
    · dsimp only at hx
      split at hx
      · rename_i hk
        obtain ⟨rfl, rfl, rfl⟩ := hk
        cases hx; exact ⟨rfl, rfl, _, rfl⟩
      · cases hx
    · cases hx
noncomputable def e_IndexFuncP {R : Type} (s : List V → Int → Int → List V → Option (Int)) (dst : Nat) (ds : List D) (m : Mem) (K : List D → Mem → Option R) : Option R :=
  match ds with
  | [.v (.sl 31 x0) .no, .clos 49 [.ptr (kv0 + 1) sv0 0]] => viewK [(kv0, sv0)] m fun Bs => (match Bs with
    | [⟨24, [.v (.int .i64 y0) .no, .v (.int .i64 y1) .no, .v (.sl 24 y2) .no]⟩] => bnd1 (s x0 y0 y1 y2) fun r0 => putAllK [(kv0, sv0)] [⟨24, [.v (.int .i64 y0) .no, .v (.int .i64 y1) .no, .v (.sl 24 y2) .no]⟩] m fun m' => K [.v (.int .i64 r0) .no] m'
    | _ => none)
  | _ => none
noncomputable def r_IndexFuncP {α : Type} (K : Int → Int → Int → List V → Option α) (rs : List D) (m : Mem) : Option α :=
  match rs, m with
  | [.v (.int .i64 r0) _], [_, [(0, ⟨24, [.v (.int .i64 z0) .no, .v (.int .i64 z1) .no, .v (.sl 24 z2) .no]⟩)]] => K r0 z0 z1 z2
  | _, _ => none
noncomputable def F_IndexFuncP_2 {R : Type} (N : Nat) (vs0 : List V) (n1 : Int) (n3 : Int) (n4 : Int) (vs5 : List V) (Lq : Int → Option R) (K0 : Int → Option R) (K1 : Option R) (n2 : Int) : Option R :=
  br (decide (n2 < n1))
  (br (decide (0 ≤ n2) && decide (n2 < (↑vs0.length : Int)))
    (at? vs0 n2.toNat fun x0 =>
      x0.unAgg fun l1 =>
        unCons l1 fun x2 l3 =>
          V.unInt IntKind.i64 x2 fun n4_1 =>
            unCons l3 fun x5 l6 =>
              V.unInt IntKind.i64 x5 fun n7 =>
                unCons l6 fun x8 l9 =>
                  V.unInt IntKind.i64 x8 fun n10 => unCons l9 fun x11 l12 => V.unInt IntKind.i64 x11 fun n13 => unNil l12 (bnd1 (s_Implies1 N n4_1 n7 n10 n13 n3 n4 vs5) fun b14 => br b14 (K0 n2) (Lq (IntKind.i64.wrap (n2 + 1)))))
    none)
  K1
noncomputable def S_IndexFuncP_2 {R : Type} (N : Nat) (vs0 : List V) (n1 : Int) (n3 : Int) (n4 : Int) (vs5 : List V) : Nat → Int → (Int → Option R) → (Option R) → Option R
  | 0, _, _, _ => none
  | t + 1, n2, K0, K1 => F_IndexFuncP_2 N vs0 n1 n3 n4 vs5 (fun n2 => S_IndexFuncP_2 N vs0 n1 n3 n4 vs5 t n2 K0 K1) K0 K1 n2
noncomputable def l_IndexFuncP_2 {R : Type} (N : Nat) (ds : List D) (m : Mem) (K : Ex → List D → Mem → Option R) : Option R :=
  match ds, m with
  | [(.v (.sl 31 vs0) .no), (.clos 49 [(.ptr 1 0 0)]), (.v (.int .i64 n1) .no), (.v (.int .i64 n2) .no)], [[], [(0, ⟨24, [(.v (.int .i64 n3) .no), (.v (.int .i64 n4) .no), (.v (.sl 24 vs5) .no)]⟩)]] => S_IndexFuncP_2 N vs0 n1 n3 n4 vs5 N n2 (fun a0 => K .ret [(.v (.int .i64 a0) .no)] [[], [(0, ⟨24, [(.v (.int .i64 n3) .no), (.v (.int .i64 n4) .no), (.v (.sl 24 vs5) .no)]⟩)]]) (K (.exit 0) [.any] [[], [(0, ⟨24, [(.v (.int .i64 n3) .no), (.v (.int .i64 n4) .no), (.v (.sl 24 vs5) .no)]⟩)]])
  | _, _ => none
noncomputable def C_IndexFuncP {R : Type} (N : Nat) (x0 : List V) (y0 : Int) (y1 : Int) (y2 : List V) (K0 : Int → Option R) : Option R :=
  S_IndexFuncP_2 N x0 (↑x0.length : Int) y0 y1 y2 N 0 (fun n0 => K0 n0) (K0 (-1))
noncomputable def s_IndexFuncP (N : Nat) (x0 : List V) (y0 : Int) (y1 : Int) (y2 : List V) : Option (Int) :=
  C_IndexFuncP N x0 y0 y1 y2 (fun r0 => some r0)
noncomputable def cx_IndexFuncP (N : Nat) : Cx := { T := T, isPure := tabP [], pureK := fun g ds K => tabK [] g ds K, memK := fun g dst ds m K => tabMK [⟨49, e_Implies1 (s_Implies1 N)⟩] g dst ds m K, meth := tabM [], keep := fun r => match r with | 2 => [0, 1, 7, 8] | _ => [], keepX := fun r => match r with | 2 => [4] | _ => [], loopT := fun r ds m K => match r with | 2 => l_IndexFuncP_2 N ds m K | _ => none, jumps := 9 }
theorem F_IndexFuncP_2_ok {R : Type} (N : Nat) (vs0 : List V) (n1 : Int) (n3 : Int) (n4 : Int) (vs5 : List V) (n2 : Int) (L : List D → Mem → Option R) (K : Ex → List D → Mem → Option R) :
    roundK (fun st K => codeK (cx_IndexFuncP N) (loopN Tryd.f73 0) st K) 19 [0, 1, 7, 8] [4] L [(.v (.sl 31 vs0) .no), (.clos 49 [(.ptr 1 0 0)]), (.v (.int .i64 n1) .no), (.v (.int .i64 n2) .no)] [[], [(0, ⟨24, [(.v (.int .i64 n3) .no), (.v (.int .i64 n4) .no), (.v (.sl 24 vs5) .no)]⟩)]] K = F_IndexFuncP_2 N vs0 n1 n3 n4 vs5 (fun n2 => L [(.v (.sl 31 vs0) .no), (.clos 49 [(.ptr 1 0 0)]), (.v (.int .i64 n1) .no), (.v (.int .i64 n2) .no)] [[], [(0, ⟨24, [(.v (.int .i64 n3) .no), (.v (.int .i64 n4) .no), (.v (.sl 24 vs5) .no)]⟩)]]) (fun a0 => K .ret [(.v (.int .i64 a0) .no)] [[], [(0, ⟨24, [(.v (.int .i64 n3) .no), (.v (.int .i64 n4) .no), (.v (.sl 24 vs5) .no)]⟩)]]) (K (.exit 0) [.any] [[], [(0, ⟨24, [(.v (.int .i64 n3) .no), (.v (.int .i64 n4) .no), (.v (.sl 24 vs5) .no)]⟩)]]) n2 := by
  kernel_rfl
theorem S_IndexFuncP_2_ok {R : Type} (N : Nat) (vs0 : List V) (n1 : Int) (n3 : Int) (n4 : Int) (vs5 : List V) (K : Ex → List D → Mem → Option R) : ∀ (t : Nat) (n2 : Int),
    loopK (fun st K => codeK (cx_IndexFuncP N) (loopN Tryd.f73 0) st K) 19 [0, 1, 7, 8] [4] t [(.v (.sl 31 vs0) .no), (.clos 49 [(.ptr 1 0 0)]), (.v (.int .i64 n1) .no), (.v (.int .i64 n2) .no)] [[], [(0, ⟨24, [(.v (.int .i64 n3) .no), (.v (.int .i64 n4) .no), (.v (.sl 24 vs5) .no)]⟩)]] K = S_IndexFuncP_2 N vs0 n1 n3 n4 vs5 t n2 (fun a0 => K .ret [(.v (.int .i64 a0) .no)] [[], [(0, ⟨24, [(.v (.int .i64 n3) .no), (.v (.int .i64 n4) .no), (.v (.sl 24 vs5) .no)]⟩)]]) (K (.exit 0) [.any] [[], [(0, ⟨24, [(.v (.int .i64 n3) .no), (.v (.int .i64 n4) .no), (.v (.sl 24 vs5) .no)]⟩)]])
  | 0, n2 => rfl
  | t + 1, n2 => (F_IndexFuncP_2_ok N vs0 n1 n3 n4 vs5 n2 _ K).trans (congrArg (fun L => F_IndexFuncP_2 N vs0 n1 n3 n4 vs5 L (fun a0 => K .ret [(.v (.int .i64 a0) .no)] [[], [(0, ⟨24, [(.v (.int .i64 n3) .no), (.v (.int .i64 n4) .no), (.v (.sl 24 vs5) .no)]⟩)]]) (K (.exit 0) [.any] [[], [(0, ⟨24, [(.v (.int .i64 n3) .no), (.v (.int .i64 n4) .no), (.v (.sl 24 vs5) .no)]⟩)]]) n2) (funext fun n2 => S_IndexFuncP_2_ok N vs0 n1 n3 n4 vs5 K t n2))
theorem C_IndexFuncP_ok {R : Type} (N : Nat) (x0 : List V) (y0 : Int) (y1 : Int) (y2 : List V) (K : Int → Int → Int → List V → Option R) : bodyK (cx_IndexFuncP N) Tryd.f73 [.v (.sl 31 x0) .no, .clos 49 [.ptr 1 0 0]] [frOf 0 [⟨24, [.v (.int .i64 y0) .no, .v (.int .i64 y1) .no, .v (.sl 24 y2) .no]⟩]] (r_IndexFuncP K) = C_IndexFuncP N x0 y0 y1 y2 (fun r0 => K r0 y0 y1 y2) := by
  kernel_rfl
theorem go_IndexFuncP : Goes Tryd.prog 73 := goes_of Tryd.func73 (by kernel_rfl) (c := bodyOf Tryd.f73) (by kernel_rfl)
theorem eo_IndexFuncP (s : List V → Int → Int → List V → Option (Int)) (hs : ∀ (x0 : List V) (y0 : Int) (y1 : Int) (y2 : List V) (r0 : Int), s x0 y0 y1 y2 = some r0 → ViewRet Tryd.prog T 73 [.v (.sl 31 x0) .no, .clos 49 [.ptr 1 0 0]] [⟨24, [.v (.int .i64 y0) .no, .v (.int .i64 y1) .no, .v (.sl 24 y2) .no]⟩] [.v (.int .i64 r0) .no] [⟨24, [.v (.int .i64 y0) .no, .v (.int .i64 y1) .no, .v (.sl 24 y2) .no]⟩]) : MEntOK Tryd.prog T ⟨73, e_IndexFuncP s⟩ := by
  refine ⟨go_IndexFuncP, fun R dst ds m K r h => ?_⟩
  simp only [e_IndexFuncP] at h
  split at h
  · obtain ⟨Bs, a1, a2, a3, h⟩ := viewK_some h
    split at h
    · obtain ⟨r0, h1, h2⟩ := bnd1_some h
      rw [putAllK_eq] at h2
      exact ⟨_, _, h2, hs _ _ _ _ _ h1 _ _ m dst a1 a2 a3 ⟨aren_v _, aren_clos ⟨aren_ptr _ rfl, trivial⟩, trivial⟩⟩
    · cases h
  · cases h
theorem co_IndexFuncP (N : Nat) : CxOK Tryd.prog (cx_IndexFuncP N) :=
  cxOK_of2 (es := []) (me := [⟨49, e_Implies1 (s_Implies1 N)⟩]) (ms := []) T_ok trivial ⟨eo_Implies1 _ (p_Implies1 N), trivial⟩ trivial rfl (fun _ _ _ _ => rfl) (fun _ _ _ _ _ _ => rfl) rfl
theorem lk_IndexFuncP_2 (N : Nat) : LoopOK (cx_IndexFuncP N) 19 (loopN Tryd.f73 0) := by
  refine loopOK_of (rid := 2) (by kernel_rfl) rfl rfl fun R ds m K r h => ?_
  have h : l_IndexFuncP_2 N ds m K = some r := h
  unfold l_IndexFuncP_2 at h
  split at h
  · exact ⟨N, Eq.trans (S_IndexFuncP_2_ok ..) h⟩
  · cases h
theorem lo_IndexFuncP (N : Nat) : LoopsOK (cx_IndexFuncP N) Tryd.f73.ntmps (bodyOf Tryd.f73) :=
  loopsOK_of (k := 1) (by kernel_rfl) ⟨trivial, lk_IndexFuncP_2 N⟩
open Classical in
theorem p_IndexFuncP (N : Nat) (x0 : List V) (y0 : Int) (y1 : Int) (y2 : List V) (r0 : Int) (h : s_IndexFuncP N x0 y0 y1 y2 = some r0) : ViewRet Tryd.prog T 73 [.v (.sl 31 x0) .no, .clos 49 [.ptr 1 0 0]] [⟨24, [.v (.int .i64 y0) .no, .v (.int .i64 y1) .no, .v (.sl 24 y2) .no]⟩] [.v (.int .i64 r0) .no] [⟨24, [.v (.int .i64 y0) .no, .v (.int .i64 y1) .no, .v (.sl 24 y2) .no]⟩] := by
  refine view_of (Bs := [⟨24, [.v (.int .i64 y0) .no, .v (.int .i64 y1) .no, .v (.sl 24 y2) .no]⟩]) (Bs' := [⟨24, [.v (.int .i64 y0) .no, .v (.int .i64 y1) .no, .v (.sl 24 y2) .no]⟩]) (cx := cx_IndexFuncP N) (by kernel_rfl) (co_IndexFuncP N) Tryd.func73 (by kernel_rfl) (by kernel_rfl) (lo_IndexFuncP N) rfl rfl rfl rfl (rf := r_IndexFuncP (fun r0' z'0 z'1 z'2 => if z'0 = y0 ∧ z'1 = y1 ∧ z'2 = y2 then some r0' else none)) (r := r0) ?_ ?_
  · exact (C_IndexFuncP_ok N x0 y0 y1 y2 _).trans ((congrArg (fun K => C_IndexFuncP N x0 y0 y1 y2 K) (funext fun r0' => if_pos ⟨rfl, rfl, rfl⟩)).trans h)
  · intro rs' m' hx
    unfold r_IndexFuncP at hx
    split at hx
    · dsimp only at hx
      split at hx
      · rename_i hk
        obtain ⟨rfl, rfl, rfl⟩ := hk
        cases hx; exact ⟨rfl, rfl, _, rfl⟩
      · cases hx
    · cases hx
noncomputable def e_ContainsFuncP {R : Type} (s : List V → Int → Int → List V → Option (Bool)) (dst : Nat) (ds : List D) (m : Mem) (K : List D → Mem → Option R) : Option R :=
  match ds with
  | [.v (.sl 31 x0) .no, .clos 49 [.ptr (kv0 + 1) sv0 0]] => viewK [(kv0, sv0)] m fun Bs => (match Bs with
    | [⟨24, [.v (.int .i64 y0) .no, .v (.int .i64 y1) .no, .v (.sl 24 y2) .no]⟩] => bnd1 (s x0 y0 y1 y2) fun r0 => putAllK [(kv0, sv0)] [⟨24, [.v (.int .i64 y0) .no, .v (.int .i64 y1) .no, .v (.sl 24 y2) .no]⟩] m fun m' => K [.v (.bool r0) .no] m'
    | _ => none)
  | _ => none
noncomputable def r_ContainsFuncP {α : Type} (K : Bool → Int → Int → List V → Option α) (rs : List D) (m : Mem) : Option α :=
  match rs, m with
  | [.v (.bool r0) _], [_, [(0, ⟨24, [.v (.int .i64 z0) .no, .v (.int .i64 z1) .no, .v (.sl 24 z2) .no]⟩)]] => K r0 z0 z1 z2
  | _, _ => none
noncomputable def C_ContainsFuncP {R : Type} (N : Nat) (x0 : List V) (y0 : Int) (y1 : Int) (y2 : List V) (K0 : Bool → Option R) : Option R :=
  bnd1 (s_IndexFuncP N x0 y0 y1 y2) fun n0 => K0 (decide (0 ≤ n0))
noncomputable def s_ContainsFuncP (N : Nat) (x0 : List V) (y0 : Int) (y1 : Int) (y2 : List V) : Option (Bool) :=
  C_ContainsFuncP N x0 y0 y1 y2 (fun r0 => some r0)
noncomputable def cx_ContainsFuncP (N : Nat) : Cx := { T := T, isPure := tabP [], pureK := fun g ds K => tabK [] g ds K, memK := fun g dst ds m K => tabMK [⟨73, e_IndexFuncP (s_IndexFuncP N)⟩] g dst ds m K, meth := tabM [], keep := fun _ => [], keepX := fun _ => [], loopT := fun _ _ _ _ => none, jumps := 9 }
theorem C_ContainsFuncP_ok {R : Type} (N : Nat) (x0 : List V) (y0 : Int) (y1 : Int) (y2 : List V) (K : Bool → Int → Int → List V → Option R) : bodyK (cx_ContainsFuncP N) Tryd.f47 [.v (.sl 31 x0) .no, .clos 49 [.ptr 1 0 0]] [frOf 0 [⟨24, [.v (.int .i64 y0) .no, .v (.int .i64 y1) .no, .v (.sl 24 y2) .no]⟩]] (r_ContainsFuncP K) = C_ContainsFuncP N x0 y0 y1 y2 (fun r0 => K r0 y0 y1 y2) := by
  kernel_rfl
theorem go_ContainsFuncP : Goes Tryd.prog 47 := goes_of Tryd.func47 (by kernel_rfl) (c := bodyOf Tryd.f47) (by kernel_rfl)
theorem eo_ContainsFuncP (s : List V → Int → Int → List V → Option (Bool)) (hs : ∀ (x0 : List V) (y0 : Int) (y1 : Int) (y2 : List V) (r0 : Bool), s x0 y0 y1 y2 = some r0 → ViewRet Tryd.prog T 47 [.v (.sl 31 x0) .no, .clos 49 [.ptr 1 0 0]] [⟨24, [.v (.int .i64 y0) .no, .v (.int .i64 y1) .no, .v (.sl 24 y2) .no]⟩] [.v (.bool r0) .no] [⟨24, [.v (.int .i64 y0) .no, .v (.int .i64 y1) .no, .v (.sl 24 y2) .no]⟩]) : MEntOK Tryd.prog T ⟨47, e_ContainsFuncP s⟩ := by
  refine ⟨go_ContainsFuncP, fun R dst ds m K r h => ?_⟩
  simp only [e_ContainsFuncP] at h
  split at h
  · obtain ⟨Bs, a1, a2, a3, h⟩ := viewK_some h
    split at h
    · obtain ⟨r0, h1, h2⟩ := bnd1_some h
      rw [putAllK_eq] at h2
      exact ⟨_, _, h2, hs _ _ _ _ _ h1 _ _ m dst a1 a2 a3 ⟨aren_v _, aren_clos ⟨aren_ptr _ rfl, trivial⟩, trivial⟩⟩
    · cases h
  · cases h
theorem co_ContainsFuncP (N : Nat) : CxOK Tryd.prog (cx_ContainsFuncP N) :=
  cxOK_of2 (es := []) (me := [⟨73, e_IndexFuncP (s_IndexFuncP N)⟩]) (ms := []) T_ok trivial ⟨eo_IndexFuncP _ (p_IndexFuncP N), trivial⟩ trivial rfl (fun _ _ _ _ => rfl) (fun _ _ _ _ _ _ => rfl) rfl
theorem lo_ContainsFuncP (N : Nat) : LoopsOK (cx_ContainsFuncP N) Tryd.f47.ntmps (bodyOf Tryd.f47) :=
  loopsOK_of (k := 0) (by kernel_rfl) trivial
open Classical in
theorem p_ContainsFuncP (N : Nat) (x0 : List V) (y0 : Int) (y1 : Int) (y2 : List V) (r0 : Bool) (h : s_ContainsFuncP N x0 y0 y1 y2 = some r0) : ViewRet Tryd.prog T 47 [.v (.sl 31 x0) .no, .clos 49 [.ptr 1 0 0]] [⟨24, [.v (.int .i64 y0) .no, .v (.int .i64 y1) .no, .v (.sl 24 y2) .no]⟩] [.v (.bool r0) .no] [⟨24, [.v (.int .i64 y0) .no, .v (.int .i64 y1) .no, .v (.sl 24 y2) .no]⟩] := by
  refine view_of (Bs := [⟨24, [.v (.int .i64 y0) .no, .v (.int .i64 y1) .no, .v (.sl 24 y2) .no]⟩]) (Bs' := [⟨24, [.v (.int .i64 y0) .no, .v (.int .i64 y1) .no, .v (.sl 24 y2) .no]⟩]) (cx := cx_ContainsFuncP N) (by kernel_rfl) (co_ContainsFuncP N) Tryd.func47 (by kernel_rfl) (by kernel_rfl) (lo_ContainsFuncP N) rfl rfl rfl rfl (rf := r_ContainsFuncP (fun r0' z'0 z'1 z'2 => if z'0 = y0 ∧ z'1 = y1 ∧ z'2 = y2 then some r0' else none)) (r := r0) ?_ ?_
  · exact (C_ContainsFuncP_ok N x0 y0 y1 y2 _).trans ((congrArg (fun K => C_ContainsFuncP N x0 y0 y1 y2 K) (funext fun r0' => if_pos ⟨rfl, rfl, rfl⟩)).trans h)
  · intro rs' m' hx
    unfold r_ContainsFuncP at hx
    split at hx
    · dsimp only at hx
      split at hx
      · rename_i hk
        obtain ⟨rfl, rfl, rfl⟩ := hk
        cases hx; exact ⟨rfl, rfl, _, rfl⟩
      · cases hx
    · cases hx
noncomputable def e_Implies {R : Type} (s : Int → Int → List V → Int → Int → List V → Option (Bool)) (ds : List D) (K : List D → Option R) : Option R :=
  match ds with
  | [.agg [.v (.int .i64 x0) .no, .v (.int .i64 x1) .no, .v (.sl 24 x2) .no], .agg [.v (.int .i64 x3) .no, .v (.int .i64 x4) .no, .v (.sl 24 x5) .no]] => bnd1 (s x0 x1 x2 x3 x4 x5) fun r0 => K [.v (.bool r0) .no]
  | _ => none
noncomputable def r_Implies (rs : List D) (_ : Mem) : Option (Bool) :=
  match rs with
  | [.v (.bool r0) _] => some (r0)
  | _ => none
noncomputable def s_Implies (N : Nat) (x0 : Int) (x1 : Int) (x2 : List V) (x3 : Int) (x4 : Int) (x5 : List V) : Option (Bool) :=
  bnd1 (s_aCheck N x0 x1 x2) fun n0 =>
  br (!decide (n0 = 0)) (some false) (bnd1 (s_aCheck N x3 x4 x5) fun n1 => br (!decide (n1 = 0)) (some false) (bnd1 (s_least N N x0 x1 x2) fun l2 => bnd1 (s_ContainsFuncP N l2 x3 x4 x5) fun b3 => some !b3))
noncomputable def cx_Implies (N : Nat) : Cx := { T := T, isPure := tabP [⟨17, e_aCheck (s_aCheck N)⟩, ⟨48, e_least (s_least N N)⟩], pureK := fun g ds K => tabK [⟨17, e_aCheck (s_aCheck N)⟩, ⟨48, e_least (s_least N N)⟩] g ds K, memK := fun g dst ds m K => tabMK [⟨47, e_ContainsFuncP (s_ContainsFuncP N)⟩, ⟨49, e_Implies1 (s_Implies1 N)⟩] g dst ds m K, meth := tabM [], keep := fun _ => [], keepX := fun _ => [], loopT := fun _ _ _ _ => none, jumps := 9 }
theorem s_Implies_ok (N : Nat) (x0 : Int) (x1 : Int) (x2 : List V) (x3 : Int) (x4 : Int) (x5 : List V) : bodyK (cx_Implies N) Tryd.f22 [.agg [.v (.int .i64 x0) .no, .v (.int .i64 x1) .no, .v (.sl 24 x2) .no], .agg [.v (.int .i64 x3) .no, .v (.int .i64 x4) .no, .v (.sl 24 x5) .no]] [] r_Implies = s_Implies N x0 x1 x2 x3 x4 x5 := by
  kernel_rfl
theorem go_Implies : Goes Tryd.prog 22 := goes_of Tryd.func22 (by kernel_rfl) (c := bodyOf Tryd.f22) (by kernel_rfl)
theorem eo_Implies (s : Int → Int → List V → Int → Int → List V → Option (Bool)) (hs : ∀ (x0 : Int) (x1 : Int) (x2 : List V) (x3 : Int) (x4 : Int) (x5 : List V) (r0 : Bool), s x0 x1 x2 x3 x4 x5 = some r0 → PureRet Tryd.prog T 22 [.agg [.v (.int .i64 x0) .no, .v (.int .i64 x1) .no, .v (.sl 24 x2) .no], .agg [.v (.int .i64 x3) .no, .v (.int .i64 x4) .no, .v (.sl 24 x5) .no]] [.v (.bool r0) .no]) : EntOK Tryd.prog T ⟨22, e_Implies s⟩ := by
  refine ⟨go_Implies, fun R ds K r h => ?_, fun R ds K => ?_⟩
  · simp only [e_Implies] at h
    split at h
    · obtain ⟨r0, h1, h2⟩ := bnd1_some h
      exact ⟨_, h2, hs _ _ _ _ _ _ _ h1⟩
    · cases h
  · simp only [e_Implies]
    split
    · rw [bnd1_b]; rfl
    · rfl
theorem co_Implies (N : Nat) : CxOK Tryd.prog (cx_Implies N) :=
  cxOK_of2 (es := [⟨17, e_aCheck (s_aCheck N)⟩, ⟨48, e_least (s_least N N)⟩]) (me := [⟨47, e_ContainsFuncP (s_ContainsFuncP N)⟩, ⟨49, e_Implies1 (s_Implies1 N)⟩]) (ms := []) T_ok ⟨eo_aCheck _ (p_aCheck N), eo_least _ (p_least N N), trivial⟩ ⟨eo_ContainsFuncP _ (p_ContainsFuncP N), eo_Implies1 _ (p_Implies1 N), trivial⟩ trivial rfl (fun _ _ _ _ => rfl) (fun _ _ _ _ _ _ => rfl) rfl
theorem lo_Implies (N : Nat) : LoopsOK (cx_Implies N) Tryd.f22.ntmps (bodyOf Tryd.f22) :=
  loopsOK_of (k := 0) (by kernel_rfl) trivial
theorem p_Implies (N : Nat) (x0 : Int) (x1 : Int) (x2 : List V) (x3 : Int) (x4 : Int) (x5 : List V) (r0 : Bool) (h : s_Implies N x0 x1 x2 x3 x4 x5 = some r0) : PureRet Tryd.prog T 22 [.agg [.v (.int .i64 x0) .no, .v (.int .i64 x1) .no, .v (.sl 24 x2) .no], .agg [.v (.int .i64 x3) .no, .v (.int .i64 x4) .no, .v (.sl 24 x5) .no]] [.v (.bool r0) .no] :=
  pure_of (cx := cx_Implies N) (by kernel_rfl) (co_Implies N) Tryd.func22 (by kernel_rfl) (by kernel_rfl) (lo_Implies N) rfl rfl rfl (rf := r_Implies) ((s_Implies_ok N x0 x1 x2 x3 x4 x5).trans h) (fun rs' m h => by
    unfold r_Implies at h
    split at h
    · cases h; exact ⟨rfl, rfl⟩
    · cases h)
noncomputable def e_aencode {R : Type} (s : Int → Int → List V → Option (List UInt8)) (ds : List D) (K : List D → Option R) : Option R :=
  match ds with
  | [.agg [.v (.int .i64 x0) .no, .v (.int .i64 x1) .no, .v (.sl 24 x2) .no]] => bnd1 (s x0 x1 x2) fun r0 => K [.v (.bytes r0) .no]
  | _ => none
noncomputable def r_aencode (rs : List D) (_ : Mem) : Option (List UInt8) :=
  match rs with
  | [.v (.bytes r0) _] => some (r0)
  | _ => none
noncomputable def F_aencode_8 {R : Type} (N : Nat) (f : Int → Int → List V → Option (List UInt8)) (vs1 : List V) (n2 : Int) (n4 : Int) (n5 : Int) (vs6 : List V) (l7 : List UInt8) (b8 : Bool) (b9 : Bool) (n10 : Int) (n11 : Int) (Lq : List UInt8 → Int → Option R) (K0 : List UInt8 → Option R) (l0 : List UInt8) (n3 : Int) : Option R :=
  br (decide (n3 < n2))
  (br (decide (0 ≤ n3) && decide (n3 < (↑vs1.length : Int)))
    (at? vs1 n3.toNat fun x0 =>
      x0.unAgg fun l1 =>
        unCons l1 fun x2 l3 =>
          V.unInt IntKind.i64 x2 fun n4 =>
            unCons l3 fun x5 l6 =>
              V.unInt IntKind.i64 x5 fun n7 =>
                unCons l6 fun x8 l9 => V.unSl 24 x8 fun l10 => unNil l9 (bnd1 (f n4 n7 l10) fun l11 => br (decide ((l0.length + l11.length) * 1 ≤ 140737488355328)) (Lq (l0 ++ l11) (IntKind.i64.wrap (n3 + 1))) none))
    none)
  (K0 l0)
noncomputable def S_aencode_8 {R : Type} (N : Nat) (f : Int → Int → List V → Option (List UInt8)) (vs1 : List V) (n2 : Int) (n4 : Int) (n5 : Int) (vs6 : List V) (l7 : List UInt8) (b8 : Bool) (b9 : Bool) (n10 : Int) (n11 : Int) : Nat → List UInt8 → Int → (List UInt8 → Option R) → Option R
  | 0, _, _, _ => none
  | t + 1, l0, n3, K0 => F_aencode_8 N f vs1 n2 n4 n5 vs6 l7 b8 b9 n10 n11 (fun l0 n3 => S_aencode_8 N f vs1 n2 n4 n5 vs6 l7 b8 b9 n10 n11 t l0 n3 K0) K0 l0 n3
noncomputable def l_aencode_8 {R : Type} (N : Nat) (f : Int → Int → List V → Option (List UInt8)) (ds : List D) (m : Mem) (K : Ex → List D → Mem → Option R) : Option R :=
  match ds, m with
  | [(.ptr 0 1 0), (.ptr 0 3 0), (.v (.bytes l0) (.own (.slot 4) 5)), (.v (.sl 24 vs1) .no), (.v (.int .i64 n2) .no), (.v (.int .i64 n3) .no)], [[(1, ⟨24, [(.v (.int .i64 n4) .no), (.v (.int .i64 n5) .no), (.v (.sl 24 vs6) .no)]⟩), (3, ⟨79, [(.v (.str l7) .no), (.v (.bool b8) .no), (.v (.bool b9) .no), (.v (.int .i64 n10) .no), (.v (.int .i64 n11) .no)]⟩)]] => S_aencode_8 N f vs1 n2 n4 n5 vs6 l7 b8 b9 n10 n11 N l0 n3 (fun a0 => K (.exit 0) [(.ptr 0 1 0), (.ptr 0 3 0), (.v (.bytes a0) (.own (.slot 4) 5))] [[(1, ⟨24, [(.v (.int .i64 n4) .no), (.v (.int .i64 n5) .no), (.v (.sl 24 vs6) .no)]⟩), (3, ⟨79, [(.v (.str l7) .no), (.v (.bool b8) .no), (.v (.bool b9) .no), (.v (.int .i64 n10) .no), (.v (.int .i64 n11) .no)]⟩)]])
  | _, _ => none
noncomputable def B_aencode (N : Nat) (f : Int → Int → List V → Option (List UInt8)) (x0 : Int) (x1 : Int) (x2 : List V) : Option (List UInt8) :=
  bnd1 (s_forms N) fun x0_1 =>
  br (decide (x0 = 0)) (S_aencode_8 N f x2 (↑x2.length : Int) x0 x1 x2 ([110, 101, 118, 101, 114] : List UInt8) false false 0 0 N [UInt8.ofNat (IntKind.u8.wrap x0).toNat] 0 fun l1 => some l1)
    (br (decide (x0 = 1)) (S_aencode_8 N f x2 (↑x2.length : Int) x0 x1 x2 ([97, 108, 119, 97, 121, 115] : List UInt8) false false 0 0 N [UInt8.ofNat (IntKind.u8.wrap x0).toNat] 0 fun l2 => some l2)
      (br (decide (x0 = 2)) (S_aencode_8 N f x2 (↑x2.length : Int) x0 x1 x2 ([112, 105, 110] : List UInt8) true false 1 8 N [UInt8.ofNat (IntKind.u8.wrap x0).toNat, UInt8.ofNat (IntKind.u8.wrap x1).toNat] 0 fun l3 => some l3)
        (br (decide (x0 = 3)) (S_aencode_8 N f x2 (↑x2.length : Int) x0 x1 x2 ([107, 101, 121] : List UInt8) true false 1 8 N [UInt8.ofNat (IntKind.u8.wrap x0).toNat, UInt8.ofNat (IntKind.u8.wrap x1).toNat] 0 fun l4 => some l4)
          (br (decide (x0 = 4)) (S_aencode_8 N f x2 (↑x2.length : Int) x0 x1 x2 ([115, 116, 97, 116, 101] : List UInt8) true false 1 5 N [UInt8.ofNat (IntKind.u8.wrap x0).toNat, UInt8.ofNat (IntKind.u8.wrap x1).toNat] 0 fun l5 => some l5)
            (br (decide (x0 = 5)) (S_aencode_8 N f x2 (↑x2.length : Int) x0 x1 x2 ([108, 101, 118, 101, 108] : List UInt8) true false 1 51 N [UInt8.ofNat (IntKind.u8.wrap x0).toNat, UInt8.ofNat (IntKind.u8.wrap x1).toNat] 0 fun l6 => some l6)
              (br (decide (x0 = 6)) (S_aencode_8 N f x2 (↑x2.length : Int) x0 x1 x2 ([97, 110, 100] : List UInt8) false true 0 0 N [UInt8.ofNat (IntKind.u8.wrap x0).toNat, UInt8.ofNat (IntKind.u8.wrap (↑x2.length : Int)).toNat] 0 fun l7 => some l7)
                (br (decide (x0 = 7)) (S_aencode_8 N f x2 (↑x2.length : Int) x0 x1 x2 ([111, 114] : List UInt8) false true 0 0 N [UInt8.ofNat (IntKind.u8.wrap x0).toNat, UInt8.ofNat (IntKind.u8.wrap (↑x2.length : Int)).toNat] 0 fun l8 => some l8)
                  none)))))))
noncomputable def s_aencode (N : Nat) : Nat → Int → Int → List V → Option (List UInt8)
  | 0, _, _, _ => none
  | n + 1, x0, x1, x2 => B_aencode N (s_aencode N n) x0 x1 x2
noncomputable def cx_aencode (N : Nat) (f : Int → Int → List V → Option (List UInt8)) : Cx := { T := T, isPure := tabP [⟨51, e_aencode f⟩, ⟨67, e_forms (s_forms N)⟩], pureK := fun g ds K => tabK [⟨51, e_aencode f⟩, ⟨67, e_forms (s_forms N)⟩] g ds K, memK := fun g dst ds m K => tabMK [] g dst ds m K, meth := tabM [], keep := fun r => match r with | 8 => [1, 3, 4, 33, 34, 35] | _ => [], keepX := fun r => match r with | 8 => [1, 3, 4] | _ => [], loopT := fun r ds m K => match r with | 8 => l_aencode_8 N f ds m K | _ => none, jumps := 9 }
theorem F_aencode_8_ok {R : Type} (N : Nat) (f : Int → Int → List V → Option (List UInt8)) (vs1 : List V) (n2 : Int) (n4 : Int) (n5 : Int) (vs6 : List V) (l7 : List UInt8) (b8 : Bool) (b9 : Bool) (n10 : Int) (n11 : Int) (l0 : List UInt8) (n3 : Int) (L : List D → Mem → Option R) (K : Ex → List D → Mem → Option R) :
    roundK (fun st K => codeK (cx_aencode N f) (loopN Tryd.f51 0) st K) 45 [1, 3, 4, 33, 34, 35] [1, 3, 4] L [(.ptr 0 1 0), (.ptr 0 3 0), (.v (.bytes l0) (.own (.slot 4) 5)), (.v (.sl 24 vs1) .no), (.v (.int .i64 n2) .no), (.v (.int .i64 n3) .no)] [[(1, ⟨24, [(.v (.int .i64 n4) .no), (.v (.int .i64 n5) .no), (.v (.sl 24 vs6) .no)]⟩), (3, ⟨79, [(.v (.str l7) .no), (.v (.bool b8) .no), (.v (.bool b9) .no), (.v (.int .i64 n10) .no), (.v (.int .i64 n11) .no)]⟩)]] K = F_aencode_8 N f vs1 n2 n4 n5 vs6 l7 b8 b9 n10 n11 (fun l0 n3 => L [(.ptr 0 1 0), (.ptr 0 3 0), (.v (.bytes l0) (.own (.slot 4) 5)), (.v (.sl 24 vs1) .no), (.v (.int .i64 n2) .no), (.v (.int .i64 n3) .no)] [[(1, ⟨24, [(.v (.int .i64 n4) .no), (.v (.int .i64 n5) .no), (.v (.sl 24 vs6) .no)]⟩), (3, ⟨79, [(.v (.str l7) .no), (.v (.bool b8) .no), (.v (.bool b9) .no), (.v (.int .i64 n10) .no), (.v (.int .i64 n11) .no)]⟩)]]) (fun a0 => K (.exit 0) [(.ptr 0 1 0), (.ptr 0 3 0), (.v (.bytes a0) (.own (.slot 4) 5))] [[(1, ⟨24, [(.v (.int .i64 n4) .no), (.v (.int .i64 n5) .no), (.v (.sl 24 vs6) .no)]⟩), (3, ⟨79, [(.v (.str l7) .no), (.v (.bool b8) .no), (.v (.bool b9) .no), (.v (.int .i64 n10) .no), (.v (.int .i64 n11) .no)]⟩)]]) l0 n3 := by
  kernel_rfl
theorem S_aencode_8_ok {R : Type} (N : Nat) (f : Int → Int → List V → Option (List UInt8)) (vs1 : List V) (n2 : Int) (n4 : Int) (n5 : Int) (vs6 : List V) (l7 : List UInt8) (b8 : Bool) (b9 : Bool) (n10 : Int) (n11 : Int) (K : Ex → List D → Mem → Option R) : ∀ (t : Nat) (l0 : List UInt8) (n3 : Int),
    loopK (fun st K => codeK (cx_aencode N f) (loopN Tryd.f51 0) st K) 45 [1, 3, 4, 33, 34, 35] [1, 3, 4] t [(.ptr 0 1 0), (.ptr 0 3 0), (.v (.bytes l0) (.own (.slot 4) 5)), (.v (.sl 24 vs1) .no), (.v (.int .i64 n2) .no), (.v (.int .i64 n3) .no)] [[(1, ⟨24, [(.v (.int .i64 n4) .no), (.v (.int .i64 n5) .no), (.v (.sl 24 vs6) .no)]⟩), (3, ⟨79, [(.v (.str l7) .no), (.v (.bool b8) .no), (.v (.bool b9) .no), (.v (.int .i64 n10) .no), (.v (.int .i64 n11) .no)]⟩)]] K = S_aencode_8 N f vs1 n2 n4 n5 vs6 l7 b8 b9 n10 n11 t l0 n3 (fun a0 => K (.exit 0) [(.ptr 0 1 0), (.ptr 0 3 0), (.v (.bytes a0) (.own (.slot 4) 5))] [[(1, ⟨24, [(.v (.int .i64 n4) .no), (.v (.int .i64 n5) .no), (.v (.sl 24 vs6) .no)]⟩), (3, ⟨79, [(.v (.str l7) .no), (.v (.bool b8) .no), (.v (.bool b9) .no), (.v (.int .i64 n10) .no), (.v (.int .i64 n11) .no)]⟩)]])
  | 0, l0, n3 => rfl
  | t + 1, l0, n3 => (F_aencode_8_ok N f vs1 n2 n4 n5 vs6 l7 b8 b9 n10 n11 l0 n3 _ K).trans (congrArg (fun L => F_aencode_8 N f vs1 n2 n4 n5 vs6 l7 b8 b9 n10 n11 L (fun a0 => K (.exit 0) [(.ptr 0 1 0), (.ptr 0 3 0), (.v (.bytes a0) (.own (.slot 4) 5))] [[(1, ⟨24, [(.v (.int .i64 n4) .no), (.v (.int .i64 n5) .no), (.v (.sl 24 vs6) .no)]⟩), (3, ⟨79, [(.v (.str l7) .no), (.v (.bool b8) .no), (.v (.bool b9) .no), (.v (.int .i64 n10) .no), (.v (.int .i64 n11) .no)]⟩)]]) l0 n3) (funext fun l0 => funext fun n3 => S_aencode_8_ok N f vs1 n2 n4 n5 vs6 l7 b8 b9 n10 n11 K t l0 n3))
theorem B_aencode_ok (N : Nat) (f : Int → Int → List V → Option (List UInt8)) (x0 : Int) (x1 : Int) (x2 : List V) : bodyK (cx_aencode N f) Tryd.f51 [.agg [.v (.int .i64 x0) .no, .v (.int .i64 x1) .no, .v (.sl 24 x2) .no]] [] r_aencode = B_aencode N f x0 x1 x2 := by
  kernel_rfl
theorem go_aencode : Goes Tryd.prog 51 := goes_of Tryd.func51 (by kernel_rfl) (c := bodyOf Tryd.f51) (by kernel_rfl)
theorem eo_aencode (s : Int → Int → List V → Option (List UInt8)) (hs : ∀ (x0 : Int) (x1 : Int) (x2 : List V) (r0 : List UInt8), s x0 x1 x2 = some r0 → PureRet Tryd.prog T 51 [.agg [.v (.int .i64 x0) .no, .v (.int .i64 x1) .no, .v (.sl 24 x2) .no]] [.v (.bytes r0) .no]) : EntOK Tryd.prog T ⟨51, e_aencode s⟩ := by
  refine ⟨go_aencode, fun R ds K r h => ?_, fun R ds K => ?_⟩
  · simp only [e_aencode] at h
    split at h
    · obtain ⟨r0, h1, h2⟩ := bnd1_some h
      exact ⟨_, h2, hs _ _ _ _ h1⟩
    · cases h
  · simp only [e_aencode]
    split
    · rw [bnd1_b]; rfl
    · rfl
theorem co_aencode (N : Nat) (f : Int → Int → List V → Option (List UInt8)) (hf : ∀ (x0 : Int) (x1 : Int) (x2 : List V) (r0 : List UInt8), f x0 x1 x2 = some r0 → PureRet Tryd.prog T 51 [.agg [.v (.int .i64 x0) .no, .v (.int .i64 x1) .no, .v (.sl 24 x2) .no]] [.v (.bytes r0) .no]) : CxOK Tryd.prog (cx_aencode N f) :=
  cxOK_of2 (es := [⟨51, e_aencode f⟩, ⟨67, e_forms (s_forms N)⟩]) (me := []) (ms := []) T_ok ⟨eo_aencode f hf, eo_forms _ (p_forms N), trivial⟩ trivial trivial rfl (fun _ _ _ _ => rfl) (fun _ _ _ _ _ _ => rfl) rfl
theorem lk_aencode_8 (N : Nat) (f : Int → Int → List V → Option (List UInt8)) : LoopOK (cx_aencode N f) 45 (loopN Tryd.f51 0) := by
  refine loopOK_of (rid := 8) (by kernel_rfl) rfl rfl fun R ds m K r h => ?_
  have h : l_aencode_8 N f ds m K = some r := h
  unfold l_aencode_8 at h
  split at h
  · exact ⟨N, Eq.trans (S_aencode_8_ok ..) h⟩
  · cases h
theorem lo_aencode (N : Nat) (f : Int → Int → List V → Option (List UInt8)) : LoopsOK (cx_aencode N f) Tryd.f51.ntmps (bodyOf Tryd.f51) :=
  loopsOK_of (k := 1) (by kernel_rfl) ⟨trivial, lk_aencode_8 N f⟩
theorem p_aencode (N : Nat) : ∀ (M : Nat) (x0 : Int) (x1 : Int) (x2 : List V) (r0 : List UInt8), s_aencode N M x0 x1 x2 = some r0 → PureRet Tryd.prog T 51 [.agg [.v (.int .i64 x0) .no, .v (.int .i64 x1) .no, .v (.sl 24 x2) .no]] [.v (.bytes r0) .no]
  | 0, _, _, _, _, h => by cases h
  | M + 1, x0, x1, x2, r0, h => pure_of (cx := cx_aencode N (s_aencode N M)) (by kernel_rfl) (co_aencode N (s_aencode N M) (p_aencode N M)) Tryd.func51 (by kernel_rfl) (by kernel_rfl) (lo_aencode N (s_aencode N M)) rfl rfl rfl (rf := r_aencode) ((B_aencode_ok N (s_aencode N M) x0 x1 x2).trans h) (fun rs' m h => by
    unfold r_aencode at h
    split at h
    · cases h; exact ⟨rfl, rfl⟩
    · cases h)
noncomputable def e_aEncode {R : Type} (s : List V → Option (List UInt8 × Int)) (ds : List D) (K : List D → Option R) : Option R :=
  match ds with
  | [.v (.sl 53 x0) .no] => bnd2 (s x0) fun r0 r1 => K [.v (.bytes r0) .no, .v (.int .i64 r1) .no]
  | _ => none
noncomputable def r_aEncode (rs : List D) (_ : Mem) : Option (List UInt8 × Int) :=
  match rs with
  | [.v (.bytes r0) _, .v (.int .i64 r1) _] => some (r0, r1)
  | _ => none
noncomputable def F_aEncode_6 {R : Type} (N : Nat) (vs1 : List V) (n2 : Int) (Lq : List V → Int → Option R) (K0 : List V → Option R) (vs0 : List V) (n3 : Int) : Option R :=
  br (decide (n3 < n2))
  (br (decide (0 ≤ n3) && decide (n3 < (↑vs1.length : Int)))
    (at? vs1 n3.toNat fun x0 =>
      x0.unAgg fun l1 =>
        unCons l1 fun x2 l3 =>
          V.unInt IntKind.i64 x2 fun n4 =>
            unCons l3 fun x5 l6 =>
              V.unInt IntKind.i64 x5 fun n7 =>
                unCons l6 fun x8 l9 =>
                  V.unInt IntKind.i64 x8 fun n10 =>
                    unCons l9 fun x11 l12 =>
                      V.unSl 24 x11 fun l13 =>
                        unNil l12
                          (bnd1 (s_aencode N N n7 n10 l13) fun l14 =>
                            br (decide (([UInt8.ofNat (IntKind.u8.wrap n4).toNat].length + l14.length) * 1 ≤ 140737488355328))
                              (br (decide ((vs0.length + [V.agg [V.int IntKind.i64 128, V.bytes (UInt8.ofNat (IntKind.u8.wrap n4).toNat :: [].append l14), V.sl 67 []]].length) * 56 ≤ 140737488355328))
                                (Lq (vs0 ++ [V.agg [V.int IntKind.i64 128, V.bytes (UInt8.ofNat (IntKind.u8.wrap n4).toNat :: [].append l14), V.sl 67 []]]) (IntKind.i64.wrap (n3 + 1))) none)
                              none))
    none)
  (K0 vs0)
noncomputable def S_aEncode_6 {R : Type} (N : Nat) (vs1 : List V) (n2 : Int) : Nat → List V → Int → (List V → Option R) → Option R
  | 0, _, _, _ => none
  | t + 1, vs0, n3, K0 => F_aEncode_6 N vs1 n2 (fun vs0 n3 => S_aEncode_6 N vs1 n2 t vs0 n3 K0) K0 vs0 n3
noncomputable def l_aEncode_6 {R : Type} (N : Nat) (ds : List D) (m : Mem) (K : Ex → List D → Mem → Option R) : Option R :=
  match ds, m with
  | [(.v (.sl 67 vs0) (.own (.slot 5) 67)), (.v (.sl 53 vs1) .no), (.v (.int .i64 n2) .no), (.v (.int .i64 n3) .no)], [[]] => S_aEncode_6 N vs1 n2 N vs0 n3 (fun a0 => K (.exit 0) [(.v (.sl 67 a0) (.own (.slot 5) 67))] [[]])
  | _, _ => none
noncomputable def s_aEncode (N : Nat) (x0 : List V) : Option (List UInt8 × Int) :=
  bnd1 (s_aCheckRules N x0) fun n0 => br (!decide (n0 = 0)) (some ([], n0)) (S_aEncode_6 N x0 (↑x0.length : Int) N [] 0 fun l1 => bnd2 (s_Encode N l1) fun l2 n3 => some (l2, n3))
noncomputable def cx_aEncode (N : Nat) : Cx := { T := T, isPure := tabP [⟨30, e_aCheckRules (s_aCheckRules N)⟩, ⟨51, e_aencode (s_aencode N N)⟩, ⟨52, e_Encode (s_Encode N)⟩], pureK := fun g ds K => tabK [⟨30, e_aCheckRules (s_aCheckRules N)⟩, ⟨51, e_aencode (s_aencode N N)⟩, ⟨52, e_Encode (s_Encode N)⟩] g ds K, memK := fun g dst ds m K => tabMK [] g dst ds m K, meth := tabM [], keep := fun r => match r with | 6 => [5, 13, 14, 15] | _ => [], keepX := fun r => match r with | 6 => [5] | _ => [], loopT := fun r ds m K => match r with | 6 => l_aEncode_6 N ds m K | _ => none, jumps := 9 }
theorem F_aEncode_6_ok {R : Type} (N : Nat) (vs1 : List V) (n2 : Int) (vs0 : List V) (n3 : Int) (L : List D → Mem → Option R) (K : Ex → List D → Mem → Option R) :
    roundK (fun st K => codeK (cx_aEncode N) (loopN Tryd.f25 0) st K) 36 [5, 13, 14, 15] [5] L [(.v (.sl 67 vs0) (.own (.slot 5) 67)), (.v (.sl 53 vs1) .no), (.v (.int .i64 n2) .no), (.v (.int .i64 n3) .no)] [[]] K = F_aEncode_6 N vs1 n2 (fun vs0 n3 => L [(.v (.sl 67 vs0) (.own (.slot 5) 67)), (.v (.sl 53 vs1) .no), (.v (.int .i64 n2) .no), (.v (.int .i64 n3) .no)] [[]]) (fun a0 => K (.exit 0) [(.v (.sl 67 a0) (.own (.slot 5) 67))] [[]]) vs0 n3 := by
  kernel_rfl
theorem S_aEncode_6_ok {R : Type} (N : Nat) (vs1 : List V) (n2 : Int) (K : Ex → List D → Mem → Option R) : ∀ (t : Nat) (vs0 : List V) (n3 : Int),
    loopK (fun st K => codeK (cx_aEncode N) (loopN Tryd.f25 0) st K) 36 [5, 13, 14, 15] [5] t [(.v (.sl 67 vs0) (.own (.slot 5) 67)), (.v (.sl 53 vs1) .no), (.v (.int .i64 n2) .no), (.v (.int .i64 n3) .no)] [[]] K = S_aEncode_6 N vs1 n2 t vs0 n3 (fun a0 => K (.exit 0) [(.v (.sl 67 a0) (.own (.slot 5) 67))] [[]])
  | 0, vs0, n3 => rfl
  | t + 1, vs0, n3 => (F_aEncode_6_ok N vs1 n2 vs0 n3 _ K).trans (congrArg (fun L => F_aEncode_6 N vs1 n2 L (fun a0 => K (.exit 0) [(.v (.sl 67 a0) (.own (.slot 5) 67))] [[]]) vs0 n3) (funext fun vs0 => funext fun n3 => S_aEncode_6_ok N vs1 n2 K t vs0 n3))
theorem s_aEncode_ok (N : Nat) (x0 : List V) : bodyK (cx_aEncode N) Tryd.f25 [.v (.sl 53 x0) .no] [] r_aEncode = s_aEncode N x0 := by
  kernel_rfl
theorem go_aEncode : Goes Tryd.prog 25 := goes_of Tryd.func25 (by kernel_rfl) (c := bodyOf Tryd.f25) (by kernel_rfl)
theorem eo_aEncode (s : List V → Option (List UInt8 × Int)) (hs : ∀ (x0 : List V) (r0 : List UInt8) (r1 : Int), s x0 = some (r0, r1) → PureRet Tryd.prog T 25 [.v (.sl 53 x0) .no] [.v (.bytes r0) .no, .v (.int .i64 r1) .no]) : EntOK Tryd.prog T ⟨25, e_aEncode s⟩ := by
  refine ⟨go_aEncode, fun R ds K r h => ?_, fun R ds K => ?_⟩
  · simp only [e_aEncode] at h
    split at h
    · obtain ⟨r0, r1, h1, h2⟩ := bnd2_some h
      exact ⟨_, h2, hs _ _ _ h1⟩
    · cases h
  · simp only [e_aEncode]
    split
    · rw [bnd2_b]; rfl
    · rfl
theorem co_aEncode (N : Nat) : CxOK Tryd.prog (cx_aEncode N) :=
  cxOK_of2 (es := [⟨30, e_aCheckRules (s_aCheckRules N)⟩, ⟨51, e_aencode (s_aencode N N)⟩, ⟨52, e_Encode (s_Encode N)⟩]) (me := []) (ms := []) T_ok ⟨eo_aCheckRules _ (p_aCheckRules N), eo_aencode _ (p_aencode N N), eo_Encode _ (p_Encode N), trivial⟩ trivial trivial rfl (fun _ _ _ _ => rfl) (fun _ _ _ _ _ _ => rfl) rfl
theorem lk_aEncode_6 (N : Nat) : LoopOK (cx_aEncode N) 36 (loopN Tryd.f25 0) := by
  refine loopOK_of (rid := 6) (by kernel_rfl) rfl rfl fun R ds m K r h => ?_
  have h : l_aEncode_6 N ds m K = some r := h
  unfold l_aEncode_6 at h
  split at h
  · exact ⟨N, Eq.trans (S_aEncode_6_ok ..) h⟩
  · cases h
theorem lo_aEncode (N : Nat) : LoopsOK (cx_aEncode N) Tryd.f25.ntmps (bodyOf Tryd.f25) :=
  loopsOK_of (k := 1) (by kernel_rfl) ⟨trivial, lk_aEncode_6 N⟩
theorem p_aEncode (N : Nat) (x0 : List V) (r0 : List UInt8) (r1 : Int) (h : s_aEncode N x0 = some (r0, r1)) : PureRet Tryd.prog T 25 [.v (.sl 53 x0) .no] [.v (.bytes r0) .no, .v (.int .i64 r1) .no] :=
  pure_of (cx := cx_aEncode N) (by kernel_rfl) (co_aEncode N) Tryd.func25 (by kernel_rfl) (by kernel_rfl) (lo_aEncode N) rfl rfl rfl (rf := r_aEncode) ((s_aEncode_ok N x0).trans h) (fun rs' m h => by
    unfold r_aEncode at h
    split at h
    · cases h; exact ⟨rfl, rfl⟩
    · cases h)
end Go.Proofs.YtahemenhcoedgaaDoor.En
