/- Texts. -/
import Derived.Test.YtkoilndpfifapaaGreatDoorZ13

set_option linter.unusedSimpArgs false
set_option linter.unusedVariables false
set_option linter.unusedSectionVars false
open Go.IntKind renaming i64 → FK
open Int renaming toNat_natCast → GE
open List renaming mem_of_getElem? → Gb, mem_cons_self → IP, mem_cons_of_mem → GQ, length_append → FU, length_cons → FO, length_map → Gi, map_take → JH, length_take → GU, mem_of_mem_take → Iw, length_nil → Gd, eq_nil_of_length_eq_zero → HT
open Nat renaming le_refl → FW, le_of_eq → Jz
namespace Go.Proofs.YtkoilndpfifapaaGreatDoor
noncomputable section
namespace En
open Go Go.Proofs
set_option maxRecDepth 100000
set_option maxHeartbeats 8000000
def b1K (N : Nat) (f : LB) (x1 x2 : Int) (x3 x4 x5 x6 x7 : List V) : Option (Int) := j3 (a4e N f x1 x2 x3 x4 x5 x6 x7) fun j => br (!decide (j = 0)) (some j) (j3 (a7d N f x1 x2 x3 x4 x5 x6 x7) fun u => br (!decide (u = 0)) (some u) (j3 (a7k N f x1 x2 x3 x4 x5 x6 x7) fun d => br (!decide (d = 0)) (some d) (j3 (a3J N f x1 x2 x3 x4 x5 x6 x7) fun i => br (!decide (i = 0)) (some i) (j3 (a7O N f x1 x2 x3 x4 x5 x6 x7) fun x => br (!decide (x = 0)) (some x) (j3 (a3z N f x1 x2 x3 x4 x5 x6 x7) fun l5 => br (decide (2048 < (l5.length : Int))) (some 3) (some 0))))))
def c7C (N : Nat) : Ent := pE 34 b5F (.v fI .z) (b1K N)
theorem d3F (N : Nat) : EO (c7C N) := pk0 (cx := cz [b4T N, b5f N, b2v N, b4Y N, b4f N, b0u N] []) (A9 ⟨c2C N, c2r N, c2L N, c3c N, c2y N, b3P N, trivial⟩ trivial) Tryz.func34 (by kernel_rfl) fun h => by kernel_rfl
def a0M (N : Nat) (f : LB) (x1 x2 : Int) (x3 x4 x5 x6 x7 : List V) : Option (Int) := j3 (a6t N f) fun b0 => br (!b0) (some 1) (j3 (a7C N x1) fun b1 => br (!b1) (some 2) (j3 (a7C N x2) fun b2 => br (!b2) (some 2) (br (decide (4 < (x3.length : Int))) (some 3) (br (decide (32 < (x4.length : Int))) (some 3) (br (decide (64 < (x5.length : Int))) (some 3) (br (decide (16 < (x6.length : Int))) (some 3) (br (decide (32 < (x7.length : Int))) (some 3) (j3 (b1K N f x1 x2 x3 x4 x5 x6 x7) fun i => some i))))))))
def d4B (N : Nat) : Cx := cz [b1M N, c6n N, c7C N] []
def c8n (N : Nat) : Ent := pE 13 b5F (.v fI .z) (a0M N)
theorem c7i (N : Nat) : POK Tryz.prog T 13 b5F (.v fI .z) (a0M N) := pok (cx := d4B N) fo (A9 ⟨b4i N, c7E N, d3F N, trivial⟩ trivial) (lz (by kernel_rfl)) Tryz.func13 (by kernel_rfl) rfl fun h => by kernel_rfl
theorem d4Z (N : Nat) : EO (c8n N) := a1i (gz Tryz.func13 (by kernel_rfl)) rfl (c7i N)
abbrev g0a (a0 : LB) (a1 a2 : Int) (a3 a4 a5 a6 a7 : List V) : D := .agg [dY a0, dI a1, dI a2, .v (.sl 58 a3) .no, .v (.sl 64 a4) .no, .v (.sl 47 a5) .no, .v (.sl 44 a6) .no, .v (.sl 67 a7) .no]
theorem e0t (N : Nat) (f : LB) (x1 x2 : Int) (x3 x4 x5 x6 x7 : List V) (r0 : Int) (h : a0M N f x1 x2 x3 x4 x5 x6 x7 = some r0) : PRT 13 [g0a f x1 x2 x3 x4 x5 x6 x7] [dI r0] := c7i N (f, x1, x2, x3, x4, x5, x6, x7, ()) r0 h
def Y5 (N : Nat) (f : LB) (x1 x2 : Int) (x3 x4 x5 x6 x7 : List V) : Option (LB × Int) := j3 (a0M N f x1 x2 x3 x4 x5 x6 x7) fun j => br (!decide (j = 0)) (some ([], j)) (j3 (a3z N f x1 x2 x3 x4 x5 x6 x7) fun l1 => some (l1, 0))
def c5z (N : Nat) : Cx := cz [c8n N, b0u N] []
theorem c9k (N : Nat) : POK Tryz.prog T 4 b5F (.v .y (.v fI .z)) (Y5 N) := pok (cx := c5z N) fo (A9 ⟨d4Z N, b3P N, trivial⟩ trivial) (lz (by kernel_rfl)) Tryz.func4 (by kernel_rfl) rfl fun h => by kernel_rfl
theorem a9G (N : Nat) (f : LB) (x1 x2 : Int) (x3 x4 x5 x6 x7 : List V) (r0 : LB) (r1 : Int) (h : Y5 N f x1 x2 x3 x4 x5 x6 x7 = some (r0, r1)) : PRT 4 [g0a f x1 x2 x3 x4 x5 x6 x7] [dY r0, dI r1] := c9k N (f, x1, x2, x3, x4, x5, x6, x7, ()) (r0, r1) h
end En

namespace En
open Go
def En (o : Option Int) (P : Prop) : Prop := ∃ e, o = some e /\ (e = 0 -> P)
def Bo (o : Option Bool) (P F : Prop) : Prop := ∃ b, o = some b /\ (b = true -> P) /\ (b = false -> F)
section
variable {P Q F : Prop} {X Y : Option Int}
theorem p4 {e : Int} (h : e ≠ 0) : En (some e) P := ⟨e, rfl, fun q => absurd q h⟩
theorem a4u {e : Int} (h : P) : En (some e) P := ⟨e, rfl, fun _ => h⟩
theorem e3f {e : Int} (h : e = 0 -> P) : En (some e) P := ⟨e, rfl, h⟩
theorem D9 {p : Prop} [Decidable p] (h1 : p -> En X P) (h2 : ¬ p -> En Y P) : En (br (decide p) X Y) P := by
 by_cases h : p
 . rw [decide_eq_true h]; exact h1 h
 . rw [decide_eq_false h]; exact h2 h
theorem a8g {p : Prop} [Decidable p] (h1 : ¬ p -> En X P) (h2 : p -> En Y P) : En (br (!decide p) X Y) P := by
 by_cases h : p
 . rw [decide_eq_true h]; exact h2 h
 . rw [decide_eq_false h]; exact h1 h
theorem e2F {b : Bool} (h1 : b = true -> En X P) (h2 : b = false -> En Y P) : En (br b X Y) P := by
 cases b
 . exact h2 rfl
 . exact h1 rfl
theorem e1k {b : Bool} (h1 : b = false -> En X P) (h2 : b = true -> En Y P) : En (br (!b) X Y) P := by
 cases b
 . exact h1 rfl
 . exact h2 rfl
theorem a0b {p q : Prop} [Decidable p] [Decidable q] (hp : p) (hq : q) (h : En X P) : En (br (decide p && decide q) X Y) P := by
 rw [decide_eq_true hp, decide_eq_true hq]; exact h
theorem d9A {s : Option Bool} {K : Bool -> Option Int} (h : Bo s Q F) (hk : ∀ b, (b = true -> Q) -> (b = false -> F) -> En (K b) P) : En (j3 s K) P := by
 obtain ⟨b, h1, h2, h3⟩ := h
 rw [h1]; exact hk b h2 h3
theorem a8i {α : Type} {enc : α -> V} {l : List α} {n : Int} {K : V -> Option Int} (h0 : 0 <= n) (h1 : n < (l.length : Int)) (hk : ∀ x ∈ l, En (K (enc x)) P) : En (at? (l.map enc) n.toNat K) P := by
 have hn : n.toNat < l.length := by omega
 unfold at?
 rw [List.getElem?_map, List.getElem?_eq_getElem hn]
 exact hk _ (List.getElem_mem hn)
theorem V5 {p : Prop} [Decidable p] {X Y : Option Bool} (h1 : p -> Bo X P F) (h2 : ¬ p -> Bo Y P F) : Bo (br (decide p) X Y) P F := by
 by_cases h : p
 . rw [decide_eq_true h]; exact h1 h
 . rw [decide_eq_false h]; exact h2 h
theorem F3 {b : Bool} (h1 : b = true -> P) (h2 : b = false -> F) : Bo (some b) P F := ⟨b, rfl, h1, h2⟩
theorem e6g {b : Bool} {X Y : Option Bool} (h1 : b = true -> Bo X P F) (h2 : b = false -> Bo Y P F) : Bo (br b X Y) P F := by
 cases b
 . exact h2 rfl
 . exact h1 rfl
theorem a1s {Q' F' : Prop} {s : Option Bool} {K : Bool -> Option Bool} (h : Bo s Q F) (hk : ∀ b, (b = true -> Q) -> (b = false -> F) -> Bo (K b) Q' F') : Bo (j3 s K) Q' F' := by
 obtain ⟨b, h1, h2, h3⟩ := h
 rw [h1]; exact hk b h2 h3
theorem V9 {α : Type} (S : Nat -> Int -> Option Int) (l : List α) (Q : α -> Prop) (f : Nat -> α -> Option Int) (hf : ∀ (i : Nat) (x : α), l[i]? = some x -> En (f i x) (Q x))
 (M2 : ∀ (t i : Nat) (x : α), l[i]? = some x -> S (t + 1) i = j3 (f i x) fun e => br (!decide (e = 0)) (some e) (S t ((i + 1 : Nat) : Int)))
 (a9k : ∀ t : Nat, S (t + 1) (l.length : Int) = some 0) (t : Nat) (ht : l.length < t) : En (S t 0) (∀ x ∈ l, Q x) := by
 obtain ⟨r, h1, h2⟩ := c1v S l Q (fun r => r ≠ 0) (fun r => r = 0) (fun t i x hx => by
  obtain ⟨e, h3, h4⟩ := hf i x hx
  rw [M2 t i x hx, h3, j4]
  by_cases h : e = 0
  . refine .inr ⟨h4 h, ?_⟩
    rw [decide_eq_true h]; rfl
  . refine .inl ⟨e, h, ?_⟩
    rw [decide_eq_false h]; rfl) (fun t => ⟨0, rfl, a9k t⟩) t ht
 exact ⟨r, h1, fun h => by rcases h2 with h2 | ⟨_, h2⟩; exact absurd h h2; exact h2⟩
theorem a2O {α : Type} (S : Nat -> Int -> Option Int) (l : List α) (Q : α -> Prop) (f : α -> Option Bool) (hf : ∀ (x : α), x ∈ l -> Bo (f x) True (Q x))
 (M2 : ∀ (t i : Nat) (x : α), l[i]? = some x -> S (t + 1) i = j3 (f x) fun b => br b (some (i : Int)) (S t ((i + 1 : Nat) : Int)))
 (a9k : ∀ t : Nat, S (t + 1) (l.length : Int) = some (-1)) (t : Nat) (ht : l.length < t) : Bo (j3 (S t 0) fun n => some (decide (0 <= n))) True (∀ x ∈ l, Q x) := by
 obtain ⟨r, h1, h2⟩ := c1v S l Q (fun r => 0 <= r) (fun r => r = -1) (fun t i x hx => by
  obtain ⟨b, h3, _, h4⟩ := hf x (Gb hx)
  rw [M2 t i x hx, h3, j4]
  cases b
  . exact .inr ⟨h4 rfl, rfl⟩
  . exact .inl ⟨i, Int.natCast_nonneg i, rfl⟩) (fun t => ⟨-1, rfl, a9k t⟩) t ht
 rw [h1, j4]
 refine ⟨_, rfl, fun _ => trivial, fun h => ?_⟩
 rcases h2 with h2 | ⟨_, h2⟩
 . rw [decide_eq_true h2] at h; cases h
 . exact h2
theorem J2 {Q F : Prop} {s : Option Bool} (h : Bo s Q F) (h1 : F -> En X P) (h2 : Q -> En Y P) : En (j3 s fun b => br (!b) X Y) P := by
 obtain ⟨b, h3, h4, h5⟩ := h
 rw [h3]
 cases b
 . exact h1 (h5 rfl)
 . exact h2 (h4 rfl)
theorem b6T {Q F : Prop} {s : Option Bool} (h : Bo s Q F) (h1 : Q -> En X P) (h2 : F -> En Y P) : En (j3 s fun b => br b X Y) P := by
 obtain ⟨b, h3, h4, h5⟩ := h
 rw [h3]
 cases b
 . exact h2 (h5 rfl)
 . exact h1 (h4 rfl)
theorem a6J {s : Option Int} (h : En s Q) (hk : Q -> En Y P) : En (j3 s fun e => br (!decide (e = 0)) (some e) Y) P := by
 obtain ⟨e, h1, h2⟩ := h
 rw [h1, j4]
 by_cases h : e = 0
 . rw [decide_eq_true h]; exact hk (h2 h)
 . rw [decide_eq_false h]; exact p4 h
theorem a6R {s : Option Int} (h : En s Q) (hk : Q -> P) : En (j3 s fun e => some e) P := by
 obtain ⟨e, h1, h2⟩ := h
 rw [h1, j4]; exact e3f fun h => hk (h2 h)
theorem e2T {p q : Prop} [Decidable p] [Decidable q] (h1 : ¬ (p /\ q) -> En X P) (h2 : p -> q -> En Y P) : En (br (!(decide p && (decide q && true))) X Y) P := by
 by_cases hp : p
 . by_cases hq : q
   . rw [decide_eq_true hp, decide_eq_true hq]; exact h2 hp hq
   . rw [decide_eq_true hp, decide_eq_false hq]; exact h1 fun h => hq h.2
 . rw [decide_eq_false hp]; exact h1 fun h => hp h.1
theorem b0t {α : Type} (f : α -> List UInt8) (B : Nat) : ∀ l : List α, (∀ x ∈ l, (f x).length <= B) -> (l.flatMap f).length <= l.length * B
 | [], _ => by simp
 | x :: l, h => by
   have h1 := h x (IP ..)
   have h2 := b0t f B l fun y hy => h y (GQ _ hy)
   rw [List.flatMap_cons, FU, FO, Nat.succ_mul]
   omega
end
section
variable (N : Nat)
def Lim (p : Pk) : Prop := p.aid.length <= 16 /\ p.ims.length <= 4 /\ p.cls.length <= 32 /\ p.mts.length <= 64 /\ p.sts.length <= 16 /\ p.aps.length <= 32
theorem X6 (a n : Int) : Bo (D8 N a n) (0 <= a /\ a < n) True := by
 unfold D8
 refine V5 (fun h => F3 (fun h2 => ⟨h, of_decide_eq_true h2⟩) fun _ => trivial) (fun h => F3 (fun h2 => by cases h2) fun _ => trivial)
theorem b4B (b : List UInt8) : Bo (a6t N b) (b.length <= 16) True := by
 unfold a6t
 refine V5 (fun h => F3 (fun h2 => by have := of_decide_eq_true h2; omega) fun _ => trivial) (fun h => F3 (fun h2 => by cases h2) fun _ => trivial)
theorem b1x (n : Int) : Bo (a7C N n) (U8 n) True := by
 unfold a7C
 refine V5 (fun h => F3 (fun h2 => ⟨h, of_decide_eq_true h2⟩) fun _ => trivial) (fun h => F3 (fun h2 => by cases h2) fun _ => trivial)
theorem c6r (a b : List UInt8) (ha : a.length <= 9223372036854775807) (hb : b.length <= 9223372036854775807) : Bo (b6H N a b) True True := by
 unfold b6H
 refine V5 (fun h => V5 (fun h => F3 (fun _ => trivial) fun _ => trivial) fun h => absurd (by omega) h) fun h => absurd (by omega) h
theorem a4h (p : Pk) (hp : Lim p) (r : Rf) : Bo (E6 N p.aid p.ma p.mi (p.ims.map imV) (p.cls.map clV) (p.mts.map mtV) (p.sts.map tpV) (p.aps.map apV) r.p r.c) (GRf r) True := by
 obtain ⟨h1, h2, h3, h4, h5, h6⟩ := hp
 have t : ∀ {P : Prop}, (False -> P) := fun h => h.elim
 unfold E6
 refine V5 (fun h => a1s (X6 N _ _) fun b hb _ => F3 (fun h2 => ?_) fun _ => trivial) (fun h => V5 (fun h => V5 (fun h2 => F3 (fun _ => ?_) fun _ => trivial) fun h2 => F3 (fun h3 => ?_) fun _ => trivial) fun h => V5 (fun h => V5 (fun h2 => a1s (X6 N _ _) fun b hb _ => F3 (fun h3 => ?_) fun _ => trivial) fun _ => F3 (fun h => by cases h) fun _ => trivial) fun _ => F3 (fun h => by cases h) fun _ => trivial)
 . have := hb h2
   simp only [Gi] at this
   exact ⟨⟨by omega, by omega⟩, by omega, by omega⟩
 . exact ⟨⟨by omega, by omega⟩, by omega, by omega⟩
 . have := of_decide_eq_true h3
   exact ⟨⟨by omega, by omega⟩, by omega, by omega⟩
 . have := hb h3
   simp only [Gi] at h2
   exact ⟨⟨by omega, by omega⟩, by omega, by omega⟩
theorem b7w (p : Pk) (hp : Lim p) (t : Tp) : Bo (a4H N p.aid p.ma p.mi (p.ims.map imV) (p.cls.map clV) (p.mts.map mtV) (p.sts.map tpV) (p.aps.map apV) t.k t.r.p t.r.c) (GTp t) True := by
 unfold a4H
 refine V5 (fun h => a1s (a4h N p hp t.r) fun b hb _ => F3 (fun h2 => .inl ⟨h, hb h2⟩) fun _ => trivial) fun h => V5 (fun h1 => V5 (fun h2 => F3 (fun h3 => ?_) fun _ => trivial) fun _ => F3 (fun h => by cases h) fun _ => trivial) fun _ => F3 (fun h => by cases h) fun _ => trivial
 simp only [Bool.and_true, Bool.and_eq_true, decide_eq_true_eq] at h3
 exact .inr ⟨by omega, by omega, h3.1, h3.2⟩
theorem c2M (p : Pk) (hp : Lim p) (r : Rf) (n : Int) : En (a8C N p.aid p.ma p.mi (p.ims.map imV) (p.cls.map clV) (p.mts.map mtV) (p.sts.map tpV) (p.aps.map apV) r.p r.c n) (GRf r) := by
 unfold a8C
 refine d9A (a4h N p hp r) fun b hb _ => e1k (fun _ => p4 (by decide)) fun h => ?_
 have := hb h
 exact D9 (fun _ => D9 (fun _ => p4 (by decide)) fun _ => a4u this) fun _ => a4u this
theorem d7O (hN : 1000 < N) (p : Pk) (hp : Lim p) (l : List Tp) (hl : l.length <= 900) : Bo (b8C N (l.map tpV) p.aid p.ma p.mi (p.ims.map imV) (p.cls.map clV) (p.mts.map mtV) (p.sts.map tpV) (p.aps.map apV)) True (∀ x ∈ l, GTp x) := by
 unfold b8C c5M c3V c5Z
 refine a2O (fun t i => a5o N (l.map tpV) ((l.map tpV).length : Int) p.aid p.ma p.mi (p.ims.map imV) (p.cls.map clV) (p.mts.map mtV) (p.sts.map tpV) (p.aps.map apV) t i (fun e => some e) (some (-1))) l (fun x => GTp x) (fun x => c7F N x.k x.r.p x.r.c p.aid p.ma p.mi (p.ims.map imV) (p.cls.map clV) (p.mts.map mtV) (p.sts.map tpV) (p.aps.map apV)) (fun x hx => by unfold c7F d3N; exact a1s (b7w N p hp x) fun b hb _ => F3 (fun _ => trivial) fun h => hb (by simpa using h)) (fun t i x hx => ?_) (fun t => ?_) N (by omega)
 . show a2R N (l.map tpV) _ p.aid p.ma p.mi (p.ims.map imV) (p.cls.map clV) (p.mts.map mtV) (p.sts.map tpV) (p.aps.map apV) _ _ _ _ = _
   unfold a2R
   rw [C8 hx]
   simp only [tpV, p8, o9, p5, o8, o6, A8, p7]
   rw [C7 (C3 hx) (by omega)]
 . show a2R N (l.map tpV) _ p.aid p.ma p.mi (p.ims.map imV) (p.cls.map clV) (p.mts.map mtV) (p.sts.map tpV) (p.aps.map apV) _ _ _ _ = _
   unfold a2R
   rw [C0]
theorem b4U (hN : 1000 < N) (p : Pk) (hp : Lim p) (l : List Tp) (hl : l.length <= 900) : Bo (a0h N p.aid p.ma p.mi (p.ims.map imV) (p.cls.map clV) (p.mts.map mtV) (p.sts.map tpV) (p.aps.map apV) (l.map tpV)) (∀ x ∈ l, GTp x) True := by
 unfold a0h
 exact a1s (d7O N hN p hp l hl) fun b _ hb => F3 (fun h => hb (by simpa using h)) fun _ => trivial
theorem a3H {α : Type} {enc : α -> V} (l : List α) (a : Int) : Bo (D8 N a ((l.map enc).length : Int)) (0 <= a /\ a < (l.length : Int)) True := by
 have := X6 N a ((l.map enc).length : Int)
 simpa using this
theorem d9Z (hN : 1000 < N) (a : List UInt8) (n1 n2 : Int) (ha : a.length <= 9223372036854775807) (l : List Im) (hl : l.length <= 900) (hy : ∀ x ∈ l, x.aid.length <= 9223372036854775807) : Bo (b8T N (l.map imV) a n1 n2) True (∀ x ∈ l, True) := by
 unfold b8T c6k c4F c6C
 refine a2O (fun t i => a4F N (l.map imV) ((l.map imV).length : Int) a n1 n2 t i (fun e => some e) (some (-1))) l (fun x => True) (fun x => b8p N x.aid x.ma x.mi a n1 n2) (fun x hx => by unfold b8p c4d; exact a1s (c6r N a x.aid ha (hy x hx)) fun b _ _ => F3 (fun _ => trivial) fun _ => trivial) (fun t i x hx => ?_) (fun t => ?_) N (by omega)
 . show a2Z N (l.map imV) _ a n1 n2 _ _ _ _ = _
   unfold a2Z
   rw [C8 hx]
   simp only [imV, p8, o9, p5, o8, o6, A8, p7]
   rw [C7 (C3 hx) (by omega)]
 . show a2Z N (l.map imV) _ a n1 n2 _ _ _ _ = _
   unfold a2Z
   rw [C0]
theorem e1I (hN : 1000 < N) (p : Pk) (hp : Lim p) (hm : ∀ x ∈ p.ims, x.aid.length <= 9223372036854775807) (i : Nat) (x : Im) (hx : x ∈ p.ims) (hi : i <= p.ims.length) : En (c0W N (i : Int) x.aid x.ma x.mi p.aid p.ma p.mi (p.ims.map imV) (p.cls.map clV) (p.mts.map mtV) (p.sts.map tpV) (p.aps.map apV)) (GIm x /\ x.aid.length <= 16) := by
 obtain ⟨h1, h2, h3, h4, h5, h6⟩ := hp
 unfold c0W d6t
 refine J2 (b4B N x.aid) (fun _ => p4 (by decide)) fun q1 => J2 (b1x N x.ma) (fun _ => p4 (by decide)) fun q2 => J2 (b1x N x.mi) (fun _ => p4 (by decide)) fun q3 => b6T (c6r N x.aid p.aid (hm x hx) (by omega)) (fun _ => p4 (by decide)) fun _ => a0b (by omega) (by rw [Gi]; omega) ?_
 rw [GE, ← JH]
 exact b6T (d9Z N hN x.aid x.ma x.mi (hm x hx) (p.ims.take i) (by rw [GU]; omega) fun y hy => hm y (Iw hy)) (fun _ => p4 (by decide)) fun _ => a4u ⟨⟨by omega, q2, q3⟩, q1⟩
theorem d7s (hN : 1000 < N) (p : Pk) (hp : Lim p) (hm : ∀ x ∈ p.ims, x.aid.length <= 9223372036854775807) (l : List Im) (hl : l.length <= p.ims.length) (hs : ∀ x ∈ l, x ∈ p.ims) : En (b7L N (l.map imV) p.aid p.ma p.mi (p.ims.map imV) (p.cls.map clV) (p.mts.map mtV) (p.sts.map tpV) (p.aps.map apV)) (∀ x ∈ l, (GIm x /\ x.aid.length <= 16)) := by
 have hL : l.length <= 900 := by have := hp.2.1; omega
 unfold b7L c5k
 refine V9 (fun t i => a5y N (l.map imV) ((l.map imV).length : Int) p.aid p.ma p.mi (p.ims.map imV) (p.cls.map clV) (p.mts.map mtV) (p.sts.map tpV) (p.aps.map apV) t i (fun e => some e) (some 0)) l (fun x => (GIm x /\ x.aid.length <= 16)) (fun i x => c0W N (i : Int) x.aid x.ma x.mi p.aid p.ma p.mi (p.ims.map imV) (p.cls.map clV) (p.mts.map mtV) (p.sts.map tpV) (p.aps.map apV)) (fun i x hx => e1I N hN p hp hm i x (hs x (Gb hx)) (by have := C3 hx; omega)) (fun t i x hx => ?_) (fun t => ?_) N (by omega)
 . show a3g N (l.map imV) _ p.aid p.ma p.mi (p.ims.map imV) (p.cls.map clV) (p.mts.map mtV) (p.sts.map tpV) (p.aps.map apV) _ _ _ _ = _
   unfold a3g
   rw [C8 hx]
   simp only [imV, p8, o9, p5, o8, o6, A8, p7]
   rw [C7 (C3 hx) (by omega)]
 . show a3g N (l.map imV) _ p.aid p.ma p.mi (p.ims.map imV) (p.cls.map clV) (p.mts.map mtV) (p.sts.map tpV) (p.aps.map apV) _ _ _ _ = _
   unfold a3g
   rw [C0]
theorem c2I (hN : 1000 < N) (p : Pk) (hp : Lim p) (hm : ∀ x ∈ p.ims, x.aid.length <= 9223372036854775807) : En (a4e N p.aid p.ma p.mi (p.ims.map imV) (p.cls.map clV) (p.mts.map mtV) (p.sts.map tpV) (p.aps.map apV)) (∀ x ∈ p.ims, GIm x /\ x.aid.length <= 16) := by
 unfold a4e
 exact a6R (d7s N hN p hp hm p.ims (FW _) fun x h => h) id
theorem d8f (hN : 1000 < N) (p : Pk) (hp : Lim p) (n : Int) (l : List Rf) (hl : l.length <= 900) : En (a6c N (l.map rfV) p.aid p.ma p.mi (p.ims.map imV) (p.cls.map clV) (p.mts.map mtV) (p.sts.map tpV) (p.aps.map apV) n) (∀ x ∈ l, GRf x) := by
 have hL : l.length <= 900 := by omega
 unfold a6c c6q
 refine V9 (fun t i => a4Y N (l.map rfV) ((l.map rfV).length : Int) p.aid p.ma p.mi (p.ims.map imV) (p.cls.map clV) (p.mts.map mtV) (p.sts.map tpV) (p.aps.map apV) n t i (fun e => some e) (some 0)) l (fun x => GRf x) (fun i x => c8L N (i : Int) x.p x.c p.aid p.ma p.mi (p.ims.map imV) (p.cls.map clV) (p.mts.map mtV) (p.sts.map tpV) (p.aps.map apV) n) (fun i x hx => by unfold c8L d4V; exact a6R (c2M N p hp x n) id) (fun t i x hx => ?_) (fun t => ?_) N (by omega)
 . show a2G N (l.map rfV) _ p.aid p.ma p.mi (p.ims.map imV) (p.cls.map clV) (p.mts.map mtV) (p.sts.map tpV) (p.aps.map apV) n _ _ _ _ = _
   unfold a2G
   rw [C8 hx]
   simp only [rfV, p8, o9, p5, o8, o6, A8, p7]
   rw [C7 (C3 hx) (by omega)]
 . show a2G N (l.map rfV) _ p.aid p.ma p.mi (p.ims.map imV) (p.cls.map clV) (p.mts.map mtV) (p.sts.map tpV) (p.aps.map apV) n _ _ _ _ = _
   unfold a2G
   rw [C0]
theorem e1R (hN : 1000 < N) (l : List Int) (hl : l.length <= 900) (m : Int) : Bo (c1B N (l.map nV) m) True True := by
 unfold c1B d3M
 have := a2O (fun t i => a8O N (l.map nV) m ((l.map nV).length : Int) t i (fun e => some e) (some (-1))) l (fun _ => True) (fun x => some (decide (m = x))) (fun x hx => ⟨_, rfl, fun _ => trivial, fun _ => trivial⟩) (fun t i x hx => by
  show a6A N (l.map nV) m _ _ _ _ _ = _
  unfold a6A
  rw [C8 hx]
  simp only [nV, p8, o9, p5, o8, o6, A8, p7]
  rw [C7 (C3 hx) (by omega)]
  rfl) (fun t => by
  show a6A N (l.map nV) m _ _ _ _ _ = _
  unfold a6A
  rw [C0]) N (by omega)
 obtain ⟨b, h1, h2, h3⟩ := this
 exact ⟨b, h1, fun _ => trivial, fun _ => trivial⟩
theorem d7y (hN : 1000 < N) (p : Pk) (hp : Lim p) (n : Int) (c : Cl) (hc : c.vs.length <= 900) (i : Nat) (hi : i <= c.vs.length) (m : Int) : En (b9O N p.aid p.ma p.mi (p.ims.map imV) (p.cls.map clV) (p.mts.map mtV) (p.sts.map tpV) (p.aps.map apV) n c.sup.p c.sup.c c.itf (c.ext.map rfV) (c.fs.map tpV) (c.vs.map nV) (c.is.map ilV) (i : Int) m) (m = -1 ∨ (0 <= m /\ m <= 254)) := by
 obtain ⟨h1, h2, h3, h4, h5, h6⟩ := hp
 have hc' := e1R N hN (c.vs.take i) (by rw [GU]; omega) m
 have hi' : (i : Int) <= ((c.vs.map nV).length : Int) := by rw [Gi]; omega
 unfold b9O
 refine D9 (fun h => e2F (fun _ => p4 (by decide)) fun _ => D9 (fun _ => a4u (.inl h)) fun q => absurd h q) fun h => D9 (fun q => absurd q h) fun _ => J2 (a3H N p.mts m) (fun _ => p4 (by decide)) fun q => a0b q.1 (by rw [Gi]; exact q.2) (a8i q.1 q.2 fun x hx => ?_)
 simp only [mtV, p8, o9, p5, o8, o6, A8, p7]
 refine e2F (fun _ => p4 (by decide)) fun _ => a0b q.1 (by rw [Gi]; exact q.2) (a8i q.1 q.2 fun y hy => ?_)
 simp only [mtV, p8, o9, p5, o8, o6, A8, p7]
 refine a8g (fun _ => p4 (by decide)) fun _ => a0b (by omega) hi' ?_
 rw [GE, ← JH]
 exact b6T hc' (fun _ => p4 (by decide)) fun _ => a4u (.inr ⟨q.1, by omega⟩)
theorem d8u (hN : 1000 < N) (p : Pk) (hp : Lim p) (n : Int) (c : Cl) (hc : c.vs.length <= 900) (l : List Int) (hl : l.length <= c.vs.length) : En (a5Q N (l.map nV) p.aid p.ma p.mi (p.ims.map imV) (p.cls.map clV) (p.mts.map mtV) (p.sts.map tpV) (p.aps.map apV) n c.sup.p c.sup.c c.itf (c.ext.map rfV) (c.fs.map tpV) (c.vs.map nV) (c.is.map ilV)) (∀ x ∈ l, (x = -1 ∨ (0 <= x /\ x <= 254))) := by
 have hL : l.length <= 900 := by omega
 unfold a5Q c6B
 refine V9 (fun t i => a5C N (l.map nV) ((l.map nV).length : Int) p.aid p.ma p.mi (p.ims.map imV) (p.cls.map clV) (p.mts.map mtV) (p.sts.map tpV) (p.aps.map apV) n c.sup.p c.sup.c c.itf (c.ext.map rfV) (c.fs.map tpV) (c.vs.map nV) (c.is.map ilV) t i (fun e => some e) (some 0)) l (fun x => (x = -1 ∨ (0 <= x /\ x <= 254))) (fun i x => c8K N (i : Int) x p.aid p.ma p.mi (p.ims.map imV) (p.cls.map clV) (p.mts.map mtV) (p.sts.map tpV) (p.aps.map apV) n c.sup.p c.sup.c c.itf (c.ext.map rfV) (c.fs.map tpV) (c.vs.map nV) (c.is.map ilV)) (fun i x hx => by unfold c8K d3m; exact a6R (d7y N hN p hp n c hc i (by have := C3 hx; omega) x) id) (fun t i x hx => ?_) (fun t => ?_) N (by omega)
 . show a2V N (l.map nV) _ p.aid p.ma p.mi (p.ims.map imV) (p.cls.map clV) (p.mts.map mtV) (p.sts.map tpV) (p.aps.map apV) n c.sup.p c.sup.c c.itf (c.ext.map rfV) (c.fs.map tpV) (c.vs.map nV) (c.is.map ilV) _ _ _ _ = _
   unfold a2V
   rw [C8 hx]
   simp only [nV, p8, o9, p5, o8, o6, A8, p7]
   rw [C7 (C3 hx) (by omega)]
 . show a2V N (l.map nV) _ p.aid p.ma p.mi (p.ims.map imV) (p.cls.map clV) (p.mts.map mtV) (p.sts.map tpV) (p.aps.map apV) n c.sup.p c.sup.c c.itf (c.ext.map rfV) (c.fs.map tpV) (c.vs.map nV) (c.is.map ilV) _ _ _ _ = _
   unfold a2V
   rw [C0]
theorem d7V (hN : 1000 < N)  (l : List Int) (hl : l.length <= 900) : Bo (b8G N (l.map nV) ) True (∀ x ∈ l, (0 <= x /\ x < 16)) := by
 unfold b8G c4e
 refine a2O (fun t i => a5F N (l.map nV) ((l.map nV).length : Int)  t i (fun e => some e) (some (-1))) l (fun x => (0 <= x /\ x < 16)) (fun x => b8i N x) (fun x hx => by unfold b8i; exact a1s (X6 N x 16) fun b hb _ => F3 (fun _ => trivial) fun h => hb (by simpa using h)) (fun t i x hx => ?_) (fun t => ?_) N (by omega)
 . show a2M N (l.map nV) _  _ _ _ _ = _
   unfold a2M
   rw [C8 hx]
   simp only [nV, p8, o9, p5, o8, o6, A8, p7]
   rw [C7 (C3 hx) (by omega)]
 . show a2M N (l.map nV) _  _ _ _ _ = _
   unfold a2M
   rw [C0]
theorem d0g (hN : 1000 < N) (y0 y1 : Int) (y2 : List V) (l : List Il) (hl : l.length <= 900) : Bo (a8R N (l.map ilV) y0 y1 y2) True (∀ x ∈ l, True) := by
 unfold a8R b4O b5p b3c
 refine a2O (fun t i => a1G N (l.map ilV) ((l.map ilV).length : Int) y0 y1 y2 t i (fun e => some e) (some (-1))) l (fun x => True) (fun x => b9E N x.i.p x.i.c (x.ms.map nV) y0 y1 y2) (fun x hx => by unfold b9E c5K; exact F3 (fun _ => trivial) fun _ => trivial) (fun t i x hx => ?_) (fun t => ?_) N (by omega)
 . show Z8 N (l.map ilV) _ y0 y1 y2 _ _ _ _ = _
   unfold Z8
   rw [C8 hx]
   simp only [ilV, p8, o9, p5, o8, o6, A8, p7]
   rw [C7 (C3 hx) (by omega)]
 . show Z8 N (l.map ilV) _ y0 y1 y2 _ _ _ _ = _
   unfold Z8
   rw [C0]
theorem e2Q (hN : 1000 < N) (p : Pk) (hp : Lim p) (c : Cl) (hc : c.is.length <= 900) (i : Nat) (hi : i <= c.is.length) (x : Il) : En (c1p N (i : Int) x.i.p x.i.c (x.ms.map nV) p.aid p.ma p.mi (p.ims.map imV) (p.cls.map clV) (p.mts.map mtV) (p.sts.map tpV) (p.aps.map apV) c.sup.p c.sup.c c.itf (c.ext.map rfV) (c.fs.map tpV) (c.vs.map nV) (c.is.map ilV)) (GIl x /\ x.ms.length <= 16) := by
 have h7 : ∀ hl : x.ms.length <= 900, _ := fun hl => d7V N hN x.ms hl
 have h8 := d0g N hN x.i.p x.i.c (x.ms.map nV) (c.is.take i) (by rw [GU]; omega)
 unfold c1p d2g
 refine J2 (a4h N p hp x.i) (fun _ => p4 (by decide)) fun q1 => a0b (by omega) (by rw [Gi]; omega) ?_
 rw [GE, ← JH]
 refine b6T h8 (fun _ => p4 (by decide)) fun _ => D9 (fun _ => p4 (by decide)) fun q2 => ?_
 have q2' : x.ms.length <= 16 := by rw [Gi] at q2; omega
 exact b6T (h7 (by omega)) (fun _ => p4 (by decide)) fun q3 => a4u ⟨⟨q1, by omega, fun n hn => by have := q3 n hn; exact ⟨this.1, by omega⟩⟩, q2'⟩
theorem d5U (hN : 1000 < N) (p : Pk) (hp : Lim p) (c : Cl) (hc : c.is.length <= 900) (l : List Il) (hl : l.length <= c.is.length) : En (a1V N (l.map ilV) p.aid p.ma p.mi (p.ims.map imV) (p.cls.map clV) (p.mts.map mtV) (p.sts.map tpV) (p.aps.map apV) c.sup.p c.sup.c c.itf (c.ext.map rfV) (c.fs.map tpV) (c.vs.map nV) (c.is.map ilV)) (∀ x ∈ l, (GIl x /\ x.ms.length <= 16)) := by
 have hL : l.length <= 900 := by omega
 unfold a1V c0f
 refine V9 (fun t i => a2x N (l.map ilV) ((l.map ilV).length : Int) p.aid p.ma p.mi (p.ims.map imV) (p.cls.map clV) (p.mts.map mtV) (p.sts.map tpV) (p.aps.map apV) c.sup.p c.sup.c c.itf (c.ext.map rfV) (c.fs.map tpV) (c.vs.map nV) (c.is.map ilV) t i (fun e => some e) (some 0)) l (fun x => (GIl x /\ x.ms.length <= 16)) (fun i x => c1p N (i : Int) x.i.p x.i.c (x.ms.map nV) p.aid p.ma p.mi (p.ims.map imV) (p.cls.map clV) (p.mts.map mtV) (p.sts.map tpV) (p.aps.map apV) c.sup.p c.sup.c c.itf (c.ext.map rfV) (c.fs.map tpV) (c.vs.map nV) (c.is.map ilV)) (fun i x hx => e2Q N hN p hp c hc i (by have := C3 hx; omega) x) (fun t i x hx => ?_) (fun t => ?_) N (by omega)
 . show a0U N (l.map ilV) _ p.aid p.ma p.mi (p.ims.map imV) (p.cls.map clV) (p.mts.map mtV) (p.sts.map tpV) (p.aps.map apV) c.sup.p c.sup.c c.itf (c.ext.map rfV) (c.fs.map tpV) (c.vs.map nV) (c.is.map ilV) _ _ _ _ = _
   unfold a0U
   rw [C8 hx]
   simp only [ilV, p8, o9, p5, o8, o6, A8, p7]
   rw [C7 (C3 hx) (by omega)]
 . show a0U N (l.map ilV) _ p.aid p.ma p.mi (p.ims.map imV) (p.cls.map clV) (p.mts.map mtV) (p.sts.map tpV) (p.aps.map apV) c.sup.p c.sup.c c.itf (c.ext.map rfV) (c.fs.map tpV) (c.vs.map nV) (c.is.map ilV) _ _ _ _ = _
   unfold a0U
   rw [C0]
theorem b9n (t : Tp) : (wTp t).length <= 3 := by unfold wTp wRf; split <;> simp
theorem e2f (m : Mt) (h1 : m.ps.length <= 6) (h2 : m.code.length <= 256) (h3 : m.hs.length <= 8) : (wMt m).length <= 3500 := by
 have a := b0t wTp 3 m.ps fun x _ => b9n x
 have b := b0t wHd 8 m.hs fun x _ => Jz rfl
 have d := b9n m.r
 have e : (a3s m.code).1.length <= 13 * m.code.length := by
  unfold a3s
  split
  . simp
  . split
    . exact a9F _
    . simp
 unfold wMt wL wW
 simp only [FO, FU, Gd]
 omega
def KCl (c : Cl) : Prop := GCl c /\ d2A c /\ (wCl c).length <= 800
theorem e2z (c : Cl) (h0 : GRf c.sup) (h1 : c.ext.length <= 32) (h2 : c.fs.length <= 16) (h3 : c.vs.length <= 16) (h4 : c.is.length <= 32) (q1 : ∀ x ∈ c.ext, GRf x) (q2 : ∀ x ∈ c.fs, GTp x) (q3 : ∀ x ∈ c.vs, x = -1 ∨ (0 <= x /\ x <= 254)) (q4 : ∀ x ∈ c.is, GIl x /\ x.ms.length <= 16) : KCl c := by
 refine ⟨⟨h0, ⟨by omega, q1⟩, ⟨by omega, q2⟩, ⟨by omega, q3⟩, by omega, fun x hx => (q4 x hx).1⟩, ⟨by omega, by omega, by omega, by omega, fun x hx => by have := (q4 x hx).2; show x.ms.length <= 900; omega⟩, ?_⟩
 have a := b0t wRf 2 c.ext fun x _ => Jz rfl
 have b := b0t wTp 3 c.fs fun x _ => b9n x
 have d := b0t wN 1 c.vs fun x _ => Jz rfl
 have e := b0t wIl 19 c.is fun x hx => by
  have f := b0t wN 1 x.ms fun x _ => Jz rfl
  have g := (q4 x hx).2
  unfold wIl wL wRf
  simp only [FO, FU, Gd]
  omega
 unfold wCl wL
 have f : (wRf c.sup).length = 2 := rfl
 simp only [FO, FU, Gd]
 omega
theorem c9y (hN : 1000 < N) (p : Pk) (hp : Lim p) (n : Int) (c : Cl) : En (a4W N p.aid p.ma p.mi (p.ims.map imV) (p.cls.map clV) (p.mts.map mtV) (p.sts.map tpV) (p.aps.map apV) n c.sup.p c.sup.c c.itf (c.ext.map rfV) (c.fs.map tpV) (c.vs.map nV) (c.is.map ilV)) (KCl c) := by
 have a1 := c2M N p hp c.sup n
 have tail : ∀ (q0 : GRf c.sup), En (br (decide (32 < ((c.ext.map rfV).length : Int))) (some 3)
  (br (decide (16 < ((c.fs.map tpV).length : Int))) (some 3)
   (br (decide (16 < ((c.vs.map nV).length : Int))) (some 3)
    (br (decide (32 < ((c.is.map ilV).length : Int))) (some 3)
     (j3 (a6c N (c.ext.map rfV) p.aid p.ma p.mi (p.ims.map imV) (p.cls.map clV) (p.mts.map mtV) (p.sts.map tpV) (p.aps.map apV) n) fun n5 =>
      br (!decide (n5 = 0)) (some n5)
       (j3 (a0h N p.aid p.ma p.mi (p.ims.map imV) (p.cls.map clV) (p.mts.map mtV) (p.sts.map tpV) (p.aps.map apV) (c.fs.map tpV)) fun b6 =>
        br (!b6) (some 22)
         (j3 (a5Q N (c.vs.map nV) p.aid p.ma p.mi (p.ims.map imV) (p.cls.map clV) (p.mts.map mtV) (p.sts.map tpV) (p.aps.map apV) n c.sup.p c.sup.c c.itf (c.ext.map rfV) (c.fs.map tpV) (c.vs.map nV) (c.is.map ilV)) fun n7 =>
          br (!decide (n7 = 0)) (some n7) (j3 (a1V N (c.is.map ilV) p.aid p.ma p.mi (p.ims.map imV) (p.cls.map clV) (p.mts.map mtV) (p.sts.map tpV) (p.aps.map apV) c.sup.p c.sup.c c.itf (c.ext.map rfV) (c.fs.map tpV) (c.vs.map nV) (c.is.map ilV)) fun n8 => some n8)))))))) (KCl c) := by
  intro q0
  refine D9 (fun _ => p4 (by decide)) fun q1 => D9 (fun _ => p4 (by decide)) fun q2 => D9 (fun _ => p4 (by decide)) fun q3 => D9 (fun _ => p4 (by decide)) fun q4 => ?_
  simp only [Gi] at q1 q2 q3 q4
  refine a6J (d8f N hN p hp n c.ext (by omega)) fun r1 => J2 (b4U N hN p hp c.fs (by omega)) (fun _ => p4 (by decide)) fun r2 => a6J (d8u N hN p hp n c (by omega) c.vs (by omega)) fun r3 => a6R (d5U N hN p hp c (by omega) c.is (by omega)) fun r4 => ?_
  exact e2z c q0 (by omega) (by omega) (by omega) (by omega) r1 r2 r3 r4
 unfold a4W
 refine a6J a1 fun q0 => ?_
 cases hi : c.itf
 . rw [hi] at tail
   exact D9 (fun _ => p4 (by decide)) fun _ => tail q0
 . rw [hi] at tail
   refine e2T (fun _ => p4 (by decide)) fun _ _ => D9 (fun _ => p4 (by decide)) fun _ => D9 (fun _ => p4 (by decide)) fun _ => tail q0
theorem d5x (p : Pk) (hp : Lim p) (m : Mt) (i : In) : Bo (b1E N p.aid p.ma p.mi (p.ims.map imV) (p.cls.map clV) (p.mts.map mtV) (p.sts.map tpV) (p.aps.map apV) m.st m.ab m.cls (m.ps.map tpV) m.r.k m.r.r.p m.r.r.c m.lo m.sk (iE m.code) (m.hs.map hdV) i.op i.a i.b i.c) True True := by
 have w : ∀ (a b : Int), Bo (j3 (D8 N a b) fun b => some b) True True := fun a b => a1s (X6 N a b) fun _ _ _ => F3 (fun _ => trivial) fun _ => trivial
 have r : Bo (j3 (E6 N p.aid p.ma p.mi (p.ims.map imV) (p.cls.map clV) (p.mts.map mtV) (p.sts.map tpV) (p.aps.map apV) i.a i.b) fun b => some b) True True := a1s (a4h N p hp ⟨i.a, i.b⟩) fun _ _ _ => F3 (fun _ => trivial) fun _ => trivial
 have s : ∀ b : Bool, Bo (some b) True True := fun b => F3 (fun _ => trivial) fun _ => trivial
 have t : ∀ {X Y : Option Bool} {p : Prop} [Decidable p], Bo X True True -> Bo Y True True -> Bo (br (decide p) X Y) True True := fun h1 h2 => V5 (fun _ => h1) fun _ => h2
 have u : Bo (br (decide (i.a = 0)) (j3 (D8 N i.b ((p.mts.map mtV).length : Int)) fun b3 => br b3 (some true) (br (decide (1 <= i.a)) (some (decide (i.a <= ((p.ims.map imV).length : Int)))) (some false)))
  (br (decide (1 <= i.a)) (some (decide (i.a <= ((p.ims.map imV).length : Int)))) (some false))) True True :=
  t (a1s (X6 N _ _) fun b _ _ => e6g (fun _ => s _) fun _ => t (s _) (s _)) (t (s _) (s _))
 unfold b1E
 have v := t (p := i.op = 44) (w i.a ((p.sts.map tpV).length : Int)) (t (p := i.op = 45) (w i.a ((p.sts.map tpV).length : Int)) (t (p := i.op = 46) u (t (p := i.op = 33) r (t (p := i.op = 42) r (t (p := i.op = 43) r (t (p := i.op = 47) r (t (p := i.op = 48) r (t (p := i.op = 51) r (t (p := i.op = 52) r (s true))))))))))
 exact t (t (w _ _) v) v
theorem e4H (hN : 1000 < N) (p : Pk) (hp : Lim p) (m : Mt) (i : Nat) (x : In) : En (d5C N (i : Int) x.op x.a x.b x.c p.aid p.ma p.mi (p.ims.map imV) (p.cls.map clV) (p.mts.map mtV) (p.sts.map tpV) (p.aps.map apV) m.st m.ab m.cls (m.ps.map tpV) m.r.k m.r.r.p m.r.r.c m.lo m.sk (iE m.code) (m.hs.map hdV)) (chk x = 0) := by
 unfold d5C e2R b5o
 refine a6R (Q := chk x = 0) ?_ id
 refine a6J (Q := chk x = 0) ?_ fun h => J2 (d5x N p hp m x) (fun _ => p4 (by decide)) fun _ => a4u h
 rw [a6l N (by omega) x]
 exact ⟨_, rfl, id⟩
theorem d9k (hN : 1000 < N) (p : Pk) (hp : Lim p) (m : Mt) (l : List In) (hl : l.length <= 900) : En (a7i N (l.map iV) p.aid p.ma p.mi (p.ims.map imV) (p.cls.map clV) (p.mts.map mtV) (p.sts.map tpV) (p.aps.map apV) m.st m.ab m.cls (m.ps.map tpV) m.r.k m.r.r.p m.r.r.c m.lo m.sk (iE m.code) (m.hs.map hdV)) (∀ x ∈ l, chk x = 0) := by
 have hL : l.length <= 900 := by omega
 unfold a7i c3X
 refine V9 (fun t i => a4C N (l.map iV) ((l.map iV).length : Int) p.aid p.ma p.mi (p.ims.map imV) (p.cls.map clV) (p.mts.map mtV) (p.sts.map tpV) (p.aps.map apV) m.st m.ab m.cls (m.ps.map tpV) m.r.k m.r.r.p m.r.r.c m.lo m.sk (iE m.code) (m.hs.map hdV) t i (fun e => some e) (some 0)) l (fun x => chk x = 0) (fun i x => d5C N (i : Int) x.op x.a x.b x.c p.aid p.ma p.mi (p.ims.map imV) (p.cls.map clV) (p.mts.map mtV) (p.sts.map tpV) (p.aps.map apV) m.st m.ab m.cls (m.ps.map tpV) m.r.k m.r.r.p m.r.r.c m.lo m.sk (iE m.code) (m.hs.map hdV)) (fun i x hx => e4H N hN p hp m i x) (fun t i x hx => ?_) (fun t => ?_) N (by omega)
 . show a2H N (l.map iV) _ p.aid p.ma p.mi (p.ims.map imV) (p.cls.map clV) (p.mts.map mtV) (p.sts.map tpV) (p.aps.map apV) m.st m.ab m.cls (m.ps.map tpV) m.r.k m.r.r.p m.r.r.c m.lo m.sk (iE m.code) (m.hs.map hdV) _ _ _ _ = _
   unfold a2H
   rw [C8 hx]
   simp only [iV, p8, o9, p5, o8, o6, A8, p7]
   rw [C7 (C3 hx) (by omega)]
 . show a2H N (l.map iV) _ p.aid p.ma p.mi (p.ims.map imV) (p.cls.map clV) (p.mts.map mtV) (p.sts.map tpV) (p.aps.map apV) m.st m.ab m.cls (m.ps.map tpV) m.r.k m.r.r.p m.r.r.c m.lo m.sk (iE m.code) (m.hs.map hdV) _ _ _ _ = _
   unfold a2H
   rw [C0]
theorem e4c (m : Mt) (hm : m.code.length <= 300) (i : Nat) (x : Hd) : En (d2v N (i : Int) x.f x.t x.g x.w m.st m.ab m.cls (m.ps.map tpV) m.r.k m.r.r.p m.r.r.c m.lo m.sk (iE m.code) (m.hs.map hdV)) (GHd x) := by
 have hl : ((iE m.code).length : Int) = (m.code.length : Int) := by rw [a3I, Gi]
 unfold d2v e1F
 rw [hl]
 refine D9 (fun _ => p4 (by decide)) fun q1 => D9 (fun _ => p4 (by decide)) fun q2 => D9 (fun _ => p4 (by decide)) fun q3 => J2 (X6 N _ _) (fun _ => p4 (by decide)) fun q4 => D9 (fun _ => p4 (by decide)) fun q5 => D9 (fun _ => p4 (by decide)) fun q6 => a4u ?_
 exact ⟨⟨by omega, by omega⟩, ⟨by omega, by omega⟩, ⟨by omega, by omega⟩, by omega, by omega⟩
theorem d8s (hN : 1000 < N) (m : Mt) (hm : m.code.length <= 300) (l : List Hd) (hl : l.length <= 900) : En (a7R N (l.map hdV) m.st m.ab m.cls (m.ps.map tpV) m.r.k m.r.r.p m.r.r.c m.lo m.sk (iE m.code) (m.hs.map hdV)) (∀ x ∈ l, GHd x) := by
 have hL : l.length <= 900 := by omega
 unfold a7R c5O
 refine V9 (fun t i => a5k N (l.map hdV) ((l.map hdV).length : Int) m.st m.ab m.cls (m.ps.map tpV) m.r.k m.r.r.p m.r.r.c m.lo m.sk (iE m.code) (m.hs.map hdV) t i (fun e => some e) (some 0)) l (fun x => GHd x) (fun i x => d2v N (i : Int) x.f x.t x.g x.w m.st m.ab m.cls (m.ps.map tpV) m.r.k m.r.r.p m.r.r.c m.lo m.sk (iE m.code) (m.hs.map hdV)) (fun i x hx => e4c N m hm i x) (fun t i x hx => ?_) (fun t => ?_) N (by omega)
 . show a2z N (l.map hdV) _ m.st m.ab m.cls (m.ps.map tpV) m.r.k m.r.r.p m.r.r.c m.lo m.sk (iE m.code) (m.hs.map hdV) _ _ _ _ = _
   unfold a2z
   rw [C8 hx]
   simp only [hdV, p8, o9, p5, o8, o6, A8, p7]
   rw [C7 (C3 hx) (by omega)]
 . show a2z N (l.map hdV) _ m.st m.ab m.cls (m.ps.map tpV) m.r.k m.r.r.p m.r.r.c m.lo m.sk (iE m.code) (m.hs.map hdV) _ _ _ _ = _
   unfold a2z
   rw [C0]
theorem b7q : ∀ l : List In, (∀ x ∈ l, chk x = 0) -> M7 l = 0
 | [], _ => rfl
 | x :: l, h => by
   have h1 := h x (IP ..)
   rw [M7, if_pos h1]
   exact b7q l fun y hy => h y (GQ _ hy)
def KMt (m : Mt) : Prop := GMt m /\ d6y m /\ (wMt m).length <= 3500
theorem d4f (m : Mt) (h0 : U8 m.cls) (h1 : m.ps.length <= 6) (q1 : ∀ x ∈ m.ps, GTp x) (q2 : GTp m.r) (h2 : U8 m.lo) (h3 : U8 m.sk) (h4 : m.code.length <= 256) (q3 : ∀ x ∈ m.code, chk x = 0) (h5 : m.hs.length <= 8) (q4 : ∀ x ∈ m.hs, GHd x) : KMt m := by
 refine ⟨⟨h0, ⟨by omega, q1⟩, q2, h2, h3, ⟨h4, b7q _ q3, ?_⟩, by omega, q4⟩, ⟨by omega, by omega, by omega⟩, e2f m h1 h4 h5⟩
 have := a9F m.code
 omega
theorem e3S (X Y : Option Int) : br (!true) X Y = Y := rfl
theorem e4j (X Y : Option Int) : br (!false) X Y = X := rfl
theorem e3N (X Y : Option Int) : br true X Y = X := rfl
theorem e4h (X Y : Option Int) : br false X Y = Y := rfl
theorem e0k (hN : 1000 < N) (p : Pk) (hp : Lim p) (m : Mt) (n : Int) (hn : 0 <= n) (h0 : U8 m.cls) (h1 : m.ps.length <= 6) (q1 : ∀ x ∈ m.ps, GTp x) (q2 : GTp m.r) (hab : m.ab = false) : En (br (decide (m.lo < n)) (some 2)
 (br (decide (16 < m.lo)) (some 2)
  (br (decide (m.sk < 0)) (some 2)
   (br (decide (16 < m.sk)) (some 2)
    (br (decide (((iE m.code).length : Int) = 0)) (some 4)
     (br (decide (256 < ((iE m.code).length : Int))) (some 3)
      (br (decide (8 < ((m.hs.map hdV).length : Int))) (some 3)
       (j3 (a7i N (iE m.code) p.aid p.ma p.mi (p.ims.map imV) (p.cls.map clV) (p.mts.map mtV) (p.sts.map tpV) (p.aps.map apV) m.st m.ab m.cls (m.ps.map tpV) m.r.k m.r.r.p m.r.r.c m.lo m.sk (iE m.code) (m.hs.map hdV)) fun n30 =>
        br (!decide (n30 = 0)) (some n30) (j3 (a7R N (m.hs.map hdV) m.st m.ab m.cls (m.ps.map tpV) m.r.k m.r.r.p m.r.r.c m.lo m.sk (iE m.code) (m.hs.map hdV)) fun n31 => some n31))))))))) (KMt m) := by
 have hl : ((iE m.code).length : Int) = (m.code.length : Int) := by rw [a3I, Gi]
 refine D9 (fun _ => p4 (by decide)) fun r1 => D9 (fun _ => p4 (by decide)) fun r2 => D9 (fun _ => p4 (by decide)) fun r3 => D9 (fun _ => p4 (by decide)) fun r4 => D9 (fun _ => p4 (by decide)) fun r5 => D9 (fun _ => p4 (by decide)) fun r6 => D9 (fun _ => p4 (by decide)) fun r7 => ?_
 rw [hl] at r5 r6
 rw [Gi] at r7
 have z := d9k N hN p hp m m.code (by omega)
 rw [← a3I] at z
 refine a6J z fun r8 => a6R (d8s N hN m (by omega) m.hs (by omega)) fun r9 => ?_
 exact d4f m h0 h1 q1 q2 ⟨by omega, by omega⟩ ⟨by omega, by omega⟩ (by omega) r8 (by omega) r9
theorem e2U (hN : 1000 < N) (p : Pk) (hp : Lim p) (m : Mt) (n : Int) (hn : 0 <= n) (h0 : U8 m.cls) (h1 : m.ps.length <= 6) (q1 : ∀ x ∈ m.ps, GTp x) (q2 : GTp m.r) (Z : Option Int)
 (ha : m.ab = true -> Z = br (!decide (m.lo = 0)) (some 4) (br (!decide (m.sk = 0)) (some 4) (br (decide (0 < ((iE m.code).length : Int))) (some 4) (br (decide (0 < ((m.hs.map hdV).length : Int))) (some 4) (some 0)))))
 (hb : m.ab = false -> Z = br (decide (m.lo < n)) (some 2)
 (br (decide (16 < m.lo)) (some 2)
  (br (decide (m.sk < 0)) (some 2)
   (br (decide (16 < m.sk)) (some 2)
    (br (decide (((iE m.code).length : Int) = 0)) (some 4)
     (br (decide (256 < ((iE m.code).length : Int))) (some 3)
      (br (decide (8 < ((m.hs.map hdV).length : Int))) (some 3)
       (j3 (a7i N (iE m.code) p.aid p.ma p.mi (p.ims.map imV) (p.cls.map clV) (p.mts.map mtV) (p.sts.map tpV) (p.aps.map apV) m.st m.ab m.cls (m.ps.map tpV) m.r.k m.r.r.p m.r.r.c m.lo m.sk (iE m.code) (m.hs.map hdV)) fun n30 =>
        br (!decide (n30 = 0)) (some n30) (j3 (a7R N (m.hs.map hdV) m.st m.ab m.cls (m.ps.map tpV) m.r.k m.r.r.p m.r.r.c m.lo m.sk (iE m.code) (m.hs.map hdV)) fun n31 => some n31))))))))) : En Z (KMt m) := by
 cases hm : m.ab
 . rw [hb hm]; exact e0k N hN p hp m n hn h0 h1 q1 q2 hm
 . have hl : ((iE m.code).length : Int) = (m.code.length : Int) := by rw [a3I, Gi]
   rw [ha hm]
   refine a8g (fun _ => p4 (by decide)) fun r1 => a8g (fun _ => p4 (by decide)) fun r2 => D9 (fun _ => p4 (by decide)) fun r3 => D9 (fun _ => p4 (by decide)) fun r4 => a4u ?_
   rw [hl] at r3
   rw [Gi] at r4
   have e1 : m.code = [] := HT (by omega)
   have e2 : m.hs = [] := HT (by omega)
   refine d4f m h0 h1 q1 q2 ⟨by omega, by omega⟩ ⟨by omega, by omega⟩ (by rw [e1]; decide) (fun x hx => ?_) (by rw [e2]; decide) (fun x hx => ?_)
   . rw [e1] at hx; cases hx
   . rw [e2] at hx; cases hx
theorem b1j {a : Bool} {P : Prop} {X Y : Option Int} (h1 : En X P) (h2 : En Y P) : En (br a X Y) P := by
 cases a
 . exact h2
 . exact h1
theorem a7T {p q r : Prop} [Decidable p] [Decidable q] [Decidable r] {P : Prop} {X Y : Option Int} (h1 : En X P) (h2 : p -> q -> r -> En Y P) : En (br (!(decide p && (decide q && (decide r && true) && true))) X Y) P := by
 by_cases hp : p <;> by_cases hq : q <;> by_cases hr : r <;> simp only [hp, hq, hr, decide_true, decide_false, Bool.and_true, Bool.and_false, Bool.false_and, Bool.true_and]
 . exact h2 hp hq hr
 all_goals exact h1
theorem c6m (hN : 1000 < N) (p : Pk) (hp : Lim p) (k : Int) (m : Mt) : En (a3d N p.aid p.ma p.mi (p.ims.map imV) (p.cls.map clV) (p.mts.map mtV) (p.sts.map tpV) (p.aps.map apV) k m.st m.ab m.cls (m.ps.map tpV) m.r.k m.r.r.p m.r.r.c m.lo m.sk (iE m.code) (m.hs.map hdV)) (KMt m) := by
 have hcl := hp.2.2.1
 have w := a3H (enc := clV) N p.cls m.cls
 have us := b7w N p hp m.r
 have al : ∀ hl : m.ps.length <= 6, _ := fun hl => b4U N hN p hp m.ps (by omega)
 have wr : ∀ hl : m.ps.length <= 6, 0 <= FK.wrap (((m.ps.map tpV).length : Int) + 1) := fun hl => by
  rw [IntKind.wrap_i64, Gi]; omega
 have mid : ∀ n, _ := fun n => e2U N hN p hp m n
 unfold a3d cM3 cM2
 rcases hst : m.st <;> rw [hst] at mid <;> rcases hab : m.ab <;> rw [hab] at mid <;> simp only [↓e3S, ↓e4j, ↓e3N, ↓e4h]
 . refine J2 w (fun _ => p4 (by decide)) fun q0 => D9 (fun _ => p4 (by decide)) fun q1 => ?_
   have q1' : m.ps.length <= 6 := by rw [Gi] at q1; omega
   have q0' : U8 m.cls := ⟨q0.1, by omega⟩
   refine J2 (al q1') (fun _ => p4 (by decide)) fun q2 => a7T (J2 us (fun _ => p4 (by decide)) fun q3 => a0b q0.1 (by rw [Gi]; exact q0.2) (a8i q0.1 q0.2 fun x hx => ?_)) fun z1 z2 z3 => a0b q0.1 (by rw [Gi]; exact q0.2) (a8i q0.1 q0.2 fun x hx => ?_)
   . simp only [clV, p8, o9, p5, o8, o6, A8, p7]
     exact b1j (p4 (e := 4) (by decide)) (mid _ (wr q1') q0' q1' q2 q3 _ (fun h => by cases h) fun _ => rfl)
   . simp only [clV, p8, o9, p5, o8, o6, A8, p7]
     exact b1j (p4 (e := 4) (by decide)) (mid _ (wr q1') q0' q1' q2 (.inr ⟨by omega, by omega, z2, z3⟩) _ (fun h => by cases h) fun _ => rfl)
 . refine J2 w (fun _ => p4 (by decide)) fun q0 => D9 (fun _ => p4 (by decide)) fun q1 => ?_
   have q1' : m.ps.length <= 6 := by rw [Gi] at q1; omega
   have q0' : U8 m.cls := ⟨q0.1, by omega⟩
   refine J2 (al q1') (fun _ => p4 (by decide)) fun q2 => a7T (J2 us (fun _ => p4 (by decide)) fun q3 => a0b q0.1 (by rw [Gi]; exact q0.2) (a8i q0.1 q0.2 fun x hx => ?_)) fun z1 z2 z3 => a0b q0.1 (by rw [Gi]; exact q0.2) (a8i q0.1 q0.2 fun x hx => ?_)
   . simp only [clV, p8, o9, p5, o8, o6, A8, p7]
     exact b1j (p4 (e := 4) (by decide)) (mid _ (wr q1') q0' q1' q2 q3 _ (fun _ => rfl) fun h => by cases h)
   . simp only [clV, p8, o9, p5, o8, o6, A8, p7]
     exact b1j (p4 (e := 4) (by decide)) (mid _ (wr q1') q0' q1' q2 (.inr ⟨by omega, by omega, z2, z3⟩) _ (fun _ => rfl) fun h => by cases h)
 . refine a8g (fun _ => p4 (by decide)) fun q0 => D9 (fun _ => p4 (by decide)) fun q1 => ?_
   have q1' : m.ps.length <= 6 := by rw [Gi] at q1; omega
   have q0' : U8 m.cls := ⟨by omega, by omega⟩
   refine J2 (al q1') (fun _ => p4 (by decide)) fun q2 => a7T (J2 us (fun _ => p4 (by decide)) fun q3 => ?_) fun z1 z2 z3 => ?_
   . exact b1j (p4 (e := 4) (by decide)) (mid (m.ps.map tpV).length (by omega) q0' q1' q2 q3 _ (fun h => by cases h) fun _ => rfl)
   . exact b1j (p4 (e := 4) (by decide)) (mid (m.ps.map tpV).length (by omega) q0' q1' q2 (.inr ⟨by omega, by omega, z2, z3⟩) _ (fun h => by cases h) fun _ => rfl)
 . refine a8g (fun _ => p4 (by decide)) fun q0 => D9 (fun _ => p4 (by decide)) fun q1 => ?_
   have q1' : m.ps.length <= 6 := by rw [Gi] at q1; omega
   have q0' : U8 m.cls := ⟨by omega, by omega⟩
   refine J2 (al q1') (fun _ => p4 (by decide)) fun q2 => a7T (J2 us (fun _ => p4 (by decide)) fun q3 => ?_) fun z1 z2 z3 => ?_
   . exact b1j (p4 (e := 4) (by decide)) (mid (m.ps.map tpV).length (by omega) q0' q1' q2 q3 _ (fun _ => rfl) fun h => by cases h)
   . exact b1j (p4 (e := 4) (by decide)) (mid (m.ps.map tpV).length (by omega) q0' q1' q2 (.inr ⟨by omega, by omega, z2, z3⟩) _ (fun _ => rfl) fun h => by cases h)
theorem d9u (hN : 1000 < N) (p : Pk) (hp : Lim p) (l : List Cl) (hl : l.length <= 900) : En (b8o N (l.map clV) p.aid p.ma p.mi (p.ims.map imV) (p.cls.map clV) (p.mts.map mtV) (p.sts.map tpV) (p.aps.map apV)) (∀ x ∈ l, KCl x) := by
 unfold b8o
 refine V9 (fun t i => a5X N p.aid p.ma p.mi (p.ims.map imV) (p.cls.map clV) (p.mts.map mtV) (p.sts.map tpV) (p.aps.map apV) (l.map clV) ((l.map clV).length : Int) t i (fun e => some e) (some 0)) l (fun x => KCl x) (fun i x => a4W N p.aid p.ma p.mi (p.ims.map imV) (p.cls.map clV) (p.mts.map mtV) (p.sts.map tpV) (p.aps.map apV) (i : Int) x.sup.p x.sup.c x.itf (x.ext.map rfV) (x.fs.map tpV) (x.vs.map nV) (x.is.map ilV)) (fun i x hx => c9y N hN p hp i x) (fun t i x hx => ?_) (fun t => ?_) N (by omega)
 . show a2v N p.aid p.ma p.mi (p.ims.map imV) (p.cls.map clV) (p.mts.map mtV) (p.sts.map tpV) (p.aps.map apV) (l.map clV) _ _ _ _ _ = _
   unfold a2v
   rw [C8 hx]
   simp only [clV, p8, o9, p5, o8, o6, A8, p7]
   rw [C7 (C3 hx) (by omega)]
 . show a2v N p.aid p.ma p.mi (p.ims.map imV) (p.cls.map clV) (p.mts.map mtV) (p.sts.map tpV) (p.aps.map apV) (l.map clV) _ _ _ _ _ = _
   unfold a2v
   rw [C0]
theorem d8M (hN : 1000 < N) (p : Pk) (hp : Lim p) (l : List Mt) (hl : l.length <= 900) : En (b8B N (l.map mtV) p.aid p.ma p.mi (p.ims.map imV) (p.cls.map clV) (p.mts.map mtV) (p.sts.map tpV) (p.aps.map apV)) (∀ x ∈ l, KMt x) := by
 unfold b8B
 refine V9 (fun t i => a6a N p.aid p.ma p.mi (p.ims.map imV) (p.cls.map clV) (p.mts.map mtV) (p.sts.map tpV) (p.aps.map apV) (l.map mtV) ((l.map mtV).length : Int) t i (fun e => some e) (some 0)) l (fun x => KMt x) (fun i x => a3d N p.aid p.ma p.mi (p.ims.map imV) (p.cls.map clV) (p.mts.map mtV) (p.sts.map tpV) (p.aps.map apV) (i : Int) x.st x.ab x.cls (x.ps.map tpV) x.r.k x.r.r.p x.r.r.c x.lo x.sk (iE x.code) (x.hs.map hdV)) (fun i x hx => c6m N hN p hp i x) (fun t i x hx => ?_) (fun t => ?_) N (by omega)
 . show a2A N p.aid p.ma p.mi (p.ims.map imV) (p.cls.map clV) (p.mts.map mtV) (p.sts.map tpV) (p.aps.map apV) (l.map mtV) _ _ _ _ _ = _
   unfold a2A
   rw [C8 hx]
   simp only [mtV, p8, o9, p5, o8, o6, A8, p7]
   rw [C7 (C3 hx) (by omega)]
 . show a2A N p.aid p.ma p.mi (p.ims.map imV) (p.cls.map clV) (p.mts.map mtV) (p.sts.map tpV) (p.aps.map apV) (l.map mtV) _ _ _ _ _ = _
   unfold a2A
   rw [C0]
theorem c1X (hN : 1000 < N) (p : Pk) (hp : Lim p) : En (a3J N p.aid p.ma p.mi (p.ims.map imV) (p.cls.map clV) (p.mts.map mtV) (p.sts.map tpV) (p.aps.map apV)) (∀ x ∈ p.sts, GTp x) := by
 unfold a3J
 exact J2 (b4U N hN p hp p.sts (by have := hp.2.2.2.2.1; omega)) (fun _ => p4 (by decide)) fun h => a4u h
theorem e0o (hN : 1000 < N) (a : List UInt8) (n1 n2 : Int) (ha : a.length <= 9223372036854775807) (l : List Ap) (hl : l.length <= 900) (hy : ∀ x ∈ l, x.aid.length <= 9223372036854775807) : Bo (b9o N (l.map apV) a n1 n2) True (∀ x ∈ l, True) := by
 unfold b9o c6J c5l c5y
 refine a2O (fun t i => a5n N (l.map apV) ((l.map apV).length : Int) a n1 n2 t i (fun e => some e) (some (-1))) l (fun x => True) (fun x => b8f N x.aid x.cl x.ins a n1 n2) (fun x hx => by unfold b8f c5U; exact a1s (c6r N a x.aid ha (hy x hx)) fun b _ _ => F3 (fun _ => trivial) fun _ => trivial) (fun t i x hx => ?_) (fun t => ?_) N (by omega)
 . show a2D N (l.map apV) _ a n1 n2 _ _ _ _ = _
   unfold a2D
   rw [C8 hx]
   simp only [apV, p8, o9, p5, o8, o6, A8, p7]
   rw [C7 (C3 hx) (by omega)]
 . show a2D N (l.map apV) _ a n1 n2 _ _ _ _ = _
   unfold a2D
   rw [C0]
theorem e2w (hN : 1000 < N) (l : List Tp) : Bo (c7S N (l.map tpV) [V.agg [V.int FK 2, V.int FK 0, V.int FK 0]]) True True := by
 have z : ∀ b : Bool, Bo (some b) True True := fun b => F3 (fun _ => trivial) fun _ => trivial
 unfold c7S
 match l with
 | [] => exact z false
 | x :: y :: r =>
   rw [decide_eq_false (by simp only [List.map_cons, FO, Gd]; omega)]
   exact z false
 | [t] =>
   obtain ⟨k, rfl⟩ : ∃ k, N = k + 2 := ⟨N - 2, by omega⟩
   show Bo (a1Q (k + 2) [tpV t] [tpV ⟨2, ⟨0, 0⟩⟩] (([tpV t].length : Nat) : Int) (k + 2) 0 (fun b => some b) (some true)) True True
   have e : a1Q (k + 2) [tpV t] [tpV ⟨2, ⟨0, 0⟩⟩] (([tpV t].length : Nat) : Int) (k + 2) 0 (fun b => some b) (some true) = br (!(decide (t.k = 2) && (decide (t.r.p = 0) && (decide (t.r.c = 0) && true) && true))) (some false) (some true) := by
    show b1S (k + 2) [tpV t] [tpV ⟨2, ⟨0, 0⟩⟩] (([tpV t].length : Nat) : Int) _ _ _ 0 = _
    unfold b1S
    show V.unInt FK (.int .i64 t.k) (fun n4 => V.unInt FK (.int .i64 t.r.p) fun n7 => V.unInt FK (.int .i64 t.r.c) fun n10 => V.unInt FK (.int .i64 2) fun n15 => V.unInt FK (.int .i64 0) fun n18 => V.unInt FK (.int .i64 0) fun n21 => br (!(decide (n4 = n15) && (decide (n7 = n18) && (decide (n10 = n21) && true) && true))) (some false) (a1Q (k + 2) [tpV t] [tpV ⟨2, ⟨0, 0⟩⟩] (([tpV t].length : Nat) : Int) (k + 1) (FK.wrap (0 + 1)) (fun b => some b) (some true))) = _
    simp only [p5]
    have e1 : FK.wrap (0 + 1) = 1 := by decide
    have e2 : a1Q (k + 2) [tpV t] [tpV ⟨2, ⟨0, 0⟩⟩] (([tpV t].length : Nat) : Int) (k + 1) 1 (fun b => some b) (some true) = some true := rfl
    rw [e1, e2]
   rw [e]
   cases (!(decide (t.k = 2) && (decide (t.r.p = 0) && (decide (t.r.c = 0) && true) && true)))
   . exact z true
   . exact z false
theorem e3e (hN : 1000 < N) (p : Pk) (hp : Lim p) (hm : ∀ x ∈ p.aps, x.aid.length <= 9223372036854775807) (i : Nat) (x : Ap) (hx : x ∈ p.aps) (hi : i <= p.aps.length) : En (c3L N (i : Int) x.aid x.cl x.ins p.aid p.ma p.mi (p.ims.map imV) (p.cls.map clV) (p.mts.map mtV) (p.sts.map tpV) (p.aps.map apV)) (GAp x /\ x.aid.length <= 16) := by
 obtain ⟨h1, h2, h3, h4, h5, h6⟩ := hp
 have cf := e0o N hN x.aid x.cl x.ins (hm x hx) (p.aps.take i) (by rw [GU]; omega) fun y hy => hm y (Iw hy)
 unfold c3L d2L
 refine J2 (b4B N x.aid) (fun _ => p4 (by decide)) fun q1 => a0b (by omega) (by rw [Gi]; omega) ?_
 rw [GE, ← JH]
 refine b6T cf (fun _ => p4 (by decide)) fun _ => J2 (a3H N p.cls x.cl) (fun _ => p4 (by decide)) fun q2 => J2 (a3H N p.mts x.ins) (fun _ => p4 (by decide)) fun q3 => a0b q2.1 (by rw [Gi]; exact q2.2) (a8i q2.1 q2.2 fun y hy => ?_)
 simp only [clV, p8, o9, p5, o8, o6, A8, p7]
 refine e2F (fun _ => p4 (by decide)) fun _ => a0b q2.1 (by rw [Gi]; exact q2.2) (a8i q2.1 q2.2 fun z hz => ?_)
 simp only [clV, p8, o9, p5, o8, o6, A8, p7]
 refine D9 (fun _ => p4 (by decide)) fun _ => a0b q3.1 (by rw [Gi]; exact q3.2) (a8i q3.1 q3.2 fun w hw => ?_)
 simp only [mtV, p8, o9, p5, o8, o6, A8, p7]
 refine e1k (fun _ => p4 (by decide)) fun _ => J2 (e2w N hN w.ps) (fun _ => p4 (by decide)) fun _ => a7T (p4 (by decide)) fun _ _ _ => a4u ⟨⟨by omega, ⟨q2.1, by omega⟩, q3.1, by omega⟩, q1⟩
theorem d7W (hN : 1000 < N) (p : Pk) (hp : Lim p) (hm : ∀ x ∈ p.aps, x.aid.length <= 9223372036854775807) (l : List Ap) (hl : l.length <= p.aps.length) (hs : ∀ x ∈ l, x ∈ p.aps) : En (c0k N (l.map apV) p.aid p.ma p.mi (p.ims.map imV) (p.cls.map clV) (p.mts.map mtV) (p.sts.map tpV) (p.aps.map apV)) (∀ x ∈ l, (GAp x /\ x.aid.length <= 16)) := by
 have hL : l.length <= 900 := by have := hp.2.2.2.2.2; omega
 unfold c0k c5V
 refine V9 (fun t i => a4L N (l.map apV) ((l.map apV).length : Int) p.aid p.ma p.mi (p.ims.map imV) (p.cls.map clV) (p.mts.map mtV) (p.sts.map tpV) (p.aps.map apV) t i (fun e => some e) (some 0)) l (fun x => (GAp x /\ x.aid.length <= 16)) (fun i x => c3L N (i : Int) x.aid x.cl x.ins p.aid p.ma p.mi (p.ims.map imV) (p.cls.map clV) (p.mts.map mtV) (p.sts.map tpV) (p.aps.map apV)) (fun i x hx => e3e N hN p hp hm i x (hs x (Gb hx)) (by have := C3 hx; omega)) (fun t i x hx => ?_) (fun t => ?_) N (by omega)
 . show a3m N (l.map apV) _ p.aid p.ma p.mi (p.ims.map imV) (p.cls.map clV) (p.mts.map mtV) (p.sts.map tpV) (p.aps.map apV) _ _ _ _ = _
   unfold a3m
   rw [C8 hx]
   simp only [apV, p8, o9, p5, o8, o6, A8, p7]
   rw [C7 (C3 hx) (by omega)]
 . show a3m N (l.map apV) _ p.aid p.ma p.mi (p.ims.map imV) (p.cls.map clV) (p.mts.map mtV) (p.sts.map tpV) (p.aps.map apV) _ _ _ _ = _
   unfold a3m
   rw [C0]
def KPk (p : Pk) : Prop := GPk p /\ d7T p /\ (wPk p).length <= 2048
theorem d2V (hN : 1000 < N) (p : Pk) (hp : Lim p) (hma : U8 p.ma) (hmi : U8 p.mi) (hm : ∀ x ∈ p.ims, x.aid.length <= 9223372036854775807) (hm2 : ∀ x ∈ p.aps, x.aid.length <= 9223372036854775807) : En (b1K N p.aid p.ma p.mi (p.ims.map imV) (p.cls.map clV) (p.mts.map mtV) (p.sts.map tpV) (p.aps.map apV)) (KPk p) := by
 have hp' := hp
 obtain ⟨h1, h2, h3, h4, h5, h6⟩ := hp'
 unfold b1K
 refine a6J (c2I N hN p hp hm) fun q1 => a6J (Q := ∀ x ∈ p.cls, KCl x) ?_ fun q2 => a6J (Q := ∀ x ∈ p.mts, KMt x) ?_ fun q3 => a6J (c1X N hN p hp) fun q4 => a6J (Q := ∀ x ∈ p.aps, GAp x /\ x.aid.length <= 16) ?_ fun q5 => ?_
 . unfold a7d
   exact a6R (d9u N hN p hp p.cls (by omega)) id
 . unfold a7k
   exact a6R (d8M N hN p hp p.mts (by omega)) id
 . unfold a7O
   exact a6R (d7W N hN p hp hm2 p.aps (FW _) fun x h => h) id
 have g : GPk p := ⟨by omega, hma, hmi, ⟨by omega, fun x hx => (q1 x hx).1⟩, ⟨by omega, fun x hx => (q2 x hx).1⟩, ⟨by omega, fun x hx => (q3 x hx).1⟩, ⟨by omega, q4⟩, by omega, fun x hx => (q5 x hx).1⟩
 have o : d7T p := ⟨by omega, ⟨by omega, fun x hx => by have := (q1 x hx).2; omega⟩, ⟨by omega, fun x hx => (q2 x hx).2.1⟩, ⟨by omega, fun x hx => (q3 x hx).2.1⟩, by omega, by omega, fun x hx => by have := (q5 x hx).2; omega⟩
 have a := b0t wIm 19 p.ims fun x hx => by
  have := (q1 x hx).2
  unfold wIm b0E
  simp only [FO, FU, Gd]
  omega
 have b := b0t wCl 800 p.cls fun x hx => (q2 x hx).2.2
 have c := b0t wMt 3500 p.mts fun x hx => (q3 x hx).2.2
 have d := b0t wTp 3 p.sts fun x _ => b9n x
 have e := b0t wAp 19 p.aps fun x hx => by
  have := (q5 x hx).2
  unfold wAp b0E
  simp only [FO, FU, Gd]
  omega
 have f : (wPk p).length <= 99999980 := by
  unfold wPk wL b0E
  simp only [FO, FU, Gd]
  omega
 rw [b4Q N hN p o f, j4]
 exact D9 (fun _ => p4 (by decide)) fun h => a4u ⟨g, o, by omega⟩
theorem d2c (hN : 1000 < N) (p : Pk) (hm : ∀ x ∈ p.ims, x.aid.length <= 9223372036854775807) (hm2 : ∀ x ∈ p.aps, x.aid.length <= 9223372036854775807) : En (a0M N p.aid p.ma p.mi (p.ims.map imV) (p.cls.map clV) (p.mts.map mtV) (p.sts.map tpV) (p.aps.map apV)) (KPk p) := by
 unfold a0M
 refine J2 (b4B N p.aid) (fun _ => p4 (by decide)) fun q1 => J2 (b1x N p.ma) (fun _ => p4 (by decide)) fun q2 => J2 (b1x N p.mi) (fun _ => p4 (by decide)) fun q3 => D9 (fun _ => p4 (by decide)) fun r1 => D9 (fun _ => p4 (by decide)) fun r2 => D9 (fun _ => p4 (by decide)) fun r3 => D9 (fun _ => p4 (by decide)) fun r4 => D9 (fun _ => p4 (by decide)) fun r5 => ?_
 simp only [Gi] at r1 r2 r3 r4 r5
 exact a6R (d2V N hN p ⟨q1, by omega, by omega, by omega, by omega, by omega⟩ q2 q3 hm hm2) id
theorem c5h (hN : 1000 < N) (p : Pk) (hm : ∀ x ∈ p.ims, x.aid.length <= 9223372036854775807) (hm2 : ∀ x ∈ p.aps, x.aid.length <= 9223372036854775807) : ∃ e, a0M N p.aid p.ma p.mi (p.ims.map imV) (p.cls.map clV) (p.mts.map mtV) (p.sts.map tpV) (p.aps.map apV) = some e /\ ((e ≠ 0 /\ Y5 N p.aid p.ma p.mi (p.ims.map imV) (p.cls.map clV) (p.mts.map mtV) (p.sts.map tpV) (p.aps.map apV) = some ([], e)) ∨ (e = 0 /\ KPk p /\ Y5 N p.aid p.ma p.mi (p.ims.map imV) (p.cls.map clV) (p.mts.map mtV) (p.sts.map tpV) (p.aps.map apV) = some (wPk p, 0))) := by
 obtain ⟨e, h1, h2⟩ := d2c N hN p hm hm2
 refine ⟨e, h1, ?_⟩
 unfold Y5
 rw [h1, j4]
 by_cases h : e = 0
 . have k := h2 h
   refine .inr ⟨h, k, ?_⟩
   rw [b4Q N hN p k.2.1 (by have := k.2.2; omega), j4, decide_eq_true h]
   rfl
 . refine .inl ⟨h, ?_⟩
   rw [decide_eq_false h]
   rfl
end
end En
end
end Go.Proofs.YtkoilndpfifapaaGreatDoor
