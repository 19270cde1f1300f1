/- Texts. -/
import Derived.Test.YtfafflepalgcnaaGreatZ3
set_option linter.unusedSimpArgs false
set_option linter.unusedVariables false
set_option linter.unusedSectionVars false
open And renaming intro → GN
open Go renaming Value → GK, World → GG, TypeId → GF, heap_alloc_new → Ht, Calls → Hq, wpList_store_mid → IN, bodyPost_ret → Hj, FuncId → Hg
open Go.IntKind renaming i64 → GA, u8 → GI
open Go.Lib renaming hid → GO
open Go.Value renaming oneCell' → Iv, int → JW
open Go.World renaming cell?_of_block → IK, block_lt_of_cell? → Hx, cell?_setCell_same → JR, cell?_setCell_other → IT, rangeAt_setCells_same → Hp, cell?_alloc_lt → Io, frozen?_of_block → Lo
open List renaming length → Ke, setIfInBounds_toArray → Hi, set_cons_succ → Ie, set_cons_zero → If, getD_cons_zero → IA, getD_cons_succ → Jw
open Nat renaming le_refl → GB, zero_add → HE
open Option renaming isSome_iff_exists → Iz
open UInt8 renaming toNat_lt → He, ofNat → Gz
namespace Go.Proofs.YtfafflepalgcnaaGreat
section
open Go.RowKit
def U0 (c : Nat) : Int := if c < 128 then 0 else if c < 192 then 1 else 2
def a2R (c : Nat) : Int := if c < 128 then (c / 64 : Nat) else if c < 192 then (c / 16 % 2 : Nat) else 0
def Y7 (c : Nat) : Bool := if c < 128 then decide (c / 32 % 2 = 1) else false
def T8 (c : Nat) : Int := if c < 128 then 0 else (c % 4 : Nat)
def a3R (c : Nat) : Bool := if c < 192 then false else decide (c / 32 % 2 = 1)
theorem b0L (c : Nat) : a0t c = [.int .i64 0, .int .i64 (U0 c), .int .i64 (a2R c), .bool (Y7 c), .int .i64 (T8 c), .bool (a3R c), .slice none 0 0] := by
 unfold a0t U0 a2R Y7 T8 a3R
 by_cases h1 : c < 128
 . have h2 : c < 192 := by omega
   simp [h1, h2]
 . by_cases h2 : c < 192 <;> simp [h1, h2]
def b0e (body : List UInt8) : Int :=
 if okC (body.getD 1 0).toNat = true /\ (body.getD 2 0).toNat = body.length - 3 then
  d8 (body.getD 0 0).toNat (U0 (body.getD 1 0).toNat) (a2R (body.getD 1 0).toNat) (Y7 (body.getD 1 0).toNat) (T8 (body.getD 1 0).toNat) (a3R (body.getD 1 0).toNat) (body.drop 3)
 else 4
def zeroL : List GK := [.int .i64 0, .int .i64 0, .int .i64 0, .bool false, .int .i64 0, .bool false, .slice none 0 0]
def Six (g : Nat) (inf : List UInt8) (w : GG) : Prop := ∃ A n c, w.cell? ⟨g, 6, none⟩ = some (.slice A n c) /\ IsB w A n c inf /\ ∀ b off, A = some ⟨b, off, none⟩ -> g < b
structure TG (g : Nat) (v0 : GK) (inf : List UInt8) (w w' : GG) : Prop where
 grown : w.grownBy w' (some g)
 there : w.there g 0 7 -> w'.there g 0 7
 mid : ∀ j, 1 <= j -> j <= 5 -> w'.cell? ⟨g, j, none⟩ = w.cell? ⟨g, j, none⟩
 zero : w.cell? ⟨g, 0, none⟩ = some v0 -> w'.cell? ⟨g, 0, none⟩ = some v0
 six : Six g inf w -> Six g inf w'
section
variable {g : Nat} {v0 : GK} {inf : List UInt8}
theorem TG.refl (w : GG) : TG g v0 inf w w := ⟨World.grownBy.refl w _, id, fun _ _ _ => rfl, id, id⟩
theorem TG.trans (x y z : GG) (h : TG g v0 inf x y) (k : TG g v0 inf y z) : TG g v0 inf x z :=
 ⟨a4y h.grown k.grown, fun q => k.there (h.there q), fun j a b => (k.mid j a b).trans (h.mid j a b), fun q => k.zero (h.zero q), fun q => k.six (h.six q)⟩
theorem TG.of_below {w w' : GG} (hg : g < w.heap.size) (h : Below w.heap.size w w') : TG g v0 inf w w' := by
 have hc : ∀ j, w'.cell? ⟨g, j, none⟩ = w.cell? ⟨g, j, none⟩ := fun j => h.cell (p := ⟨g, j, none⟩) hg
 exact ⟨⟨h.os, h.tape, h.output, h.size, fun k hk _ => h.block k hk⟩,
  fun q j hj => ⟨by rw [hc]; exact (q j hj).1, by rw [h.frozen (p := ⟨g, 0 + j, none⟩) hg]; exact (q j hj).2⟩,
  fun j _ _ => hc j, fun q => by rw [hc]; exact q, fun ⟨A, n, c, q, r, s⟩ => ⟨A, n, c, by rw [hc]; exact q, Rd.below r h, s⟩⟩
theorem I1 {w w' : GG} (h : w.grownBy w' (some g)) {A : Option Addr} {n c : Nat} {xs : List UInt8} (hr : IsB w A n c xs) (hne : ∀ b off, A = some ⟨b, off, none⟩ -> b ≠ g) : IsB w' A n c xs :=
 Rd.mk (Rd.len hr) (Rd.cap hr) (Rd.max hr) fun k v hv => by
  obtain ⟨b, off, rfl, hc⟩ := Rd.at_ hr k v hv
  refine ⟨b, off, rfl, ?_⟩
  rw [IK (a := ⟨b, off + k, none⟩) (h.block b (Hx w _ hc) (fun e => hne b off rfl (by injection e)))]
  exact hc
theorem a5z {w : GG} {p : Addr} {v : GK} (h : w.there g 0 7) : (w.setCell p v).there g 0 7 := by
 intro j hj
 obtain ⟨h1, h2⟩ := h j hj
 refine ⟨?_, by rw [World.frozen?_setCell]; exact h2⟩
 obtain ⟨u, hu⟩ := Iz.1 h1
 by_cases he : p = ⟨g, 0 + j, none⟩
 . subst he; rw [JR _ _ _ hu]; rfl
 . rw [IT _ _ _ _ he]; exact h1
theorem X3 (w : GG) (g j : Nat) (v : GK) : w.grownBy (w.setCell ⟨g, j, none⟩ v) (some g) :=
 ⟨rfl, rfl, rfl, by simp, fun k _ hne => Below.heap_setCell w ⟨g, j, none⟩ v k (fun e => hne (by rw [e]))⟩
theorem TG.set0 {w : GG} (h : w.there g 0 7) : TG g v0 inf w (w.setCell ⟨g, 0, none⟩ v0) /\ (w.setCell ⟨g, 0, none⟩ v0).cell? ⟨g, 0, none⟩ = some v0 := by
 obtain ⟨u, hu⟩ := Iz.1 (h 0 (by omega)).1
 have h0 := JR w ⟨g, 0, none⟩ v0 hu
 refine ⟨⟨X3 w g 0 v0, a5z, fun j a b => IT _ _ _ _ (by simp <;> omega), fun _ => h0, ?_⟩, h0⟩
 rintro ⟨A, n, c, q, r, s⟩
 exact ⟨A, n, c, by rw [IT _ _ _ _ (by simp)]; exact q, I1 (X3 w g 0 v0) r (fun b off e => by have := s b off e; omega), s⟩
theorem TG.set6 {w : GG} {A : Option Addr} {n c : Nat} (h : w.there g 0 7) (hr : IsB w A n c inf) (hne : ∀ b off, A = some ⟨b, off, none⟩ -> g < b) :
 TG g v0 inf w (w.setCell ⟨g, 6, none⟩ (.slice A n c)) /\ Six g inf (w.setCell ⟨g, 6, none⟩ (.slice A n c)) := by
 obtain ⟨u, hu⟩ := Iz.1 (h 6 (by omega)).1
 have h6 := JR w ⟨g, 6, none⟩ (.slice A n c) hu
 have hs : Six g inf (w.setCell ⟨g, 6, none⟩ (.slice A n c)) := ⟨A, n, c, h6, I1 (X3 w g 6 _) hr (fun b off e => by have := hne b off e; omega), hne⟩
 exact ⟨⟨X3 w g 6 _, a5z, fun j a b => IT _ _ _ _ (by simp <;> omega), fun q => by rw [IT _ _ _ _ (by simp)]; exact q, fun _ => hs⟩, hs⟩
end
theorem v9 {w w' : GG} {R n : Nat} (h : w.there R 0 n) (hR : R < w.heap.size) (hb : Below w.heap.size w w') : w'.there R 0 n := fun j hj =>
 ⟨by rw [hb.cell (p := ⟨R, 0 + j, none⟩) hR]; exact (h j hj).1, by rw [hb.frozen (p := ⟨R, 0 + j, none⟩) hR]; exact (h j hj).2⟩
theorem R3 (w : GG) (e : GF) : (w.alloc (.cells #[.int .i64 0, .int .i64 0, .int .i64 0, .bool false, .int .i64 0, .bool false, .slice none 0 0] e)).there w.heap.size 0 7 := B4 (Ht w _) rfl
set_option maxHeartbeats 400000 in
theorem b9u (A : Option Addr) (n c : Nat) (k : Int) (hk : ¬ (k = 0 ∨ k = 1)) (w : GG) :
 Hq Tryz.prog 68 #[.slice A n c, .int .i64 k] w
  fun e w' => e = .returned (.tuple #[.agg zeroL.toArray, .int .i64 1]) /\ Below w.heap.size w w' := by
 have hs : a7L k = 0 := by unfold a7L; rw [if_neg (by omega), if_neg (by omega)]
 have HTH := GO (R3 w 84)
 go_enter Tryz.func68, Tryz.ntmps68
 go_wp2_with fail
 refine (H4 k _).mono ?_
 rintro e w1 ⟨rfl, rfl⟩
 rw [hs]
 go_wp2_with (refine IN rfl 84 _ _ rfl w.heap.size 0 #[.int .i64 0, .int .i64 0, .int .i64 0, .bool false, .int .i64 0, .bool false, .slice none 0 0] rfl rfl HTH.out (by kernel_rfl) (by simp [Iv]) ?_)
 refine Hj (results_cell_tmp rfl _ _ w.heap.size 0 zeroL _ rfl (Hp _ w.heap.size 0 zeroL HTH.out) Tryz.underlying84 rfl (by kernel_rfl)) rfl ⟨rfl, ?_⟩
 exact B1 (GB _) _ _ _ ((Below.refl _ _).alloc (GB _) _)
set_option maxHeartbeats 400000 in
theorem b7w (A : Option Addr) (n c : Nat) (k : Int) (hk : k = 0 ∨ k = 1) (hn : n < 3 + C8 k) (w : GG) :
 Hq Tryz.prog 68 #[.slice A n c, .int .i64 k] w
  fun e w' => e = .returned (.tuple #[.agg zeroL.toArray, .int .i64 5]) /\ Below w.heap.size w w' := by
 have hp := G8 k hk
 have HTH := GO (R3 w 84)
 go_enter Tryz.func68, Tryz.ntmps68
 go_wp2_with fail
 refine (H4 k _).mono ?_
 rintro e w1 ⟨rfl, rfl⟩
 rw [K9]
 generalize C8 k = s at *
 have h0 : ((s : Int) == 0) = false := by simp; omega
 go_wp2_with (refine IN rfl 84 _ _ rfl w.heap.size 0 #[.int .i64 0, .int .i64 0, .int .i64 0, .bool false, .int .i64 0, .bool false, .slice none 0 0] rfl rfl HTH.out (by kernel_rfl) (by simp [Iv]) ?_)
 refine Hj (results_cell_tmp rfl _ _ w.heap.size 0 zeroL _ rfl (Hp _ w.heap.size 0 zeroL HTH.out) Tryz.underlying84 rfl (by kernel_rfl)) rfl ⟨rfl, ?_⟩
 exact B1 (GB _) _ _ _ ((Below.refl _ _).alloc (GB _) _)
set_option maxHeartbeats 400000 in
theorem c2H (A : Option Addr) (m s c : Nat) (k : Int) (hk : k = 0 ∨ k = 1) (hs : C8 k = s) (xs : List UInt8) (hm : 3 <= m) (w : GG) (h : IsB w A (m + s) c xs) (hne : ¬ R5 k (xs.take m) = xs.drop m) :
 Hq Tryz.prog 68 #[.slice A (m + s) c, .int .i64 k] w
  fun e w' => e = .returned (.tuple #[.agg zeroL.toArray, .int .i64 6]) /\ Below w.heap.size w w' := by
 have hp := G8 k hk
 have h63 := h.len63
 have HR := GO (fun W hW => c4a k hk A m s c hs xs W hW hne)
 clear hne
 go_enter Tryz.func68, Tryz.ntmps68
 go_wp2_with fail
 refine (H4 k _).mono ?_
 rintro e w1 ⟨rfl, rfl⟩
 rw [K9, hs]
 rw [hs] at hp
 have h0 : ((s : Int) == 0) = false := by simp; omega
 clear hs
 go_wp2_with fail
 refine (HR.out _ (h.alloc _)).mono ?_
 rintro e w1 ⟨rfl, hb⟩
 have HTH := GO (v9 (R3 w 84) (by simp) hb)
 go_wp2_with (refine IN rfl 84 _ _ rfl w.heap.size 0 #[.int .i64 0, .int .i64 0, .int .i64 0, .bool false, .int .i64 0, .bool false, .slice none 0 0] rfl rfl HTH.out (by kernel_rfl) (by simp [Iv]) ?_)
 refine Hj (results_cell_tmp rfl _ _ w.heap.size 0 zeroL _ rfl (Hp _ w.heap.size 0 zeroL HTH.out) Tryz.underlying84 rfl (by kernel_rfl)) rfl ⟨rfl, ?_⟩
 exact B1 (GB _) _ _ _ (((Below.refl _ _).alloc (GB _) _).trans (hb.mono (by simp)))
set_option maxRecDepth 8000 in
set_option maxHeartbeats 2000000 in
theorem b7L (A : Option Addr) (q s c : Nat) (k : Int) (hk : k = 0 ∨ k = 1) (hs : C8 k = s) (xs : List UInt8) (b0 b1 b2 : UInt8) (inf : List UInt8) (w : GG) (h : IsB w A (q + 3 + s) c xs) (hx : xs.length <= 900000)
 (heq : R5 k (xs.take (q + 3)) = xs.drop (q + 3)) (K4 : xs.take (q + 3) = b0 :: b1 :: b2 :: inf) (hok : okC b1.toNat = false) :
 Hq Tryz.prog 68 #[.slice A (q + 3 + s) c, .int .i64 k] w fun e w' => e = .returned (.tuple #[.agg zeroL.toArray, .int .i64 4]) /\ Below w.heap.size w w' := by
 have hp := G8 k hk
 have h63 := h.len63
 have hq : inf.length = q := by have := congrArg Ke K4; have := IsB.len h; simp at *; omega
 have HR := GO (fun W hW => a4S k hk A (q + 3) s c hs xs W hW hx heq)
 have hP := fun W => a3i b1.toNat (He b1) W
 rw [b0L, hok] at hP
 generalize U0 b1.toNat = kd at *
 generalize a2R b1.toNat = sq at *
 generalize Y7 b1.toNat = mo at *
 generalize T8 b1.toNat = co at *
 generalize a3R b1.toNat = an at *
 have HP := GO hP
 have HQ := GO (GN hq (GN K4 hx))
 clear heq hP hq hx
 go_enter Tryz.func68, Tryz.ntmps68
 go_wp2_with fail
 refine (H4 k _).mono ?_
 rintro e w1 ⟨rfl, rfl⟩
 rw [K9, hs]
 rw [hs] at hp
 have h0 : ((s : Int) == 0) = false := by simp; omega
 clear hs
 go_wp2_with fail
 refine (HR.out _ (h.alloc _)).mono ?_
 rintro e w1 ⟨A1, n1, c1, rfl, ho, hb⟩
 have ho1 := ho.rd
 rw [HQ.out.2.1] at ho1
 have hn1 : n1 = q + 3 := by have := IsB.len ho1; have := HQ.out.1; simp at *; omega
 subst hn1
 obtain ⟨b, off, rfl, m0⟩ := IsB.cells ho1 (by omega)
 have hx0 : w1.cell? ⟨b, off, none⟩ = some (.int .u8 (b0.toNat : Int)) := m0 0 b0 rfl
 have hx1 : w1.cell? ⟨b, off + 1, none⟩ = some (.int .u8 (b1.toNat : Int)) := m0 1 b1 rfl
 have hx2 : w1.cell? ⟨b, off + 2, none⟩ = some (.int .u8 (b2.toNat : Int)) := m0 2 b2 rfl
 have hb0 : (b0.toNat : Int) < 256 := by have := He b0; omega
 have hb1 : (b1.toNat : Int) < 256 := by have := He b1; omega
 have d5j : (b2.toNat : Int) < 256 := by have := He b2; omega
 have c2l := ho1.cap
 have d0M := ho1.len63.2
 have b3U : Below w.heap.size w w1 := ((Below.refl _ _).alloc (GB _) _).trans (hb.mono (by simp))
 have hz1 : w.heap.size < w1.heap.size := by have := hb.size; simp at this; omega
 have H1 := GO (GN ho1 (GN b3U (v9 (R3 w 84) (by simp) hb)))
 have b3V := Hx _ _ hx0
 have hblk : Hid (b ≠ w.heap.size) := by
  have h1 := (ho.lt b rfl).1
  simp at h1
  show b ≠ _
  omega
 clear ho ho1 hb b3U m0
 go_wp2_with fail
 refine (HP.out _).mono ?_
 rintro e w2 ⟨rfl, hb⟩
 have hz2 : w1.heap.size <= w2.heap.size := hb.size
 have b3W := H1.out.2.1.trans (hb.mono H1.out.2.1.size)
 have H2 := GO (GN (Rd.below H1.out.1 hb) (GN b3W (v9 H1.out.2.2 hz1 hb)))
 have hy0 : w2.cell? ⟨b, off, none⟩ = some (.int .u8 (b0.toNat : Int)) := (hb.cell (p := ⟨b, off, none⟩) b3V).trans hx0
 have hy2 : w2.cell? ⟨b, off + 2, none⟩ = some (.int .u8 (b2.toNat : Int)) := (hb.cell (p := ⟨b, off + 2, none⟩) b3V).trans hx2
 have a4H : b < w2.heap.size := by omega
 have hy0' : (w2.alloc (.cells #[.int .i64 0, .int .i64 kd, .int .i64 sq, .bool mo, .int .i64 co, .bool an, .slice none 0 0] 84)).cell? ⟨b, off, none⟩ = some (.int .u8 (b0.toNat : Int)) := by rw [Io _ _ _ a4H]; exact hy0
 have hy2' : (w2.alloc (.cells #[.int .i64 0, .int .i64 kd, .int .i64 sq, .bool mo, .int .i64 co, .bool an, .slice none 0 0] 84)).cell? ⟨b, off + 2, none⟩ = some (.int .u8 (b2.toNat : Int)) := by rw [Io _ _ _ a4H]; exact hy2
 have hz : w.heap.size < w2.heap.size := by omega
 have HTH := GO (v9 H2.out.2.2 hz ((Below.refl _ _).alloc (GB _) (.cells #[.int .i64 0, .int .i64 kd, .int .i64 sq, .bool mo, .int .i64 co, .bool an, .slice none 0 0] 84)))
 clear b3W hb
 go_wp2_with (refine IN rfl 84 _ _ rfl w.heap.size 0 #[.int .i64 0, .int .i64 0, .int .i64 0, .bool false, .int .i64 0, .bool false, .slice none 0 0] rfl rfl HTH.out (by kernel_rfl) (by simp [Iv]) ?_)
 refine Hj (results_cell_tmp rfl _ _ w.heap.size 0 zeroL _ rfl (Hp _ w.heap.size 0 zeroL HTH.out) Tryz.underlying84 rfl (by kernel_rfl)) rfl ⟨rfl, ?_⟩
 exact B1 (GB _) _ _ _ (H2.out.2.1.alloc H2.out.2.1.size _)
set_option maxRecDepth 8000 in
set_option maxHeartbeats 2000000 in
theorem b6B (A : Option Addr) (q s c : Nat) (k : Int) (hk : k = 0 ∨ k = 1) (hs : C8 k = s) (xs : List UInt8) (b0 b1 b2 : UInt8) (inf : List UInt8) (w : GG) (h : IsB w A (q + 3 + s) c xs) (hx : xs.length <= 900000)
 (heq : R5 k (xs.take (q + 3)) = xs.drop (q + 3)) (K4 : xs.take (q + 3) = b0 :: b1 :: b2 :: inf) (hok : okC b1.toNat = true) (hb2 : b2.toNat ≠ inf.length) :
 Hq Tryz.prog 68 #[.slice A (q + 3 + s) c, .int .i64 k] w fun e w' => e = .returned (.tuple #[.agg zeroL.toArray, .int .i64 4]) /\ Below w.heap.size w w' := by
 have hp := G8 k hk
 have h63 := h.len63
 have hq : inf.length = q := by have := congrArg Ke K4; have := IsB.len h; simp at *; omega
 have HR := GO (fun W hW => a4S k hk A (q + 3) s c hs xs W hW hx heq)
 have hP := fun W => a3i b1.toNat (He b1) W
 rw [b0L, hok] at hP
 generalize U0 b1.toNat = kd at *
 generalize a2R b1.toNat = sq at *
 generalize Y7 b1.toNat = mo at *
 generalize T8 b1.toNat = co at *
 generalize a3R b1.toNat = an at *
 have HP := GO hP
 have HQ := GO (GN hq (GN K4 hx))
 clear heq hP hq hx
 go_enter Tryz.func68, Tryz.ntmps68
 go_wp2_with fail
 refine (H4 k _).mono ?_
 rintro e w1 ⟨rfl, rfl⟩
 rw [K9, hs]
 rw [hs] at hp
 have h0 : ((s : Int) == 0) = false := by simp; omega
 clear hs
 go_wp2_with fail
 refine (HR.out _ (h.alloc _)).mono ?_
 rintro e w1 ⟨A1, n1, c1, rfl, ho, hb⟩
 have ho1 := ho.rd
 rw [HQ.out.2.1] at ho1
 have hn1 : n1 = q + 3 := by have := IsB.len ho1; have := HQ.out.1; simp at *; omega
 subst hn1
 obtain ⟨b, off, rfl, m0⟩ := IsB.cells ho1 (by omega)
 have hx0 : w1.cell? ⟨b, off, none⟩ = some (.int .u8 (b0.toNat : Int)) := m0 0 b0 rfl
 have hx1 : w1.cell? ⟨b, off + 1, none⟩ = some (.int .u8 (b1.toNat : Int)) := m0 1 b1 rfl
 have hx2 : w1.cell? ⟨b, off + 2, none⟩ = some (.int .u8 (b2.toNat : Int)) := m0 2 b2 rfl
 have hb0 : (b0.toNat : Int) < 256 := by have := He b0; omega
 have hb1 : (b1.toNat : Int) < 256 := by have := He b1; omega
 have d5j : (b2.toNat : Int) < 256 := by have := He b2; omega
 have c2l := ho1.cap
 have d0M := ho1.len63.2
 have b3U : Below w.heap.size w w1 := ((Below.refl _ _).alloc (GB _) _).trans (hb.mono (by simp))
 have hz1 : w.heap.size < w1.heap.size := by have := hb.size; simp at this; omega
 have H1 := GO (GN ho1 (GN b3U (v9 (R3 w 84) (by simp) hb)))
 have b3V := Hx _ _ hx0
 have hblk : Hid (b ≠ w.heap.size) := by
  have h1 := (ho.lt b rfl).1
  simp at h1
  show b ≠ _
  omega
 clear ho ho1 hb b3U m0
 go_wp2_with fail
 refine (HP.out _).mono ?_
 rintro e w2 ⟨rfl, hb⟩
 have hz2 : w1.heap.size <= w2.heap.size := hb.size
 have b3W := H1.out.2.1.trans (hb.mono H1.out.2.1.size)
 have H2 := GO (GN (Rd.below H1.out.1 hb) (GN b3W (v9 H1.out.2.2 hz1 hb)))
 have hy0 : w2.cell? ⟨b, off, none⟩ = some (.int .u8 (b0.toNat : Int)) := (hb.cell (p := ⟨b, off, none⟩) b3V).trans hx0
 have hy2 : w2.cell? ⟨b, off + 2, none⟩ = some (.int .u8 (b2.toNat : Int)) := (hb.cell (p := ⟨b, off + 2, none⟩) b3V).trans hx2
 have a4H : b < w2.heap.size := by omega
 have hy0' : (w2.alloc (.cells #[.int .i64 0, .int .i64 kd, .int .i64 sq, .bool mo, .int .i64 co, .bool an, .slice none 0 0] 84)).cell? ⟨b, off, none⟩ = some (.int .u8 (b0.toNat : Int)) := by rw [Io _ _ _ a4H]; exact hy0
 have hy2' : (w2.alloc (.cells #[.int .i64 0, .int .i64 kd, .int .i64 sq, .bool mo, .int .i64 co, .bool an, .slice none 0 0] 84)).cell? ⟨b, off + 2, none⟩ = some (.int .u8 (b2.toNat : Int)) := by rw [Io _ _ _ a4H]; exact hy2
 have hz : w.heap.size < w2.heap.size := by omega
 have HTH := GO (v9 H2.out.2.2 hz ((Below.refl _ _).alloc (GB _) (.cells #[.int .i64 0, .int .i64 kd, .int .i64 sq, .bool mo, .int .i64 co, .bool an, .slice none 0 0] 84)))
 clear b3W hb
 have hne : ((b2.toNat : Int) != (q : Int)) = true := by have := HQ.out.1; simp; omega
 have hne' : (b2.toNat != q) = true := by have := HQ.out.1; simp; omega
 clear hb2
 go_wp2_with (refine IN rfl 84 _ _ rfl w.heap.size 0 #[.int .i64 0, .int .i64 0, .int .i64 0, .bool false, .int .i64 0, .bool false, .slice none 0 0] rfl rfl HTH.out (by kernel_rfl) (by simp [Iv]) ?_)
 refine Hj (results_cell_tmp rfl _ _ w.heap.size 0 zeroL _ rfl (Hp _ w.heap.size 0 zeroL HTH.out) Tryz.underlying84 rfl (by kernel_rfl)) rfl ⟨rfl, ?_⟩
 exact B1 (GB _) _ _ _ (H2.out.2.1.alloc H2.out.2.1.size _)
set_option maxRecDepth 8000 in
set_option maxHeartbeats 2000000 in
theorem c3Z (A : Option Addr) (q s c : Nat) (k : Int) (hk : k = 0 ∨ k = 1) (hs : C8 k = s) (xs : List UInt8) (b0 b1 b2 : UInt8) (inf : List UInt8) (w : GG) (h : IsB w A (q + 3 + s) c xs) (hx : xs.length <= 900000)
 (heq : R5 k (xs.take (q + 3)) = xs.drop (q + 3)) (K4 : xs.take (q + 3) = b0 :: b1 :: b2 :: inf) (hok : okC b1.toNat = true) (hb2 : b2.toNat = inf.length) (er : Int) (her : d8 b0.toNat (U0 b1.toNat) (a2R b1.toNat) (Y7 b1.toNat) (T8 b1.toNat) (a3R b1.toNat) inf = er) (d7t : (er != 0) = true) :
 Hq Tryz.prog 68 #[.slice A (q + 3 + s) c, .int .i64 k] w fun e w' => e = .returned (.tuple #[.agg zeroL.toArray, .int .i64 er]) /\ Below w.heap.size w w' := by
 have hp := G8 k hk
 have h63 := h.len63
 have hq : inf.length = q := by have := congrArg Ke K4; have := IsB.len h; simp at *; omega
 have HR := GO (fun W hW => a4S k hk A (q + 3) s c hs xs W hW hx heq)
 have hP := fun W => a3i b1.toNat (He b1) W
 rw [b0L, hok] at hP
 generalize U0 b1.toNat = kd at *
 generalize a2R b1.toNat = sq at *
 generalize Y7 b1.toNat = mo at *
 generalize T8 b1.toNat = co at *
 generalize a3R b1.toNat = an at *
 have HP := GO hP
 have HQ := GO (GN hq (GN K4 hx))
 clear heq hP hq hx
 go_enter Tryz.func68, Tryz.ntmps68
 go_wp2_with fail
 refine (H4 k _).mono ?_
 rintro e w1 ⟨rfl, rfl⟩
 rw [K9, hs]
 rw [hs] at hp
 have h0 : ((s : Int) == 0) = false := by simp; omega
 clear hs
 go_wp2_with fail
 refine (HR.out _ (h.alloc _)).mono ?_
 rintro e w1 ⟨A1, n1, c1, rfl, ho, hb⟩
 have ho1 := ho.rd
 rw [HQ.out.2.1] at ho1
 have hn1 : n1 = q + 3 := by have := IsB.len ho1; have := HQ.out.1; simp at *; omega
 subst hn1
 obtain ⟨b, off, rfl, m0⟩ := IsB.cells ho1 (by omega)
 have hx0 : w1.cell? ⟨b, off, none⟩ = some (.int .u8 (b0.toNat : Int)) := m0 0 b0 rfl
 have hx1 : w1.cell? ⟨b, off + 1, none⟩ = some (.int .u8 (b1.toNat : Int)) := m0 1 b1 rfl
 have hx2 : w1.cell? ⟨b, off + 2, none⟩ = some (.int .u8 (b2.toNat : Int)) := m0 2 b2 rfl
 have hb0 : (b0.toNat : Int) < 256 := by have := He b0; omega
 have hb1 : (b1.toNat : Int) < 256 := by have := He b1; omega
 have d5j : (b2.toNat : Int) < 256 := by have := He b2; omega
 have c2l := ho1.cap
 have d0M := ho1.len63.2
 have b3U : Below w.heap.size w w1 := ((Below.refl _ _).alloc (GB _) _).trans (hb.mono (by simp))
 have hz1 : w.heap.size < w1.heap.size := by have := hb.size; simp at this; omega
 have H1 := GO (GN ho1 (GN b3U (v9 (R3 w 84) (by simp) hb)))
 have b3V := Hx _ _ hx0
 have hblk : Hid (b ≠ w.heap.size) := by
  have h1 := (ho.lt b rfl).1
  simp at h1
  show b ≠ _
  omega
 clear ho ho1 hb b3U m0
 go_wp2_with fail
 refine (HP.out _).mono ?_
 rintro e w2 ⟨rfl, hb⟩
 have hz2 : w1.heap.size <= w2.heap.size := hb.size
 have b3W := H1.out.2.1.trans (hb.mono H1.out.2.1.size)
 have H2 := GO (GN (Rd.below H1.out.1 hb) (GN b3W (v9 H1.out.2.2 hz1 hb)))
 have hy0 : w2.cell? ⟨b, off, none⟩ = some (.int .u8 (b0.toNat : Int)) := (hb.cell (p := ⟨b, off, none⟩) b3V).trans hx0
 have hy2 : w2.cell? ⟨b, off + 2, none⟩ = some (.int .u8 (b2.toNat : Int)) := (hb.cell (p := ⟨b, off + 2, none⟩) b3V).trans hx2
 have a4H : b < w2.heap.size := by omega
 have hy0' : (w2.alloc (.cells #[.int .i64 0, .int .i64 kd, .int .i64 sq, .bool mo, .int .i64 co, .bool an, .slice none 0 0] 84)).cell? ⟨b, off, none⟩ = some (.int .u8 (b0.toNat : Int)) := by rw [Io _ _ _ a4H]; exact hy0
 have hy2' : (w2.alloc (.cells #[.int .i64 0, .int .i64 kd, .int .i64 sq, .bool mo, .int .i64 co, .bool an, .slice none 0 0] 84)).cell? ⟨b, off + 2, none⟩ = some (.int .u8 (b2.toNat : Int)) := by rw [Io _ _ _ a4H]; exact hy2
 have hz : w.heap.size < w2.heap.size := by omega
 have HTH := GO (v9 H2.out.2.2 hz ((Below.refl _ _).alloc (GB _) (.cells #[.int .i64 0, .int .i64 kd, .int .i64 sq, .bool mo, .int .i64 co, .bool an, .slice none 0 0] 84)))
 clear b3W hb
 have hb2' : (b2.toNat : Int) = (q : Int) := by have := HQ.out.1; omega
 have d5k : b2.toNat = q := by omega
 have hth : ((w2.alloc (.cells #[.int .i64 0, .int .i64 kd, .int .i64 sq, .bool mo, .int .i64 co, .bool an, .slice none 0 0] 84)).drew).there w2.heap.size 0 7 := B4 (cs := #[.int .i64 0, .int .i64 kd, .int .i64 sq, .bool mo, .int .i64 co, .bool an, .slice none 0 0]) (t := 84) (Ht w2 _) rfl
 have hbk := hblk.out
 have hbg : b ≠ w2.heap.size := by omega
 have HC : Hid (∀ (A : Option Addr) (n c : Nat) (W : GG), IsB W A n c inf -> Hq Tryz.prog 83 #[.agg #[.int .i64 (b0.toNat : Int), .int .i64 kd, .int .i64 sq, .bool mo, .int .i64 co, .bool an, .slice A n c]] W
  fun e w' => e = .returned (.int .i64 er) /\ Below W.heap.size W w') := fun A n c W hW => by
  have := a0N b0.toNat kd sq mo co an A n c inf W hW
  rwa [her] at this
 clear her
 rw [d5k] at *
 go_wp2_with fail
 refine q7 (T := TG w2.heap.size (.int .i64 (b0.toNat : Int)) inf) [St.is (.slice (some ⟨b, off, none⟩) (q + 3) c1), St.is (.pointer (some ⟨b, off, none⟩)), St.is (.int .u8 (b0.toNat : Int)), St.is (.int .i64 (b0.toNat : Int)), St.is (.slice (some ⟨b, off, none⟩) (q + 3) c1), St.pred (fun v' w' => ∃ A' c', v' = .slice A' q c' /\ IsB w' A' q c' inf /\ ∀ b off, A' = some ⟨b, off, none⟩ -> b ≠ w2.heap.size) (fun _ _ _ h ⟨A, c, e, r, s⟩ => ⟨A, c, e, I1 h.grown r s, s⟩), St.pred (fun v' w' => ∃ A' n' c', v' = .slice A' n' c' /\ IsB w' A' n' c' inf /\ ∀ b off, A' = some ⟨b, off, none⟩ -> w2.heap.size < b) (fun _ _ _ h ⟨A, n, c, e, r, s⟩ => ⟨A, n, c, e, I1 h.grown r (fun b off e => by have := s b off e; omega), s⟩), St.is (.pointer (some ⟨w2.heap.size, 0, none⟩)), St.pred (fun v' w' => w'.cell? ⟨w2.heap.size, 0, none⟩ = some (.int .i64 (b0.toNat : Int))) (fun _ _ _ h q => h.zero q), St.is (.pointer (some ⟨w2.heap.size, 6, none⟩)), St.pred (fun v' w' => Six w2.heap.size inf w') (fun _ _ _ h q => h.six q)] (by kernel_rfl) (by kernel_rfl) (TG.refl) (TG.trans) ⟨?s0, ?s1, ?s2, ?s3, ?s4, ?s5, ?s6, ?s7, ?s8, ?s9, ?s10, trivial⟩ ?O9
 case s0 =>
  intro a w' K hT hf hw hK
  refine c8 ?_ ?_
  . rfl
  have h7 : a.tmps[7]?.getD undef = .slice (some ⟨b, off, none⟩) (q + 3) c1 := hf 7 (by kernel_rfl)
  clear hf hw
  go_simp
  exact hK _ _ (TG.refl _) rfl
 case s1 =>
  intro a w' K hT hf hw hK
  refine c8 ?_ ?_
  . rfl
  have h54 : a.tmps[54]?.getD undef = .slice (some ⟨b, off, none⟩) (q + 3) c1 := hw.1
  clear hf hw
  have hq0 : (0 : Int) < (q : Int) + 3 := by omega
  go_simp
  exact hK _ _ (TG.refl _) rfl
 case s2 =>
  intro a w' K hT hf hw hK
  refine c8 ?_ ?_
  . rfl
  have h55 : a.tmps[55]?.getD undef = .pointer (some ⟨b, off, none⟩) := hw.1
  clear hf hw
  have hcc : w'.cell? ⟨b, off, none⟩ = some (.int .u8 (b0.toNat : Int)) := (IK (a := ⟨b, off, none⟩) (hT.grown.block b (by simp; omega) (fun e => by injection e with e; omega))).trans hy0'
  go_simp
  exact hK _ _ (TG.refl _) rfl
 case s3 =>
  intro a w' K hT hf hw hK
  refine c8 ?_ ?_
  . rfl
  have h56 : a.tmps[56]?.getD undef = .int .u8 (b0.toNat : Int) := hw.1
  clear hf hw
  have hwr : GA.wrap (b0.toNat : Int) = (b0.toNat : Int) := IntWalk.i64_in _ (by omega)
  go_simp
  exact hK _ _ (TG.refl _) rfl
 case s4 =>
  intro a w' K hT hf hw hK
  refine c8 ?_ ?_
  . rfl
  have h7 : a.tmps[7]?.getD undef = .slice (some ⟨b, off, none⟩) (q + 3) c1 := hf 7 (by kernel_rfl)
  clear hf hw
  go_simp
  exact hK _ _ (TG.refl _) rfl
 case s5 =>
  intro a w' K hT hf hw hK
  refine c8 ?_ ?_
  . rfl
  have h58 : a.tmps[58]?.getD undef = .slice (some ⟨b, off, none⟩) (q + 3) c1 := hw.1
  clear hf hw
  have hrr : IsB w' (some ⟨b, off, none⟩) (q + 3) c1 (b0 :: b1 :: b2 :: inf) := I1 hT.grown (Rd.drew (Rd.alloc H2.out.1 _)) (fun b' off' e => by injection e with e; injection e with e1 e2; omega)
  have b3X := IsB.cut hrr (k := 3) (by omega)
  rw [show q + 3 - 3 = q by omega] at b3X
  have b3X : IsB w' (if c1 = 3 then some ⟨b, off, none⟩ else some ⟨b, off + 3, none⟩) q (c1 - 3) inf := b3X
  have c2n : ∀ b' off', (if c1 = 3 then some (⟨b, off, none⟩ : Addr) else some ⟨b, off + 3, none⟩) = some ⟨b', off', none⟩ -> b' ≠ w2.heap.size := by intro b' off' e; split at e <;> (injection e with e; injection e with e1 e2; omega)
  have HCC := GO (GN b3X c2n)
  clear b3X c2n hrr
  go_simp
  refine hK _ _ (TG.refl _) ?_
  exact ⟨_, _, rfl, HCC.out.1, HCC.out.2⟩
 case s6 =>
  intro a w' K hT hf hw hK
  refine c8 ?_ ?_
  . rfl
  have h59 := hw.1
  clear hf hw
  obtain ⟨A5, c5, h59, h5r, h5g⟩ := h59
  have h59 : a.tmps[59]?.getD undef = .slice A5 q c5 := h59
  have hgl : w2.heap.size < w'.heap.size := by have := hT.grown.size; simp at this; omega
  go_simp
  refine (a4M A5 q c5 inf _ h5r (by have := HQ.out.1; have := HQ.out.2; simp at *; omega)).mono ?_
  rintro e w3 ⟨A3, n3, c3, rfl, ho3, hb3⟩
  refine hK _ _ (TG.of_below hgl hb3) ?_
  refine ⟨A3, n3, c3, rfl, ho3.rd, fun b off e => ?_⟩
  subst e
  have := (ho3.lt b rfl).1
  omega
 case s7 =>
  intro a w' K hT hf hw hK
  refine c8 ?_ ?_
  . rfl
  have h9 : a.tmps[9]?.getD undef = .pointer (some ⟨w2.heap.size, 0, none⟩) := hf 9 (by kernel_rfl)
  clear hf hw
  go_simp
  exact hK _ _ (TG.refl _) rfl
 case s8 =>
  intro a w' K hT hf hw hK
  refine c8 ?_ ?_
  . rfl
  have h61 : a.tmps[61]?.getD undef = .pointer (some ⟨w2.heap.size, 0, none⟩) := hw.1
  have h57 : a.tmps[57]?.getD undef = .int .i64 (b0.toNat : Int) := hw.2.1
  clear hf hw
  obtain ⟨u0, hu0⟩ := Iz.1 (hT.there hth 0 (by omega)).1
  have hf0 := (hT.there hth 0 (by omega)).2
  simp only [HE] at hu0 hf0
  go_simp
  exact hK undef _ (TG.set0 (hT.there hth)).1 (TG.set0 (v0 := .int .i64 (b0.toNat : Int)) (inf := inf) (hT.there hth)).2
 case s9 =>
  intro a w' K hT hf hw hK
  refine c8 ?_ ?_
  . rfl
  have h9 : a.tmps[9]?.getD undef = .pointer (some ⟨w2.heap.size, 0, none⟩) := hf 9 (by kernel_rfl)
  clear hf hw
  go_simp
  exact hK _ _ (TG.refl _) rfl
 case s10 =>
  intro a w' K hT hf hw hK
  refine c8 ?_ ?_
  . rfl
  have h62 : a.tmps[62]?.getD undef = .pointer (some ⟨w2.heap.size, 6, none⟩) := hw.1
  have h60 := hw.2.1
  clear hf hw
  obtain ⟨A6, n6, c6, h60, h6r, h6g⟩ := h60
  have h60 : a.tmps[60]?.getD undef = .slice A6 n6 c6 := h60
  obtain ⟨u0, hu0⟩ := Iz.1 (hT.there hth 6 (by omega)).1
  have hf0 := (hT.there hth 6 (by omega)).2
  simp only [HE] at hu0 hf0
  go_simp
  exact hK undef _ (TG.set6 (hT.there hth) h6r h6g).1 (TG.set6 (v0 := .int .i64 (b0.toNat : Int)) (hT.there hth) h6r h6g).2
 case O9 =>
  rintro vs w' hT ⟨f0, f1, f2, f3, f4, f5, f6, f7, f8, f9, f10, -⟩
  have e0 : vs 0 = .slice (some ⟨b, off, none⟩) (q + 3) c1 := f0
  have e1 : vs 1 = .pointer (some ⟨b, off, none⟩) := f1
  have e2 : vs 2 = .int .u8 (b0.toNat : Int) := f2
  have e3 : vs 3 = .int .i64 (b0.toNat : Int) := f3
  have e4 : vs 4 = .slice (some ⟨b, off, none⟩) (q + 3) c1 := f4
  have e7 : vs 7 = .pointer (some ⟨w2.heap.size, 0, none⟩) := f7
  have e9 : vs 9 = .pointer (some ⟨w2.heap.size, 6, none⟩) := f9
  simp only [C6, Act.put, e0, e1, e2, e3, e4, e7, e9]
  simp only [Hi, Ie, If]
  clear e0 e1 e2 e3 e4 e7 e9 f0 f1 f2 f3 f4 f7 f9
  have hz0 : w'.cell? ⟨w2.heap.size, 0, none⟩ = some (.int .i64 (b0.toNat : Int)) := f8
  obtain ⟨A6, n6, c6, hz6, hr6, hs6⟩ : Six w2.heap.size inf w' := f10
  have a9j : ∀ j v, 1 <= j -> j <= 5 -> [.int .i64 0, .int .i64 kd, .int .i64 sq, .bool mo, .int .i64 co, .bool an, .slice none 0 0][j]? = some v -> w'.cell? ⟨w2.heap.size, j, none⟩ = some v := fun j v h1 h5 hv => (hT.mid j h1 h5).trans ((b9Q w2 _ _ j).trans hv)
  have hz1 := a9j 1 _ (by omega) (by omega) rfl
  have hz2 := a9j 2 _ (by omega) (by omega) rfl
  have hz3 := a9j 3 _ (by omega) (by omega) rfl
  have hz4 := a9j 4 _ (by omega) (by omega) rfl
  have hz5 := a9j 5 _ (by omega) (by omega) rfl
  have hsz : w2.heap.size < w'.heap.size := by have := hT.grown.size; simp at this; omega
  have hbw' : Below w.heap.size w w' := (H2.out.2.1.alloc H2.out.2.1.size _).drew.grown hT.grown (by have := H2.out.2.1.size; simp; omega) (fun k hk => by injection hk with hk; omega)
  have hthR : w'.there w.heap.size 0 7 := fun j hj => ⟨by rw [IK (a := ⟨w.heap.size, 0 + j, none⟩) (hT.grown.block w.heap.size (by simp; omega) (fun e => by injection e with e; omega))]; exact (HTH.out j hj).1, by rw [Lo (a := ⟨w.heap.size, 0 + j, none⟩) (hT.grown.block w.heap.size (by simp; omega) (fun e => by injection e with e; omega))]; exact (HTH.out j hj).2⟩
  have HW := GO (GN hbw' (GN hthR (GN hr6 hs6)))
  clear f8 a9j hbw' hthR hr6 hs6 f5 f6 hT
  go_wp2_with fail
  refine (HC.out _ _ _ _ HW.out.2.2.1).mono ?_
  rintro e w5 ⟨rfl, hb5⟩
  have hzR : w.heap.size < w'.heap.size := by omega
  have HTH5 := GO (v9 HW.out.2.1 hzR hb5)
  have HB5 := GO (HW.out.1.trans (hb5.mono HW.out.1.size))
  go_wp2_with (refine IN rfl 84 _ _ rfl w.heap.size 0 #[.int .i64 0, .int .i64 0, .int .i64 0, .bool false, .int .i64 0, .bool false, .slice none 0 0] rfl rfl HTH5.out (by kernel_rfl) (by simp [Iv]) ?_)
  refine Hj (results_cell_tmp rfl _ _ w.heap.size 0 zeroL _ rfl (Hp _ w.heap.size 0 zeroL HTH5.out) Tryz.underlying84 rfl (by kernel_rfl)) rfl ⟨rfl, ?_⟩
  exact B1 (GB _) _ _ _ HB5.out
set_option maxRecDepth 8000 in
set_option maxHeartbeats 2000000 in
theorem c6C (A : Option Addr) (q s c : Nat) (k : Int) (hk : k = 0 ∨ k = 1) (hs : C8 k = s) (xs : List UInt8) (b0 b1 b2 : UInt8) (inf : List UInt8) (w : GG) (h : IsB w A (q + 3 + s) c xs) (hx : xs.length <= 900000)
 (heq : R5 k (xs.take (q + 3)) = xs.drop (q + 3)) (K4 : xs.take (q + 3) = b0 :: b1 :: b2 :: inf) (hok : okC b1.toNat = true) (hb2 : b2.toNat = inf.length) (her : d8 b0.toNat (U0 b1.toNat) (a2R b1.toNat) (Y7 b1.toNat) (T8 b1.toNat) (a3R b1.toNat) inf = 0) :
 Hq Tryz.prog 68 #[.slice A (q + 3 + s) c, .int .i64 k] w fun e w' => ∃ A6 n6 c6, e = .returned (.tuple #[.agg #[.int .i64 (b0.toNat : Int), .int .i64 (U0 b1.toNat), .int .i64 (a2R b1.toNat), .bool (Y7 b1.toNat), .int .i64 (T8 b1.toNat), .bool (a3R b1.toNat), .slice A6 n6 c6], .int .i64 0]) /\ IsB w' A6 n6 c6 inf /\ Below w.heap.size w w' /\ ∀ b off, A6 = some ⟨b, off, none⟩ -> w.heap.size <= b := by
 have hp := G8 k hk
 have h63 := h.len63
 have hq : inf.length = q := by have := congrArg Ke K4; have := IsB.len h; simp at *; omega
 have HR := GO (fun W hW => a4S k hk A (q + 3) s c hs xs W hW hx heq)
 have hP := fun W => a3i b1.toNat (He b1) W
 rw [b0L, hok] at hP
 generalize U0 b1.toNat = kd at *
 generalize a2R b1.toNat = sq at *
 generalize Y7 b1.toNat = mo at *
 generalize T8 b1.toNat = co at *
 generalize a3R b1.toNat = an at *
 have HP := GO hP
 have HQ := GO (GN hq (GN K4 hx))
 clear heq hP hq hx
 go_enter Tryz.func68, Tryz.ntmps68
 go_wp2_with fail
 refine (H4 k _).mono ?_
 rintro e w1 ⟨rfl, rfl⟩
 rw [K9, hs]
 rw [hs] at hp
 have h0 : ((s : Int) == 0) = false := by simp; omega
 clear hs
 go_wp2_with fail
 refine (HR.out _ (h.alloc _)).mono ?_
 rintro e w1 ⟨A1, n1, c1, rfl, ho, hb⟩
 have ho1 := ho.rd
 rw [HQ.out.2.1] at ho1
 have hn1 : n1 = q + 3 := by have := IsB.len ho1; have := HQ.out.1; simp at *; omega
 subst hn1
 obtain ⟨b, off, rfl, m0⟩ := IsB.cells ho1 (by omega)
 have hx0 : w1.cell? ⟨b, off, none⟩ = some (.int .u8 (b0.toNat : Int)) := m0 0 b0 rfl
 have hx1 : w1.cell? ⟨b, off + 1, none⟩ = some (.int .u8 (b1.toNat : Int)) := m0 1 b1 rfl
 have hx2 : w1.cell? ⟨b, off + 2, none⟩ = some (.int .u8 (b2.toNat : Int)) := m0 2 b2 rfl
 have hb0 : (b0.toNat : Int) < 256 := by have := He b0; omega
 have hb1 : (b1.toNat : Int) < 256 := by have := He b1; omega
 have d5j : (b2.toNat : Int) < 256 := by have := He b2; omega
 have c2l := ho1.cap
 have d0M := ho1.len63.2
 have b3U : Below w.heap.size w w1 := ((Below.refl _ _).alloc (GB _) _).trans (hb.mono (by simp))
 have hz1 : w.heap.size < w1.heap.size := by have := hb.size; simp at this; omega
 have H1 := GO (GN ho1 (GN b3U (v9 (R3 w 84) (by simp) hb)))
 have b3V := Hx _ _ hx0
 have hblk : Hid (b ≠ w.heap.size) := by
  have h1 := (ho.lt b rfl).1
  simp at h1
  show b ≠ _
  omega
 clear ho ho1 hb b3U m0
 go_wp2_with fail
 refine (HP.out _).mono ?_
 rintro e w2 ⟨rfl, hb⟩
 have hz2 : w1.heap.size <= w2.heap.size := hb.size
 have b3W := H1.out.2.1.trans (hb.mono H1.out.2.1.size)
 have H2 := GO (GN (Rd.below H1.out.1 hb) (GN b3W (v9 H1.out.2.2 hz1 hb)))
 have hy0 : w2.cell? ⟨b, off, none⟩ = some (.int .u8 (b0.toNat : Int)) := (hb.cell (p := ⟨b, off, none⟩) b3V).trans hx0
 have hy2 : w2.cell? ⟨b, off + 2, none⟩ = some (.int .u8 (b2.toNat : Int)) := (hb.cell (p := ⟨b, off + 2, none⟩) b3V).trans hx2
 have a4H : b < w2.heap.size := by omega
 have hy0' : (w2.alloc (.cells #[.int .i64 0, .int .i64 kd, .int .i64 sq, .bool mo, .int .i64 co, .bool an, .slice none 0 0] 84)).cell? ⟨b, off, none⟩ = some (.int .u8 (b0.toNat : Int)) := by rw [Io _ _ _ a4H]; exact hy0
 have hy2' : (w2.alloc (.cells #[.int .i64 0, .int .i64 kd, .int .i64 sq, .bool mo, .int .i64 co, .bool an, .slice none 0 0] 84)).cell? ⟨b, off + 2, none⟩ = some (.int .u8 (b2.toNat : Int)) := by rw [Io _ _ _ a4H]; exact hy2
 have hz : w.heap.size < w2.heap.size := by omega
 have HTH := GO (v9 H2.out.2.2 hz ((Below.refl _ _).alloc (GB _) (.cells #[.int .i64 0, .int .i64 kd, .int .i64 sq, .bool mo, .int .i64 co, .bool an, .slice none 0 0] 84)))
 clear b3W hb
 have hb2' : (b2.toNat : Int) = (q : Int) := by have := HQ.out.1; omega
 have d5k : b2.toNat = q := by omega
 have hth : ((w2.alloc (.cells #[.int .i64 0, .int .i64 kd, .int .i64 sq, .bool mo, .int .i64 co, .bool an, .slice none 0 0] 84)).drew).there w2.heap.size 0 7 := B4 (cs := #[.int .i64 0, .int .i64 kd, .int .i64 sq, .bool mo, .int .i64 co, .bool an, .slice none 0 0]) (t := 84) (Ht w2 _) rfl
 have hbk := hblk.out
 have hbg : b ≠ w2.heap.size := by omega
 have HC : Hid (∀ (A : Option Addr) (n c : Nat) (W : GG), IsB W A n c inf -> Hq Tryz.prog 83 #[.agg #[.int .i64 (b0.toNat : Int), .int .i64 kd, .int .i64 sq, .bool mo, .int .i64 co, .bool an, .slice A n c]] W
  fun e w' => e = .returned (.int .i64 0) /\ Below W.heap.size W w') := fun A n c W hW => by
  have := a0N b0.toNat kd sq mo co an A n c inf W hW
  rwa [her] at this
 clear her
 rw [d5k] at *
 go_wp2_with fail
 refine q7 (T := TG w2.heap.size (.int .i64 (b0.toNat : Int)) inf) [St.is (.slice (some ⟨b, off, none⟩) (q + 3) c1), St.is (.pointer (some ⟨b, off, none⟩)), St.is (.int .u8 (b0.toNat : Int)), St.is (.int .i64 (b0.toNat : Int)), St.is (.slice (some ⟨b, off, none⟩) (q + 3) c1), St.pred (fun v' w' => ∃ A' c', v' = .slice A' q c' /\ IsB w' A' q c' inf /\ ∀ b off, A' = some ⟨b, off, none⟩ -> b ≠ w2.heap.size) (fun _ _ _ h ⟨A, c, e, r, s⟩ => ⟨A, c, e, I1 h.grown r s, s⟩), St.pred (fun v' w' => ∃ A' n' c', v' = .slice A' n' c' /\ IsB w' A' n' c' inf /\ ∀ b off, A' = some ⟨b, off, none⟩ -> w2.heap.size < b) (fun _ _ _ h ⟨A, n, c, e, r, s⟩ => ⟨A, n, c, e, I1 h.grown r (fun b off e => by have := s b off e; omega), s⟩), St.is (.pointer (some ⟨w2.heap.size, 0, none⟩)), St.pred (fun v' w' => w'.cell? ⟨w2.heap.size, 0, none⟩ = some (.int .i64 (b0.toNat : Int))) (fun _ _ _ h q => h.zero q), St.is (.pointer (some ⟨w2.heap.size, 6, none⟩)), St.pred (fun v' w' => Six w2.heap.size inf w') (fun _ _ _ h q => h.six q)] (by kernel_rfl) (by kernel_rfl) (TG.refl) (TG.trans) ⟨?s0, ?s1, ?s2, ?s3, ?s4, ?s5, ?s6, ?s7, ?s8, ?s9, ?s10, trivial⟩ ?O9
 case s0 =>
  intro a w' K hT hf hw hK
  refine c8 ?_ ?_
  . rfl
  have h7 : a.tmps[7]?.getD undef = .slice (some ⟨b, off, none⟩) (q + 3) c1 := hf 7 (by kernel_rfl)
  clear hf hw
  go_simp
  exact hK _ _ (TG.refl _) rfl
 case s1 =>
  intro a w' K hT hf hw hK
  refine c8 ?_ ?_
  . rfl
  have h54 : a.tmps[54]?.getD undef = .slice (some ⟨b, off, none⟩) (q + 3) c1 := hw.1
  clear hf hw
  have hq0 : (0 : Int) < (q : Int) + 3 := by omega
  go_simp
  exact hK _ _ (TG.refl _) rfl
 case s2 =>
  intro a w' K hT hf hw hK
  refine c8 ?_ ?_
  . rfl
  have h55 : a.tmps[55]?.getD undef = .pointer (some ⟨b, off, none⟩) := hw.1
  clear hf hw
  have hcc : w'.cell? ⟨b, off, none⟩ = some (.int .u8 (b0.toNat : Int)) := (IK (a := ⟨b, off, none⟩) (hT.grown.block b (by simp; omega) (fun e => by injection e with e; omega))).trans hy0'
  go_simp
  exact hK _ _ (TG.refl _) rfl
 case s3 =>
  intro a w' K hT hf hw hK
  refine c8 ?_ ?_
  . rfl
  have h56 : a.tmps[56]?.getD undef = .int .u8 (b0.toNat : Int) := hw.1
  clear hf hw
  have hwr : GA.wrap (b0.toNat : Int) = (b0.toNat : Int) := IntWalk.i64_in _ (by omega)
  go_simp
  exact hK _ _ (TG.refl _) rfl
 case s4 =>
  intro a w' K hT hf hw hK
  refine c8 ?_ ?_
  . rfl
  have h7 : a.tmps[7]?.getD undef = .slice (some ⟨b, off, none⟩) (q + 3) c1 := hf 7 (by kernel_rfl)
  clear hf hw
  go_simp
  exact hK _ _ (TG.refl _) rfl
 case s5 =>
  intro a w' K hT hf hw hK
  refine c8 ?_ ?_
  . rfl
  have h58 : a.tmps[58]?.getD undef = .slice (some ⟨b, off, none⟩) (q + 3) c1 := hw.1
  clear hf hw
  have hrr : IsB w' (some ⟨b, off, none⟩) (q + 3) c1 (b0 :: b1 :: b2 :: inf) := I1 hT.grown (Rd.drew (Rd.alloc H2.out.1 _)) (fun b' off' e => by injection e with e; injection e with e1 e2; omega)
  have b3X := IsB.cut hrr (k := 3) (by omega)
  rw [show q + 3 - 3 = q by omega] at b3X
  have b3X : IsB w' (if c1 = 3 then some ⟨b, off, none⟩ else some ⟨b, off + 3, none⟩) q (c1 - 3) inf := b3X
  have c2n : ∀ b' off', (if c1 = 3 then some (⟨b, off, none⟩ : Addr) else some ⟨b, off + 3, none⟩) = some ⟨b', off', none⟩ -> b' ≠ w2.heap.size := by intro b' off' e; split at e <;> (injection e with e; injection e with e1 e2; omega)
  have HCC := GO (GN b3X c2n)
  clear b3X c2n hrr
  go_simp
  refine hK _ _ (TG.refl _) ?_
  exact ⟨_, _, rfl, HCC.out.1, HCC.out.2⟩
 case s6 =>
  intro a w' K hT hf hw hK
  refine c8 ?_ ?_
  . rfl
  have h59 := hw.1
  clear hf hw
  obtain ⟨A5, c5, h59, h5r, h5g⟩ := h59
  have h59 : a.tmps[59]?.getD undef = .slice A5 q c5 := h59
  have hgl : w2.heap.size < w'.heap.size := by have := hT.grown.size; simp at this; omega
  go_simp
  refine (a4M A5 q c5 inf _ h5r (by have := HQ.out.1; have := HQ.out.2; simp at *; omega)).mono ?_
  rintro e w3 ⟨A3, n3, c3, rfl, ho3, hb3⟩
  refine hK _ _ (TG.of_below hgl hb3) ?_
  refine ⟨A3, n3, c3, rfl, ho3.rd, fun b off e => ?_⟩
  subst e
  have := (ho3.lt b rfl).1
  omega
 case s7 =>
  intro a w' K hT hf hw hK
  refine c8 ?_ ?_
  . rfl
  have h9 : a.tmps[9]?.getD undef = .pointer (some ⟨w2.heap.size, 0, none⟩) := hf 9 (by kernel_rfl)
  clear hf hw
  go_simp
  exact hK _ _ (TG.refl _) rfl
 case s8 =>
  intro a w' K hT hf hw hK
  refine c8 ?_ ?_
  . rfl
  have h61 : a.tmps[61]?.getD undef = .pointer (some ⟨w2.heap.size, 0, none⟩) := hw.1
  have h57 : a.tmps[57]?.getD undef = .int .i64 (b0.toNat : Int) := hw.2.1
  clear hf hw
  obtain ⟨u0, hu0⟩ := Iz.1 (hT.there hth 0 (by omega)).1
  have hf0 := (hT.there hth 0 (by omega)).2
  simp only [HE] at hu0 hf0
  go_simp
  exact hK undef _ (TG.set0 (hT.there hth)).1 (TG.set0 (v0 := .int .i64 (b0.toNat : Int)) (inf := inf) (hT.there hth)).2
 case s9 =>
  intro a w' K hT hf hw hK
  refine c8 ?_ ?_
  . rfl
  have h9 : a.tmps[9]?.getD undef = .pointer (some ⟨w2.heap.size, 0, none⟩) := hf 9 (by kernel_rfl)
  clear hf hw
  go_simp
  exact hK _ _ (TG.refl _) rfl
 case s10 =>
  intro a w' K hT hf hw hK
  refine c8 ?_ ?_
  . rfl
  have h62 : a.tmps[62]?.getD undef = .pointer (some ⟨w2.heap.size, 6, none⟩) := hw.1
  have h60 := hw.2.1
  clear hf hw
  obtain ⟨A6, n6, c6, h60, h6r, h6g⟩ := h60
  have h60 : a.tmps[60]?.getD undef = .slice A6 n6 c6 := h60
  obtain ⟨u0, hu0⟩ := Iz.1 (hT.there hth 6 (by omega)).1
  have hf0 := (hT.there hth 6 (by omega)).2
  simp only [HE] at hu0 hf0
  go_simp
  exact hK undef _ (TG.set6 (hT.there hth) h6r h6g).1 (TG.set6 (v0 := .int .i64 (b0.toNat : Int)) (hT.there hth) h6r h6g).2
 case O9 =>
  rintro vs w' hT ⟨f0, f1, f2, f3, f4, f5, f6, f7, f8, f9, f10, -⟩
  have e0 : vs 0 = .slice (some ⟨b, off, none⟩) (q + 3) c1 := f0
  have e1 : vs 1 = .pointer (some ⟨b, off, none⟩) := f1
  have e2 : vs 2 = .int .u8 (b0.toNat : Int) := f2
  have e3 : vs 3 = .int .i64 (b0.toNat : Int) := f3
  have e4 : vs 4 = .slice (some ⟨b, off, none⟩) (q + 3) c1 := f4
  have e7 : vs 7 = .pointer (some ⟨w2.heap.size, 0, none⟩) := f7
  have e9 : vs 9 = .pointer (some ⟨w2.heap.size, 6, none⟩) := f9
  simp only [C6, Act.put, e0, e1, e2, e3, e4, e7, e9]
  simp only [Hi, Ie, If]
  clear e0 e1 e2 e3 e4 e7 e9 f0 f1 f2 f3 f4 f7 f9
  have hz0 : w'.cell? ⟨w2.heap.size, 0, none⟩ = some (.int .i64 (b0.toNat : Int)) := f8
  obtain ⟨A6, n6, c6, hz6, hr6, hs6⟩ : Six w2.heap.size inf w' := f10
  have a9j : ∀ j v, 1 <= j -> j <= 5 -> [.int .i64 0, .int .i64 kd, .int .i64 sq, .bool mo, .int .i64 co, .bool an, .slice none 0 0][j]? = some v -> w'.cell? ⟨w2.heap.size, j, none⟩ = some v := fun j v h1 h5 hv => (hT.mid j h1 h5).trans ((b9Q w2 _ _ j).trans hv)
  have hz1 := a9j 1 _ (by omega) (by omega) rfl
  have hz2 := a9j 2 _ (by omega) (by omega) rfl
  have hz3 := a9j 3 _ (by omega) (by omega) rfl
  have hz4 := a9j 4 _ (by omega) (by omega) rfl
  have hz5 := a9j 5 _ (by omega) (by omega) rfl
  have hsz : w2.heap.size < w'.heap.size := by have := hT.grown.size; simp at this; omega
  have hbw' : Below w.heap.size w w' := (H2.out.2.1.alloc H2.out.2.1.size _).drew.grown hT.grown (by have := H2.out.2.1.size; simp; omega) (fun k hk => by injection hk with hk; omega)
  have hthR : w'.there w.heap.size 0 7 := fun j hj => ⟨by rw [IK (a := ⟨w.heap.size, 0 + j, none⟩) (hT.grown.block w.heap.size (by simp; omega) (fun e => by injection e with e; omega))]; exact (HTH.out j hj).1, by rw [Lo (a := ⟨w.heap.size, 0 + j, none⟩) (hT.grown.block w.heap.size (by simp; omega) (fun e => by injection e with e; omega))]; exact (HTH.out j hj).2⟩
  have HW := GO (GN hbw' (GN hthR (GN hr6 hs6)))
  clear f8 a9j hbw' hthR hr6 hs6 f5 f6 hT
  go_wp2_with fail
  refine (HC.out _ _ _ _ HW.out.2.2.1).mono ?_
  rintro e w5 ⟨rfl, hb5⟩
  have hzR : w.heap.size < w'.heap.size := by omega
  have HTH5 := GO (v9 HW.out.2.1 hzR hb5)
  have HB5 := GO (HW.out.1.trans (hb5.mono HW.out.1.size))
  have h5c : ∀ j v, w'.cell? ⟨w2.heap.size, j, none⟩ = some v -> w5.cell? ⟨w2.heap.size, j, none⟩ = some v := fun j v hv => (hb5.cell (p := ⟨w2.heap.size, j, none⟩) hsz).trans hv
  have hv0 := h5c 0 _ hz0
  have hv1 := h5c 1 _ hz1
  have hv2 := h5c 2 _ hz2
  have hv3 := h5c 3 _ hz3
  have hv4 := h5c 4 _ hz4
  have hv5 := h5c 5 _ hz5
  have hv6 := h5c 6 _ hz6
  have H6 := GO (Rd.below HW.out.2.2.1 hb5)
  clear h5c hb5
  go_wp2_with (refine IN rfl 84 _ _ rfl w.heap.size 0 #[.int .i64 (b0.toNat : Int), .int .i64 kd, .int .i64 sq, .bool mo, .int .i64 co, .bool an, .slice A6 n6 c6] rfl rfl HTH5.out (by kernel_rfl) (by simp [Iv]) ?_)
  refine Hj (results_cell_tmp rfl _ _ w.heap.size 0 [.int .i64 (b0.toNat : Int), .int .i64 kd, .int .i64 sq, .bool mo, .int .i64 co, .bool an, .slice A6 n6 c6] _ rfl (Hp w5 w.heap.size 0 [.int .i64 (b0.toNat : Int), .int .i64 kd, .int .i64 sq, .bool mo, .int .i64 co, .bool an, .slice A6 n6 c6] HTH5.out) Tryz.underlying84 rfl (by kernel_rfl)) rfl ⟨A6, n6, c6, rfl, ?_, ?_, fun b off e => by have := HW.out.2.2.2 b off e; omega⟩
  . exact I1 (a0Q _ 0 w5) H6.out (fun b off e => by have := HW.out.2.2.2 b off e; omega)
  . exact B1 (GB _) _ _ _ HB5.out
end
section
open Go.RowKit
def T9 (k : Int) (xs : List UInt8) : List UInt8 := xs.take (xs.length - C8 k)
def O5 (k : Int) (xs : List UInt8) : Int :=
 if ¬ (k = 0 ∨ k = 1) then 1 else if xs.length < 3 + C8 k then 5 else if R5 k (T9 k xs) = xs.drop (xs.length - C8 k) then b0e (T9 k xs) else 6
def b0N (k : Int) (xs : List UInt8) : Nat := ((T9 k xs).getD 0 0).toNat
def b1N (k : Int) (xs : List UInt8) : Nat := ((T9 k xs).getD 1 0).toNat
def a2a (k : Int) (xs : List UInt8) : Int := if O5 k xs = 0 then (b0N k xs : Int) else 0
def P6 (k : Int) (xs : List UInt8) : Int := if O5 k xs = 0 then U0 (b1N k xs) else 0
def a3Z (k : Int) (xs : List UInt8) : Int := if O5 k xs = 0 then a2R (b1N k xs) else 0
def a1y (k : Int) (xs : List UInt8) : Bool := if O5 k xs = 0 then Y7 (b1N k xs) else false
def Y6 (k : Int) (xs : List UInt8) : Int := if O5 k xs = 0 then T8 (b1N k xs) else 0
def a6N (k : Int) (xs : List UInt8) : Bool := if O5 k xs = 0 then a3R (b1N k xs) else false
def a3B (k : Int) (xs : List UInt8) : List UInt8 := if O5 k xs = 0 then (T9 k xs).drop 3 else []
def a7p (k : Int) (xs : List UInt8) (w : GG) (e : Ending) (w' : GG) : Prop :=
 ∃ A n c, e = .returned (.tuple #[.agg #[.int .i64 (a2a k xs), .int .i64 (P6 k xs), .int .i64 (a3Z k xs), .bool (a1y k xs), .int .i64 (Y6 k xs), .bool (a6N k xs), .slice A n c], .int .i64 (O5 k xs)]) /\ IsB w' A n c (a3B k xs) /\ Below w.heap.size w w' /\ ∀ b off, A = some ⟨b, off, none⟩ -> w.heap.size <= b
theorem S5 {k : Int} {xs : List UInt8} {w : GG} {er : Int} (h : O5 k xs = er) (hne : er ≠ 0) : ∀ e w', (e = .returned (.tuple #[.agg zeroL.toArray, .int .i64 er]) /\ Below w.heap.size w w') -> a7p k xs w e w' := by
 rintro e w' ⟨rfl, hb⟩
 have h0 : ¬ O5 k xs = 0 := by rw [h]; exact hne
 unfold a7p a2a P6 a3Z a1y Y6 a6N a3B
 simp only [if_neg h0]
 exact ⟨none, 0, 0, by rw [h]; rfl, Rd.nil, hb, fun b off e => by cases e⟩
theorem three {l : List UInt8} (h : 3 <= l.length) : ∃ a b c r, l = a :: b :: c :: r := by
 match l, h with
 | a :: b :: c :: r, _ => exact ⟨a, b, c, r, rfl⟩
theorem b1D (b0 b1 b2 : UInt8) (inf : List UInt8) : b0e (b0 :: b1 :: b2 :: inf) = if okC b1.toNat = true /\ b2.toNat = inf.length then d8 b0.toNat (U0 b1.toNat) (a2R b1.toNat) (Y7 b1.toNat) (T8 b1.toNat) (a3R b1.toNat) inf else 4 := by
 unfold b0e
 simp
theorem d2H (A : Option Addr) (n c : Nat) (k : Int) (xs : List UInt8) (w : GG) (h : IsB w A n c xs) (hx : xs.length <= 900000) :
 Hq Tryz.prog 68 #[.slice A n c, .int .i64 k] w (a7p k xs w) := by
 by_cases hk : k = 0 ∨ k = 1
 case neg => exact (b9u A n c k hk w).mono (S5 (by unfold O5; rw [if_pos hk]) (by decide))
 have hl := IsB.len h
 have e1 : O5 k xs = if xs.length < 3 + C8 k then 5 else if R5 k (T9 k xs) = xs.drop (xs.length - C8 k) then b0e (T9 k xs) else 6 := by unfold O5; rw [if_neg (not_not_intro hk)]
 by_cases hs : n < 3 + C8 k
 . exact (b7w A n c k hk hs w).mono (S5 (by rw [e1, if_pos (by omega)]) (by decide))
 rw [if_neg (by omega)] at e1
 obtain ⟨q, rfl⟩ : ∃ q, n = q + 3 + C8 k := ⟨n - 3 - C8 k, by omega⟩
 have hm : xs.length - C8 k = q + 3 := by omega
 have hbd : T9 k xs = xs.take (q + 3) := by unfold T9; rw [hm]
 rw [hm, hbd] at e1
 by_cases a3Q : R5 k (xs.take (q + 3)) = xs.drop (q + 3)
 case neg =>
  rw [if_neg a3Q] at e1
  exact (c2H A (q + 3) (C8 k) c k hk rfl xs (by omega) w h a3Q).mono (S5 e1 (by decide))
 rw [if_pos a3Q] at e1
 obtain ⟨b0, b1, b2, inf, K4⟩ := three (l := xs.take (q + 3)) (by rw [List.length_take]; omega)
 rw [K4, b1D] at e1
 by_cases hok : okC b1.toNat = true
 case neg =>
  rw [if_neg (fun z => hok z.1)] at e1
  exact (b7L A q (C8 k) c k hk rfl xs b0 b1 b2 inf w h hx a3Q K4 (by simpa using hok)).mono (S5 e1 (by decide))
 by_cases hb2 : b2.toNat = inf.length
 case neg =>
  rw [if_neg (fun z => hb2 z.2)] at e1
  exact (b6B A q (C8 k) c k hk rfl xs b0 b1 b2 inf w h hx a3Q K4 hok hb2).mono (S5 e1 (by decide))
 rw [if_pos ⟨hok, hb2⟩] at e1
 by_cases her : d8 b0.toNat (U0 b1.toNat) (a2R b1.toNat) (Y7 b1.toNat) (T8 b1.toNat) (a3R b1.toNat) inf = 0
 case neg => exact (c3Z A q (C8 k) c k hk rfl xs b0 b1 b2 inf w h hx a3Q K4 hok hb2 _ rfl (by simpa using her)).mono (S5 e1 her)
 refine (c6C A q (C8 k) c k hk rfl xs b0 b1 b2 inf w h hx a3Q K4 hok hb2 her).mono ?_
 rintro e w' ⟨A6, n6, c6, rfl, hi, hb⟩
 rw [her] at e1
 have f0 : b0N k xs = b0.toNat := by unfold b0N; rw [hbd, K4]; rfl
 have f1 : b1N k xs = b1.toNat := by unfold b1N; rw [hbd, K4]; rfl
 unfold a7p a2a P6 a3Z a1y Y6 a6N a3B
 simp only [f0, f1, e1]
 exact ⟨A6, n6, c6, rfl, by rw [hbd, K4]; exact hi, hb⟩
end
section
open Go.RowKit
def I5 (nad kind seq : Int) (more : Bool) (code : Int) (answer : Bool) (inf : List UInt8) (nad' kind' seq' : Int) (more' : Bool) (code' : Int) (answer' : Bool) (inf' : List UInt8) : Bool :=
 decide (nad = nad' /\ kind = kind' /\ seq = seq' /\ more = more' /\ code = code' /\ answer = answer' /\ inf = inf')
section
variable (nad kind seq : Int) (more : Bool) (code : Int) (answer : Bool) (A : Option Addr) (n c : Nat) (inf : List UInt8) (nad' kind' seq' : Int) (more' : Bool) (code' : Int) (answer' : Bool) (A' : Option Addr) (n' c' : Nat) (inf' : List UInt8) (w : GG)
set_option maxHeartbeats 800000 in
theorem c5Z (h : IsB w A n c inf) (h' : IsB w A' n' c' inf') : Hq Tryz.prog 47 #[.agg #[.int .i64 nad, .int .i64 kind, .int .i64 seq, .bool more, .int .i64 code, .bool answer, .slice A n c], .agg #[.int .i64 nad', .int .i64 kind', .int .i64 seq', .bool more', .int .i64 code', .bool answer', .slice A' n' c']] w
 fun e w' => e = .returned (.bool (I5 nad kind seq more code answer inf nad' kind' seq' more' code' answer' inf')) /\ Below w.heap.size w w' := by
 have H := GO (GN h h')
 have HB : Hid (Below w.heap.size w ((w.alloc (.cells #[.int .i64 nad, .int .i64 kind, .int .i64 seq, .bool more, .int .i64 code, .bool answer, .slice A n c] 84)).alloc (.cells #[.int .i64 nad', .int .i64 kind', .int .i64 seq', .bool more', .int .i64 code', .bool answer', .slice A' n' c'] 84))) := ((Below.refl _ _).alloc (GB _) _).alloc (by simp) _
 clear h h'
 by_cases e0 : nad = nad'
 case neg =>
  have hs : I5 nad kind seq more code answer inf nad' kind' seq' more' code' answer' inf' = false := by unfold I5; exact decide_eq_false (by simp [e0])
  have ef : (nad == nad') = false := by simpa using e0
  rw [hs]
  clear hs e0
  go_enter Tryz.func47, Tryz.ntmps47
  go_wp2_with fail
  go_ret
  exact ⟨rfl, HB.out⟩
 subst e0
 by_cases e1 : kind = kind'
 case neg =>
  have hs : I5 nad kind seq more code answer inf nad kind' seq' more' code' answer' inf' = false := by unfold I5; exact decide_eq_false (by simp [e1])
  have ef : (kind == kind') = false := by simpa using e1
  rw [hs]
  clear hs e1
  go_enter Tryz.func47, Tryz.ntmps47
  go_wp2_with fail
  go_ret
  exact ⟨rfl, HB.out⟩
 subst e1
 by_cases e2 : seq = seq'
 case neg =>
  have hs : I5 nad kind seq more code answer inf nad kind seq' more' code' answer' inf' = false := by unfold I5; exact decide_eq_false (by simp [e2])
  have ef : (seq == seq') = false := by simpa using e2
  rw [hs]
  clear hs e2
  go_enter Tryz.func47, Tryz.ntmps47
  go_wp2_with fail
  go_ret
  exact ⟨rfl, HB.out⟩
 subst e2
 by_cases e3 : more = more'
 case neg =>
  have hs : I5 nad kind seq more code answer inf nad kind seq more' code' answer' inf' = false := by unfold I5; exact decide_eq_false (by simp [e3])
  have ef : (more == more') = false := by simpa using e3
  rw [hs]
  clear hs e3
  go_enter Tryz.func47, Tryz.ntmps47
  go_wp2_with fail
  go_ret
  exact ⟨rfl, HB.out⟩
 subst e3
 by_cases e4 : code = code'
 case neg =>
  have hs : I5 nad kind seq more code answer inf nad kind seq more code' answer' inf' = false := by unfold I5; exact decide_eq_false (by simp [e4])
  have ef : (code == code') = false := by simpa using e4
  rw [hs]
  clear hs e4
  go_enter Tryz.func47, Tryz.ntmps47
  go_wp2_with fail
  go_ret
  exact ⟨rfl, HB.out⟩
 subst e4
 by_cases e5 : answer = answer'
 case neg =>
  have hs : I5 nad kind seq more code answer inf nad kind seq more code answer' inf' = false := by unfold I5; exact decide_eq_false (by simp [e5])
  have ef : (answer == answer') = false := by simpa using e5
  rw [hs]
  clear hs e5
  go_enter Tryz.func47, Tryz.ntmps47
  go_wp2_with fail
  go_ret
  exact ⟨rfl, HB.out⟩
 subst e5
 have hs : I5 nad kind seq more code answer inf nad kind seq more code answer inf' = decide (inf = inf') := by unfold I5; simp
 rw [hs]
 clear hs
 go_enter Tryz.func47, Tryz.ntmps47
 go_wp2_with fail
 refine (a9d A n c inf A' n' c' inf' _ (Rd.alloc (Rd.alloc H.out.1 _) _) (Rd.alloc (Rd.alloc H.out.2 _) _)).mono ?_
 rintro e w3 ⟨rfl, rfl⟩
 go_wp2_with fail
 go_ret
 exact ⟨rfl, HB.out⟩
end
end
namespace En
open Go Go.RowKit
theorem c9I {E : Env} {g : G} {w : GG} {dead : List Pos} {cs : List V} {u : GK} (h : RepD E g w dead (.agg (cs.map fun x => .v x .no)) u) : ∃ us, u = .agg us /\ RepV g w (.agg cs) (.agg us) := by
 generalize hd : D.agg (cs.map fun x => .v x .no) = d at h
 cases h with
 | agg ds us hn hr =>
   injection hd with hd
   subst hd
   refine ⟨us, rfl, .agg _ us (by simpa using hn) fun j y hy => ?_⟩
   have := hr j (.v y .no) (by simp [hy])
   cases this with | v _ _ _ hv _ => exact hv
 | _ => cases hd
theorem b6F {E : Env} {g : G} {w : GG} {x0 x1 x2 : Int} {x3 : Bool} {x4 : Int} {x5 : Bool} {x6 : List UInt8} {u : GK} (h : RepD E g w [] (.agg [.v (.int .i64 x0) .no, .v (.int .i64 x1) .no, .v (.int .i64 x2) .no, .v (.bool x3) .no, .v (.int .i64 x4) .no, .v (.bool x5) .no, .v (.bytes x6) .no]) u) :
 ∃ A n c, u = .agg #[.int .i64 x0, .int .i64 x1, .int .i64 x2, .bool x3, .int .i64 x4, .bool x5, .slice A n c] /\ IsB w A n c x6 /\ RepV g w (.bytes x6) (.slice A n c) := by
 obtain ⟨us, rfl, hv⟩ := c9I (cs := [.int .i64 x0, .int .i64 x1, .int .i64 x2, .bool x3, .int .i64 x4, .bool x5, .bytes x6]) h
 cases hv with
 | agg cs us hn hr3 =>
 obtain ⟨us⟩ := us
 match us, hn with
 | [u0, u1, u2, u3, u4, u5, u6], _ =>
 have r0 := hr3 0 _ rfl
 have r1 := hr3 1 _ rfl
 have r2 := hr3 2 _ rfl
 have r3 := hr3 3 _ rfl
 have r4 := hr3 4 _ rfl
 have r5 := hr3 5 _ rfl
 have r6 := hr3 6 _ rfl
 simp at r0 r1 r2 r3 r4 r5 r6
 cases r0; cases r1; cases r2; cases r3; cases r4; cases r5
 obtain ⟨A, n, c, rfl, hB⟩ := a3G r6
 exact ⟨A, n, c, rfl, hB, r6⟩
def c5V (g : G) (w : GG) : G := { g with Γ := fun b => if b < w.heap.size then g.Γ b else .imm }
theorem b8i {g : G} {w w' : GG} (hb : Below w.heap.size w w') : PureTr g w (c5V g w) w' :=
 ⟨⟨hb.os, hb.tape, hb.output, hb.size, hb.block⟩, fun b hlt => if_pos hlt, fun b hge => by
   show Perm.still (if b < w.heap.size then g.Γ b else .imm) = true
   rw [if_neg (by omega)]; rfl, rfl, rfl⟩
theorem b1U {g : G} {w w' : GG} {A : Option Addr} {n c : Nat} {xs : List UInt8} (h : IsB w' A n c xs) (hn : ∀ b off, A = some ⟨b, off, none⟩ -> w.heap.size <= b) : RepV (c5V g w) w' (.bytes xs) (.slice A n c) := by
 refine .bytes xs A n c (by simpa using h.len) h.cap h.max fun k x hx => ?_
 obtain ⟨b, off, e, h2⟩ := Rd.at_ h k (u8 x) (by simp [hx])
 refine ⟨b, off, e, ?_, h2⟩
 have hge := hn b off e
 unfold j9 c5V
 simp only
 rw [if_neg (by omega)]; trivial
theorem a8F {n : Int} (h : 0 <= n /\ n <= 1000) : GA.min <= n /\ n <= GA.max := by show (-9223372036854775808 : Int) <= _ /\ _ <= (9223372036854775807 : Int); omega
theorem a6Z (x0 x1 x2 : Int) (x3 : Bool) (x4 : Int) (x5 : Bool) (x6 : List UInt8) : 0 <= d8 x0 x1 x2 x3 x4 x5 x6 /\ d8 x0 x1 x2 x3 x4 x5 x6 <= 4 := by
 unfold d8 T5
 repeat' split
 all_goals omega
theorem c2x (k x0 x1 x2 : Int) (x3 : Bool) (x4 : Int) (x5 : Bool) (x6 : List UInt8) : 0 <= J9 k x0 x1 x2 x3 x4 x5 x6 /\ J9 k x0 x1 x2 x3 x4 x5 x6 <= 1000 := by
 have := a6Z x0 x1 x2 x3 x4 x5 x6
 unfold J9
 split <;> omega
theorem b9Y (xs : List UInt8) : 0 <= b0e xs /\ b0e xs <= 4 := by
 unfold b0e
 split
 . exact a6Z ..
 . omega
theorem c4r (k : Int) (xs : List UInt8) : 0 <= O5 k xs /\ O5 k xs <= 1000 := by
 have := b9Y (T9 k xs)
 unfold O5
 repeat' split
 all_goals omega
theorem c7P (k : Int) (xs : List UInt8) : (0 <= a2a k xs /\ a2a k xs <= 1000) /\ (0 <= P6 k xs /\ P6 k xs <= 1000) /\ (0 <= a3Z k xs /\ a3Z k xs <= 1000) /\ (0 <= Y6 k xs /\ Y6 k xs <= 1000) := by
 have h0 : b0N k xs < 256 := by unfold b0N; exact He _
 have h1 : b1N k xs < 256 := by unfold b1N; exact He _
 have key : ∀ c : Nat, c < 256 -> (0 <= U0 c /\ U0 c <= 1000) /\ (0 <= a2R c /\ a2R c <= 1000) /\ (0 <= T8 c /\ T8 c <= 1000) := by decide +kernel
 obtain ⟨k1, k2, k3⟩ := key _ h1
 unfold a2a P6 a3Z Y6
 refine ⟨?_, ?_, ?_, ?_⟩ <;> split <;> first | omega | assumption
noncomputable def a2w (N : Nat) (x0 x1 x2 : Int) (x3 : Bool) (x4 : Int) (x5 : Bool) (x6 : List UInt8) (x7 : Int) : Option (List UInt8 × Int) := some (X0 x7 x0 x1 x2 x3 x4 x5 x6, J9 x7 x0 x1 x2 x3 x4 x5 x6)
theorem d0v {f : Hg} (hf : ∀ (x0 x1 x2 : Int) (x3 : Bool) (x4 : Int) (x5 : Bool) (A : Option Addr) (n c : Nat) (x6 : List UInt8) (x7 : Int) (w : GG), IsB w A n c x6 -> Hq Tryz.prog f #[.agg #[.int .i64 x0, .int .i64 x1, .int .i64 x2, .bool x3, .int .i64 x4, .bool x5, .slice A n c], .int .i64 x7] w (a5l x7 x0 x1 x2 x3 x4 x5 x6 w))
 (x0 x1 x2 : Int) (x3 : Bool) (x4 : Int) (x5 : Bool) (x6 : List UInt8) (x7 : Int) : F6 Tryz.prog T f [.agg [.v (.int .i64 x0) .no, .v (.int .i64 x1) .no, .v (.int .i64 x2) .no, .v (.bool x3) .no, .v (.int .i64 x4) .no, .v (.bool x5) .no, .v (.bytes x6) .no], .v (.int .i64 x7) .no]
  [.v (.bytes (X0 x7 x0 x1 x2 x3 x4 x5 x6)) .no, .v (.int .i64 (J9 x7 x0 x1 x2 x3 x4 x5 x6)) .no] := by
 intro E g w us hsz hus
 obtain ⟨hl, hr⟩ := hus
 match us, hl with
 | [u, v], _ =>
 have hu := hr 0 _ rfl
 have hv := hr 1 _ rfl
 simp only [IA, Jw] at hu hv
 obtain ⟨A, n, c, rfl, hB, _⟩ := b6F hu
 cases hv with
 | v _ _ _ hv _ =>
 cases hv
 refine (hf x0 x1 x2 x3 x4 x5 A n c x6 x7 w hB).mono ?_
 rintro e w' ⟨A', n', c', rfl, ho, hb⟩
 refine ⟨[.slice A' n' c', .int .i64 (J9 x7 x0 x1 x2 x3 x4 x5 x6)], c5V g w, rfl, fun E' => ⟨rfl, fun k y hk => ?_⟩, b8i hb⟩
 rcases k with _ | _ | k
 . simp at hk; subst hk
   exact .v _ _ _ (b1U ho.rd fun b off e => ho.block b (by subst e; rfl)) trivial
 . simp at hk; subst hk
   exact .v _ _ _ (.int _ _ (a8F (c2x ..))) trivial
 . simp at hk
abbrev g0a (a0 a1 a2 : Int) (a3 : Bool) (a4 : Int) (a5 : Bool) (a6 : List UInt8) : D := .agg [dI a0, dI a1, dI a2, dB a3, dI a4, dB a5, dY a6]
theorem b4G (N : Nat) (x0 x1 x2 : Int) (x3 : Bool) (x4 : Int) (x5 : Bool) (x6 : List UInt8) (x7 : Int) (r0 : List UInt8) (r1 : Int) (h : a2w N x0 x1 x2 x3 x4 x5 x6 x7 = some (r0, r1)) :
 F6 Tryz.prog T 84 [g0a x0 x1 x2 x3 x4 x5 x6, dI x7] [dY r0, dI r1] := by
 cases h
 exact d0v (fun x0 x1 x2 x3 x4 x5 A n c x6 x7 w hB => d2r x0 x1 x2 x3 x4 x5 A n c x6 x7 w hB) x0 x1 x2 x3 x4 x5 x6 x7
noncomputable def S0 (N : Nat) (x0 : List UInt8) (x1 : Int) : Option (Int × Int × Int × Bool × Int × Bool × List UInt8 × Int) := br (decide (x0.length <= 900000)) (some (a2a x1 x0, P6 x1 x0, a3Z x1 x0, a1y x1 x0, Y6 x1 x0, a6N x1 x0, a3B x1 x0, O5 x1 x0)) none
theorem c8h {f : Hg} (hf : ∀ (A : Option Addr) (n c : Nat) (k : Int) (xs : List UInt8) (w : GG), IsB w A n c xs -> xs.length <= 900000 -> Hq Tryz.prog f #[.slice A n c, .int .i64 k] w (a7p k xs w))
 (x0 : List UInt8) (x1 : Int) (hx : x0.length <= 900000) : F6 Tryz.prog T f [.v (.bytes x0) .no, .v (.int .i64 x1) .no]
  [.agg [.v (.int .i64 (a2a x1 x0)) .no, .v (.int .i64 (P6 x1 x0)) .no, .v (.int .i64 (a3Z x1 x0)) .no, .v (.bool (a1y x1 x0)) .no, .v (.int .i64 (Y6 x1 x0)) .no, .v (.bool (a6N x1 x0)) .no, .v (.bytes (a3B x1 x0)) .no], .v (.int .i64 (O5 x1 x0)) .no] := by
 intro E g w us hsz hus
 obtain ⟨hl, hr⟩ := hus
 match us, hl with
 | [u, v], _ =>
 have hu := hr 0 _ rfl
 have hv := hr 1 _ rfl
 simp only [IA, Jw] at hu hv
 cases hu with
 | v _ _ _ hu _ =>
 cases hv with
 | v _ _ _ hv _ =>
 cases hv
 obtain ⟨A, n, c, rfl, hB⟩ := a3G hu
 refine (hf A n c x1 x0 w hB hx).mono ?_
 rintro e w' ⟨A', n', c', rfl, hi, hb, b8D⟩
 refine ⟨[.agg #[.int .i64 (a2a x1 x0), .int .i64 (P6 x1 x0), .int .i64 (a3Z x1 x0), .bool (a1y x1 x0), .int .i64 (Y6 x1 x0), .bool (a6N x1 x0), .slice A' n' c'], .int .i64 (O5 x1 x0)], c5V g w, rfl, fun E' => ⟨rfl, fun k y hk => ?_⟩, b8i hb⟩
 obtain ⟨r1, r2, r3, r4⟩ := c7P x1 x0
 rcases k with _ | _ | k
 . simp at hk; subst hk
   refine .agg _ _ rfl fun k y hk => ?_
   rcases k with _ | _ | _ | _ | _ | _ | _ | k
   . simp at hk; subst hk; exact .v _ _ _ (.int _ _ (a8F r1)) trivial
   . simp at hk; subst hk; exact .v _ _ _ (.int _ _ (a8F r2)) trivial
   . simp at hk; subst hk; exact .v _ _ _ (.int _ _ (a8F r3)) trivial
   . simp at hk; subst hk; exact .v _ _ _ (.bool _) trivial
   . simp at hk; subst hk; exact .v _ _ _ (.int _ _ (a8F r4)) trivial
   . simp at hk; subst hk; exact .v _ _ _ (.bool _) trivial
   . simp at hk; subst hk; exact .v _ _ _ (b1U hi b8D) trivial
   . simp at hk
 . simp at hk; subst hk
   exact .v _ _ _ (.int _ _ (a8F (c4r ..))) trivial
 . simp at hk
theorem b5h (N : Nat) (x0 : List UInt8) (x1 r0 r1 r2 : Int) (r3 : Bool) (r4 : Int) (r5 : Bool) (r6 : List UInt8) (r7 : Int) (h : S0 N x0 x1 = some (r0, r1, r2, r3, r4, r5, r6, r7)) :
 F6 Tryz.prog T 68 [dY x0, dI x1] [g0a r0 r1 r2 r3 r4 r5 r6, dI r7] := by
 unfold S0 br at h
 by_cases hx : x0.length <= 900000
 . simp only [hx, decide_true, cond_true] at h
   cases h
   exact c8h (fun A n c k xs w h1 h2 => d2H A n c k xs w h1 h2) x0 x1 hx
 . simp only [hx, decide_false, cond_false] at h
   cases h
def a6Y (N : Nat) (x0 x1 x2 : Int) (x3 : Bool) (x4 : Int) (x5 : Bool) (x6 : List UInt8) (x7 x8 x9 : Int) (x10 : Bool) (x11 : Int) (x12 : Bool) (x13 : List UInt8) : Option Bool := some (I5 x0 x1 x2 x3 x4 x5 x6 x7 x8 x9 x10 x11 x12 x13)
theorem c4N (N : Nat) (x0 x1 x2 : Int) (x3 : Bool) (x4 : Int) (x5 : Bool) (x6 : List UInt8) (x7 x8 x9 : Int) (x10 : Bool) (x11 : Int) (x12 : Bool) (x13 : List UInt8) (r0 : Bool) (h : a6Y N x0 x1 x2 x3 x4 x5 x6 x7 x8 x9 x10 x11 x12 x13 = some r0) :
 F6 Tryz.prog T 47 [g0a x0 x1 x2 x3 x4 x5 x6, g0a x7 x8 x9 x10 x11 x12 x13] [dB r0] := by
 injection h with h
 subst h
 intro E g w us hsz hus
 obtain ⟨hl, hr⟩ := hus
 match us, hl with
 | [u, v], _ =>
 have hu := hr 0 _ rfl
 have hv := hr 1 _ rfl
 simp only [IA, Jw] at hu hv
 obtain ⟨A, n, c, rfl, hB, _⟩ := b6F hu
 obtain ⟨A', n', c', rfl, hB', _⟩ := b6F hv
 refine (c5Z x0 x1 x2 x3 x4 x5 A n c x6 x7 x8 x9 x10 x11 x12 A' n' c' x13 w hB hB').mono ?_
 rintro e w' ⟨rfl, hb⟩
 exact ⟨[.bool (I5 x0 x1 x2 x3 x4 x5 x6 x7 x8 x9 x10 x11 x12 x13)], c5V g w, rfl, fun E' => ⟨rfl, fun k y hk => by
  rcases k with _ | k
  . simp at hk; subst hk; exact .v _ _ _ (.bool _) trivial
  . simp at hk⟩, b8i hb⟩
end En
namespace En
open Go Go.RowKit
theorem d5D (w : GG) : (Instr.makeSlice 22 (.int .i64 1) (.int .i64 1)).run Tryz.prog w = .ok (.slice (some ⟨w.heap.size, 0, none⟩) 1 1) (w.alloc (.cells #[.int .u8 0] 5)) := by
 obtain ⟨i0, hi0, hz0, hz1, hz2⟩ := info_parts a9u
 have := run_makeSlice (P := Tryz.prog) (w := w) 22 5 i0 (.int .u8 0) Tryz.underlying22 hi0 hz0 .i64 .i64 1 1 (by decide) (by decide) (by rw [hz1]; decide) (by rw [hz2]; decide) (by decide)
 rw [hz1] at this
 rw [this]
 have e : madeCells (JW GI 0).cells (Int.toNat 1 * 1) = #[.int .u8 0] := by
  apply Array.ext
  . rw [size_madeCells]; rfl
  . intro i h1 h2
    simp at h2
    obtain rfl : i = 0 := by omega
    simp [madeCells, Value.cells]
 rw [e]; rfl
attribute [local go_sem] d5D
def c9l (n : Int) : Nat -> Array GK
 | 0 => #[.int .u8 0]
 | _ => #[.int .u8 n]
set_option maxHeartbeats 400000 in
theorem c8Y (n : Int) (w : GG) (h3 : ¬ n < 0) (h4 : ¬ 255 < n) :
 Hq Tryz.prog 41 #[.int .i64 n, .int .i64 1] w fun e w' => e = .returned (.tuple #[.slice (some ⟨w.heap.size, 0, none⟩) 1 1, .int .i64 0]) /\ w'.heap[w.heap.size]? = some (.cells (c9l n 1) 5 (0, 0)) /\ Below w.heap.size w w' := by
 go_enter Tryz.func41, Tryz.ntmps41
 have h1 : -9223372036854775808 <= n := by omega
 have h2 : n <= 9223372036854775807 := by omega
 have hq : (n / 256 != 0) = false := by
  have : n / 256 = 0 := by omega
  rw [this]; rfl
 go_wp2
 go_loopg [7, 31] 1 (fun g x i wr => ∃ k : Nat, k <= 1 /\ g = 1 - k /\ i = .int .i64 (k : Int) /\ wr.heap[w.heap.size]? = some (.cells (c9l n k) 5 (0, 0)) /\ Below w.heap.size w wr)
 case atStart => exact ⟨0, by omega, rfl, rfl, Ht w _, (Below.refl _ _).alloc (GB _) _⟩
 case round =>
  obtain ⟨k, hk, hg, rfl, hh, hb⟩ := hrel
  have hc : ∀ j, wr.cell? ⟨w.heap.size, j, none⟩ = (c9l n k)[j]? := fun j => cell_of_row wr _ j _ _ _ hh
  have hf : ∀ j, wr.frozen? ⟨w.heap.size, j, none⟩ = false := fun j => frozen_of_row wr _ j _ _ hh
  rcases (by omega : k = 0 ∨ k = 1) with rfl | rfl
  . have hc1 : wr.cell? ⟨w.heap.size, 0, none⟩ = some (.int .u8 0) := hc 0
    have hf1 := hf 0
    have H := GO (GN hh hb)
    clear hc hf hh hb
    go_wp2
    go_roundg (1 - (0 + 1))
    case measure => omega
    case rel =>
     refine ⟨1, by omega, rfl, by go_num, ?_, H.out.2.setCell (GB _) _⟩
     have e : n % 256 = n := by omega
     have := heap_setCell_same wr w.heap.size 0 _ _ (.int .u8 (n % 256)) H.out.1
     rw [e] at this
     first | exact this | (rw [e]; exact this)
  . have H := GO (GN hh hb)
    clear hc hf hh hb
    go_wp2
    refine Hj (v := .tuple #[.slice (some ⟨w.heap.size, 0, none⟩) 1 1, .int .i64 0]) (by simp [results, Tryz.results41, go_sem]) rfl ⟨rfl, H.out.1, H.out.2⟩
noncomputable def a8p (N : Nat) (x0 x1 : Int) : Option (List UInt8 × Int) := if x1 = 1 then (if x0 < 0 ∨ 255 < x0 then none else some ([Gz x0.toNat], 0)) else c5l N x0 x1
theorem d5e (N : Nat) (x0 x1 : Int) (r0 : List UInt8) (r1 : Int) (h : a8p N x0 x1 = some (r0, r1)) : F6 Tryz.prog T 41 [dI x0, dI x1] [dY r0, dI r1] := by
 unfold a8p at h
 split at h
 . rename_i h2
   subst h2
   intro E g w us hsz hus
   obtain ⟨hl, hr⟩ := hus
   match us, hl with
   | [u, v], _ =>
   have hu := hr 0 _ rfl
   have hv := hr 1 _ rfl
   simp only [IA, Jw] at hu hv
   cases hu with
   | v x a u hu ha =>
   cases hv with
   | v x a v hv ha' =>
   cases hu with
   | int k n hk =>
   cases hv with
   | int k n hk' =>
   by_cases hx : x0 < 0 ∨ 255 < x0
   . rw [if_pos hx] at h; cases h
   . rw [if_neg hx] at h
     injection h with h; injection h with e1 e2; subst e1; subst e2
     refine (c8Y x0 w (fun h => hx (.inl h)) (fun h => hx (.inr h))).mono ?_
     rintro e w' ⟨rfl, hh, hb⟩
     have hge : ∀ o, j9 { g with Γ := fun b => if b < w.heap.size then g.Γ b else .imm } w.heap.size o := by
      intro o
      unfold j9
      show (match (if w.heap.size < w.heap.size then g.Γ w.heap.size else .imm) with | .imm => True | .low n => o < n | .own _ n => o < n | .box _ _ => False)
      rw [if_neg (by omega)]; trivial
     have hn : ∀ z : Int, 0 <= z -> z < 256 -> (JW GI z) = .int .u8 ((Gz z.toNat).toNat : Int) := by
      intro z h0 h1
      rw [UInt8.toNat_ofNat', Nat.mod_eq_of_lt (by omega), Int.toNat_of_nonneg h0]
     refine ⟨[.slice (some ⟨w.heap.size, 0, none⟩) 1 1, .int .i64 0], { g with Γ := fun b => if b < w.heap.size then g.Γ b else .imm }, rfl, fun E' => ⟨rfl, fun k y hk => ?_⟩, ⟨⟨hb.os, hb.tape, hb.output, hb.size, hb.block⟩, fun b hlt => if_pos hlt, fun b hge => by
      show Perm.still (if b < w.heap.size then g.Γ b else .imm) = true
      rw [if_neg (by omega)]; rfl, rfl, rfl⟩⟩
     rcases k with _ | _ | k
     . simp at hk; subst hk
       refine .v _ _ _ (.bytes _ _ 1 1 rfl (GB _) (by unfold maxLen; omega) (fun k x hx => ⟨_, _, rfl, hge _, ?_⟩)) trivial
       rw [cell_of_row _ _ _ _ _ _ hh]
       rcases k with _ | k
       . simp at hx; subst hx
         rw [← hn x0 (by omega) (by omega)]; rfl
       . simp at hx
     . simp at hk; subst hk
       exact .v _ _ _ (.int .i64 0 (by decide)) trivial
     . simp at hk
 . exact d5P N x0 x1 r0 r1 h
end En
namespace En
open Go
section
variable {R : Type} {P : Program} {T : GF -> Option Ty} {cx : Cx}
def d0x (ps : List (Nat × Nat)) (Bs Bs₁ : List Bx) : Prop := ∀ (j : Nat) (p : Nat × Nat) B, ps[j]? = some p -> Bs[j]? = some B -> ∃ B₁, Bs₁[j]? = some B₁ /\ BRen (fun k s i => ps[i]? = some (p.1 + k, s)) B B₁
def c1H (P : Program) (T : GF -> Option Ty) (f : Hg) (ds₁ : List D) (Bs₁ : List Bx) (rs : List D) (Bs₂ : List Bx) : Prop :=
 ∀ (ps : List (Nat × Nat)) (ds : List D) (m : Mem) (dst : Nat) (Bs Bs' : List Bx), (∀ (i j : Nat) (p : Nat × Nat), ps[i]? = some p -> ps[j]? = some p -> i = j) ->
  (∀ (j : Nat) (p : Nat × Nat), ps[j]? = some p -> ∃ B, m.box? p.1 p.2 = some B /\ Bs[j]? = some B) -> Bs.length = ps.length -> Bs'.length = ps.length -> Bs₁.length = ps.length -> ARens ps ds ds₁ -> d0x ps Bs Bs₁ -> d0x ps Bs' Bs₂ -> MemRet P T f dst ds m rs (D4 ps Bs' m)
theorem E6 (hm : P.follows .mixedOrders = true) (hcx : CxOK P cx) {f : Hg} {fn : Func} (hf : P.funcs[f]? = some fn) (hb : fn.body = some (d5 fn)) (hro : (drawnOf (d5 fn)).all (a6o cx) = true) (hl : v8 cx fn.ntmps (d5 fn))
 {ds₁ : List D} (a0o : Nat.ble ds₁.length fn.ntmps = true) {Bs₁ Bs₂ : List Bx} {α : Type} {rf : List D -> Mem -> Option α} {r : α} (h : g8 cx fn ds₁ [C0 0 Bs₁] rf = some r)
 {rs : List D} (hrs : ∀ rs' m', rf rs' m' = some r -> fars rs' = true /\ bares rs' = rs /\ ∃ own, m' = [own, C0 0 Bs₂]) : c1H P cx.T f ds₁ Bs₁ rs Bs₂ := by
 intro ps ds m dst Bs Bs' Q4 a0y hlB hlB' hlB₁ har hbr hbr'
 obtain ⟨a1, a2⟩ := har.get
 refine b2C hcx hf hb (a0u hm hcx hro) hl (Nat.le_of_ble_eq_true a0o) Q4 (Bs₁ := Bs₁) (fun j p hj => ?_) hlB₁ a1 a2 h (by rw [hlB']) (fun rs' m' hr => ?_) dst
 . obtain ⟨B, h1, h2⟩ := a0y j p hj
   obtain ⟨B₁, h3, h4⟩ := hbr j p B hj h2
   exact ⟨B, B₁, h1, h3, h4⟩
 . obtain ⟨b1, b2, own, b3⟩ := hrs rs' m' hr
   exact ⟨b1, b2, own, Bs₂, b3, fun j p B' hj hB => (hbr' j p B' hj hB).imp fun _ h => ⟨h.1, h.2.x⟩⟩
end
end En
namespace En
open Go
def FnRel (s j : Nat) : List D -> List D -> Prop
 | [], [] => True
 | c :: cs, c₁ :: cs₁ => ((c₁ = c /\ c.calm = true) ∨ ∃ n fs, c = .fn n fs 0 s /\ c₁ = .fn n fs 0 j) /\ FnRel s j cs cs₁
 | _, _ => False
theorem FnRel.get {s j : Nat} : ∀ {l l₁ : List D}, FnRel s j l l₁ -> l₁.length = l.length /\ ∀ (i : Nat) c c₁, l[i]? = some c -> l₁[i]? = some c₁ -> (c₁ = c /\ c.calm = true) ∨ ∃ n fs, c = .fn n fs 0 s /\ c₁ = .fn n fs 0 j
 | [], [], _ => ⟨rfl, fun i c c₁ h => by simp at h⟩
 | c :: l, c₁ :: l₁, ⟨h1, h2⟩ => by
   obtain ⟨a, b⟩ := FnRel.get h2
   refine ⟨by simp [a], fun i z z₁ hz hz₁ => ?_⟩
   rcases i with _ | i
   . simp at hz hz₁; subst hz hz₁; exact h1
   . exact b i z z₁ (by simpa using hz) (by simpa using hz₁)
theorem m8 {ps : List (Nat × Nat)} {k0 s j : Nat} (hj : ps[j]? = some (k0, s)) {t : GF} {cs cs₁ : List D} (h : FnRel s j cs cs₁) : BRen (fun k s i => ps[i]? = some (k0 + k, s)) ⟨t, cs⟩ ⟨t, cs₁⟩ := by
 obtain ⟨a, b⟩ := h.get
 refine ⟨rfl, a, fun i c c₁ hc hc₁ => ?_⟩
 rcases b i c c₁ hc hc₁ with ⟨rfl, h2⟩ | ⟨n, fs, rfl, rfl⟩
 . exact b2v h2
 . exact .ren (by simp) (by simp) rfl rfl rfl rfl (by simp) (.fn n fs ⟨rfl, hj⟩)
theorem j6 {p0 : Nat × Nat} {A A₁ : Bx} (hA : BRen (fun k s i => [p0][i]? = some (p0.1 + k, s)) A A₁) : d0x [p0] [A] [A₁] := by
 intro j p C hj hC
 rcases j with _ | j
 . simp at hj hC; subst hj hC; exact ⟨A₁, rfl, hA⟩
 . simp at hj
end En
namespace En
open Go
def c1k {R a1 a2 a3 a4 a5 a6 a7 a8 a9 a10 a11 a12 a13 a14 a15 a16 a17 a18 a19 a20 a21 a22 a23 a24 a25 a26 : Type} (o : Option (a1 × a2 × a3 × a4 × a5 × a6 × a7 × a8 × a9 × a10 × a11 × a12 × a13 × a14 × a15 × a16 × a17 × a18 × a19 × a20 × a21 × a22 × a23 × a24 × a25 × a26)) (K : a1 -> a2 -> a3 -> a4 -> a5 -> a6 -> a7 -> a8 -> a9 -> a10 -> a11 -> a12 -> a13 -> a14 -> a15 -> a16 -> a17 -> a18 -> a19 -> a20 -> a21 -> a22 -> a23 -> a24 -> a25 -> a26 -> Option R) : Option R := match o with | some (x1, x2, x3, x4, x5, x6, x7, x8, x9, x10, x11, x12, x13, x14, x15, x16, x17, x18, x19, x20, x21, x22, x23, x24, x25, x26) => K x1 x2 x3 x4 x5 x6 x7 x8 x9 x10 x11 x12 x13 x14 x15 x16 x17 x18 x19 x20 x21 x22 x23 x24 x25 x26 | none => none
theorem c4q {R a1 a2 a3 a4 a5 a6 a7 a8 a9 a10 a11 a12 a13 a14 a15 a16 a17 a18 a19 a20 a21 a22 a23 a24 a25 a26 : Type} {o : Option (a1 × a2 × a3 × a4 × a5 × a6 × a7 × a8 × a9 × a10 × a11 × a12 × a13 × a14 × a15 × a16 × a17 × a18 × a19 × a20 × a21 × a22 × a23 × a24 × a25 × a26)} {K : a1 -> a2 -> a3 -> a4 -> a5 -> a6 -> a7 -> a8 -> a9 -> a10 -> a11 -> a12 -> a13 -> a14 -> a15 -> a16 -> a17 -> a18 -> a19 -> a20 -> a21 -> a22 -> a23 -> a24 -> a25 -> a26 -> Option R} {r : R} (h : c1k o K = some r) : ∃ x1 x2 x3 x4 x5 x6 x7 x8 x9 x10 x11 x12 x13 x14 x15 x16 x17 x18 x19 x20 x21 x22 x23 x24 x25 x26, o = some (x1, x2, x3, x4, x5, x6, x7, x8, x9, x10, x11, x12, x13, x14, x15, x16, x17, x18, x19, x20, x21, x22, x23, x24, x25, x26) /\ K x1 x2 x3 x4 x5 x6 x7 x8 x9 x10 x11 x12 x13 x14 x15 x16 x17 x18 x19 x20 x21 x22 x23 x24 x25 x26 = some r := by
 rcases o with _ | ⟨x1, x2, x3, x4, x5, x6, x7, x8, x9, x10, x11, x12, x13, x14, x15, x16, x17, x18, x19, x20, x21, x22, x23, x24, x25, x26⟩
 . cases h
 . exact ⟨x1, x2, x3, x4, x5, x6, x7, x8, x9, x10, x11, x12, x13, x14, x15, x16, x17, x18, x19, x20, x21, x22, x23, x24, x25, x26, rfl, h⟩
theorem c1m {R a1 a2 a3 a4 a5 a6 a7 a8 a9 a10 a11 a12 a13 a14 a15 a16 a17 a18 a19 a20 a21 a22 a23 a24 a25 a26 : Type} (x1 : a1) (x2 : a2) (x3 : a3) (x4 : a4) (x5 : a5) (x6 : a6) (x7 : a7) (x8 : a8) (x9 : a9) (x10 : a10) (x11 : a11) (x12 : a12) (x13 : a13) (x14 : a14) (x15 : a15) (x16 : a16) (x17 : a17) (x18 : a18) (x19 : a19) (x20 : a20) (x21 : a21) (x22 : a22) (x23 : a23) (x24 : a24) (x25 : a25) (x26 : a26) (K : a1 -> a2 -> a3 -> a4 -> a5 -> a6 -> a7 -> a8 -> a9 -> a10 -> a11 -> a12 -> a13 -> a14 -> a15 -> a16 -> a17 -> a18 -> a19 -> a20 -> a21 -> a22 -> a23 -> a24 -> a25 -> a26 -> Option R) : c1k (some (x1, x2, x3, x4, x5, x6, x7, x8, x9, x10, x11, x12, x13, x14, x15, x16, x17, x18, x19, x20, x21, x22, x23, x24, x25, x26)) K = K x1 x2 x3 x4 x5 x6 x7 x8 x9 x10 x11 x12 x13 x14 x15 x16 x17 x18 x19 x20 x21 x22 x23 x24 x25 x26 := id rfl
end En
end Go.Proofs.YtfafflepalgcnaaGreat
