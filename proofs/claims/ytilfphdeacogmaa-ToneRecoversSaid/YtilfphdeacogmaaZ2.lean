/- Several texts in one. -/
import Derived.Test.YtilfphdeacogmaaZ1
import Derived.WalkKit
import Derived.Below
import Derived.Laws.OwnMore
import Derived.Deep.Draws
import Derived.Maps.AppendAt
import Derived.Deep.MidRow
import Derived.WalkSpells
import Derived.WalkLawsBesides
import Derived.Laws.StructEq
import Derived.Laws.Tables

set_option linter.unusedSimpArgs false
set_option linter.unusedVariables false
set_option linter.unusedSectionVars false
/- smartcard/block.Decode: the walk (printed by wip/gen/decode.py). -/
namespace Go.Proofs.Ytilfphdeacogmaa
open Go.RowKit
set_option linter.unusedVariables false
def kindC (c : Nat) : Int := if c < 128 then 0 else if c < 192 then 1 else 2
def seqC (c : Nat) : Int := if c < 128 then (c / 64 : Nat) else if c < 192 then (c / 16 % 2 : Nat) else 0
def moreC (c : Nat) : Bool := if c < 128 then decide (c / 32 % 2 = 1) else false
def codeC (c : Nat) : Int := if c < 128 then 0 else (c % 4 : Nat)
def ansC (c : Nat) : Bool := if c < 192 then false else decide (c / 32 % 2 = 1)
theorem blkC_eq (c : Nat) : blkC c = [.int .i64 0, .int .i64 (kindC c), .int .i64 (seqC c), .bool (moreC c), .int .i64 (codeC c), .bool (ansC c), .slice none 0 0] := by
  unfold blkC kindC seqC moreC codeC ansC
  by_cases h1 : c < 128
  . have h2 : c < 192 := by omega
    simp [h1, h2]
  . by_cases h2 : c < 192 <;> simp [h1, h2]
def bodyE (body : List UInt8) : Int :=
  if okC (body.getD 1 0).toNat = true /\ (body.getD 2 0).toNat = body.length - 3 then
    checkE (body.getD 0 0).toNat (kindC (body.getD 1 0).toNat) (seqC (body.getD 1 0).toNat) (moreC (body.getD 1 0).toNat) (codeC (body.getD 1 0).toNat) (ansC (body.getD 1 0).toNat) (body.drop 3)
  else 4
def zeroL : List Value := [.int .i64 0, .int .i64 0, .int .i64 0, .bool false, .int .i64 0, .bool false, .slice none 0 0]
def Six (g : Nat) (inf : List UInt8) (w : World) : Prop := ∃ A n c, w.cell? ⟨g, 6, none⟩ = some (.slice A n c) /\ IsB w A n c inf /\ ∀ b off, A = some ⟨b, off, none⟩ -> g < b
structure TG (g : Nat) (v0 : Value) (inf : List UInt8) (w w' : World) : Prop where
  grown : w.grownBy w' (some g)
  there : w.there g 0 7 -> w'.there g 0 7
  mid : ∀ j, 1 <= j -> j <= 5 -> w'.cell? ⟨g, j, none⟩ = w.cell? ⟨g, j, none⟩
  zero : w.cell? ⟨g, 0, none⟩ = some v0 -> w'.cell? ⟨g, 0, none⟩ = some v0
  six : Six g inf w -> Six g inf w'
section
variable {g : Nat} {v0 : Value} {inf : List UInt8}
theorem TG.refl (w : World) : TG g v0 inf w w := ⟨World.grownBy.refl w _, id, fun _ _ _ => rfl, id, id⟩
theorem TG.trans (x y z : World) (h : TG g v0 inf x y) (k : TG g v0 inf y z) : TG g v0 inf x z :=
  ⟨grown_trans h.grown k.grown, fun q => k.there (h.there q), fun j a b => (k.mid j a b).trans (h.mid j a b), fun q => k.zero (h.zero q), fun q => k.six (h.six q)⟩
theorem TG.of_below {w w' : World} (hg : g < w.heap.size) (h : Below w.heap.size w w') : TG g v0 inf w w' := by
  have hc : ∀ j, w'.cell? ⟨g, j, none⟩ = w.cell? ⟨g, j, none⟩ := fun j => h.cell (p := ⟨g, j, none⟩) hg
  exact ⟨⟨h.os, h.tape, h.output, h.size, fun k hk _ => h.block k hk⟩,
   fun q j hj => ⟨by rw [hc]; exact (q j hj).1, by rw [h.frozen (p := ⟨g, 0 + j, none⟩) hg]; exact (q j hj).2⟩,
   fun j _ _ => hc j, fun q => by rw [hc]; exact q, fun ⟨A, n, c, q, r, s⟩ => ⟨A, n, c, by rw [hc]; exact q, Rd.below r h, s⟩⟩
theorem grown_keepB {w w' : World} (h : w.grownBy w' (some g)) {A : Option Addr} {n c : Nat} {xs : List UInt8} (hr : IsB w A n c xs) (hne : ∀ b off, A = some ⟨b, off, none⟩ -> b ≠ g) : IsB w' A n c xs :=
  Rd.mk (Rd.len hr) (Rd.cap hr) (Rd.max hr) fun k v hv => by
    obtain ⟨b, off, rfl, hc⟩ := Rd.at_ hr k v hv
    refine ⟨b, off, rfl, ?_⟩
    rw [World.cell?_of_block (a := ⟨b, off + k, none⟩) (h.block b (World.block_lt_of_cell? w _ hc) (fun e => hne b off rfl (by injection e)))]
    exact hc
theorem there_setCell {w : World} {p : Addr} {v : Value} (h : w.there g 0 7) : (w.setCell p v).there g 0 7 := by
  intro j hj
  obtain ⟨h1, h2⟩ := h j hj
  refine ⟨?_, by rw [World.frozen?_setCell]; exact h2⟩
  obtain ⟨u, hu⟩ := Option.isSome_iff_exists.1 h1
  by_cases he : p = ⟨g, 0 + j, none⟩
  . subst he; rw [World.cell?_setCell_same _ _ _ hu]; rfl
  . rw [World.cell?_setCell_other _ _ _ _ he]; exact h1
theorem grown_setCell (w : World) (g j : Nat) (v : Value) : w.grownBy (w.setCell ⟨g, j, none⟩ v) (some g) :=
  ⟨rfl, rfl, rfl, by simp, fun k _ hne => Below.heap_setCell w ⟨g, j, none⟩ v k (fun e => hne (by rw [e]))⟩
theorem TG.set0 {w : World} (h : w.there g 0 7) : TG g v0 inf w (w.setCell ⟨g, 0, none⟩ v0) /\ (w.setCell ⟨g, 0, none⟩ v0).cell? ⟨g, 0, none⟩ = some v0 := by
  obtain ⟨u, hu⟩ := Option.isSome_iff_exists.1 (h 0 (by omega)).1
  have h0 := World.cell?_setCell_same w ⟨g, 0, none⟩ v0 hu
  refine ⟨⟨grown_setCell w g 0 v0, there_setCell, fun j a b => World.cell?_setCell_other _ _ _ _ (by simp <;> omega), fun _ => h0, ?_⟩, h0⟩
  rintro ⟨A, n, c, q, r, s⟩
  exact ⟨A, n, c, by rw [World.cell?_setCell_other _ _ _ _ (by simp)]; exact q, grown_keepB (grown_setCell w g 0 v0) r (fun b off e => by have := s b off e; omega), s⟩
theorem TG.set6 {w : World} {A : Option Addr} {n c : Nat} (h : w.there g 0 7) (hr : IsB w A n c inf) (hne : ∀ b off, A = some ⟨b, off, none⟩ -> g < b) :
    TG g v0 inf w (w.setCell ⟨g, 6, none⟩ (.slice A n c)) /\ Six g inf (w.setCell ⟨g, 6, none⟩ (.slice A n c)) := by
  obtain ⟨u, hu⟩ := Option.isSome_iff_exists.1 (h 6 (by omega)).1
  have h6 := World.cell?_setCell_same w ⟨g, 6, none⟩ (.slice A n c) hu
  have hs : Six g inf (w.setCell ⟨g, 6, none⟩ (.slice A n c)) := ⟨A, n, c, h6, grown_keepB (grown_setCell w g 6 _) hr (fun b off e => by have := hne b off e; omega), hne⟩
  exact ⟨⟨grown_setCell w g 6 _, there_setCell, fun j a b => World.cell?_setCell_other _ _ _ _ (by simp <;> omega), fun q => by rw [World.cell?_setCell_other _ _ _ _ (by simp)]; exact q, fun _ => hs⟩, hs⟩
end
theorem there_below {w w' : World} {R n : Nat} (h : w.there R 0 n) (hR : R < w.heap.size) (hb : Below w.heap.size w w') : w'.there R 0 n := fun j hj =>
  ⟨by rw [hb.cell (p := ⟨R, 0 + j, none⟩) hR]; exact (h j hj).1, by rw [hb.frozen (p := ⟨R, 0 + j, none⟩) hR]; exact (h j hj).2⟩
theorem there_zero (w : World) (e : TypeId) : (w.alloc (.cells #[.int .i64 0, .int .i64 0, .int .i64 0, .bool false, .int .i64 0, .bool false, .slice none 0 0] e)).there w.heap.size 0 7 := there_of_cells (heap_alloc_new w _) rfl
set_option maxHeartbeats 400000 in
theorem decode_kind (A : Option Addr) (n c : Nat) (k : Int) (hk : ¬ (k = 0 ∨ k = 1)) (w : World) :
    Calls Try.prog 79 #[.slice A n c, .int .i64 k] w
      fun e w' => e = .returned (.tuple #[.agg zeroL.toArray, .int .i64 1]) /\ Below w.heap.size w w' := by
  have hs : sizeI k = 0 := by unfold sizeI; rw [if_neg (by omega), if_neg (by omega)]
  have HTH := Lib.hid (there_zero w 29)
  go_enter Try.func79, Try.ntmps79
  go_wp2_with fail
  refine (size_any k _).mono ?_
  rintro e w1 ⟨rfl, rfl⟩
  rw [hs]
  go_wp2_with (refine wpList_store_mid rfl 29 _ _ rfl w.heap.size 0 #[.int .i64 0, .int .i64 0, .int .i64 0, .bool false, .int .i64 0, .bool false, .slice none 0 0] rfl rfl HTH.out (by kernel_rfl) (by simp [Value.oneCell']) ?_)
  refine bodyPost_ret (results_cell_tmp rfl _ _ w.heap.size 0 zeroL _ rfl (World.rangeAt_setCells_same _ w.heap.size 0 zeroL HTH.out) Try.underlying29 rfl (by kernel_rfl)) rfl ⟨rfl, ?_⟩
  exact below_setCells (Nat.le_refl _) _ _ _ ((Below.refl _ _).alloc (Nat.le_refl _) _)
set_option maxHeartbeats 400000 in
theorem decode_short (A : Option Addr) (n c : Nat) (k : Int) (hk : k = 0 ∨ k = 1) (hn : n < 3 + sizeN k) (w : World) :
    Calls Try.prog 79 #[.slice A n c, .int .i64 k] w
      fun e w' => e = .returned (.tuple #[.agg zeroL.toArray, .int .i64 5]) /\ Below w.heap.size w w' := by
  have hp := sizeN_pos k hk
  have HTH := Lib.hid (there_zero w 29)
  go_enter Try.func79, Try.ntmps79
  go_wp2_with fail
  refine (size_any k _).mono ?_
  rintro e w1 ⟨rfl, rfl⟩
  rw [sizeI_eq]
  generalize sizeN k = s at *
  have h0 : ((s : Int) == 0) = false := by simp; omega
  go_wp2_with (refine wpList_store_mid rfl 29 _ _ rfl w.heap.size 0 #[.int .i64 0, .int .i64 0, .int .i64 0, .bool false, .int .i64 0, .bool false, .slice none 0 0] rfl rfl HTH.out (by kernel_rfl) (by simp [Value.oneCell']) ?_)
  refine bodyPost_ret (results_cell_tmp rfl _ _ w.heap.size 0 zeroL _ rfl (World.rangeAt_setCells_same _ w.heap.size 0 zeroL HTH.out) Try.underlying29 rfl (by kernel_rfl)) rfl ⟨rfl, ?_⟩
  exact below_setCells (Nat.le_refl _) _ _ _ ((Below.refl _ _).alloc (Nat.le_refl _) _)
set_option maxHeartbeats 400000 in
theorem decode_sum (A : Option Addr) (m s c : Nat) (k : Int) (hk : k = 0 ∨ k = 1) (hs : sizeN k = s) (xs : List UInt8) (hm : 3 <= m) (w : World) (h : IsB w A (m + s) c xs) (hne : ¬ sumB k (xs.take m) = xs.drop m) :
    Calls Try.prog 79 #[.slice A (m + s) c, .int .i64 k] w
      fun e w' => e = .returned (.tuple #[.agg zeroL.toArray, .int .i64 6]) /\ Below w.heap.size w w' := by
  have hp := sizeN_pos k hk
  have h63 := h.len63
  have HR := Lib.hid (fun W hW => remove_sum k hk A m s c hs xs W hW hne)
  clear hne
  go_enter Try.func79, Try.ntmps79
  go_wp2_with fail
  refine (size_any k _).mono ?_
  rintro e w1 ⟨rfl, rfl⟩
  rw [sizeI_eq, hs]
  rw [hs] at hp
  have h0 : ((s : Int) == 0) = false := by simp; omega
  clear hs
  go_wp2_with fail
  refine (HR.out _ (h.alloc _)).mono ?_
  rintro e w1 ⟨rfl, hb⟩
  have HTH := Lib.hid (there_below (there_zero w 29) (by simp) hb)
  go_wp2_with (refine wpList_store_mid rfl 29 _ _ rfl w.heap.size 0 #[.int .i64 0, .int .i64 0, .int .i64 0, .bool false, .int .i64 0, .bool false, .slice none 0 0] rfl rfl HTH.out (by kernel_rfl) (by simp [Value.oneCell']) ?_)
  refine bodyPost_ret (results_cell_tmp rfl _ _ w.heap.size 0 zeroL _ rfl (World.rangeAt_setCells_same _ w.heap.size 0 zeroL HTH.out) Try.underlying29 rfl (by kernel_rfl)) rfl ⟨rfl, ?_⟩
  exact below_setCells (Nat.le_refl _) _ _ _ (((Below.refl _ _).alloc (Nat.le_refl _) _).trans (hb.mono (by simp)))
set_option maxRecDepth 8000 in
set_option maxHeartbeats 2000000 in
theorem decode_form1 (A : Option Addr) (q s c : Nat) (k : Int) (hk : k = 0 ∨ k = 1) (hs : sizeN k = s) (xs : List UInt8) (b0 b1 b2 : UInt8) (inf : List UInt8) (w : World) (h : IsB w A (q + 3 + s) c xs) (hx : xs.length <= 900000)
    (heq : sumB k (xs.take (q + 3)) = xs.drop (q + 3)) (hbody : xs.take (q + 3) = b0 :: b1 :: b2 :: inf) (hok : okC b1.toNat = false) :
    Calls Try.prog 79 #[.slice A (q + 3 + s) c, .int .i64 k] w fun e w' => e = .returned (.tuple #[.agg zeroL.toArray, .int .i64 4]) /\ Below w.heap.size w w' := by
  have hp := sizeN_pos k hk
  have h63 := h.len63
  have hq : inf.length = q := by have := congrArg List.length hbody; have := IsB.len h; simp at *; omega
  have HR := Lib.hid (fun W hW => remove_ok k hk A (q + 3) s c hs xs W hW hx heq)
  have hP := fun W => bparse_any b1.toNat (UInt8.toNat_lt b1) W
  rw [blkC_eq, hok] at hP
  generalize kindC b1.toNat = kd at *
  generalize seqC b1.toNat = sq at *
  generalize moreC b1.toNat = mo at *
  generalize codeC b1.toNat = co at *
  generalize ansC b1.toNat = an at *
  have HP := Lib.hid hP
  have HQ := Lib.hid (And.intro hq (And.intro hbody hx))
  clear heq hP hq hx
  go_enter Try.func79, Try.ntmps79
  go_wp2_with fail
  refine (size_any k _).mono ?_
  rintro e w1 ⟨rfl, rfl⟩
  rw [sizeI_eq, hs]
  rw [hs] at hp
  have h0 : ((s : Int) == 0) = false := by simp; omega
  clear hs
  go_wp2_with fail
  refine (HR.out _ (h.alloc _)).mono ?_
  rintro e w1 ⟨A1, n1, c1, rfl, ho, hb⟩
  have ho1 := ho.rd
  rw [HQ.out.2.1] at ho1
  have hn1 : n1 = q + 3 := by have := IsB.len ho1; have := HQ.out.1; simp at *; omega
  subst hn1
  obtain ⟨b, off, rfl, hcell⟩ := IsB.cells ho1 (by omega)
  have hx0 : w1.cell? ⟨b, off, none⟩ = some (.int .u8 (b0.toNat : Int)) := hcell 0 b0 rfl
  have hx1 : w1.cell? ⟨b, off + 1, none⟩ = some (.int .u8 (b1.toNat : Int)) := hcell 1 b1 rfl
  have hx2 : w1.cell? ⟨b, off + 2, none⟩ = some (.int .u8 (b2.toNat : Int)) := hcell 2 b2 rfl
  have hb0 : (b0.toNat : Int) < 256 := by have := UInt8.toNat_lt b0; omega
  have hb1 : (b1.toNat : Int) < 256 := by have := UInt8.toNat_lt b1; omega
  have hb2l : (b2.toNat : Int) < 256 := by have := UInt8.toNat_lt b2; omega
  have hcap := ho1.cap
  have hmax := ho1.len63.2
  have hbw1 : Below w.heap.size w w1 := ((Below.refl _ _).alloc (Nat.le_refl _) _).trans (hb.mono (by simp))
  have hz1 : w.heap.size < w1.heap.size := by have := hb.size; simp at this; omega
  have H1 := Lib.hid (And.intro ho1 (And.intro hbw1 (there_below (there_zero w 29) (by simp) hb)))
  have hblt := World.block_lt_of_cell? _ _ hx0
  have hblk : Hid (b ≠ w.heap.size) := by
    have h1 := (ho.lt b rfl).1
    simp at h1
    show b ≠ _
    omega
  clear ho ho1 hb hbw1 hcell
  go_wp2_with fail
  refine (HP.out _).mono ?_
  rintro e w2 ⟨rfl, hb⟩
  have hz2 : w1.heap.size <= w2.heap.size := hb.size
  have hbw2 := H1.out.2.1.trans (hb.mono H1.out.2.1.size)
  have H2 := Lib.hid (And.intro (Rd.below H1.out.1 hb) (And.intro hbw2 (there_below H1.out.2.2 hz1 hb)))
  have hy0 : w2.cell? ⟨b, off, none⟩ = some (.int .u8 (b0.toNat : Int)) := (hb.cell (p := ⟨b, off, none⟩) hblt).trans hx0
  have hy2 : w2.cell? ⟨b, off + 2, none⟩ = some (.int .u8 (b2.toNat : Int)) := (hb.cell (p := ⟨b, off + 2, none⟩) hblt).trans hx2
  have hblt2 : b < w2.heap.size := by omega
  have hy0' : (w2.alloc (.cells #[.int .i64 0, .int .i64 kd, .int .i64 sq, .bool mo, .int .i64 co, .bool an, .slice none 0 0] 29)).cell? ⟨b, off, none⟩ = some (.int .u8 (b0.toNat : Int)) := by rw [World.cell?_alloc_lt _ _ _ hblt2]; exact hy0
  have hy2' : (w2.alloc (.cells #[.int .i64 0, .int .i64 kd, .int .i64 sq, .bool mo, .int .i64 co, .bool an, .slice none 0 0] 29)).cell? ⟨b, off + 2, none⟩ = some (.int .u8 (b2.toNat : Int)) := by rw [World.cell?_alloc_lt _ _ _ hblt2]; exact hy2
  have hz : w.heap.size < w2.heap.size := by omega
  have HTH := Lib.hid (there_below H2.out.2.2 hz ((Below.refl _ _).alloc (Nat.le_refl _) (.cells #[.int .i64 0, .int .i64 kd, .int .i64 sq, .bool mo, .int .i64 co, .bool an, .slice none 0 0] 29)))
  clear hbw2 hb
  go_wp2_with (refine wpList_store_mid rfl 29 _ _ rfl w.heap.size 0 #[.int .i64 0, .int .i64 0, .int .i64 0, .bool false, .int .i64 0, .bool false, .slice none 0 0] rfl rfl HTH.out (by kernel_rfl) (by simp [Value.oneCell']) ?_)
  refine bodyPost_ret (results_cell_tmp rfl _ _ w.heap.size 0 zeroL _ rfl (World.rangeAt_setCells_same _ w.heap.size 0 zeroL HTH.out) Try.underlying29 rfl (by kernel_rfl)) rfl ⟨rfl, ?_⟩
  exact below_setCells (Nat.le_refl _) _ _ _ (H2.out.2.1.alloc H2.out.2.1.size _)
set_option maxRecDepth 8000 in
set_option maxHeartbeats 2000000 in
theorem decode_form2 (A : Option Addr) (q s c : Nat) (k : Int) (hk : k = 0 ∨ k = 1) (hs : sizeN k = s) (xs : List UInt8) (b0 b1 b2 : UInt8) (inf : List UInt8) (w : World) (h : IsB w A (q + 3 + s) c xs) (hx : xs.length <= 900000)
    (heq : sumB k (xs.take (q + 3)) = xs.drop (q + 3)) (hbody : xs.take (q + 3) = b0 :: b1 :: b2 :: inf) (hok : okC b1.toNat = true) (hb2 : b2.toNat ≠ inf.length) :
    Calls Try.prog 79 #[.slice A (q + 3 + s) c, .int .i64 k] w fun e w' => e = .returned (.tuple #[.agg zeroL.toArray, .int .i64 4]) /\ Below w.heap.size w w' := by
  have hp := sizeN_pos k hk
  have h63 := h.len63
  have hq : inf.length = q := by have := congrArg List.length hbody; have := IsB.len h; simp at *; omega
  have HR := Lib.hid (fun W hW => remove_ok k hk A (q + 3) s c hs xs W hW hx heq)
  have hP := fun W => bparse_any b1.toNat (UInt8.toNat_lt b1) W
  rw [blkC_eq, hok] at hP
  generalize kindC b1.toNat = kd at *
  generalize seqC b1.toNat = sq at *
  generalize moreC b1.toNat = mo at *
  generalize codeC b1.toNat = co at *
  generalize ansC b1.toNat = an at *
  have HP := Lib.hid hP
  have HQ := Lib.hid (And.intro hq (And.intro hbody hx))
  clear heq hP hq hx
  go_enter Try.func79, Try.ntmps79
  go_wp2_with fail
  refine (size_any k _).mono ?_
  rintro e w1 ⟨rfl, rfl⟩
  rw [sizeI_eq, hs]
  rw [hs] at hp
  have h0 : ((s : Int) == 0) = false := by simp; omega
  clear hs
  go_wp2_with fail
  refine (HR.out _ (h.alloc _)).mono ?_
  rintro e w1 ⟨A1, n1, c1, rfl, ho, hb⟩
  have ho1 := ho.rd
  rw [HQ.out.2.1] at ho1
  have hn1 : n1 = q + 3 := by have := IsB.len ho1; have := HQ.out.1; simp at *; omega
  subst hn1
  obtain ⟨b, off, rfl, hcell⟩ := IsB.cells ho1 (by omega)
  have hx0 : w1.cell? ⟨b, off, none⟩ = some (.int .u8 (b0.toNat : Int)) := hcell 0 b0 rfl
  have hx1 : w1.cell? ⟨b, off + 1, none⟩ = some (.int .u8 (b1.toNat : Int)) := hcell 1 b1 rfl
  have hx2 : w1.cell? ⟨b, off + 2, none⟩ = some (.int .u8 (b2.toNat : Int)) := hcell 2 b2 rfl
  have hb0 : (b0.toNat : Int) < 256 := by have := UInt8.toNat_lt b0; omega
  have hb1 : (b1.toNat : Int) < 256 := by have := UInt8.toNat_lt b1; omega
  have hb2l : (b2.toNat : Int) < 256 := by have := UInt8.toNat_lt b2; omega
  have hcap := ho1.cap
  have hmax := ho1.len63.2
  have hbw1 : Below w.heap.size w w1 := ((Below.refl _ _).alloc (Nat.le_refl _) _).trans (hb.mono (by simp))
  have hz1 : w.heap.size < w1.heap.size := by have := hb.size; simp at this; omega
  have H1 := Lib.hid (And.intro ho1 (And.intro hbw1 (there_below (there_zero w 29) (by simp) hb)))
  have hblt := World.block_lt_of_cell? _ _ hx0
  have hblk : Hid (b ≠ w.heap.size) := by
    have h1 := (ho.lt b rfl).1
    simp at h1
    show b ≠ _
    omega
  clear ho ho1 hb hbw1 hcell
  go_wp2_with fail
  refine (HP.out _).mono ?_
  rintro e w2 ⟨rfl, hb⟩
  have hz2 : w1.heap.size <= w2.heap.size := hb.size
  have hbw2 := H1.out.2.1.trans (hb.mono H1.out.2.1.size)
  have H2 := Lib.hid (And.intro (Rd.below H1.out.1 hb) (And.intro hbw2 (there_below H1.out.2.2 hz1 hb)))
  have hy0 : w2.cell? ⟨b, off, none⟩ = some (.int .u8 (b0.toNat : Int)) := (hb.cell (p := ⟨b, off, none⟩) hblt).trans hx0
  have hy2 : w2.cell? ⟨b, off + 2, none⟩ = some (.int .u8 (b2.toNat : Int)) := (hb.cell (p := ⟨b, off + 2, none⟩) hblt).trans hx2
  have hblt2 : b < w2.heap.size := by omega
  have hy0' : (w2.alloc (.cells #[.int .i64 0, .int .i64 kd, .int .i64 sq, .bool mo, .int .i64 co, .bool an, .slice none 0 0] 29)).cell? ⟨b, off, none⟩ = some (.int .u8 (b0.toNat : Int)) := by rw [World.cell?_alloc_lt _ _ _ hblt2]; exact hy0
  have hy2' : (w2.alloc (.cells #[.int .i64 0, .int .i64 kd, .int .i64 sq, .bool mo, .int .i64 co, .bool an, .slice none 0 0] 29)).cell? ⟨b, off + 2, none⟩ = some (.int .u8 (b2.toNat : Int)) := by rw [World.cell?_alloc_lt _ _ _ hblt2]; exact hy2
  have hz : w.heap.size < w2.heap.size := by omega
  have HTH := Lib.hid (there_below H2.out.2.2 hz ((Below.refl _ _).alloc (Nat.le_refl _) (.cells #[.int .i64 0, .int .i64 kd, .int .i64 sq, .bool mo, .int .i64 co, .bool an, .slice none 0 0] 29)))
  clear hbw2 hb
  have hne : ((b2.toNat : Int) != (q : Int)) = true := by have := HQ.out.1; simp; omega
  have hne' : (b2.toNat != q) = true := by have := HQ.out.1; simp; omega
  clear hb2
  go_wp2_with (refine wpList_store_mid rfl 29 _ _ rfl w.heap.size 0 #[.int .i64 0, .int .i64 0, .int .i64 0, .bool false, .int .i64 0, .bool false, .slice none 0 0] rfl rfl HTH.out (by kernel_rfl) (by simp [Value.oneCell']) ?_)
  refine bodyPost_ret (results_cell_tmp rfl _ _ w.heap.size 0 zeroL _ rfl (World.rangeAt_setCells_same _ w.heap.size 0 zeroL HTH.out) Try.underlying29 rfl (by kernel_rfl)) rfl ⟨rfl, ?_⟩
  exact below_setCells (Nat.le_refl _) _ _ _ (H2.out.2.1.alloc H2.out.2.1.size _)
set_option maxRecDepth 8000 in
set_option maxHeartbeats 2000000 in
theorem decode_bad (A : Option Addr) (q s c : Nat) (k : Int) (hk : k = 0 ∨ k = 1) (hs : sizeN k = s) (xs : List UInt8) (b0 b1 b2 : UInt8) (inf : List UInt8) (w : World) (h : IsB w A (q + 3 + s) c xs) (hx : xs.length <= 900000)
    (heq : sumB k (xs.take (q + 3)) = xs.drop (q + 3)) (hbody : xs.take (q + 3) = b0 :: b1 :: b2 :: inf) (hok : okC b1.toNat = true) (hb2 : b2.toNat = inf.length) (er : Int) (her : checkE b0.toNat (kindC b1.toNat) (seqC b1.toNat) (moreC b1.toNat) (codeC b1.toNat) (ansC b1.toNat) inf = er) (hne0 : (er != 0) = true) :
    Calls Try.prog 79 #[.slice A (q + 3 + s) c, .int .i64 k] w fun e w' => e = .returned (.tuple #[.agg zeroL.toArray, .int .i64 er]) /\ Below w.heap.size w w' := by
  have hp := sizeN_pos k hk
  have h63 := h.len63
  have hq : inf.length = q := by have := congrArg List.length hbody; have := IsB.len h; simp at *; omega
  have HR := Lib.hid (fun W hW => remove_ok k hk A (q + 3) s c hs xs W hW hx heq)
  have hP := fun W => bparse_any b1.toNat (UInt8.toNat_lt b1) W
  rw [blkC_eq, hok] at hP
  generalize kindC b1.toNat = kd at *
  generalize seqC b1.toNat = sq at *
  generalize moreC b1.toNat = mo at *
  generalize codeC b1.toNat = co at *
  generalize ansC b1.toNat = an at *
  have HP := Lib.hid hP
  have HQ := Lib.hid (And.intro hq (And.intro hbody hx))
  clear heq hP hq hx
  go_enter Try.func79, Try.ntmps79
  go_wp2_with fail
  refine (size_any k _).mono ?_
  rintro e w1 ⟨rfl, rfl⟩
  rw [sizeI_eq, hs]
  rw [hs] at hp
  have h0 : ((s : Int) == 0) = false := by simp; omega
  clear hs
  go_wp2_with fail
  refine (HR.out _ (h.alloc _)).mono ?_
  rintro e w1 ⟨A1, n1, c1, rfl, ho, hb⟩
  have ho1 := ho.rd
  rw [HQ.out.2.1] at ho1
  have hn1 : n1 = q + 3 := by have := IsB.len ho1; have := HQ.out.1; simp at *; omega
  subst hn1
  obtain ⟨b, off, rfl, hcell⟩ := IsB.cells ho1 (by omega)
  have hx0 : w1.cell? ⟨b, off, none⟩ = some (.int .u8 (b0.toNat : Int)) := hcell 0 b0 rfl
  have hx1 : w1.cell? ⟨b, off + 1, none⟩ = some (.int .u8 (b1.toNat : Int)) := hcell 1 b1 rfl
  have hx2 : w1.cell? ⟨b, off + 2, none⟩ = some (.int .u8 (b2.toNat : Int)) := hcell 2 b2 rfl
  have hb0 : (b0.toNat : Int) < 256 := by have := UInt8.toNat_lt b0; omega
  have hb1 : (b1.toNat : Int) < 256 := by have := UInt8.toNat_lt b1; omega
  have hb2l : (b2.toNat : Int) < 256 := by have := UInt8.toNat_lt b2; omega
  have hcap := ho1.cap
  have hmax := ho1.len63.2
  have hbw1 : Below w.heap.size w w1 := ((Below.refl _ _).alloc (Nat.le_refl _) _).trans (hb.mono (by simp))
  have hz1 : w.heap.size < w1.heap.size := by have := hb.size; simp at this; omega
  have H1 := Lib.hid (And.intro ho1 (And.intro hbw1 (there_below (there_zero w 29) (by simp) hb)))
  have hblt := World.block_lt_of_cell? _ _ hx0
  have hblk : Hid (b ≠ w.heap.size) := by
    have h1 := (ho.lt b rfl).1
    simp at h1
    show b ≠ _
    omega
  clear ho ho1 hb hbw1 hcell
  go_wp2_with fail
  refine (HP.out _).mono ?_
  rintro e w2 ⟨rfl, hb⟩
  have hz2 : w1.heap.size <= w2.heap.size := hb.size
  have hbw2 := H1.out.2.1.trans (hb.mono H1.out.2.1.size)
  have H2 := Lib.hid (And.intro (Rd.below H1.out.1 hb) (And.intro hbw2 (there_below H1.out.2.2 hz1 hb)))
  have hy0 : w2.cell? ⟨b, off, none⟩ = some (.int .u8 (b0.toNat : Int)) := (hb.cell (p := ⟨b, off, none⟩) hblt).trans hx0
  have hy2 : w2.cell? ⟨b, off + 2, none⟩ = some (.int .u8 (b2.toNat : Int)) := (hb.cell (p := ⟨b, off + 2, none⟩) hblt).trans hx2
  have hblt2 : b < w2.heap.size := by omega
  have hy0' : (w2.alloc (.cells #[.int .i64 0, .int .i64 kd, .int .i64 sq, .bool mo, .int .i64 co, .bool an, .slice none 0 0] 29)).cell? ⟨b, off, none⟩ = some (.int .u8 (b0.toNat : Int)) := by rw [World.cell?_alloc_lt _ _ _ hblt2]; exact hy0
  have hy2' : (w2.alloc (.cells #[.int .i64 0, .int .i64 kd, .int .i64 sq, .bool mo, .int .i64 co, .bool an, .slice none 0 0] 29)).cell? ⟨b, off + 2, none⟩ = some (.int .u8 (b2.toNat : Int)) := by rw [World.cell?_alloc_lt _ _ _ hblt2]; exact hy2
  have hz : w.heap.size < w2.heap.size := by omega
  have HTH := Lib.hid (there_below H2.out.2.2 hz ((Below.refl _ _).alloc (Nat.le_refl _) (.cells #[.int .i64 0, .int .i64 kd, .int .i64 sq, .bool mo, .int .i64 co, .bool an, .slice none 0 0] 29)))
  clear hbw2 hb
  have hb2' : (b2.toNat : Int) = (q : Int) := by have := HQ.out.1; omega
  have hb2n : b2.toNat = q := by omega
  have hth : ((w2.alloc (.cells #[.int .i64 0, .int .i64 kd, .int .i64 sq, .bool mo, .int .i64 co, .bool an, .slice none 0 0] 29)).drew).there w2.heap.size 0 7 := there_of_cells (cs := #[.int .i64 0, .int .i64 kd, .int .i64 sq, .bool mo, .int .i64 co, .bool an, .slice none 0 0]) (t := 29) (heap_alloc_new w2 _) rfl
  have hbk := hblk.out
  have hbg : b ≠ w2.heap.size := by omega
  have HC : Hid (∀ (A : Option Addr) (n c : Nat) (W : World), IsB W A n c inf -> Calls Try.prog 94 #[.agg #[.int .i64 (b0.toNat : Int), .int .i64 kd, .int .i64 sq, .bool mo, .int .i64 co, .bool an, .slice A n c]] W
      fun e w' => e = .returned (.int .i64 er) /\ Below W.heap.size W w') := fun A n c W hW => by
    have := check_any b0.toNat kd sq mo co an A n c inf W hW
    rwa [her] at this
  clear her
  rw [hb2n] at *
  go_wp2_with fail
  refine wp_region_list' (T := TG w2.heap.size (.int .i64 (b0.toNat : Int)) inf) [St.is (.slice (some ⟨b, off, none⟩) (q + 3) c1), St.is (.pointer (some ⟨b, off, none⟩)), St.is (.int .u8 (b0.toNat : Int)), St.is (.int .i64 (b0.toNat : Int)), St.is (.slice (some ⟨b, off, none⟩) (q + 3) c1), St.pred (fun v' w' => ∃ A' c', v' = .slice A' q c' /\ IsB w' A' q c' inf /\ ∀ b off, A' = some ⟨b, off, none⟩ -> b ≠ w2.heap.size) (fun _ _ _ h ⟨A, c, e, r, s⟩ => ⟨A, c, e, grown_keepB h.grown r s, s⟩), St.pred (fun v' w' => ∃ A' n' c', v' = .slice A' n' c' /\ IsB w' A' n' c' inf /\ ∀ b off, A' = some ⟨b, off, none⟩ -> w2.heap.size < b) (fun _ _ _ h ⟨A, n, c, e, r, s⟩ => ⟨A, n, c, e, grown_keepB h.grown r (fun b off e => by have := s b off e; omega), s⟩), St.is (.pointer (some ⟨w2.heap.size, 0, none⟩)), St.pred (fun v' w' => w'.cell? ⟨w2.heap.size, 0, none⟩ = some (.int .i64 (b0.toNat : Int))) (fun _ _ _ h q => h.zero q), St.is (.pointer (some ⟨w2.heap.size, 6, none⟩)), St.pred (fun v' w' => Six w2.heap.size inf w') (fun _ _ _ h q => h.six q)] (by kernel_rfl) (by kernel_rfl) (TG.refl) (TG.trans) ⟨?s0, ?s1, ?s2, ?s3, ?s4, ?s5, ?s6, ?s7, ?s8, ?s9, ?s10, trivial⟩ ?hfin
  case s0 =>
    intro a w' K hT hf hw hK
    refine step_free ?_ ?_
    . rfl
    have h7 : a.tmps[7]?.getD undef = .slice (some ⟨b, off, none⟩) (q + 3) c1 := hf 7 (by kernel_rfl)
    clear hf hw
    go_simp
    exact hK _ _ (TG.refl _) rfl
  case s1 =>
    intro a w' K hT hf hw hK
    refine step_free ?_ ?_
    . rfl
    have h54 : a.tmps[54]?.getD undef = .slice (some ⟨b, off, none⟩) (q + 3) c1 := hw.1
    clear hf hw
    have hq0 : (0 : Int) < (q : Int) + 3 := by omega
    go_simp
    exact hK _ _ (TG.refl _) rfl
  case s2 =>
    intro a w' K hT hf hw hK
    refine step_free ?_ ?_
    . rfl
    have h55 : a.tmps[55]?.getD undef = .pointer (some ⟨b, off, none⟩) := hw.1
    clear hf hw
    have hcc : w'.cell? ⟨b, off, none⟩ = some (.int .u8 (b0.toNat : Int)) := (World.cell?_of_block (a := ⟨b, off, none⟩) (hT.grown.block b (by simp; omega) (fun e => by injection e with e; omega))).trans hy0'
    go_simp
    exact hK _ _ (TG.refl _) rfl
  case s3 =>
    intro a w' K hT hf hw hK
    refine step_free ?_ ?_
    . rfl
    have h56 : a.tmps[56]?.getD undef = .int .u8 (b0.toNat : Int) := hw.1
    clear hf hw
    have hwr : IntKind.i64.wrap (b0.toNat : Int) = (b0.toNat : Int) := IntWalk.i64_in _ (by omega)
    go_simp
    exact hK _ _ (TG.refl _) rfl
  case s4 =>
    intro a w' K hT hf hw hK
    refine step_free ?_ ?_
    . rfl
    have h7 : a.tmps[7]?.getD undef = .slice (some ⟨b, off, none⟩) (q + 3) c1 := hf 7 (by kernel_rfl)
    clear hf hw
    go_simp
    exact hK _ _ (TG.refl _) rfl
  case s5 =>
    intro a w' K hT hf hw hK
    refine step_free ?_ ?_
    . rfl
    have h58 : a.tmps[58]?.getD undef = .slice (some ⟨b, off, none⟩) (q + 3) c1 := hw.1
    clear hf hw
    have hrr : IsB w' (some ⟨b, off, none⟩) (q + 3) c1 (b0 :: b1 :: b2 :: inf) := grown_keepB hT.grown (Rd.drew (Rd.alloc H2.out.1 _)) (fun b' off' e => by injection e with e; injection e with e1 e2; omega)
    have hcut := IsB.cut hrr (k := 3) (by omega)
    rw [show q + 3 - 3 = q by omega] at hcut
    have hcut : IsB w' (if c1 = 3 then some ⟨b, off, none⟩ else some ⟨b, off + 3, none⟩) q (c1 - 3) inf := hcut
    have hcutg : ∀ b' off', (if c1 = 3 then some (⟨b, off, none⟩ : Addr) else some ⟨b, off + 3, none⟩) = some ⟨b', off', none⟩ -> b' ≠ w2.heap.size := by intro b' off' e; split at e <;> (injection e with e; injection e with e1 e2; omega)
    have HCC := Lib.hid (And.intro hcut hcutg)
    clear hcut hcutg hrr
    go_simp
    refine hK _ _ (TG.refl _) ?_
    exact ⟨_, _, rfl, HCC.out.1, HCC.out.2⟩
  case s6 =>
    intro a w' K hT hf hw hK
    refine step_free ?_ ?_
    . rfl
    have h59 := hw.1
    clear hf hw
    obtain ⟨A5, c5, h59, h5r, h5g⟩ := h59
    have h59 : a.tmps[59]?.getD undef = .slice A5 q c5 := h59
    have hgl : w2.heap.size < w'.heap.size := by have := hT.grown.size; simp at this; omega
    go_simp
    refine (clone_any A5 q c5 inf _ h5r (by have := HQ.out.1; have := HQ.out.2; simp at *; omega)).mono ?_
    rintro e w3 ⟨A3, n3, c3, rfl, ho3, hb3⟩
    refine hK _ _ (TG.of_below hgl hb3) ?_
    refine ⟨A3, n3, c3, rfl, ho3.rd, fun b off e => ?_⟩
    subst e
    have := (ho3.lt b rfl).1
    omega
  case s7 =>
    intro a w' K hT hf hw hK
    refine step_free ?_ ?_
    . rfl
    have h9 : a.tmps[9]?.getD undef = .pointer (some ⟨w2.heap.size, 0, none⟩) := hf 9 (by kernel_rfl)
    clear hf hw
    go_simp
    exact hK _ _ (TG.refl _) rfl
  case s8 =>
    intro a w' K hT hf hw hK
    refine step_free ?_ ?_
    . rfl
    have h61 : a.tmps[61]?.getD undef = .pointer (some ⟨w2.heap.size, 0, none⟩) := hw.1
    have h57 : a.tmps[57]?.getD undef = .int .i64 (b0.toNat : Int) := hw.2.1
    clear hf hw
    obtain ⟨u0, hu0⟩ := Option.isSome_iff_exists.1 (hT.there hth 0 (by omega)).1
    have hf0 := (hT.there hth 0 (by omega)).2
    simp only [Nat.zero_add] at hu0 hf0
    go_simp
    exact hK undef _ (TG.set0 (hT.there hth)).1 (TG.set0 (v0 := .int .i64 (b0.toNat : Int)) (inf := inf) (hT.there hth)).2
  case s9 =>
    intro a w' K hT hf hw hK
    refine step_free ?_ ?_
    . rfl
    have h9 : a.tmps[9]?.getD undef = .pointer (some ⟨w2.heap.size, 0, none⟩) := hf 9 (by kernel_rfl)
    clear hf hw
    go_simp
    exact hK _ _ (TG.refl _) rfl
  case s10 =>
    intro a w' K hT hf hw hK
    refine step_free ?_ ?_
    . rfl
    have h62 : a.tmps[62]?.getD undef = .pointer (some ⟨w2.heap.size, 6, none⟩) := hw.1
    have h60 := hw.2.1
    clear hf hw
    obtain ⟨A6, n6, c6, h60, h6r, h6g⟩ := h60
    have h60 : a.tmps[60]?.getD undef = .slice A6 n6 c6 := h60
    obtain ⟨u0, hu0⟩ := Option.isSome_iff_exists.1 (hT.there hth 6 (by omega)).1
    have hf0 := (hT.there hth 6 (by omega)).2
    simp only [Nat.zero_add] at hu0 hf0
    go_simp
    exact hK undef _ (TG.set6 (hT.there hth) h6r h6g).1 (TG.set6 (v0 := .int .i64 (b0.toNat : Int)) (hT.there hth) h6r h6g).2
  case hfin =>
    rintro vs w' hT ⟨f0, f1, f2, f3, f4, f5, f6, f7, f8, f9, f10, -⟩
    have e0 : vs 0 = .slice (some ⟨b, off, none⟩) (q + 3) c1 := f0
    have e1 : vs 1 = .pointer (some ⟨b, off, none⟩) := f1
    have e2 : vs 2 = .int .u8 (b0.toNat : Int) := f2
    have e3 : vs 3 = .int .i64 (b0.toNat : Int) := f3
    have e4 : vs 4 = .slice (some ⟨b, off, none⟩) (q + 3) c1 := f4
    have e7 : vs 7 = .pointer (some ⟨w2.heap.size, 0, none⟩) := f7
    have e9 : vs 9 = .pointer (some ⟨w2.heap.size, 6, none⟩) := f9
    simp only [putsAt, Act.put, e0, e1, e2, e3, e4, e7, e9]
    simp only [List.setIfInBounds_toArray, List.set_cons_succ, List.set_cons_zero]
    clear e0 e1 e2 e3 e4 e7 e9 f0 f1 f2 f3 f4 f7 f9
    have hz0 : w'.cell? ⟨w2.heap.size, 0, none⟩ = some (.int .i64 (b0.toNat : Int)) := f8
    obtain ⟨A6, n6, c6, hz6, hr6, hs6⟩ : Six w2.heap.size inf w' := f10
    have hmid : ∀ j v, 1 <= j -> j <= 5 -> [.int .i64 0, .int .i64 kd, .int .i64 sq, .bool mo, .int .i64 co, .bool an, .slice none 0 0][j]? = some v -> w'.cell? ⟨w2.heap.size, j, none⟩ = some v := fun j v h1 h5 hv => (hT.mid j h1 h5).trans ((cell_new w2 _ _ j).trans hv)
    have hz1 := hmid 1 _ (by omega) (by omega) rfl
    have hz2 := hmid 2 _ (by omega) (by omega) rfl
    have hz3 := hmid 3 _ (by omega) (by omega) rfl
    have hz4 := hmid 4 _ (by omega) (by omega) rfl
    have hz5 := hmid 5 _ (by omega) (by omega) rfl
    have hsz : w2.heap.size < w'.heap.size := by have := hT.grown.size; simp at this; omega
    have hbw' : Below w.heap.size w w' := (H2.out.2.1.alloc H2.out.2.1.size _).drew.grown hT.grown (by have := H2.out.2.1.size; simp; omega) (fun k hk => by injection hk with hk; omega)
    have hthR : w'.there w.heap.size 0 7 := fun j hj => ⟨by rw [World.cell?_of_block (a := ⟨w.heap.size, 0 + j, none⟩) (hT.grown.block w.heap.size (by simp; omega) (fun e => by injection e with e; omega))]; exact (HTH.out j hj).1, by rw [World.frozen?_of_block (a := ⟨w.heap.size, 0 + j, none⟩) (hT.grown.block w.heap.size (by simp; omega) (fun e => by injection e with e; omega))]; exact (HTH.out j hj).2⟩
    have HW := Lib.hid (And.intro hbw' (And.intro hthR (And.intro hr6 hs6)))
    clear f8 hmid hbw' hthR hr6 hs6 f5 f6 hT
    go_wp2_with fail
    refine (HC.out _ _ _ _ HW.out.2.2.1).mono ?_
    rintro e w5 ⟨rfl, hb5⟩
    have hzR : w.heap.size < w'.heap.size := by omega
    have HTH5 := Lib.hid (there_below HW.out.2.1 hzR hb5)
    have HB5 := Lib.hid (HW.out.1.trans (hb5.mono HW.out.1.size))
    go_wp2_with (refine wpList_store_mid rfl 29 _ _ rfl w.heap.size 0 #[.int .i64 0, .int .i64 0, .int .i64 0, .bool false, .int .i64 0, .bool false, .slice none 0 0] rfl rfl HTH5.out (by kernel_rfl) (by simp [Value.oneCell']) ?_)
    refine bodyPost_ret (results_cell_tmp rfl _ _ w.heap.size 0 zeroL _ rfl (World.rangeAt_setCells_same _ w.heap.size 0 zeroL HTH5.out) Try.underlying29 rfl (by kernel_rfl)) rfl ⟨rfl, ?_⟩
    exact below_setCells (Nat.le_refl _) _ _ _ HB5.out
set_option maxRecDepth 8000 in
set_option maxHeartbeats 2000000 in
theorem decode_ok (A : Option Addr) (q s c : Nat) (k : Int) (hk : k = 0 ∨ k = 1) (hs : sizeN k = s) (xs : List UInt8) (b0 b1 b2 : UInt8) (inf : List UInt8) (w : World) (h : IsB w A (q + 3 + s) c xs) (hx : xs.length <= 900000)
    (heq : sumB k (xs.take (q + 3)) = xs.drop (q + 3)) (hbody : xs.take (q + 3) = b0 :: b1 :: b2 :: inf) (hok : okC b1.toNat = true) (hb2 : b2.toNat = inf.length) (her : checkE b0.toNat (kindC b1.toNat) (seqC b1.toNat) (moreC b1.toNat) (codeC b1.toNat) (ansC b1.toNat) inf = 0) :
    Calls Try.prog 79 #[.slice A (q + 3 + s) c, .int .i64 k] w fun e w' => ∃ A6 n6 c6, e = .returned (.tuple #[.agg #[.int .i64 (b0.toNat : Int), .int .i64 (kindC b1.toNat), .int .i64 (seqC b1.toNat), .bool (moreC b1.toNat), .int .i64 (codeC b1.toNat), .bool (ansC b1.toNat), .slice A6 n6 c6], .int .i64 0]) /\ IsB w' A6 n6 c6 inf /\ Below w.heap.size w w' /\ ∀ b off, A6 = some ⟨b, off, none⟩ -> w.heap.size <= b := by
  have hp := sizeN_pos k hk
  have h63 := h.len63
  have hq : inf.length = q := by have := congrArg List.length hbody; have := IsB.len h; simp at *; omega
  have HR := Lib.hid (fun W hW => remove_ok k hk A (q + 3) s c hs xs W hW hx heq)
  have hP := fun W => bparse_any b1.toNat (UInt8.toNat_lt b1) W
  rw [blkC_eq, hok] at hP
  generalize kindC b1.toNat = kd at *
  generalize seqC b1.toNat = sq at *
  generalize moreC b1.toNat = mo at *
  generalize codeC b1.toNat = co at *
  generalize ansC b1.toNat = an at *
  have HP := Lib.hid hP
  have HQ := Lib.hid (And.intro hq (And.intro hbody hx))
  clear heq hP hq hx
  go_enter Try.func79, Try.ntmps79
  go_wp2_with fail
  refine (size_any k _).mono ?_
  rintro e w1 ⟨rfl, rfl⟩
  rw [sizeI_eq, hs]
  rw [hs] at hp
  have h0 : ((s : Int) == 0) = false := by simp; omega
  clear hs
  go_wp2_with fail
  refine (HR.out _ (h.alloc _)).mono ?_
  rintro e w1 ⟨A1, n1, c1, rfl, ho, hb⟩
  have ho1 := ho.rd
  rw [HQ.out.2.1] at ho1
  have hn1 : n1 = q + 3 := by have := IsB.len ho1; have := HQ.out.1; simp at *; omega
  subst hn1
  obtain ⟨b, off, rfl, hcell⟩ := IsB.cells ho1 (by omega)
  have hx0 : w1.cell? ⟨b, off, none⟩ = some (.int .u8 (b0.toNat : Int)) := hcell 0 b0 rfl
  have hx1 : w1.cell? ⟨b, off + 1, none⟩ = some (.int .u8 (b1.toNat : Int)) := hcell 1 b1 rfl
  have hx2 : w1.cell? ⟨b, off + 2, none⟩ = some (.int .u8 (b2.toNat : Int)) := hcell 2 b2 rfl
  have hb0 : (b0.toNat : Int) < 256 := by have := UInt8.toNat_lt b0; omega
  have hb1 : (b1.toNat : Int) < 256 := by have := UInt8.toNat_lt b1; omega
  have hb2l : (b2.toNat : Int) < 256 := by have := UInt8.toNat_lt b2; omega
  have hcap := ho1.cap
  have hmax := ho1.len63.2
  have hbw1 : Below w.heap.size w w1 := ((Below.refl _ _).alloc (Nat.le_refl _) _).trans (hb.mono (by simp))
  have hz1 : w.heap.size < w1.heap.size := by have := hb.size; simp at this; omega
  have H1 := Lib.hid (And.intro ho1 (And.intro hbw1 (there_below (there_zero w 29) (by simp) hb)))
  have hblt := World.block_lt_of_cell? _ _ hx0
  have hblk : Hid (b ≠ w.heap.size) := by
    have h1 := (ho.lt b rfl).1
    simp at h1
    show b ≠ _
    omega
  clear ho ho1 hb hbw1 hcell
  go_wp2_with fail
  refine (HP.out _).mono ?_
  rintro e w2 ⟨rfl, hb⟩
  have hz2 : w1.heap.size <= w2.heap.size := hb.size
  have hbw2 := H1.out.2.1.trans (hb.mono H1.out.2.1.size)
  have H2 := Lib.hid (And.intro (Rd.below H1.out.1 hb) (And.intro hbw2 (there_below H1.out.2.2 hz1 hb)))
  have hy0 : w2.cell? ⟨b, off, none⟩ = some (.int .u8 (b0.toNat : Int)) := (hb.cell (p := ⟨b, off, none⟩) hblt).trans hx0
  have hy2 : w2.cell? ⟨b, off + 2, none⟩ = some (.int .u8 (b2.toNat : Int)) := (hb.cell (p := ⟨b, off + 2, none⟩) hblt).trans hx2
  have hblt2 : b < w2.heap.size := by omega
  have hy0' : (w2.alloc (.cells #[.int .i64 0, .int .i64 kd, .int .i64 sq, .bool mo, .int .i64 co, .bool an, .slice none 0 0] 29)).cell? ⟨b, off, none⟩ = some (.int .u8 (b0.toNat : Int)) := by rw [World.cell?_alloc_lt _ _ _ hblt2]; exact hy0
  have hy2' : (w2.alloc (.cells #[.int .i64 0, .int .i64 kd, .int .i64 sq, .bool mo, .int .i64 co, .bool an, .slice none 0 0] 29)).cell? ⟨b, off + 2, none⟩ = some (.int .u8 (b2.toNat : Int)) := by rw [World.cell?_alloc_lt _ _ _ hblt2]; exact hy2
  have hz : w.heap.size < w2.heap.size := by omega
  have HTH := Lib.hid (there_below H2.out.2.2 hz ((Below.refl _ _).alloc (Nat.le_refl _) (.cells #[.int .i64 0, .int .i64 kd, .int .i64 sq, .bool mo, .int .i64 co, .bool an, .slice none 0 0] 29)))
  clear hbw2 hb
  have hb2' : (b2.toNat : Int) = (q : Int) := by have := HQ.out.1; omega
  have hb2n : b2.toNat = q := by omega
  have hth : ((w2.alloc (.cells #[.int .i64 0, .int .i64 kd, .int .i64 sq, .bool mo, .int .i64 co, .bool an, .slice none 0 0] 29)).drew).there w2.heap.size 0 7 := there_of_cells (cs := #[.int .i64 0, .int .i64 kd, .int .i64 sq, .bool mo, .int .i64 co, .bool an, .slice none 0 0]) (t := 29) (heap_alloc_new w2 _) rfl
  have hbk := hblk.out
  have hbg : b ≠ w2.heap.size := by omega
  have HC : Hid (∀ (A : Option Addr) (n c : Nat) (W : World), IsB W A n c inf -> Calls Try.prog 94 #[.agg #[.int .i64 (b0.toNat : Int), .int .i64 kd, .int .i64 sq, .bool mo, .int .i64 co, .bool an, .slice A n c]] W
      fun e w' => e = .returned (.int .i64 0) /\ Below W.heap.size W w') := fun A n c W hW => by
    have := check_any b0.toNat kd sq mo co an A n c inf W hW
    rwa [her] at this
  clear her
  rw [hb2n] at *
  go_wp2_with fail
  refine wp_region_list' (T := TG w2.heap.size (.int .i64 (b0.toNat : Int)) inf) [St.is (.slice (some ⟨b, off, none⟩) (q + 3) c1), St.is (.pointer (some ⟨b, off, none⟩)), St.is (.int .u8 (b0.toNat : Int)), St.is (.int .i64 (b0.toNat : Int)), St.is (.slice (some ⟨b, off, none⟩) (q + 3) c1), St.pred (fun v' w' => ∃ A' c', v' = .slice A' q c' /\ IsB w' A' q c' inf /\ ∀ b off, A' = some ⟨b, off, none⟩ -> b ≠ w2.heap.size) (fun _ _ _ h ⟨A, c, e, r, s⟩ => ⟨A, c, e, grown_keepB h.grown r s, s⟩), St.pred (fun v' w' => ∃ A' n' c', v' = .slice A' n' c' /\ IsB w' A' n' c' inf /\ ∀ b off, A' = some ⟨b, off, none⟩ -> w2.heap.size < b) (fun _ _ _ h ⟨A, n, c, e, r, s⟩ => ⟨A, n, c, e, grown_keepB h.grown r (fun b off e => by have := s b off e; omega), s⟩), St.is (.pointer (some ⟨w2.heap.size, 0, none⟩)), St.pred (fun v' w' => w'.cell? ⟨w2.heap.size, 0, none⟩ = some (.int .i64 (b0.toNat : Int))) (fun _ _ _ h q => h.zero q), St.is (.pointer (some ⟨w2.heap.size, 6, none⟩)), St.pred (fun v' w' => Six w2.heap.size inf w') (fun _ _ _ h q => h.six q)] (by kernel_rfl) (by kernel_rfl) (TG.refl) (TG.trans) ⟨?s0, ?s1, ?s2, ?s3, ?s4, ?s5, ?s6, ?s7, ?s8, ?s9, ?s10, trivial⟩ ?hfin
  case s0 =>
    intro a w' K hT hf hw hK
    refine step_free ?_ ?_
    . rfl
    have h7 : a.tmps[7]?.getD undef = .slice (some ⟨b, off, none⟩) (q + 3) c1 := hf 7 (by kernel_rfl)
    clear hf hw
    go_simp
    exact hK _ _ (TG.refl _) rfl
  case s1 =>
    intro a w' K hT hf hw hK
    refine step_free ?_ ?_
    . rfl
    have h54 : a.tmps[54]?.getD undef = .slice (some ⟨b, off, none⟩) (q + 3) c1 := hw.1
    clear hf hw
    have hq0 : (0 : Int) < (q : Int) + 3 := by omega
    go_simp
    exact hK _ _ (TG.refl _) rfl
  case s2 =>
    intro a w' K hT hf hw hK
    refine step_free ?_ ?_
    . rfl
    have h55 : a.tmps[55]?.getD undef = .pointer (some ⟨b, off, none⟩) := hw.1
    clear hf hw
    have hcc : w'.cell? ⟨b, off, none⟩ = some (.int .u8 (b0.toNat : Int)) := (World.cell?_of_block (a := ⟨b, off, none⟩) (hT.grown.block b (by simp; omega) (fun e => by injection e with e; omega))).trans hy0'
    go_simp
    exact hK _ _ (TG.refl _) rfl
  case s3 =>
    intro a w' K hT hf hw hK
    refine step_free ?_ ?_
    . rfl
    have h56 : a.tmps[56]?.getD undef = .int .u8 (b0.toNat : Int) := hw.1
    clear hf hw
    have hwr : IntKind.i64.wrap (b0.toNat : Int) = (b0.toNat : Int) := IntWalk.i64_in _ (by omega)
    go_simp
    exact hK _ _ (TG.refl _) rfl
  case s4 =>
    intro a w' K hT hf hw hK
    refine step_free ?_ ?_
    . rfl
    have h7 : a.tmps[7]?.getD undef = .slice (some ⟨b, off, none⟩) (q + 3) c1 := hf 7 (by kernel_rfl)
    clear hf hw
    go_simp
    exact hK _ _ (TG.refl _) rfl
  case s5 =>
    intro a w' K hT hf hw hK
    refine step_free ?_ ?_
    . rfl
    have h58 : a.tmps[58]?.getD undef = .slice (some ⟨b, off, none⟩) (q + 3) c1 := hw.1
    clear hf hw
    have hrr : IsB w' (some ⟨b, off, none⟩) (q + 3) c1 (b0 :: b1 :: b2 :: inf) := grown_keepB hT.grown (Rd.drew (Rd.alloc H2.out.1 _)) (fun b' off' e => by injection e with e; injection e with e1 e2; omega)
    have hcut := IsB.cut hrr (k := 3) (by omega)
    rw [show q + 3 - 3 = q by omega] at hcut
    have hcut : IsB w' (if c1 = 3 then some ⟨b, off, none⟩ else some ⟨b, off + 3, none⟩) q (c1 - 3) inf := hcut
    have hcutg : ∀ b' off', (if c1 = 3 then some (⟨b, off, none⟩ : Addr) else some ⟨b, off + 3, none⟩) = some ⟨b', off', none⟩ -> b' ≠ w2.heap.size := by intro b' off' e; split at e <;> (injection e with e; injection e with e1 e2; omega)
    have HCC := Lib.hid (And.intro hcut hcutg)
    clear hcut hcutg hrr
    go_simp
    refine hK _ _ (TG.refl _) ?_
    exact ⟨_, _, rfl, HCC.out.1, HCC.out.2⟩
  case s6 =>
    intro a w' K hT hf hw hK
    refine step_free ?_ ?_
    . rfl
    have h59 := hw.1
    clear hf hw
    obtain ⟨A5, c5, h59, h5r, h5g⟩ := h59
    have h59 : a.tmps[59]?.getD undef = .slice A5 q c5 := h59
    have hgl : w2.heap.size < w'.heap.size := by have := hT.grown.size; simp at this; omega
    go_simp
    refine (clone_any A5 q c5 inf _ h5r (by have := HQ.out.1; have := HQ.out.2; simp at *; omega)).mono ?_
    rintro e w3 ⟨A3, n3, c3, rfl, ho3, hb3⟩
    refine hK _ _ (TG.of_below hgl hb3) ?_
    refine ⟨A3, n3, c3, rfl, ho3.rd, fun b off e => ?_⟩
    subst e
    have := (ho3.lt b rfl).1
    omega
  case s7 =>
    intro a w' K hT hf hw hK
    refine step_free ?_ ?_
    . rfl
    have h9 : a.tmps[9]?.getD undef = .pointer (some ⟨w2.heap.size, 0, none⟩) := hf 9 (by kernel_rfl)
    clear hf hw
    go_simp
    exact hK _ _ (TG.refl _) rfl
  case s8 =>
    intro a w' K hT hf hw hK
    refine step_free ?_ ?_
    . rfl
    have h61 : a.tmps[61]?.getD undef = .pointer (some ⟨w2.heap.size, 0, none⟩) := hw.1
    have h57 : a.tmps[57]?.getD undef = .int .i64 (b0.toNat : Int) := hw.2.1
    clear hf hw
    obtain ⟨u0, hu0⟩ := Option.isSome_iff_exists.1 (hT.there hth 0 (by omega)).1
    have hf0 := (hT.there hth 0 (by omega)).2
    simp only [Nat.zero_add] at hu0 hf0
    go_simp
    exact hK undef _ (TG.set0 (hT.there hth)).1 (TG.set0 (v0 := .int .i64 (b0.toNat : Int)) (inf := inf) (hT.there hth)).2
  case s9 =>
    intro a w' K hT hf hw hK
    refine step_free ?_ ?_
    . rfl
    have h9 : a.tmps[9]?.getD undef = .pointer (some ⟨w2.heap.size, 0, none⟩) := hf 9 (by kernel_rfl)
    clear hf hw
    go_simp
    exact hK _ _ (TG.refl _) rfl
  case s10 =>
    intro a w' K hT hf hw hK
    refine step_free ?_ ?_
    . rfl
    have h62 : a.tmps[62]?.getD undef = .pointer (some ⟨w2.heap.size, 6, none⟩) := hw.1
    have h60 := hw.2.1
    clear hf hw
    obtain ⟨A6, n6, c6, h60, h6r, h6g⟩ := h60
    have h60 : a.tmps[60]?.getD undef = .slice A6 n6 c6 := h60
    obtain ⟨u0, hu0⟩ := Option.isSome_iff_exists.1 (hT.there hth 6 (by omega)).1
    have hf0 := (hT.there hth 6 (by omega)).2
    simp only [Nat.zero_add] at hu0 hf0
    go_simp
    exact hK undef _ (TG.set6 (hT.there hth) h6r h6g).1 (TG.set6 (v0 := .int .i64 (b0.toNat : Int)) (hT.there hth) h6r h6g).2
  case hfin =>
    rintro vs w' hT ⟨f0, f1, f2, f3, f4, f5, f6, f7, f8, f9, f10, -⟩
    have e0 : vs 0 = .slice (some ⟨b, off, none⟩) (q + 3) c1 := f0
    have e1 : vs 1 = .pointer (some ⟨b, off, none⟩) := f1
    have e2 : vs 2 = .int .u8 (b0.toNat : Int) := f2
    have e3 : vs 3 = .int .i64 (b0.toNat : Int) := f3
    have e4 : vs 4 = .slice (some ⟨b, off, none⟩) (q + 3) c1 := f4
    have e7 : vs 7 = .pointer (some ⟨w2.heap.size, 0, none⟩) := f7
    have e9 : vs 9 = .pointer (some ⟨w2.heap.size, 6, none⟩) := f9
    simp only [putsAt, Act.put, e0, e1, e2, e3, e4, e7, e9]
    simp only [List.setIfInBounds_toArray, List.set_cons_succ, List.set_cons_zero]
    clear e0 e1 e2 e3 e4 e7 e9 f0 f1 f2 f3 f4 f7 f9
    have hz0 : w'.cell? ⟨w2.heap.size, 0, none⟩ = some (.int .i64 (b0.toNat : Int)) := f8
    obtain ⟨A6, n6, c6, hz6, hr6, hs6⟩ : Six w2.heap.size inf w' := f10
    have hmid : ∀ j v, 1 <= j -> j <= 5 -> [.int .i64 0, .int .i64 kd, .int .i64 sq, .bool mo, .int .i64 co, .bool an, .slice none 0 0][j]? = some v -> w'.cell? ⟨w2.heap.size, j, none⟩ = some v := fun j v h1 h5 hv => (hT.mid j h1 h5).trans ((cell_new w2 _ _ j).trans hv)
    have hz1 := hmid 1 _ (by omega) (by omega) rfl
    have hz2 := hmid 2 _ (by omega) (by omega) rfl
    have hz3 := hmid 3 _ (by omega) (by omega) rfl
    have hz4 := hmid 4 _ (by omega) (by omega) rfl
    have hz5 := hmid 5 _ (by omega) (by omega) rfl
    have hsz : w2.heap.size < w'.heap.size := by have := hT.grown.size; simp at this; omega
    have hbw' : Below w.heap.size w w' := (H2.out.2.1.alloc H2.out.2.1.size _).drew.grown hT.grown (by have := H2.out.2.1.size; simp; omega) (fun k hk => by injection hk with hk; omega)
    have hthR : w'.there w.heap.size 0 7 := fun j hj => ⟨by rw [World.cell?_of_block (a := ⟨w.heap.size, 0 + j, none⟩) (hT.grown.block w.heap.size (by simp; omega) (fun e => by injection e with e; omega))]; exact (HTH.out j hj).1, by rw [World.frozen?_of_block (a := ⟨w.heap.size, 0 + j, none⟩) (hT.grown.block w.heap.size (by simp; omega) (fun e => by injection e with e; omega))]; exact (HTH.out j hj).2⟩
    have HW := Lib.hid (And.intro hbw' (And.intro hthR (And.intro hr6 hs6)))
    clear f8 hmid hbw' hthR hr6 hs6 f5 f6 hT
    go_wp2_with fail
    refine (HC.out _ _ _ _ HW.out.2.2.1).mono ?_
    rintro e w5 ⟨rfl, hb5⟩
    have hzR : w.heap.size < w'.heap.size := by omega
    have HTH5 := Lib.hid (there_below HW.out.2.1 hzR hb5)
    have HB5 := Lib.hid (HW.out.1.trans (hb5.mono HW.out.1.size))
    have h5c : ∀ j v, w'.cell? ⟨w2.heap.size, j, none⟩ = some v -> w5.cell? ⟨w2.heap.size, j, none⟩ = some v := fun j v hv => (hb5.cell (p := ⟨w2.heap.size, j, none⟩) hsz).trans hv
    have hv0 := h5c 0 _ hz0
    have hv1 := h5c 1 _ hz1
    have hv2 := h5c 2 _ hz2
    have hv3 := h5c 3 _ hz3
    have hv4 := h5c 4 _ hz4
    have hv5 := h5c 5 _ hz5
    have hv6 := h5c 6 _ hz6
    have H6 := Lib.hid (Rd.below HW.out.2.2.1 hb5)
    clear h5c hb5
    go_wp2_with (refine wpList_store_mid rfl 29 _ _ rfl w.heap.size 0 #[.int .i64 (b0.toNat : Int), .int .i64 kd, .int .i64 sq, .bool mo, .int .i64 co, .bool an, .slice A6 n6 c6] rfl rfl HTH5.out (by kernel_rfl) (by simp [Value.oneCell']) ?_)
    refine bodyPost_ret (results_cell_tmp rfl _ _ w.heap.size 0 [.int .i64 (b0.toNat : Int), .int .i64 kd, .int .i64 sq, .bool mo, .int .i64 co, .bool an, .slice A6 n6 c6] _ rfl (World.rangeAt_setCells_same w5 w.heap.size 0 [.int .i64 (b0.toNat : Int), .int .i64 kd, .int .i64 sq, .bool mo, .int .i64 co, .bool an, .slice A6 n6 c6] HTH5.out) Try.underlying29 rfl (by kernel_rfl)) rfl ⟨A6, n6, c6, rfl, ?_, ?_, fun b off e => by have := HW.out.2.2.2 b off e; omega⟩
    . exact grown_keepB (grown_setCells _ 0 w5) H6.out (fun b off e => by have := HW.out.2.2.2 b off e; omega)
    . exact below_setCells (Nat.le_refl _) _ _ _ HB5.out
end Go.Proofs.Ytilfphdeacogmaa

/- smartcardref06.kind: the walk. -/
namespace Go.Proofs.Ytilfphdeacogmaa
open Go.RowKit
set_option linter.unusedVariables false
end Go.Proofs.Ytilfphdeacogmaa

/- smartcardref06.Decode: the walk (printed by wip/gen/rdecode.py). -/
namespace Go.Proofs.Ytilfphdeacogmaa
open Go.RowKit
set_option linter.unusedVariables false
end Go.Proofs.Ytilfphdeacogmaa

/- block.Decode and smartcardref06.Decode: one statement for each (printed by wip/gen/decq.py). -/
namespace Go.Proofs.Ytilfphdeacogmaa
open Go.RowKit
set_option linter.unusedVariables false
def bodyB (k : Int) (xs : List UInt8) : List UInt8 := xs.take (xs.length - sizeN k)
def decE (k : Int) (xs : List UInt8) : Int :=
  if ¬ (k = 0 ∨ k = 1) then 1 else if xs.length < 3 + sizeN k then 5 else if sumB k (bodyB k xs) = xs.drop (xs.length - sizeN k) then bodyE (bodyB k xs) else 6
def b0N (k : Int) (xs : List UInt8) : Nat := ((bodyB k xs).getD 0 0).toNat
def b1N (k : Int) (xs : List UInt8) : Nat := ((bodyB k xs).getD 1 0).toNat
def dNad (k : Int) (xs : List UInt8) : Int := if decE k xs = 0 then (b0N k xs : Int) else 0
def dKind (k : Int) (xs : List UInt8) : Int := if decE k xs = 0 then kindC (b1N k xs) else 0
def dSeq (k : Int) (xs : List UInt8) : Int := if decE k xs = 0 then seqC (b1N k xs) else 0
def dMore (k : Int) (xs : List UInt8) : Bool := if decE k xs = 0 then moreC (b1N k xs) else false
def dCode (k : Int) (xs : List UInt8) : Int := if decE k xs = 0 then codeC (b1N k xs) else 0
def dAns (k : Int) (xs : List UInt8) : Bool := if decE k xs = 0 then ansC (b1N k xs) else false
def dInf (k : Int) (xs : List UInt8) : List UInt8 := if decE k xs = 0 then (bodyB k xs).drop 3 else []
def DecPost (k : Int) (xs : List UInt8) (w : World) (e : Ending) (w' : World) : Prop :=
  ∃ A n c, e = .returned (.tuple #[.agg #[.int .i64 (dNad k xs), .int .i64 (dKind k xs), .int .i64 (dSeq k xs), .bool (dMore k xs), .int .i64 (dCode k xs), .bool (dAns k xs), .slice A n c], .int .i64 (decE k xs)]) /\ IsB w' A n c (dInf k xs) /\ Below w.heap.size w w' /\ ∀ b off, A = some ⟨b, off, none⟩ -> w.heap.size <= b
theorem decPost_bad {k : Int} {xs : List UInt8} {w : World} {er : Int} (h : decE k xs = er) (hne : er ≠ 0) : ∀ e w', (e = .returned (.tuple #[.agg zeroL.toArray, .int .i64 er]) /\ Below w.heap.size w w') -> DecPost k xs w e w' := by
  rintro e w' ⟨rfl, hb⟩
  have h0 : ¬ decE k xs = 0 := by rw [h]; exact hne
  unfold DecPost dNad dKind dSeq dMore dCode dAns dInf
  simp only [if_neg h0]
  exact ⟨none, 0, 0, by rw [h]; rfl, Rd.nil, hb, fun b off e => by cases e⟩
theorem three {l : List UInt8} (h : 3 <= l.length) : ∃ a b c r, l = a :: b :: c :: r := by
  match l, h with
  | a :: b :: c :: r, _ => exact ⟨a, b, c, r, rfl⟩
theorem bodyE_eq (b0 b1 b2 : UInt8) (inf : List UInt8) : bodyE (b0 :: b1 :: b2 :: inf) = if okC b1.toNat = true /\ b2.toNat = inf.length then checkE b0.toNat (kindC b1.toNat) (seqC b1.toNat) (moreC b1.toNat) (codeC b1.toNat) (ansC b1.toNat) inf else 4 := by
  unfold bodyE
  simp
theorem dec_any (A : Option Addr) (n c : Nat) (k : Int) (xs : List UInt8) (w : World) (h : IsB w A n c xs) (hx : xs.length <= 900000) :
    Calls Try.prog 79 #[.slice A n c, .int .i64 k] w (DecPost k xs w) := by
  by_cases hk : k = 0 ∨ k = 1
  case neg => exact (decode_kind A n c k hk w).mono (decPost_bad (by unfold decE; rw [if_pos hk]) (by decide))
  have hl := IsB.len h
  have e1 : decE k xs = if xs.length < 3 + sizeN k then 5 else if sumB k (bodyB k xs) = xs.drop (xs.length - sizeN k) then bodyE (bodyB k xs) else 6 := by unfold decE; rw [if_neg (not_not_intro hk)]
  by_cases hs : n < 3 + sizeN k
  . exact (decode_short A n c k hk hs w).mono (decPost_bad (by rw [e1, if_pos (by omega)]) (by decide))
  rw [if_neg (by omega)] at e1
  obtain ⟨q, rfl⟩ : ∃ q, n = q + 3 + sizeN k := ⟨n - 3 - sizeN k, by omega⟩
  have hm : xs.length - sizeN k = q + 3 := by omega
  have hbd : bodyB k xs = xs.take (q + 3) := by unfold bodyB; rw [hm]
  rw [hm, hbd] at e1
  by_cases hsum : sumB k (xs.take (q + 3)) = xs.drop (q + 3)
  case neg =>
    rw [if_neg hsum] at e1
    exact (decode_sum A (q + 3) (sizeN k) c k hk rfl xs (by omega) w h hsum).mono (decPost_bad e1 (by decide))
  rw [if_pos hsum] at e1
  obtain ⟨b0, b1, b2, inf, hbody⟩ := three (l := xs.take (q + 3)) (by rw [List.length_take]; omega)
  rw [hbody, bodyE_eq] at e1
  by_cases hok : okC b1.toNat = true
  case neg =>
    rw [if_neg (fun z => hok z.1)] at e1
    exact (decode_form1 A q (sizeN k) c k hk rfl xs b0 b1 b2 inf w h hx hsum hbody (by simpa using hok)).mono (decPost_bad e1 (by decide))
  by_cases hb2 : b2.toNat = inf.length
  case neg =>
    rw [if_neg (fun z => hb2 z.2)] at e1
    exact (decode_form2 A q (sizeN k) c k hk rfl xs b0 b1 b2 inf w h hx hsum hbody hok hb2).mono (decPost_bad e1 (by decide))
  rw [if_pos ⟨hok, hb2⟩] at e1
  by_cases her : checkE b0.toNat (kindC b1.toNat) (seqC b1.toNat) (moreC b1.toNat) (codeC b1.toNat) (ansC b1.toNat) inf = 0
  case neg => exact (decode_bad A q (sizeN k) c k hk rfl xs b0 b1 b2 inf w h hx hsum hbody hok hb2 _ rfl (by simpa using her)).mono (decPost_bad e1 her)
  refine (decode_ok A q (sizeN k) c k hk rfl xs b0 b1 b2 inf w h hx hsum hbody hok hb2 her).mono ?_
  rintro e w' ⟨A6, n6, c6, rfl, hi, hb⟩
  rw [her] at e1
  have f0 : b0N k xs = b0.toNat := by unfold b0N; rw [hbd, hbody]; rfl
  have f1 : b1N k xs = b1.toNat := by unfold b1N; rw [hbd, hbody]; rfl
  unfold DecPost dNad dKind dSeq dMore dCode dAns dInf
  simp only [f0, f1, e1]
  exact ⟨A6, n6, c6, rfl, by rw [hbd, hbody]; exact hi, hb⟩
end Go.Proofs.Ytilfphdeacogmaa

/- The laws of encoding and decoding a block, in plain words: decoding gives back what was encoded, and encoding what was decoded. -/
namespace Go.Proofs.Ytilfphdeacogmaa
set_option linter.unusedVariables false
theorem ctl_back : ∀ c : Nat, c < 256 -> okC c = true -> ctlN (kindC c) (seqC c) (moreC c) (codeC c) (ansC c) = c := by decide +kernel
theorem b_toNat (a : Nat) (h : a < 256) : (UInt8.ofNat a).toNat = a := by rw [UInt8.toNat_ofNat']; exact Nat.mod_eq_of_lt h
theorem ctl_forth {nad kind seq : Int} {more : Bool} {code : Int} {answer : Bool} {inf : List UInt8} (h : checkE nad kind seq more code answer inf = 0) :
    okC (ctlN kind seq more code answer).toNat = true /\ kindC (ctlN kind seq more code answer).toNat = kind /\ seqC (ctlN kind seq more code answer).toNat = seq /\ moreC (ctlN kind seq more code answer).toNat = more /\
    codeC (ctlN kind seq more code answer).toNat = code /\ ansC (ctlN kind seq more code answer).toNat = answer := by
  obtain ⟨-, -, ⟨rfl, hs, rfl, rfl⟩ | ⟨rfl, hs, hc, rfl, rfl⟩ | ⟨rfl, rfl, hc, rfl⟩⟩ := ok_facts h
  . rcases hs with rfl | rfl <;> cases more <;> decide +kernel
  . rcases hs with rfl | rfl <;> rcases hc with rfl | rfl | rfl | rfl <;> first | decide +kernel | exact absurd h (by unfold checkE; simp)
  . rcases hc with rfl | rfl | rfl | rfl <;> cases answer <;> decide +kernel
theorem decE_of {k : Int} (hk : k = 0 ∨ k = 1) (b0 b1 b2 : UInt8) (inf : List UInt8) : decE k (b0 :: b1 :: b2 :: inf ++ sumB k (b0 :: b1 :: b2 :: inf)) = bodyE (b0 :: b1 :: b2 :: inf) /\ bodyB k (b0 :: b1 :: b2 :: inf ++ sumB k (b0 :: b1 :: b2 :: inf)) = b0 :: b1 :: b2 :: inf := by
  have hl := sumB_length k (b0 :: b1 :: b2 :: inf)
  have hm : (b0 :: b1 :: b2 :: inf ++ sumB k (b0 :: b1 :: b2 :: inf)).length - sizeN k = (b0 :: b1 :: b2 :: inf).length := by rw [List.length_append, hl]; omega
  have hb : bodyB k (b0 :: b1 :: b2 :: inf ++ sumB k (b0 :: b1 :: b2 :: inf)) = b0 :: b1 :: b2 :: inf := by
    unfold bodyB; rw [hm, List.take_left]
  refine ⟨?_, hb⟩
  unfold decE
  rw [if_neg (not_not_intro hk), hb, if_neg (by rw [List.length_append, hl]; simp), hm, List.drop_left, if_pos rfl]
section
variable {nad kind seq : Int} {more : Bool} {code : Int} {answer : Bool} {inf : List UInt8} {k : Int}
theorem encB_eq : encB k nad kind seq more code answer inf = UInt8.ofNat nad.toNat :: UInt8.ofNat (ctlN kind seq more code answer).toNat :: UInt8.ofNat inf.length :: inf ++ sumB k (UInt8.ofNat nad.toNat :: UInt8.ofNat (ctlN kind seq more code answer).toNat :: UInt8.ofNat inf.length :: inf) := rfl
theorem dec_enc (hk : k = 0 ∨ k = 1) (h : checkE nad kind seq more code answer inf = 0) :
    decE k (encB k nad kind seq more code answer inf) = 0 /\ dNad k (encB k nad kind seq more code answer inf) = nad /\ dKind k (encB k nad kind seq more code answer inf) = kind /\ dSeq k (encB k nad kind seq more code answer inf) = seq /\
    dMore k (encB k nad kind seq more code answer inf) = more /\ dCode k (encB k nad kind seq more code answer inf) = code /\ dAns k (encB k nad kind seq more code answer inf) = answer /\ dInf k (encB k nad kind seq more code answer inf) = inf := by
  obtain ⟨hn, hi, _⟩ := ok_facts h
  obtain ⟨c1, c2, c3, c4, c5, c6⟩ := ctl_forth h
  have hct := ctl_ok h
  obtain ⟨e1, e2⟩ := decE_of hk (UInt8.ofNat nad.toNat) (UInt8.ofNat (ctlN kind seq more code answer).toNat) (UInt8.ofNat inf.length) inf
  have t0 := b_toNat nad.toNat (by omega)
  have t1 := b_toNat (ctlN kind seq more code answer).toNat (by omega)
  have t2 := b_toNat inf.length (by omega)
  rw [bodyE_eq, t0, t1, t2, c1, c2, c3, c4, c5, c6, if_pos ⟨rfl, rfl⟩, show ((nad.toNat : Nat) : Int) = nad by omega, h, ← encB_eq] at e1
  rw [← encB_eq] at e2
  have f0 : b0N k (encB k nad kind seq more code answer inf) = nad.toNat := by unfold b0N; rw [e2]; exact t0
  have f1 : b1N k (encB k nad kind seq more code answer inf) = (ctlN kind seq more code answer).toNat := by unfold b1N; rw [e2]; exact t1
  unfold dNad dKind dSeq dMore dCode dAns dInf
  simp only [if_pos e1, f0, f1, e2, c2, c3, c4, c5, c6]
  exact ⟨e1, by omega, trivial, trivial, trivial, trivial, trivial, rfl⟩
theorem enc_dec {xs : List UInt8} (h : decE k xs = 0) : encE k (dNad k xs) (dKind k xs) (dSeq k xs) (dMore k xs) (dCode k xs) (dAns k xs) (dInf k xs) = 0 /\ encL k (dNad k xs) (dKind k xs) (dSeq k xs) (dMore k xs) (dCode k xs) (dAns k xs) (dInf k xs) = xs := by
  have h' := h
  unfold decE at h'
  by_cases hk : k = 0 ∨ k = 1
  case neg => rw [if_pos hk] at h'; exact absurd h' (by decide)
  rw [if_neg (not_not_intro hk)] at h'
  by_cases hs : xs.length < 3 + sizeN k
  . rw [if_pos hs] at h'; exact absurd h' (by decide)
  rw [if_neg hs] at h'
  by_cases hsum : sumB k (bodyB k xs) = xs.drop (xs.length - sizeN k)
  case neg => rw [if_neg hsum] at h'; exact absurd h' (by decide)
  rw [if_pos hsum] at h'
  obtain ⟨b0, b1, b2, inf, hbody⟩ := three (l := bodyB k xs) (by unfold bodyB; rw [List.length_take]; omega)
  have hxs : xs = bodyB k xs ++ sumB k (bodyB k xs) := by rw [hsum]; unfold bodyB; rw [List.take_append_drop]
  have f0 : b0N k xs = b0.toNat := by unfold b0N; rw [hbody]; rfl
  have f1 : b1N k xs = b1.toNat := by unfold b1N; rw [hbody]; rfl
  rw [hbody, bodyE_eq] at h'
  by_cases hok : okC b1.toNat = true /\ b2.toNat = inf.length
  case neg => rw [if_neg hok] at h'; exact absurd h' (by decide)
  rw [if_pos hok] at h'
  have hb1 := UInt8.toNat_lt b1
  have hct := ctl_back b1.toNat (by omega) hok.1
  have e0 : dNad k xs = b0.toNat := by unfold dNad; rw [if_pos h, f0]
  have e1 : dKind k xs = kindC b1.toNat := by unfold dKind; rw [if_pos h, f1]
  have e2 : dSeq k xs = seqC b1.toNat := by unfold dSeq; rw [if_pos h, f1]
  have e3 : dMore k xs = moreC b1.toNat := by unfold dMore; rw [if_pos h, f1]
  have e4 : dCode k xs = codeC b1.toNat := by unfold dCode; rw [if_pos h, f1]
  have e5 : dAns k xs = ansC b1.toNat := by unfold dAns; rw [if_pos h, f1]
  have e6 : dInf k xs = inf := by unfold dInf; rw [if_pos h, hbody]; rfl
  rw [e0, e1, e2, e3, e4, e5, e6]
  have hE : encE k b0.toNat (kindC b1.toNat) (seqC b1.toNat) (moreC b1.toNat) (codeC b1.toNat) (ansC b1.toNat) inf = 0 := by unfold encE; rw [if_pos hk]; exact h'
  refine ⟨hE, ?_⟩
  unfold encL
  rw [if_pos hE, encB_eq, hct, ← hok.2]
  rw [show ((b0.toNat : Nat) : Int).toNat = b0.toNat by omega, show ((b1.toNat : Nat) : Int).toNat = b1.toNat by omega]
  simp only [UInt8.ofNat_toNat]
  rw [hbody] at hxs
  exact hxs.symm
end
end Go.Proofs.Ytilfphdeacogmaa

/- A byte of an encoded block that is changed is found out, in plain words. -/
namespace Go.Proofs.Ytilfphdeacogmaa
set_option linter.unusedVariables false
theorem crcStep_zero (x : Nat) (h : x < 65536) (h0 : crcStep x = 0) : x = 0 := by
  unfold crcStep at h0
  split at h0
  . have : x / 2 = 33800 := by
      have h1 : (x / 2 ^^^ 33800) ^^^ 33800 = 0 ^^^ 33800 := by rw [h0]
      rwa [Nat.xor_assoc, Nat.xor_self, Nat.xor_zero, Nat.zero_xor] at h1
    omega
  . omega
theorem crcSteps_zero (k x : Nat) (h : x < 65536) (h0 : crcSteps k x = 0) : x = 0 := by
  induction k with
  | zero => exact h0
  | succ k ih => exact ih (crcStep_zero _ (crcSteps_lt k x h) h0)
theorem xor_zero_eq {a b : Nat} (h : a ^^^ b = 0) : a = b := by
  have h1 : (a ^^^ b) ^^^ b = 0 ^^^ b := by rw [h]
  rwa [Nat.xor_assoc, Nat.xor_self, Nat.xor_zero, Nat.zero_xor] at h1
theorem crc8_inj {a b : Nat} (ha : a < 65536) (hb : b < 65536) (h : crc8 a = crc8 b) : a = b := by
  refine xor_zero_eq (crcSteps_zero 8 _ (Nat.xor_lt_two_pow (n := 16) (by omega) (by omega)) ?_)
  have h1 : crcSteps 8 a = crcSteps 8 b := h
  rw [crcSteps_xor, h1, Nat.xor_self]
theorem xor_right_inj {a b c : Nat} (h : a ^^^ c = b ^^^ c) : a = b := by
  have h1 : (a ^^^ c) ^^^ c = (b ^^^ c) ^^^ c := by rw [h]
  rwa [Nat.xor_assoc, Nat.xor_assoc, Nat.xor_self, Nat.xor_zero, Nat.xor_zero] at h1
theorem xor_left_inj {a b c : Nat} (h : c ^^^ a = c ^^^ b) : a = b := by
  rw [Nat.xor_comm c a, Nat.xor_comm c b] at h; exact xor_right_inj h
theorem crc_fold_inj (xs : List UInt8) : ∀ r s, r < 65536 -> s < 65536 -> xs.foldl (fun r b => crc8 (r ^^^ b.toNat)) r = xs.foldl (fun r b => crc8 (r ^^^ b.toNat)) s -> r = s := by
  induction xs with
  | nil => intro r s _ _ h; exact h
  | cons b xs ih =>
    intro r s hr hs h
    have h1 := ih _ _ (crc8_lt _ (xor_byte_lt r b hr)) (crc8_lt _ (xor_byte_lt s b hs)) h
    exact xor_right_inj (crc8_inj (xor_byte_lt r b hr) (xor_byte_lt s b hs) h1)
theorem crcN_change (p q : List UInt8) (b c : UInt8) (h : crcN (p ++ b :: q) = crcN (p ++ c :: q)) : b = c := by
  unfold crcN at h
  rw [List.foldl_append, List.foldl_append, List.foldl_cons, List.foldl_cons] at h
  have hp := crcN_lt p
  unfold crcN at hp
  have h1 := crc_fold_inj q _ _ (crc8_lt _ (xor_byte_lt _ b hp)) (crc8_lt _ (xor_byte_lt _ c hp)) h
  have h2 := xor_left_inj (crc8_inj (xor_byte_lt _ b hp) (xor_byte_lt _ c hp) h1)
  exact UInt8.toNat_inj.1 h2
theorem u8_xor_right_inj {a b c : UInt8} (h : a ^^^ c = b ^^^ c) : a = b := by
  have h1 : (a ^^^ c) ^^^ c = (b ^^^ c) ^^^ c := by rw [h]
  rwa [UInt8.xor_assoc, UInt8.xor_assoc, UInt8.xor_self, UInt8.xor_zero, UInt8.xor_zero] at h1
theorem lrc_fold_inj (xs : List UInt8) : ∀ r s : UInt8, xs.foldl (· ^^^ ·) r = xs.foldl (· ^^^ ·) s -> r = s := by
  induction xs with
  | nil => intro r s h; exact h
  | cons b xs ih => intro r s h; exact u8_xor_right_inj (ih _ _ h)
theorem lrcB_change (p q : List UInt8) (b c : UInt8) (h : lrcB (p ++ b :: q) = lrcB (p ++ c :: q)) : b = c := by
  unfold lrcB at h
  rw [List.foldl_append, List.foldl_append, List.foldl_cons, List.foldl_cons] at h
  have h1 := lrc_fold_inj q _ _ h
  rw [UInt8.xor_comm _ b, UInt8.xor_comm _ c] at h1
  exact u8_xor_right_inj h1
theorem sumB_inj {k : Int} (hk : k = 0 ∨ k = 1) (p q : List UInt8) (b c : UInt8) (h : sumB k (p ++ b :: q) = sumB k (p ++ c :: q)) : b = c := by
  rcases hk with rfl | rfl
  . unfold sumB at h
    simp at h
    exact lrcB_change p q b c h
  . unfold sumB at h
    simp at h
    obtain ⟨h1, h2⟩ := h
    have e1 := crcLo_toNat (p ++ b :: q)
    have e2 := crcLo_toNat (p ++ c :: q)
    have e3 := crcHi_toNat (p ++ b :: q)
    have e4 := crcHi_toNat (p ++ c :: q)
    rw [h1] at e1
    rw [h2] at e3
    have hI : crcInv (p ++ b :: q) = crcInv (p ++ c :: q) := by omega
    unfold crcInv at hI
    have l1 := crcN_lt (p ++ b :: q)
    have l2 := crcN_lt (p ++ c :: q)
    exact crcN_change p q b c (by omega)
theorem split_at {l : List UInt8} {i : Nat} (h : i < l.length) : l = l.take i ++ l[i] :: l.drop (i + 1) := by
  rw [← List.drop_eq_getElem_cons h, List.take_append_drop]
theorem sumB_set {k : Int} (hk : k = 0 ∨ k = 1) (l : List UInt8) (i : Nat) (h : i < l.length) (b : UInt8) (hb : b ≠ l[i]) : sumB k (l.set i b) ≠ sumB k l := by
  intro he
  rw [List.set_eq_take_append_cons_drop, if_pos h] at he
  conv at he => rhs; rw [split_at h]
  exact hb (sumB_inj hk _ _ _ _ he)
theorem damage {k : Int} (hk : k = 0 ∨ k = 1) (body : List UInt8) (h3 : 3 <= body.length) (i : Nat) (b : UInt8) (hi : i < (body ++ sumB k body).length) (hb : b ≠ (body ++ sumB k body)[i]) : decE k ((body ++ sumB k body).set i b) = 6 := by
  have hl := sumB_length k body
  have hm : ((body ++ sumB k body).set i b).length - sizeN k = body.length := by rw [List.length_set, List.length_append, hl]; omega
  unfold decE bodyB
  rw [if_neg (not_not_intro hk), hm, if_neg (by rw [List.length_set, List.length_append, hl]; omega)]
  rw [List.take_set, List.drop_set, List.take_left, List.drop_left]
  by_cases hlt : i < body.length
  . rw [if_pos hlt, if_neg (sumB_set hk body i hlt b (by rwa [List.getElem_append_left hlt] at hb))]
  . rw [if_neg hlt, List.set_eq_of_length_le (by omega), if_neg]
    intro he
    rw [List.getElem_append_right (by omega)] at hb
    have hj : i - body.length < (sumB k body).length := by rw [List.length_append] at hi; omega
    have : (sumB k body)[i - body.length]? = some b := by rw [he, List.getElem?_set_self hj]
    rw [List.getElem?_eq_getElem hj] at this
    injection this with this
    exact hb this.symm
theorem flip_ne (c : UInt8) (j : Nat) (hj : j < 8) : c ^^^ UInt8.ofNat (2 ^ j) ≠ c := by
  intro h
  have h1 : c ^^^ (c ^^^ UInt8.ofNat (2 ^ j)) = c ^^^ c := by rw [h]
  rw [← UInt8.xor_assoc, UInt8.xor_self, UInt8.zero_xor] at h1
  have : ∀ j : Nat, j < 8 -> UInt8.ofNat (2 ^ j) ≠ 0 := by decide
  exact this j hj h1
end Go.Proofs.Ytilfphdeacogmaa

/- Chapter 08 in plain words: both sides of the protocol, what they do with what they receive. -/
namespace Go.Proofs.Ytilfphdeacogmaa.En
open Go
set_option linter.unusedVariables false
structure Bl where
  nad : Int
  kind : Int
  seq : Int
  more : Bool
  code : Int
  ans : Bool
  inf : List UInt8
  deriving DecidableEq
def Bl.chk (b : Bl) : Int := checkE b.nad b.kind b.seq b.more b.code b.ans b.inf
def Bl.enc (b : Bl) (k : Int) : List UInt8 := encL k b.nad b.kind b.seq b.more b.code b.ans b.inf
def decBl (k : Int) (xs : List UInt8) : Bl := ⟨dNad k xs, dKind k xs, dSeq k xs, dMore k xs, dCode k xs, dAns k xs, dInf k xs⟩
def blZ : Bl := ⟨0, 0, 0, false, 0, false, []⟩
theorem encE_zero {k : Int} (hk : k = 0 ∨ k = 1) {b : Bl} (h : b.chk = 0) : encE k b.nad b.kind b.seq b.more b.code b.ans b.inf = 0 := by
  unfold encE; rw [if_pos hk]; exact h
theorem enc_eq {k : Int} (hk : k = 0 ∨ k = 1) {b : Bl} (h : b.chk = 0) : b.enc k = encB k b.nad b.kind b.seq b.more b.code b.ans b.inf := by
  unfold Bl.enc encL; rw [if_pos (encE_zero hk h)]
theorem dec_of {k : Int} (hk : k = 0 ∨ k = 1) {b : Bl} (h : b.chk = 0) : decE k (b.enc k) = 0 /\ decBl k (b.enc k) = b := by
  rw [enc_eq hk h]
  obtain ⟨e0, e1, e2, e3, e4, e5, e6, e7⟩ := dec_enc hk h
  refine ⟨e0, ?_⟩
  unfold decBl
  rw [e1, e2, e3, e4, e5, e6, e7]
theorem dec_ok {k : Int} {xs : List UInt8} (h : decE k xs = 0) : (k = 0 ∨ k = 1) /\ (decBl k xs).chk = 0 := by
  obtain ⟨h1, _⟩ := enc_dec h
  unfold encE at h1
  by_cases hk : k = 0 ∨ k = 1
  . rw [if_pos hk] at h1; exact ⟨hk, h1⟩
  . rw [if_neg hk] at h1; exact absurd h1 (by decide)
theorem enc_len {k : Int} (hk : k = 0 ∨ k = 1) {b : Bl} (h : b.chk = 0) : (b.enc k).length = 3 + b.inf.length + sizeN k /\ b.inf.length <= 254 := by
  refine ⟨?_, (ok_facts h).2.1⟩
  rw [enc_eq hk h, encB_eq, List.length_append, sumB_length]; simp; omega
theorem sizeN_le (k : Int) : sizeN k <= 2 := by
  unfold sizeN
  split
  . omega
  . split <;> omega
theorem enc_pos {k : Int} (hk : k = 0 ∨ k = 1) {b : Bl} (h : b.chk = 0) : 0 < (b.enc k).length /\ (b.enc k).length <= 300 := by
  have := sizeN_le k
  have := enc_len hk h
  omega
structure Co where
  sum : Int
  own : Int
  other : Int
  expect : Int
  next : Int
  has : Bool
  sent : Bl
  pieces : List (List UInt8)
  inn : List UInt8
def bR (s : Co) (code : Int) : Bl := ⟨0, 1, s.expect, false, code, false, []⟩
def bS (code : Int) (a : Bool) (inf : List UInt8) : Bl := ⟨0, 2, 0, false, code, a, inf⟩
def bI (s : Co) (p : List UInt8) (r : List (List UInt8)) : Bl := ⟨0, 0, s.next, !r.isEmpty, 0, false, p⟩
def pieceF (s : Co) : Co × Bl :=
  match s.pieces with
  | p :: r => ({ s with pieces := r, sent := bI s p r, has := true, next := 1 - s.next }, bI s p r)
  | [] => (s, blZ)
def cutF (n : Nat) : Nat -> List UInt8 -> List (List UInt8)
  | 0, b => [b]
  | t + 1, b => if b.length <= n then [b] else b.take n :: cutF n t (b.drop n)
def cut (n : Nat) (b : List UInt8) : List (List UInt8) := cutF n b.length b
def sendF (s : Co) (b : List UInt8) : Co × Bl := pieceF { s with pieces := cut s.other.toNat b }
def rx (s : Co) (xs : List UInt8) : Bl × Int :=
  (decBl s.sum xs, if decE s.sum xs = 6 then 1 else if decE s.sum xs ≠ 0 ∨ dNad s.sum xs ≠ 0 ∨ (dKind s.sum xs = 0 /\ s.own < ((dInf s.sum xs).length : Int)) then 2 else 0)
structure Cd where
  s : Co
  state : Int
  time : Int
def b8 (n : Int) : UInt8 := UInt8.ofNat n.toNat
def cIn (c : Cd) (x : Bl) : List UInt8 := (if c.state = 1 then c.s.inn else []) ++ x.inf
def cInfoF (c : Cd) (x : Bl) : Cd × Option Bl :=
  if x.seq ≠ c.s.expect ∨ (c.state = 4 /\ c.s.pieces ≠ []) then (c, some (bR c.s 2))
  else if 65552 < (cIn c x).length then
    (⟨{ c.s with expect := 1 - c.s.expect, inn := [] }, 0, c.time⟩, some (bR { c.s with expect := 1 - c.s.expect } 2))
  else if x.more = true then
    (⟨{ c.s with expect := 1 - c.s.expect, inn := cIn c x }, 1, c.time⟩, some (bR { c.s with expect := 1 - c.s.expect } 0))
  else (⟨{ c.s with expect := 1 - c.s.expect, inn := cIn c x }, 2, c.time⟩, none)
def cAgainF (c : Cd) (x : Bl) : Cd × Option Bl :=
  if c.state = 4 /\ x.seq = c.s.sent.seq then (c, some c.s.sent)
  else if c.state = 4 /\ c.s.pieces ≠ [] then (⟨(pieceF c.s).1, c.state, c.time⟩, some (pieceF c.s).2)
  else (c, some (bR c.s 0))
def inf0 (x : Bl) : Int := (x.inf.getD 0 0).toNat
def cSuperF (c : Cd) (x : Bl) : Cd × Option Bl :=
  if x.ans = true ∨ x.code = 3 then (c, some (bR c.s 2))
  else if x.code = 1 then (⟨{ c.s with other := inf0 x }, c.state, c.time⟩, some (bS x.code true x.inf))
  else if x.code = 0 then (⟨{ c.s with expect := 0, next := 0, has := false, pieces := [], inn := [] }, 0, c.time⟩, some (bS x.code true x.inf))
  else (⟨{ c.s with pieces := [], inn := [] }, 0, c.time⟩, some (bS x.code true x.inf))
def cRecvF (c : Cd) (x : Bl) (r : Int) : Cd × Option Bl :=
  if c.state = 2 then (c, none)
  else if c.state = 3 then
    (if r = 0 /\ x.kind = 2 /\ x.code = 3 /\ x.ans = true /\ inf0 x = c.time then (⟨c.s, 2, c.time⟩, none) else (c, some (bS 3 false [b8 c.time])))
  else if r ≠ 0 then (c, some (bR c.s r))
  else if x.kind = 0 then cInfoF c x
  else if x.kind = 1 then cAgainF c x
  else cSuperF c x
def cReplyF (c : Cd) (b : List UInt8) : Cd × Option Bl :=
  if c.state ≠ 2 then (c, none) else (⟨(sendF c.s b).1, 4, c.time⟩, some (sendF c.s b).2)
def cExtendF (c : Cd) (n : Int) : Cd × Option Bl :=
  if c.state ≠ 2 ∨ n < 1 ∨ 255 < n then (c, none) else (⟨c.s, 3, n⟩, some (bS 3 false [b8 n]))
def cCmdF (c : Cd) : List UInt8 × Bool := if c.state = 2 ∨ c.state = 3 then (c.s.inn, true) else ([], false)
structure Tm where
  s : Co
  state : Int
  fails : Int
  offered : Int
  done : Bool
  cause : Int
def tFailF (t : Tm) (e : Int) : Tm × Option Bl := ({ t with state := 3, cause := e }, none)
def tFailureF (t : Tm) (e : Int) (b : Bl) : Tm × Option Bl :=
  if 10 < t.fails + 1 then ({ t with fails := t.fails + 1, state := 3, cause := e }, none) else ({ t with fails := t.fails + 1 }, some b)
def tInfoF (t : Tm) (x : Bl) : Tm × Option Bl :=
  if x.seq ≠ t.s.expect ∨ t.s.pieces ≠ [] then tFailureF t 28 (bR t.s 2)
  else if 65538 < (t.s.inn ++ x.inf).length then ({ t with fails := 0, s := { t.s with expect := 1 - t.s.expect, inn := t.s.inn ++ x.inf }, state := 3, cause := 28 }, none)
  else if x.more = true then ({ t with fails := 0, s := { t.s with expect := 1 - t.s.expect, inn := t.s.inn ++ x.inf } }, some (bR { t.s with expect := 1 - t.s.expect } 0))
  else ({ t with fails := 0, s := { t.s with expect := 1 - t.s.expect, inn := t.s.inn ++ x.inf }, state := 0, done := true }, none)
def tAgainF (t : Tm) (x : Bl) : Tm × Option Bl :=
  if x.seq = t.s.sent.seq then tFailureF t 28 t.s.sent
  else if t.s.pieces ≠ [] then ({ t with fails := 0, s := (pieceF t.s).1 }, some (pieceF t.s).2)
  else tFailureF t 28 (bR t.s 0)
def tSuperF (t : Tm) (x : Bl) : Tm × Option Bl :=
  if x.ans = true ∨ x.code = 0 then tFailureF t 28 (bR t.s 2)
  else if x.code = 2 then tFailF t 28
  else if x.code = 1 then ({ t with fails := 0, s := { t.s with other := inf0 x } }, some (bS x.code true x.inf))
  else ({ t with fails := 0 }, some (bS x.code true x.inf))
def tRecvF (t : Tm) (x : Bl) (r : Int) : Tm × Option Bl :=
  if t.state = 0 ∨ t.state = 3 then (t, none)
  else if t.state = 1 then
    (if r = 0 /\ x.kind = 2 /\ x.code = 1 /\ x.ans = true /\ inf0 x = t.offered then ({ t with s := { t.s with own := t.offered }, state := 0 }, none) else tFailureF t 28 (bS 1 false [b8 t.offered]))
  else if r ≠ 0 then tFailureF t 28 (bR t.s r)
  else if x.kind = 0 then tInfoF t x
  else if x.kind = 1 then tAgainF t x
  else tSuperF t x
def tTimeF (t : Tm) : Tm × Option Bl :=
  if t.state = 1 then tFailureF t 29 (bS 1 false [b8 t.offered])
  else if t.state = 2 then tFailureF t 29 (bR t.s 2)
  else (t, none)
def tOfferF (t : Tm) (n : Int) : Tm × Option Bl :=
  if t.state ≠ 0 ∨ n < 1 ∨ 254 < n then (t, none) else ({ t with state := 1, offered := n, fails := 0 }, some (bS 1 false [b8 n]))
def tSendF (t : Tm) (b : List UInt8) : Tm × Option Bl :=
  if t.state ≠ 0 then (t, none)
  else ({ t with state := 2, fails := 0, done := false, s := (sendF { t.s with inn := [] } b).1 }, some (sendF { t.s with inn := [] } b).2)
def tRespF (t : Tm) : List UInt8 × Bool := if t.done = true then (t.s.inn, true) else ([], false)
structure CoOK (s : Co) : Prop where
  sum : s.sum = 0 ∨ s.sum = 1
  own : 1 <= s.own /\ s.own <= 254
  other : 1 <= s.other /\ s.other <= 254
  expect : s.expect = 0 ∨ s.expect = 1
  next : s.next = 0 ∨ s.next = 1
  sent : s.sent.chk = 0
  sseq : s.sent.seq = 0 ∨ s.sent.seq = 1
  piece : ∀ p ∈ s.pieces, p.length <= 254
  inn : s.inn.length <= 65900
structure CdOK (c : Cd) : Prop where
  s : CoOK c.s
  state : c.state = 0 ∨ c.state = 1 ∨ c.state = 2 ∨ c.state = 3 ∨ c.state = 4
  inn : c.s.inn.length <= 65552
  has : c.state = 4 -> c.s.has = true
  time : 0 <= c.time /\ c.time <= 255
  asks : c.state = 3 -> 1 <= c.time
structure TmOK (t : Tm) : Prop where
  s : CoOK t.s
  state : t.state = 0 ∨ t.state = 1 ∨ t.state = 2 ∨ t.state = 3
  inn : t.state ≠ 3 -> t.s.inn.length <= 65538
  has : t.state = 2 -> t.s.has = true
  offered : 0 <= t.offered /\ t.offered <= 254
  offers : t.state = 1 -> 1 <= t.offered
  fails : 0 <= t.fails /\ t.fails <= 11
  fails3 : t.state ≠ 3 -> t.fails <= 10
  cause : t.state ≠ 3 -> t.cause = 0
theorem bR_ok {s : Co} (h : CoOK s) {code : Int} (hc : code = 0 ∨ code = 1 ∨ code = 2) : (bR s code).chk = 0 := by
  unfold Bl.chk bR
  rcases h.expect with e | e <;> rcases hc with c | c | c <;> subst c <;> simp only [e] <;> decide
theorem bS_one {code : Int} (hc : code = 1 ∨ code = 3) {n : Int} (h1 : 1 <= n) (h2 : n <= 255) (h3 : code = 1 -> n <= 254) (a : Bool) : (bS code a [b8 n]).chk = 0 := by
  have key : ∀ m : Nat, m < 256 -> 1 <= m -> ∀ a : Bool, (bS 3 a [UInt8.ofNat m]).chk = 0 /\ (m <= 254 -> (bS 1 a [UInt8.ofNat m]).chk = 0) := by decide +kernel
  have hk := key n.toNat (by omega) (by omega) a
  rcases hc with rfl | rfl
  . exact hk.2 (by have := h3 rfl; omega)
  . exact hk.1
theorem b8_toNat {n : Int} (h1 : 0 <= n) (h2 : n <= 255) : ((b8 n).toNat : Int) = n := by
  unfold b8; rw [b_toNat _ (by omega)]; omega
theorem bI_ok {s : Co} (h : CoOK s) {p : List UInt8} (hp : p.length <= 254) (r : List (List UInt8)) : (bI s p r).chk = 0 := by
  unfold Bl.chk bI checkE infE
  rcases h.next with e | e <;> simp [e] <;> omega
theorem cutF_ok {n : Nat} (hn : n <= 254) : ∀ (t : Nat) (b : List UInt8), 1 <= n -> b.length <= t + n -> ∀ p ∈ cutF n t b, p.length <= 254
  | 0, b, h1, h, p, hp => by simp [cutF] at hp; subst hp; omega
  | t + 1, b, h1, h, p, hp => by
    unfold cutF at hp
    split at hp
    . simp at hp; subst hp; omega
    . simp at hp
      rcases hp with rfl | hp
      . simp; omega
      . exact cutF_ok hn t _ h1 (by simp; omega) p hp
theorem cutF_ne {n : Nat} : ∀ (t : Nat) (b : List UInt8), cutF n t b ≠ []
  | 0, b => by simp [cutF]
  | t + 1, b => by unfold cutF; split <;> simp
theorem cut_ok {n : Int} (h : 1 <= n /\ n <= 254) (b : List UInt8) : (∀ p ∈ cut n.toNat b, p.length <= 254) /\ cut n.toNat b ≠ [] :=
  ⟨cutF_ok (by omega) _ _ (by omega) (by omega), cutF_ne _ _⟩
theorem piece_ok {s : Co} (h : CoOK s) (hp : s.pieces ≠ []) : CoOK (pieceF s).1 /\ (pieceF s).2.chk = 0 /\ (pieceF s).1.sent = (pieceF s).2 /\ (pieceF s).1.has = true /\ (pieceF s).1.inn = s.inn := by
  obtain ⟨sum, own, other, expect, next, has, sent, pieces, inn⟩ := s
  cases pieces with
  | nil => exact absurd rfl hp
  | cons p r =>
    have hb := bI_ok h (h.piece p (by simp)) r
    refine ⟨⟨h.sum, h.own, h.other, h.expect, ?_, hb, ?_, fun q hq => h.piece q (List.mem_cons_of_mem _ hq), h.inn⟩, hb, rfl, rfl, rfl⟩
    . have := h.next
      show 1 - next = 0 ∨ 1 - next = 1
      simp only at this
      omega
    . exact h.next
theorem send_ok {s : Co} (h : CoOK s) (b : List UInt8) : CoOK (sendF s b).1 /\ (sendF s b).2.chk = 0 /\ (sendF s b).1.sent = (sendF s b).2 /\ (sendF s b).1.has = true /\ (sendF s b).1.inn = s.inn := by
  obtain ⟨h1, h2⟩ := cut_ok h.other b
  exact piece_ok (s := { s with pieces := cut s.other.toNat b }) ⟨h.sum, h.own, h.other, h.expect, h.next, h.sent, h.sseq, h1, h.inn⟩ h2
end Go.Proofs.Ytilfphdeacogmaa.En

/- Chapter 08 in plain words: what both sides keep to, whatever they receive. -/
namespace Go.Proofs.Ytilfphdeacogmaa.En
open Go
set_option linter.unusedVariables false
theorem chk_inf {x : Bl} (h : x.chk = 0) : infE x.kind x.code x.inf = 0 := by
  unfold Bl.chk checkE at h
  by_cases h1 : x.kind < 0 ∨ 2 < x.kind
  . rw [if_pos h1] at h; exact absurd h (by decide)
  rw [if_neg h1] at h
  by_cases h2 : x.nad < 0 ∨ 254 < x.nad
  . rw [if_pos h2] at h; exact absurd h (by decide)
  rw [if_neg h2] at h
  by_cases h3 : x.kind ≠ 2 /\ (x.seq < 0 ∨ 1 < x.seq)
  . rw [if_pos h3] at h; exact absurd h (by decide)
  rw [if_neg h3] at h
  by_cases h4 : x.kind ≠ 0 /\ (x.code < 0 ∨ (if x.kind = 1 then 3 else 4) <= x.code)
  . rw [if_pos h4] at h; exact absurd h (by decide)
  rw [if_neg h4] at h
  by_cases h5 : (x.kind = 2 /\ x.seq ≠ 0) ∨ (x.kind = 0 /\ x.code ≠ 0) ∨ (x.kind ≠ 0 /\ x.more = true) ∨ (x.kind ≠ 2 /\ x.ans = true)
  . rw [if_pos h5] at h; exact absurd h (by decide)
  rw [if_neg h5] at h
  exact h
theorem super_facts {x : Bl} (h : x.chk = 0) (h0 : x.kind ≠ 0) (h1 : x.kind ≠ 1) : x.kind = 2 /\ x.seq = 0 /\ x.more = false /\ (x.code = 0 ∨ x.code = 1 ∨ x.code = 2 ∨ x.code = 3) /\
    ((x.code = 0 ∨ x.code = 2) -> x.inf = []) /\ ((x.code = 1 ∨ x.code = 3) -> x.inf.length = 1 /\ 1 <= inf0 x /\ inf0 x <= 255 /\ (x.code = 1 -> inf0 x <= 254)) := by
  obtain ⟨-, -, ⟨e, _⟩ | ⟨e, _⟩ | ⟨e1, e2, e3, e4⟩⟩ := ok_facts h
  . exact absurd e h0
  . exact absurd e h1
  . have hi := chk_inf h
    refine ⟨e1, e2, e4, e3, fun hc => ?_, fun hc => ?_⟩
    . unfold infE at hi
      rw [if_neg h0, if_pos (.inr hc)] at hi
      split at hi
      . exact List.eq_nil_of_length_eq_zero (by assumption)
      . cases hi
    . unfold infE at hi
      rw [if_neg h0, if_neg (by omega)] at hi
      split at hi
      . rename_i hh
        obtain ⟨g1, g2, g3⟩ := hh
        have := UInt8.toNat_lt (x.inf.getD 0 0)
        unfold inf0
        refine ⟨g1, by omega, by omega, fun hc => by have := g3 hc; omega⟩
      . cases hi
theorem kind_ok {x : Bl} (h : x.chk = 0) : (x.kind = 0 ∨ x.kind = 1 ∨ x.kind = 2) /\ (x.kind ≠ 2 -> x.seq = 0 ∨ x.seq = 1) /\ x.inf.length <= 254 := by
  obtain ⟨-, e0, ⟨e, e'⟩ | ⟨e, e'⟩ | ⟨e, e'⟩⟩ := ok_facts h
  . exact ⟨.inl e, fun _ => e'.1, e0⟩
  . exact ⟨.inr (.inl e), fun _ => e'.1, e0⟩
  . exact ⟨.inr (.inr e), fun hh => absurd e hh, e0⟩
theorem answer_ok {x : Bl} (h : x.chk = 0) (h0 : x.kind ≠ 0) (h1 : x.kind ≠ 1) : (bS x.code true x.inf).chk = 0 := by
  obtain ⟨e1, e2, e3, e4, e5, e6⟩ := super_facts h h0 h1
  have hi := chk_inf h
  rw [e1] at hi
  show checkE 0 2 0 false x.code true x.inf = 0
  unfold checkE
  rw [if_neg (by decide), if_neg (by decide), if_neg (by simp), if_neg (by simp; omega), if_neg (by simp), hi]
theorem rx_range (s : Co) (xs : List UInt8) : ((rx s xs).2 = 0 ∨ (rx s xs).2 = 1 ∨ (rx s xs).2 = 2) /\ ((rx s xs).2 = 0 -> (rx s xs).1.chk = 0 /\ (rx s xs).1.nad = 0 /\ ((rx s xs).1.kind = 0 -> ((rx s xs).1.inf.length : Int) <= s.own)) := by
  unfold rx
  by_cases h1 : decE s.sum xs = 6
  . rw [if_pos h1]; exact ⟨.inr (.inl rfl), fun h => absurd (show (1 : Int) = 0 from h) (by decide)⟩
  rw [if_neg h1]
  by_cases h2 : decE s.sum xs ≠ 0 ∨ dNad s.sum xs ≠ 0 ∨ (dKind s.sum xs = 0 /\ s.own < ((dInf s.sum xs).length : Int))
  . rw [if_pos h2]; exact ⟨.inr (.inr rfl), fun h => absurd (show (2 : Int) = 0 from h) (by decide)⟩
  rw [if_neg h2]
  refine ⟨.inl rfl, fun _ => ?_⟩
  have h3 : decE s.sum xs = 0 := Decidable.byContradiction fun h => h2 (.inl h)
  refine ⟨(dec_ok h3).2, Decidable.byContradiction fun h => h2 (.inr (.inl h)), fun hk => ?_⟩
  have : ¬ s.own < ((dInf s.sum xs).length : Int) := fun h => h2 (.inr (.inr ⟨hk, h⟩))
  show ((dInf s.sum xs).length : Int) <= s.own
  omega
def OutOK (o : Option Bl) : Prop := ∀ b, o = some b -> b.chk = 0
theorem outOK_none : OutOK none := fun b h => by cases h
theorem outOK_some {b : Bl} (h : b.chk = 0) : OutOK (some b) := fun c hc => by injection hc with hc; subst hc; exact h
theorem CoOK.exp {s : Co} (h : CoOK s) {inn : List UInt8} (hi : inn.length <= 65900) : CoOK { s with expect := 1 - s.expect, inn := inn } :=
  ⟨h.sum, h.own, h.other, by have := h.expect; show 1 - s.expect = 0 ∨ 1 - s.expect = 1; omega, h.next, h.sent, h.sseq, h.piece, hi⟩
theorem cInfo_ok {c : Cd} (h : CdOK c) {x : Bl} (hx : x.chk = 0) (hs : c.state ≠ 2 /\ c.state ≠ 3) : CdOK (cInfoF c x).1 /\ OutOK (cInfoF c x).2 := by
  have hk := kind_ok hx
  unfold cInfoF
  split
  . exact ⟨h, outOK_some (bR_ok h.s (by simp))⟩
  have hl : (cIn c x).length <= 65900 := by
    have := h.inn
    unfold cIn
    rw [List.length_append]; split <;> simp <;> omega
  split
  . exact ⟨⟨h.s.exp (by simp), .inl rfl, by simp, (by intro h; simp at h), h.time, (by intro h; simp at h)⟩, outOK_some (bR_ok (s := { c.s with expect := 1 - c.s.expect }) (h.s.exp (inn := c.s.inn) (by have := h.inn; omega)) (by simp))⟩
  split
  . exact ⟨⟨h.s.exp hl, .inr (.inl rfl), by simp only; omega, (by intro h; simp at h), h.time, (by intro h; simp at h)⟩, outOK_some (bR_ok (s := { c.s with expect := 1 - c.s.expect }) (h.s.exp (inn := c.s.inn) (by have := h.inn; omega)) (by simp))⟩
  . exact ⟨⟨h.s.exp hl, .inr (.inr (.inl rfl)), by simp only; omega, (by intro h; simp at h), h.time, (by intro h; simp at h)⟩, outOK_none⟩
theorem cAgain_ok {c : Cd} (h : CdOK c) (x : Bl) : CdOK (cAgainF c x).1 /\ OutOK (cAgainF c x).2 := by
  unfold cAgainF
  split
  . exact ⟨h, outOK_some h.s.sent⟩
  split
  . rename_i h1
    obtain ⟨a1, a2, a3, a4, a5⟩ := piece_ok h.s h1.2
    exact ⟨⟨a1, h.state, by rw [a5]; exact h.inn, fun _ => a4, h.time, h.asks⟩, outOK_some a2⟩
  . exact ⟨h, outOK_some (bR_ok h.s (by simp))⟩
theorem cSuper_ok {c : Cd} (h : CdOK c) {x : Bl} (hx : x.chk = 0) (h0 : x.kind ≠ 0) (h1 : x.kind ≠ 1) : CdOK (cSuperF c x).1 /\ OutOK (cSuperF c x).2 := by
  obtain ⟨e1, e2, e3, e4, e5, e6⟩ := super_facts hx h0 h1
  have ha := answer_ok hx h0 h1
  unfold cSuperF
  split
  . exact ⟨h, outOK_some (bR_ok h.s (by simp))⟩
  split
  . rename_i hc
    obtain ⟨_, f1, f2, f3⟩ := e6 (.inl hc)
    exact ⟨⟨⟨h.s.sum, h.s.own, ⟨f1, f3 hc⟩, h.s.expect, h.s.next, h.s.sent, h.s.sseq, h.s.piece, h.s.inn⟩, h.state, h.inn, h.has, h.time, h.asks⟩, outOK_some ha⟩
  split
  . exact ⟨⟨⟨h.s.sum, h.s.own, h.s.other, .inl rfl, .inl rfl, h.s.sent, h.s.sseq, fun p hp => by simp at hp, by simp⟩, .inl rfl, by simp, (by intro h; simp at h), h.time, (by intro h; simp at h)⟩, outOK_some ha⟩
  . exact ⟨⟨⟨h.s.sum, h.s.own, h.s.other, h.s.expect, h.s.next, h.s.sent, h.s.sseq, fun p hp => by simp at hp, by simp⟩, .inl rfl, by simp, (by intro h; simp at h), h.time, (by intro h; simp at h)⟩, outOK_some ha⟩
theorem cRecv_ok {c : Cd} (h : CdOK c) {x : Bl} {r : Int} (hr : r = 0 ∨ r = 1 ∨ r = 2) (hx : r = 0 -> x.chk = 0) : CdOK (cRecvF c x r).1 /\ OutOK (cRecvF c x r).2 := by
  unfold cRecvF
  split
  . exact ⟨h, outOK_none⟩
  split
  . rename_i h3
    split
    . exact ⟨⟨h.s, .inr (.inr (.inl rfl)), h.inn, (by intro h; simp at h), h.time, (by intro h; simp at h)⟩, outOK_none⟩
    . exact ⟨h, outOK_some (bS_one (.inr rfl) (h.asks h3) h.time.2 ((by intro h; simp at h)) _)⟩
  split
  . exact ⟨h, outOK_some (bR_ok h.s hr)⟩
  rename_i h2 h3 h4
  have hx0 := hx (Decidable.byContradiction h4)
  split
  . exact cInfo_ok h hx0 ⟨h2, h3⟩
  split
  . exact cAgain_ok h x
  . rename_i a b
    exact cSuper_ok h hx0 a b
theorem cReply_ok {c : Cd} (h : CdOK c) (b : List UInt8) : CdOK (cReplyF c b).1 /\ OutOK (cReplyF c b).2 := by
  unfold cReplyF
  split
  . exact ⟨h, outOK_none⟩
  . obtain ⟨a1, a2, a3, a4, a5⟩ := send_ok h.s b
    exact ⟨⟨a1, .inr (.inr (.inr (.inr rfl))), by rw [a5]; exact h.inn, fun _ => a4, h.time, (by intro h; simp at h)⟩, outOK_some a2⟩
theorem cExtend_ok {c : Cd} (h : CdOK c) (n : Int) : CdOK (cExtendF c n).1 /\ OutOK (cExtendF c n).2 := by
  unfold cExtendF
  split
  . exact ⟨h, outOK_none⟩
  . rename_i hn
    have h1 : 1 <= n /\ n <= 255 := by omega
    exact ⟨⟨h.s, .inr (.inr (.inr (.inl rfl))), h.inn, (by intro h; simp at h), ⟨by simp only; omega, h1.2⟩, fun _ => h1.1⟩, outOK_some (bS_one (.inr rfl) h1.1 h1.2 ((by intro h; simp at h)) _)⟩
theorem tFailure_ok {t : Tm} (h : TmOK t) (h3 : t.state ≠ 3) {b : Bl} (hb : b.chk = 0) (e : Int) : TmOK (tFailureF t e b).1 /\ OutOK (tFailureF t e b).2 := by
  have hf := h.fails3 h3
  have hf0 := h.fails.1
  unfold tFailureF
  split
  . exact ⟨⟨h.s, .inr (.inr (.inr rfl)), fun h => absurd rfl h, (by intro h; simp at h), h.offered, (by intro h; simp at h), ⟨by simp only; omega, by simp only; omega⟩, fun h => absurd rfl h, fun h => absurd rfl h⟩, outOK_none⟩
  . exact ⟨⟨h.s, h.state, h.inn, h.has, h.offered, h.offers, ⟨by simp only; omega, by simp only; omega⟩, fun _ => by simp only; omega, h.cause⟩, outOK_some hb⟩
theorem tInfo_ok {t : Tm} (h : TmOK t) (h2 : t.state = 2) {x : Bl} (hx : x.chk = 0) : TmOK (tInfoF t x).1 /\ OutOK (tInfoF t x).2 := by
  have hk := kind_ok hx
  have h3 : t.state ≠ 3 := by omega
  have hi := h.inn h3
  unfold tInfoF
  split
  . exact tFailure_ok h h3 (bR_ok h.s (by simp)) _
  have hl : (t.s.inn ++ x.inf).length <= 65900 := by rw [List.length_append]; omega
  split
  . exact ⟨⟨h.s.exp hl, .inr (.inr (.inr rfl)), fun h => absurd rfl h, (by intro h; simp at h), h.offered, (by intro h; simp at h), by simp, fun h => absurd rfl h, fun h => absurd rfl h⟩, outOK_none⟩
  have hb : (bR { t.s with expect := 1 - t.s.expect } 0).chk = 0 := bR_ok (s := { t.s with expect := 1 - t.s.expect }) (h.s.exp (inn := t.s.inn) (by omega)) (by simp)
  split
  . exact ⟨⟨h.s.exp hl, h.state, fun _ => by simp only; omega, h.has, h.offered, h.offers, by simp, fun _ => by simp, h.cause⟩, outOK_some hb⟩
  . exact ⟨⟨h.s.exp hl, .inl rfl, fun _ => by simp only; omega, (by intro h; simp at h), h.offered, (by intro h; simp at h), by simp, fun _ => by simp, fun _ => h.cause h3⟩, outOK_none⟩
theorem tAgain_ok {t : Tm} (h : TmOK t) (h2 : t.state = 2) (x : Bl) : TmOK (tAgainF t x).1 /\ OutOK (tAgainF t x).2 := by
  have h3 : t.state ≠ 3 := by omega
  unfold tAgainF
  split
  . exact tFailure_ok h h3 h.s.sent _
  split
  . rename_i h1
    obtain ⟨a1, a2, a3, a4, a5⟩ := piece_ok h.s h1
    exact ⟨⟨a1, h.state, fun hh => by rw [a5]; exact h.inn hh, fun _ => a4, h.offered, h.offers, by simp, fun _ => by simp, h.cause⟩, outOK_some a2⟩
  . exact tFailure_ok h h3 (bR_ok h.s (by simp)) _
theorem tSuper_ok {t : Tm} (h : TmOK t) (h2 : t.state = 2) {x : Bl} (hx : x.chk = 0) (h0 : x.kind ≠ 0) (h1 : x.kind ≠ 1) : TmOK (tSuperF t x).1 /\ OutOK (tSuperF t x).2 := by
  obtain ⟨e1, e2, e3, e4, e5, e6⟩ := super_facts hx h0 h1
  have ha := answer_ok hx h0 h1
  have h3 : t.state ≠ 3 := by omega
  unfold tSuperF tFailF
  split
  . exact tFailure_ok h h3 (bR_ok h.s (by simp)) _
  split
  . exact ⟨⟨h.s, .inr (.inr (.inr rfl)), fun h => absurd rfl h, (by intro h; simp at h), h.offered, (by intro h; simp at h), h.fails, fun h => absurd rfl h, fun h => absurd rfl h⟩, outOK_none⟩
  split
  . rename_i hc
    obtain ⟨_, f1, f2, f3⟩ := e6 (.inl hc)
    exact ⟨⟨⟨h.s.sum, h.s.own, ⟨f1, f3 hc⟩, h.s.expect, h.s.next, h.s.sent, h.s.sseq, h.s.piece, h.s.inn⟩, h.state, h.inn, h.has, h.offered, h.offers, by simp, fun _ => by simp, h.cause⟩, outOK_some ha⟩
  . exact ⟨⟨h.s, h.state, h.inn, h.has, h.offered, h.offers, by simp, fun _ => by simp, h.cause⟩, outOK_some ha⟩
theorem tRecv_ok {t : Tm} (h : TmOK t) {x : Bl} {r : Int} (hr : r = 0 ∨ r = 1 ∨ r = 2) (hx : r = 0 -> x.chk = 0) : TmOK (tRecvF t x r).1 /\ OutOK (tRecvF t x r).2 := by
  unfold tRecvF
  split
  . exact ⟨h, outOK_none⟩
  rename_i h0
  have h3 : t.state ≠ 3 := by omega
  split
  . rename_i h1
    split
    . refine ⟨⟨⟨h.s.sum, ⟨h.offers h1, h.offered.2⟩, h.s.other, h.s.expect, h.s.next, h.s.sent, h.s.sseq, h.s.piece, h.s.inn⟩, .inl rfl, fun _ => h.inn h3, (by intro h; simp at h), h.offered, (by intro h; simp at h), h.fails, fun _ => h.fails3 h3, fun _ => h.cause h3⟩, outOK_none⟩
    . exact tFailure_ok h h3 (bS_one (.inl rfl) (h.offers h1) (by have := h.offered; omega) (fun _ => h.offered.2) _) _
  rename_i h1
  have h2 : t.state = 2 := by have := h.state; omega
  split
  . exact tFailure_ok h h3 (bR_ok h.s hr) _
  rename_i h4
  have hx0 := hx (Decidable.byContradiction h4)
  split
  . exact tInfo_ok h h2 hx0
  split
  . exact tAgain_ok h h2 x
  . rename_i a b
    exact tSuper_ok h h2 hx0 a b
theorem tOffer_ok {t : Tm} (h : TmOK t) (n : Int) : TmOK (tOfferF t n).1 /\ OutOK (tOfferF t n).2 := by
  unfold tOfferF
  split
  . exact ⟨h, outOK_none⟩
  . rename_i hn
    have h1 : t.state = 0 /\ 1 <= n /\ n <= 254 := by omega
    have h3 : t.state ≠ 3 := by omega
    exact ⟨⟨h.s, .inr (.inl rfl), fun _ => h.inn h3, (by intro h; simp at h), ⟨by simp only; omega, h1.2.2⟩, fun _ => h1.2.1, by simp, fun _ => by simp, fun _ => h.cause h3⟩, outOK_some (bS_one (.inl rfl) h1.2.1 (by omega) (fun _ => h1.2.2) _)⟩
theorem tSend_ok {t : Tm} (h : TmOK t) (b : List UInt8) : TmOK (tSendF t b).1 /\ OutOK (tSendF t b).2 := by
  unfold tSendF
  split
  . exact ⟨h, outOK_none⟩
  . rename_i hn
    have h0 : t.state = 0 := Decidable.byContradiction hn
    obtain ⟨a1, a2, a3, a4, a5⟩ := send_ok (s := { t.s with inn := [] }) ⟨h.s.sum, h.s.own, h.s.other, h.s.expect, h.s.next, h.s.sent, h.s.sseq, h.s.piece, by simp⟩ b
    exact ⟨⟨a1, .inr (.inr (.inl rfl)), fun _ => by simp only; rw [a5]; simp, fun _ => a4, h.offered, (by intro h; simp at h), by simp, fun _ => by simp, fun _ => h.cause (by omega)⟩, outOK_some a2⟩
end Go.Proofs.Ytilfphdeacogmaa.En

/- Chapter 08: both sides come through, although transmissions are lost or damaged; in plain words. -/
namespace Go.Proofs.Ytilfphdeacogmaa.En
open Go
set_option linter.unusedVariables false
structure CS where
  c : Cd
  asked : Bool
  times : Int
  right : Bool
def cardF (cmd resp : List UInt8) (time : Int) (s : CS) (x : Bl) (r : Int) : CS × Option Bl :=
  match (cRecvF s.c x r).2 with
  | some b => (⟨(cRecvF s.c x r).1, s.asked, s.times, s.right⟩, some b)
  | none =>
    if (cCmdF (cRecvF s.c x r).1).2 = true then
      if 1 <= time /\ time <= 255 /\ s.asked = false then (⟨(cExtendF (cRecvF s.c x r).1 time).1, true, s.times, s.right⟩, (cExtendF (cRecvF s.c x r).1 time).2)
      else (⟨(cReplyF (cRecvF s.c x r).1 resp).1, s.asked, s.times + 1, s.right && decide ((cCmdF (cRecvF s.c x r).1).1 = cmd)⟩, (cReplyF (cRecvF s.c x r).1 resp).2)
    else (⟨(cRecvF s.c x r).1, s.asked, s.times, s.right⟩, none)
structure Gn (T : Tm) (c : Cd) : Prop where
  tok : TmOK T
  cok : CdOK c
  sum : T.s.sum = c.s.sum
  to : T.s.other = c.s.own
  co : c.s.other = T.s.own
def fl (l : List (List UInt8)) : List UInt8 := l.flatten
structure PA (cmd : List UInt8) (T : Tm) (K : CS) : Prop where
  g : Gn T K.c
  busy : T.state = 2
  k : T.s.sent.kind = 0
  nad : T.s.sent.nad = 0
  fit : (T.s.sent.inf.length : Int) <= K.c.s.own
  tp : ∀ p ∈ T.s.pieces, (p.length : Int) <= K.c.s.own
  seq : T.s.sent.seq = K.c.s.expect
  nx : T.s.next = 1 - K.c.s.expect
  cn : K.c.s.next = T.s.expect
  inn : T.s.inn = []
  all : (if K.c.state = 1 then K.c.s.inn else []) ++ (T.s.sent.inf ++ fl T.s.pieces) = cmd
  more : T.s.sent.more = !T.s.pieces.isEmpty
  st : K.c.state = 0 ∨ K.c.state = 1 ∨ K.c.state = 4
  cp : K.c.s.pieces = []
  c4 : K.c.state = 4 -> K.c.s.sent.seq ≠ T.s.expect
  asked : K.asked = false
  times : K.times = 0
  right : K.right = true
structure PB (cmd : List UInt8) (T : Tm) (K : CS) : Prop where
  g : Gn T K.c
  busy : T.state = 2
  tp : ∀ p ∈ T.s.pieces, (p.length : Int) <= K.c.s.own
  ne : T.s.pieces ≠ []
  seq : T.s.sent.seq = 1 - K.c.s.expect
  nx : T.s.next = K.c.s.expect
  cn : K.c.s.next = T.s.expect
  inn : T.s.inn = []
  all : K.c.s.inn ++ fl T.s.pieces = cmd
  st : K.c.state = 1
  cp : K.c.s.pieces = []
  asked : K.asked = false
  times : K.times = 0
  right : K.right = true
structure PW (cmd : List UInt8) (time : Int) (T : Tm) (K : CS) : Prop where
  g : Gn T K.c
  busy : T.state = 2
  tp : T.s.pieces = []
  st : K.c.state = 3
  tm : K.c.time = time
  ti : 1 <= time /\ time <= 255
  inn : T.s.inn = []
  all : K.c.s.inn = cmd
  ex : K.c.s.expect = T.s.next
  seq : T.s.sent.seq = 1 - T.s.next
  cn : K.c.s.next = T.s.expect
  asked : K.asked = true
  times : K.times = 0
  right : K.right = true
structure PC (resp : List UInt8) (T : Tm) (K : CS) : Prop where
  g : Gn T K.c
  busy : T.state = 2
  tp : T.s.pieces = []
  st : K.c.state = 4
  k : K.c.s.sent.kind = 0
  nad : K.c.s.sent.nad = 0
  fit : (K.c.s.sent.inf.length : Int) <= T.s.own
  cp : ∀ p ∈ K.c.s.pieces, (p.length : Int) <= T.s.own
  cs : K.c.s.sent.seq = T.s.expect
  cn : K.c.s.next = 1 - T.s.expect
  ex : K.c.s.expect = T.s.next
  seq : T.s.sent.seq = 1 - T.s.next
  all : T.s.inn ++ (K.c.s.sent.inf ++ fl K.c.s.pieces) = resp
  more : K.c.s.sent.more = !K.c.s.pieces.isEmpty
  times : K.times = 1
  right : K.right = true
structure PD (resp : List UInt8) (T : Tm) (K : CS) : Prop where
  g : Gn T K.c
  busy : T.state = 2
  tp : T.s.pieces = []
  st : K.c.state = 4
  cp : ∀ p ∈ K.c.s.pieces, (p.length : Int) <= T.s.own
  ne : K.c.s.pieces ≠ []
  cs : K.c.s.sent.seq = 1 - T.s.expect
  cn : K.c.s.next = T.s.expect
  ex : K.c.s.expect = T.s.next
  seq : T.s.sent.seq = 1 - T.s.next
  all : T.s.inn ++ fl K.c.s.pieces = resp
  times : K.times = 1
  right : K.right = true
structure Rest (T : Tm) (c : Cd) : Prop where
  g : Gn T c
  t0 : T.state = 0
  st : c.state = 0 ∨ c.state = 4
  cp : c.s.pieces = []
  ex : c.s.expect = T.s.next
  cn : c.s.next = T.s.expect
  c4 : c.state = 4 -> c.s.sent.seq ≠ T.s.expect
structure Fin (resp : List UInt8) (T : Tm) (K : CS) : Prop where
  rest : Rest T K.c
  done : T.done = true
  inn : T.s.inn = resp
  times : K.times = 1
  right : K.right = true
def IsR (T : Tm) (b : Bl) : Prop := ∃ code, (code = 0 ∨ code = 1 ∨ code = 2) /\ b = bR T.s code
def Ph (cmd resp : List UInt8) (time : Int) (L : Nat) (T : Tm) (K : CS) (b : Bl) (d m : Nat) : Prop :=
  (PA cmd T K /\ ((b = T.s.sent /\ T.fails + 2 * d <= 10 /\ 3 * d + 2 * T.s.pieces.length + 2 * L + 8 <= m) ∨ (IsR T b /\ T.fails + 2 * d + 1 <= 10 /\ 3 * d + 2 * T.s.pieces.length + 2 * L + 9 <= m))) ∨
  (PB cmd T K /\ IsR T b /\ T.fails + 2 * d <= 10 /\ 3 * d + 2 * T.s.pieces.length + 2 * L + 7 <= m) ∨
  (PW cmd time T K /\ T.fails + 2 * d <= 10 /\ ((b = bS 3 true [b8 time] /\ 3 * d + 2 * L + 4 <= m) ∨ (IsR T b /\ 3 * d + 2 * L + 5 <= m))) ∨
  (PC resp T K /\ IsR T b /\ T.fails + 2 * d <= 10 /\ 3 * d + 2 * K.c.s.pieces.length + 2 <= m) ∨
  (PD resp T K /\ IsR T b /\ T.fails + 2 * d <= 10 /\ 3 * d + 2 * K.c.s.pieces.length + 1 <= m)
def Pre (cmd resp : List UInt8) (time : Int) (L : Nat) (T : Tm) (K : CS) (o : Bl) (d m : Nat) : Prop :=
  (PA cmd T K /\ (∃ code, (code = 0 ∨ code = 1) /\ o = bR K.c.s code) /\ T.fails + 2 * d + 1 <= 10 /\ 3 * d + 2 * T.s.pieces.length + 2 * L + 8 <= m) ∨
  (PB cmd T K /\ (∃ code, (code = 0 ∨ code = 1) /\ o = bR K.c.s code) /\ T.fails + 2 * d <= 10 /\ 3 * d + 2 * T.s.pieces.length + 2 * L + 6 <= m) ∨
  (PW cmd time T K /\ o = bS 3 false [b8 time] /\ T.fails + 2 * d <= 10 /\ 3 * d + 2 * L + 4 <= m) ∨
  (PC resp T K /\ o = K.c.s.sent /\ T.fails + 2 * d <= 10 /\ 3 * d + 2 * K.c.s.pieces.length + 1 <= m) ∨
  (PC resp T K /\ o = bR K.c.s 1 /\ T.fails + 2 * d + 1 <= 10 /\ 3 * d + 2 * K.c.s.pieces.length + 2 <= m) ∨
  (PD resp T K /\ o = bR K.c.s 1 /\ T.fails + 2 * d + 1 <= 10 /\ 3 * d + 2 * K.c.s.pieces.length + 1 <= m)
def Nx (cmd resp : List UInt8) (time : Int) (L : Nat) (r : Tm × Option Bl) (K : CS) (d m : Nat) : Prop :=
  (∃ b, r.2 = some b /\ Ph cmd resp time L r.1 K b d m) ∨ (r.2 = none /\ Fin resp r.1 K)
def Fit (s : Co) (b : Bl) : Prop := b.chk = 0 /\ b.nad = 0 /\ (b.kind = 0 -> (b.inf.length : Int) <= s.own)
def up (T : Tm) (f : Int) : Tm := { T with fails := f }
section
variable {cmd resp : List UInt8} {time : Int} {L : Nat} {T : Tm} {K : CS}
theorem TmOK.up {T : Tm} (h : TmOK T) {f : Int} (h0 : 0 <= f) (h1 : f <= 10) : TmOK (up T f) :=
  ⟨h.s, h.state, h.inn, h.has, h.offered, h.offers, ⟨h0, by show f <= 11; omega⟩, fun _ => h1, h.cause⟩
theorem Gn.up {T : Tm} {c : Cd} (h : Gn T c) {f : Int} (h0 : 0 <= f) (h1 : f <= 10) : Gn (up T f) c := ⟨h.tok.up h0 h1, h.cok, h.sum, h.to, h.co⟩
theorem PA.up (h : PA cmd T K) {f : Int} (h0 : 0 <= f) (h1 : f <= 10) : PA cmd (up T f) K := ⟨h.g.up h0 h1, h.busy, h.k, h.nad, h.fit, h.tp, h.seq, h.nx, h.cn, h.inn, h.all, h.more, h.st, h.cp, h.c4, h.asked, h.times, h.right⟩
theorem PB.up (h : PB cmd T K) {f : Int} (h0 : 0 <= f) (h1 : f <= 10) : PB cmd (up T f) K := ⟨h.g.up h0 h1, h.busy, h.tp, h.ne, h.seq, h.nx, h.cn, h.inn, h.all, h.st, h.cp, h.asked, h.times, h.right⟩
theorem PW.up (h : PW cmd time T K) {f : Int} (h0 : 0 <= f) (h1 : f <= 10) : PW cmd time (up T f) K := ⟨h.g.up h0 h1, h.busy, h.tp, h.st, h.tm, h.ti, h.inn, h.all, h.ex, h.seq, h.cn, h.asked, h.times, h.right⟩
theorem PC.up (h : PC resp T K) {f : Int} (h0 : 0 <= f) (h1 : f <= 10) : PC resp (up T f) K := ⟨h.g.up h0 h1, h.busy, h.tp, h.st, h.k, h.nad, h.fit, h.cp, h.cs, h.cn, h.ex, h.seq, h.all, h.more, h.times, h.right⟩
theorem PD.up (h : PD resp T K) {f : Int} (h0 : 0 <= f) (h1 : f <= 10) : PD resp (up T f) K := ⟨h.g.up h0 h1, h.busy, h.tp, h.st, h.cp, h.ne, h.cs, h.cn, h.ex, h.seq, h.all, h.times, h.right⟩
theorem IsR.up {T : Tm} {code : Int} (h : code = 0 ∨ code = 1 ∨ code = 2) (f : Int) : IsR (up T f) (bR T.s code) := ⟨code, h, rfl⟩
theorem fail_eq {T : Tm} (e : Int) (b : Bl) (h : T.fails + 1 <= 10) : tFailureF T e b = (up T (T.fails + 1), some b) := by
  unfold tFailureF; rw [if_neg (by omega)]; rfl
theorem time_busy {T : Tm} (h : T.state = 2) (hf : T.fails + 1 <= 10) : tTimeF T = (up T (T.fails + 1), some (bR T.s 2)) := by
  unfold tTimeF; rw [if_neg (by omega), if_pos h, fail_eq _ _ hf]
theorem bad_busy {T : Tm} (h : T.state = 2) (hf : T.fails + 1 <= 10) (x : Bl) : tRecvF T x 1 = (up T (T.fails + 1), some (bR T.s 1)) := by
  unfold tRecvF; rw [if_neg (by omega), if_neg (by omega), if_pos (by decide), fail_eq _ _ hf]
theorem again_busy {T : Tm} (h : T.state = 2) (x : Bl) (hk : x.kind = 1) : tRecvF T x 0 = tAgainF T x := by
  unfold tRecvF; rw [if_neg (by omega), if_neg (by omega), if_neg (by decide), if_neg (by omega), if_pos hk]
theorem worse {b : Bl} {d m : Nat} (hd : 1 <= d) (h : Ph cmd resp time L T K b d (m + 1)) (code : Int) (hc : code = 0 ∨ code = 1 ∨ code = 2) : T.state = 2 /\ T.fails + 1 <= 10 /\ Ph cmd resp time L (up T (T.fails + 1)) K (bR T.s code) (d - 1) m := by
  have hfu : (up T (T.fails + 1)).fails = T.fails + 1 := rfl
  have hsu : (up T (T.fails + 1)).s = T.s := rfl
  rcases h with ⟨p, hb⟩ | ⟨p, hb, h1, h2⟩ | ⟨p, h1, hb⟩ | ⟨p, hb, h1, h2⟩ | ⟨p, hb, h1, h2⟩
  . have h0 := p.g.tok.fails.1
    have h1 : T.fails + 2 * d <= 10 /\ 3 * d + 2 * T.s.pieces.length + 2 * L + 8 <= m + 1 := by rcases hb with ⟨_, a, b⟩ | ⟨_, a, b⟩ <;> omega
    exact ⟨p.busy, by omega, .inl ⟨p.up (by omega) (by omega), .inr ⟨IsR.up hc _, by rw [hfu]; omega, by rw [hsu]; omega⟩⟩⟩
  . have h0 := p.g.tok.fails.1
    exact ⟨p.busy, by omega, .inr (.inl ⟨p.up (by omega) (by omega), IsR.up hc _, by rw [hfu]; omega, by rw [hsu]; omega⟩)⟩
  . have h0 := p.g.tok.fails.1
    have h2 : 3 * d + 2 * L + 4 <= m + 1 := by rcases hb with ⟨_, a⟩ | ⟨_, a⟩ <;> omega
    exact ⟨p.busy, by omega, .inr (.inr (.inl ⟨p.up (by omega) (by omega), by rw [hfu]; omega, .inr ⟨IsR.up hc _, by omega⟩⟩))⟩
  . have h0 := p.g.tok.fails.1
    exact ⟨p.busy, by omega, .inr (.inr (.inr (.inl ⟨p.up (by omega) (by omega), IsR.up hc _, by rw [hfu]; omega, by omega⟩)))⟩
  . have h0 := p.g.tok.fails.1
    exact ⟨p.busy, by omega, .inr (.inr (.inr (.inr ⟨p.up (by omega) (by omega), IsR.up hc _, by rw [hfu]; omega, by omega⟩)))⟩
theorem worse2 {o : Bl} {d m : Nat} (hd : 1 <= d) (h : Pre cmd resp time L T K o d m) (code : Int) (hc : code = 0 ∨ code = 1 ∨ code = 2) : T.state = 2 /\ T.fails + 1 <= 10 /\ Ph cmd resp time L (up T (T.fails + 1)) K (bR T.s code) (d - 1) m := by
  have hfu : (up T (T.fails + 1)).fails = T.fails + 1 := rfl
  have hsu : (up T (T.fails + 1)).s = T.s := rfl
  rcases h with ⟨p, _, h1, h2⟩ | ⟨p, _, h1, h2⟩ | ⟨p, _, h1, h2⟩ | ⟨p, _, h1, h2⟩ | ⟨p, _, h1, h2⟩ | ⟨p, _, h1, h2⟩
  . have h0 := p.g.tok.fails.1
    exact ⟨p.busy, by omega, .inl ⟨p.up (by omega) (by omega), .inr ⟨IsR.up hc _, by rw [hfu]; omega, by rw [hsu]; omega⟩⟩⟩
  . have h0 := p.g.tok.fails.1
    exact ⟨p.busy, by omega, .inr (.inl ⟨p.up (by omega) (by omega), IsR.up hc _, by rw [hfu]; omega, by rw [hsu]; omega⟩)⟩
  . have h0 := p.g.tok.fails.1
    exact ⟨p.busy, by omega, .inr (.inr (.inl ⟨p.up (by omega) (by omega), by rw [hfu]; omega, .inr ⟨IsR.up hc _, by omega⟩⟩))⟩
  . have h0 := p.g.tok.fails.1
    exact ⟨p.busy, by omega, .inr (.inr (.inr (.inl ⟨p.up (by omega) (by omega), IsR.up hc _, by rw [hfu]; omega, by omega⟩)))⟩
  . have h0 := p.g.tok.fails.1
    exact ⟨p.busy, by omega, .inr (.inr (.inr (.inl ⟨p.up (by omega) (by omega), IsR.up hc _, by rw [hfu]; omega, by omega⟩)))⟩
  . have h0 := p.g.tok.fails.1
    exact ⟨p.busy, by omega, .inr (.inr (.inr (.inr ⟨p.up (by omega) (by omega), IsR.up hc _, by rw [hfu]; omega, by omega⟩)))⟩
theorem fl_cons (p : List UInt8) (r : List (List UInt8)) : fl (p :: r) = p ++ fl r := by unfold fl; simp
theorem piece_facts {s : Co} (h : CoOK s) (hp : s.pieces ≠ []) : ∃ p r, s.pieces = p :: r /\ pieceF s = ({ s with pieces := r, sent := bI s p r, has := true, next := 1 - s.next }, bI s p r) := by
  unfold pieceF
  cases hs : s.pieces with
  | nil => exact absurd hs hp
  | cons p r => exact ⟨p, r, rfl, rfl⟩
theorem next_piece (p : PB cmd T K) {d m : Nat} (hd : 2 * (d : Int) <= 10) (hm : 3 * d + 2 * T.s.pieces.length + 2 * L + 6 <= m) : Ph cmd resp time L { T with fails := 0, s := (pieceF T.s).1 } K (pieceF T.s).2 d m := by
  obtain ⟨q, r, e1, e2⟩ := piece_facts p.g.tok.s p.ne
  obtain ⟨a1, a2, a3, a4, a5⟩ := piece_ok p.g.tok.s p.ne
  have hTok : TmOK { T with fails := 0, s := (pieceF T.s).1 } := ⟨a1, p.g.tok.state, fun hh => by simp only [a5]; exact p.g.tok.inn hh, fun _ => a4, p.g.tok.offered, p.g.tok.offers, by simp, fun _ => by simp, p.g.tok.cause⟩
  have hex := p.g.cok.s.expect
  rw [e2] at hTok ⊢
  have hq := p.tp q (by rw [e1]; simp)
  refine .inl ⟨⟨⟨hTok, p.g.cok, p.g.sum, p.g.to, p.g.co⟩, p.busy, rfl, rfl, hq, fun x hx => p.tp x (by rw [e1]; exact List.mem_cons_of_mem _ hx), p.nx, ?_, p.cn, p.inn, ?_, rfl, .inr (.inl p.st), p.cp, fun h => ?_, p.asked, p.times, p.right⟩, .inl ⟨rfl, by simpa using hd, ?_⟩⟩
  . show 1 - T.s.next = _
    rw [p.nx]
  . rw [if_pos p.st]
    have := p.all
    rw [e1, fl_cons] at this
    exact this
  . rw [p.st] at h; exact absurd h (by decide)
  . rw [e1] at hm
    simp only [List.length_cons] at hm
    show 3 * d + 2 * r.length + 2 * L + 8 <= m
    omega
theorem take_piece (p : PC resp T K) {d m : Nat} (hr : resp.length <= 600) (hd : 2 * (d : Int) <= 10) (hm : 3 * d + 2 * K.c.s.pieces.length + 1 <= m) : Nx cmd resp time L (tRecvF T K.c.s.sent 0) K d m := by
  have hall := p.all
  have hlen : (T.s.inn ++ K.c.s.sent.inf).length <= 600 := by
    have := congrArg List.length hall
    simp only [List.length_append] at this ⊢
    omega
  have hT : tRecvF T K.c.s.sent 0 = tInfoF T K.c.s.sent := by
    have := p.busy
    unfold tRecvF; rw [if_neg (by omega), if_neg (by omega), if_neg (by decide), if_pos p.k]
  have hI : tInfoF T K.c.s.sent = if K.c.s.sent.more = true then ({ T with fails := 0, s := { T.s with expect := 1 - T.s.expect, inn := T.s.inn ++ K.c.s.sent.inf } }, some (bR { T.s with expect := 1 - T.s.expect } 0)) else ({ T with fails := 0, s := { T.s with expect := 1 - T.s.expect, inn := T.s.inn ++ K.c.s.sent.inf }, state := 0, done := true }, none) := by
    unfold tInfoF
    rw [if_neg (by rintro (h | h); exact h p.cs; exact h p.tp), if_neg (by omega)]
  have hco : CoOK { T.s with expect := 1 - T.s.expect, inn := T.s.inn ++ K.c.s.sent.inf } := p.g.tok.s.exp (by omega)
  have hb2 := p.busy
  rw [hT, hI]
  cases hpc : K.c.s.pieces with
  | nil =>
    have hm : K.c.s.sent.more = false := by rw [p.more, hpc]; rfl
    rw [if_neg (by rw [hm]; decide)]
    refine .inr ⟨rfl, ⟨⟨⟨⟨hco, .inl rfl, fun _ => by simp only; omega, fun h => absurd (show (0 : Int) = 2 from h) (by decide), p.g.tok.offered, fun h => absurd (show (0 : Int) = 1 from h) (by decide), by simp, fun _ => by simp, fun _ => p.g.tok.cause (by omega)⟩, p.g.cok, p.g.sum, p.g.to, p.g.co⟩, rfl, .inr p.st, hpc, p.ex, p.cn, fun _ => ?_⟩, rfl, ?_, p.times, p.right⟩⟩
    . show K.c.s.sent.seq ≠ 1 - T.s.expect
      rw [p.cs]; omega
    . rw [hpc] at hall
      simpa [fl] using hall
  | cons q r =>
    have hm' : K.c.s.sent.more = true := by rw [p.more, hpc]; rfl
    rw [if_pos hm']
    refine .inl ⟨_, rfl, .inr (.inr (.inr (.inr ⟨⟨⟨⟨hco, p.g.tok.state, fun _ => by simp only; omega, p.g.tok.has, p.g.tok.offered, p.g.tok.offers, by simp, fun _ => by simp, p.g.tok.cause⟩, p.g.cok, p.g.sum, p.g.to, p.g.co⟩, p.busy, p.tp, p.st, p.cp, by rw [hpc]; simp, ?_, p.cn, p.ex, p.seq, ?_, p.times, p.right⟩, ⟨0, .inl rfl, rfl⟩, by simpa using hd, hm⟩)))⟩
    . show K.c.s.sent.seq = 1 - (1 - T.s.expect)
      rw [p.cs]; omega
    . show (T.s.inn ++ K.c.s.sent.inf) ++ fl K.c.s.pieces = resp
      rw [List.append_assoc]; exact hall
theorem hear {o : Bl} {d m : Nat} (hr : resp.length <= 600) (h : Pre cmd resp time L T K o d m) : Nx cmd resp time L (tRecvF T o 0) K d m /\ Fit T.s o := by
  rcases h with ⟨p, ⟨code, hc, rfl⟩, h1, h2⟩ | ⟨p, ⟨code, hc, rfl⟩, h1, h2⟩ | ⟨p, rfl, h1, h2⟩ | ⟨p, rfl, h1, h2⟩ | ⟨p, rfl, h1, h2⟩ | ⟨p, rfl, h1, h2⟩
  . have h0 := p.g.tok.fails.1
    refine ⟨?_, bR_ok p.g.cok.s (by omega), rfl, fun h => absurd (show (1 : Int) = 0 from h) (by decide)⟩
    rw [again_busy p.busy _ rfl]
    unfold tAgainF
    rw [if_pos (show (bR K.c.s code).seq = T.s.sent.seq from p.seq.symm), fail_eq _ _ (by omega)]
    exact .inl ⟨_, rfl, .inl ⟨p.up (by omega) (by omega), .inl ⟨rfl, by show T.fails + 1 + 2 * (d : Int) <= 10; omega, h2⟩⟩⟩
  . have h0 := p.g.tok.fails.1
    have hex := p.g.cok.s.expect
    refine ⟨?_, bR_ok p.g.cok.s (by omega), rfl, fun h => absurd (show (1 : Int) = 0 from h) (by decide)⟩
    rw [again_busy p.busy _ rfl]
    unfold tAgainF
    rw [if_neg (show ¬ (bR K.c.s code).seq = T.s.sent.seq by rw [p.seq]; show ¬ K.c.s.expect = _; omega), if_pos p.ne]
    exact .inl ⟨_, rfl, next_piece p (by omega) h2⟩
  . have h0 := p.g.tok.fails.1
    have hb := p.busy
    refine ⟨?_, bS_one (.inr rfl) p.ti.1 p.ti.2 (fun h => absurd (show (3 : Int) = 1 from h) (by decide)) _, rfl, fun h => absurd (show (2 : Int) = 0 from h) (by decide)⟩
    have e : tRecvF T (bS 3 false [b8 time]) 0 = (up T 0, some (bS 3 true [b8 time])) := by
      unfold tRecvF
      have n0 : ¬ (2 : Int) = 0 := by decide
      have n1 : ¬ (2 : Int) = 1 := by decide
      rw [if_neg (by omega), if_neg (by omega), if_neg (by decide), if_neg (show ¬ (bS 3 false [b8 time]).kind = 0 from n0), if_neg (show ¬ (bS 3 false [b8 time]).kind = 1 from n1)]
      unfold tSuperF
      have n2 : ¬ (false = true ∨ (3 : Int) = 0) := by decide
      have n3 : ¬ (3 : Int) = 2 := by decide
      have n4 : ¬ (3 : Int) = 1 := by decide
      rw [if_neg (show ¬ ((bS 3 false [b8 time]).ans = true ∨ (bS 3 false [b8 time]).code = 0) from n2), if_neg (show ¬ (bS 3 false [b8 time]).code = 2 from n3), if_neg (show ¬ (bS 3 false [b8 time]).code = 1 from n4)]
      rfl
    rw [e]
    exact .inl ⟨_, rfl, .inr (.inr (.inl ⟨p.up (by omega) (by omega), by show (0 : Int) + 2 * d <= 10; omega, .inl ⟨rfl, h2⟩⟩))⟩
  . have h0 := p.g.tok.fails.1
    exact ⟨take_piece p hr (by omega) h2, p.g.cok.s.sent, p.nad, fun _ => p.fit⟩
  . have h0 := p.g.tok.fails.1
    have hnx := p.g.tok.s.next
    refine ⟨?_, bR_ok p.g.cok.s (by omega), rfl, fun h => absurd (show (1 : Int) = 0 from h) (by decide)⟩
    rw [again_busy p.busy _ rfl]
    unfold tAgainF
    rw [if_neg (show ¬ (bR K.c.s 1).seq = T.s.sent.seq by rw [p.seq]; show ¬ K.c.s.expect = _; rw [p.ex]; omega), if_neg (not_not_intro p.tp), fail_eq _ _ (by omega)]
    exact .inl ⟨_, rfl, .inr (.inr (.inr (.inl ⟨p.up (by omega) (by omega), IsR.up (.inl rfl) _, by show T.fails + 1 + 2 * (d : Int) <= 10; omega, h2⟩)))⟩
  . have h0 := p.g.tok.fails.1
    have hnx := p.g.tok.s.next
    refine ⟨?_, bR_ok p.g.cok.s (by omega), rfl, fun h => absurd (show (1 : Int) = 0 from h) (by decide)⟩
    rw [again_busy p.busy _ rfl]
    unfold tAgainF
    rw [if_neg (show ¬ (bR K.c.s 1).seq = T.s.sent.seq by rw [p.seq]; show ¬ K.c.s.expect = _; rw [p.ex]; omega), if_neg (not_not_intro p.tp), fail_eq _ _ (by omega)]
    exact .inl ⟨_, rfl, .inr (.inr (.inr (.inr ⟨p.up (by omega) (by omega), IsR.up (.inl rfl) _, by show T.fails + 1 + 2 * (d : Int) <= 10; omega, h2⟩)))⟩
theorem hear_bad {o : Bl} {d m : Nat} (hd : 1 <= d) (h : Pre cmd resp time L T K o d m) (x : Bl) : Nx cmd resp time L (tRecvF T x 1) K (d - 1) m := by
  obtain ⟨h1, h2, h3⟩ := worse2 hd h 1 (by simp)
  rw [bad_busy h1 h2]
  exact .inl ⟨_, rfl, h3⟩
theorem hear_lost {o : Bl} {d m : Nat} (hd : 1 <= d) (h : Pre cmd resp time L T K o d m) : Nx cmd resp time L (tTimeF T) K (d - 1) m := by
  obtain ⟨h1, h2, h3⟩ := worse2 hd h 2 (by simp)
  rw [time_busy h1 h2]
  exact .inl ⟨_, rfl, h3⟩
theorem out_lost {b : Bl} {d m : Nat} (hd : 1 <= d) (h : Ph cmd resp time L T K b d (m + 1)) : Nx cmd resp time L (tTimeF T) K (d - 1) m := by
  obtain ⟨h1, h2, h3⟩ := worse hd h 2 (by simp)
  rw [time_busy h1 h2]
  exact .inl ⟨_, rfl, h3⟩
end
end Go.Proofs.Ytilfphdeacogmaa.En

/- Chapter 08: what the card does with what it receives in the course of an exchange. -/
namespace Go.Proofs.Ytilfphdeacogmaa.En
open Go
set_option linter.unusedVariables false
theorem cutF_fl (n : Nat) : ∀ (t : Nat) (b : List UInt8), fl (cutF n t b) = b
  | 0, b => by simp [cutF, fl]
  | t + 1, b => by
    unfold cutF
    split
    . simp [fl]
    . rw [fl_cons, cutF_fl n t, List.take_append_drop]
theorem cutF_le (n : Nat) (hn : 1 <= n) : ∀ (t : Nat) (b : List UInt8), b.length <= t + n -> ∀ p ∈ cutF n t b, p.length <= n
  | 0, b, h, p, hp => by simp [cutF] at hp; subst hp; omega
  | t + 1, b, h, p, hp => by
    unfold cutF at hp
    split at hp
    . simp at hp; subst hp; omega
    . simp at hp
      rcases hp with rfl | hp
      . simp; omega
      . exact cutF_le n hn t _ (by simp; omega) p hp
theorem cutF_len (n : Nat) (hn : 1 <= n) : ∀ (t : Nat) (b : List UInt8), (cutF n t b).length <= b.length + 1
  | 0, b => by simp [cutF]
  | t + 1, b => by
    unfold cutF
    split
    . simp
    . have := cutF_len n hn t (b.drop n)
      rw [List.length_drop] at this
      simp only [List.length_cons]; omega
section
variable {cmd resp : List UInt8} {time : Int} {L : Nat} {T : Tm} {K : CS}
theorem card_some {x : Bl} {r : Int} {c' : Cd} {b : Bl} (h : cRecvF K.c x r = (c', some b)) : cardF cmd resp time K x r = (⟨c', K.asked, K.times, K.right⟩, some b) := by
  unfold cardF; rw [h]
theorem card_none {x : Bl} {r : Int} {c' : Cd} (h : cRecvF K.c x r = (c', none)) (h2 : c'.state = 2) : cardF cmd resp time K x r =
    if 1 <= time /\ time <= 255 /\ K.asked = false then (⟨(cExtendF c' time).1, true, K.times, K.right⟩, (cExtendF c' time).2) else (⟨(cReplyF c' resp).1, K.asked, K.times + 1, K.right && decide (c'.s.inn = cmd)⟩, (cReplyF c' resp).2) := by
  have hc : cCmdF c' = (c'.s.inn, true) := by unfold cCmdF; rw [if_pos (.inl h2)]
  unfold cardF; rw [h]
  simp only [hc, if_true]
theorem reply_pc {c' : Cd} (g : Gn T c') (busy : T.state = 2) (tp : T.s.pieces = []) (st : c'.state = 2) (inn : T.s.inn = []) (ex : c'.s.expect = T.s.next) (seq : T.s.sent.seq = 1 - T.s.next) (cn : c'.s.next = T.s.expect) (hL : resp.length + 1 <= L) (asked : Bool) :
    ∃ o, (cReplyF c' resp).2 = some o /\ PC resp T ⟨(cReplyF c' resp).1, asked, 1, true⟩ /\ o = (cReplyF c' resp).1.s.sent /\ (cReplyF c' resp).1.s.pieces.length + 1 <= L := by
  have ok := (cReply_ok g.cok resp).1
  have ho := g.cok.s.other
  have hex := g.tok.s.expect
  have h1 := cutF_le c'.s.other.toNat (by omega) resp.length resp (by omega)
  have h2 := cutF_len c'.s.other.toNat (by omega) resp.length resp
  have h3 := cutF_fl c'.s.other.toNat resp.length resp
  have h4 := cutF_ne (n := c'.s.other.toNat) resp.length resp
  have e : cReplyF c' resp = (⟨(sendF c'.s resp).1, 4, c'.time⟩, some (sendF c'.s resp).2) := by unfold cReplyF; rw [if_neg (not_not_intro st)]
  rw [e] at ok ⊢
  unfold sendF cut at ok ⊢
  generalize hl : cutF c'.s.other.toNat resp.length resp = l at *
  cases l with
  | nil => exact absurd rfl h4
  | cons p r =>
    have hco := g.co
    have hp := h1 p (by simp)
    refine ⟨_, rfl, ⟨⟨g.tok, ok, g.sum, g.to, g.co⟩, busy, tp, rfl, rfl, rfl, ?_, fun q hq => ?_, cn, ?_, ex, seq, ?_, rfl, rfl, rfl⟩, rfl, ?_⟩
    . show (p.length : Int) <= T.s.own
      omega
    . have := h1 q (List.mem_cons_of_mem _ hq)
      show (q.length : Int) <= T.s.own
      omega
    . show 1 - c'.s.next = _
      rw [cn]
    . show T.s.inn ++ (p ++ fl r) = resp
      rw [inn, List.nil_append, ← fl_cons]; exact h3
    . show r.length + 1 <= L
      simp only [List.length_cons] at h2
      omega
theorem recv_bad {c : Cd} (h2 : c.state ≠ 2) (h3 : c.state ≠ 3) (x : Bl) : cRecvF c x 1 = (c, some (bR c.s 1)) := by
  unfold cRecvF; rw [if_neg h2, if_neg h3, if_pos (by decide)]
theorem recv_again {c : Cd} (h2 : c.state ≠ 2) (h3 : c.state ≠ 3) (x : Bl) (hk : x.kind = 1) : cRecvF c x 0 = cAgainF c x := by
  unfold cRecvF; rw [if_neg h2, if_neg h3, if_neg (by decide), if_neg (by omega), if_pos hk]
theorem recv_ask {c : Cd} (h3 : c.state = 3) (x : Bl) (r : Int) (h : ¬ (r = 0 /\ x.kind = 2 /\ x.code = 3 /\ x.ans = true /\ inf0 x = c.time)) : cRecvF c x r = (c, some (bS 3 false [b8 c.time])) := by
  unfold cRecvF; rw [if_neg (by omega), if_pos h3, if_neg h]
theorem get_piece (p : PA cmd T K) {d m : Nat} (hc : cmd.length <= 600) (hL : resp.length + 1 <= L) (hf : T.fails + 2 * d <= 10) (hm : 3 * d + 2 * T.s.pieces.length + 2 * L + 8 <= m + 1) :
    ∃ K' o, cardF cmd resp time K T.s.sent 0 = (K', some o) /\ Pre cmd resp time L T K' o d m := by
  have hex := p.g.cok.s.expect
  have hlen : (cIn K.c T.s.sent).length <= 600 := by
    have := congrArg List.length p.all
    unfold cIn
    simp only [List.length_append] at this ⊢
    omega
  have hin : cIn K.c T.s.sent ++ fl T.s.pieces = cmd := by
    unfold cIn; rw [List.append_assoc]; exact p.all
  have hst : K.c.state ≠ 2 /\ K.c.state ≠ 3 := by have := p.st; omega
  have hR : cRecvF K.c T.s.sent 0 = cInfoF K.c T.s.sent := by
    unfold cRecvF; rw [if_neg hst.1, if_neg hst.2, if_neg (by decide), if_pos p.k]
  have ok := (cInfo_ok p.g.cok p.g.tok.s.sent hst).1
  have hI : cInfoF K.c T.s.sent = if T.s.sent.more = true then (⟨{ K.c.s with expect := 1 - K.c.s.expect, inn := cIn K.c T.s.sent }, 1, K.c.time⟩, some (bR { K.c.s with expect := 1 - K.c.s.expect } 0)) else (⟨{ K.c.s with expect := 1 - K.c.s.expect, inn := cIn K.c T.s.sent }, 2, K.c.time⟩, none) := by
    unfold cInfoF
    rw [if_neg (by rintro (h | h); exact h p.seq; exact h.2 p.cp), if_neg (by omega)]
  rw [hI] at ok hR
  cases hpc : T.s.pieces with
  | cons q r =>
    have hmo : T.s.sent.more = true := by rw [p.more, hpc]; rfl
    rw [if_pos hmo] at hR ok
    refine ⟨_, _, card_some hR, .inr (.inl ⟨⟨⟨p.g.tok, ok, p.g.sum, p.g.to, p.g.co⟩, p.busy, p.tp, by rw [hpc]; simp, ?_, p.nx, p.cn, p.inn, hin, rfl, p.cp, p.asked, p.times, p.right⟩, ⟨0, .inl rfl, rfl⟩, hf, by omega⟩)⟩
    show T.s.sent.seq = 1 - (1 - K.c.s.expect)
    rw [p.seq]; omega
  | nil =>
    have hmo : T.s.sent.more = false := by rw [p.more, hpc]; rfl
    rw [if_neg (by rw [hmo]; decide)] at hR ok
    have hin' : cIn K.c T.s.sent = cmd := by rw [hpc] at hin; simpa [fl] using hin
    have hseq : T.s.sent.seq = 1 - T.s.next := by rw [p.seq, p.nx]; omega
    rw [card_none hR rfl]
    have g : Gn T ⟨{ K.c.s with expect := 1 - K.c.s.expect, inn := cIn K.c T.s.sent }, 2, K.c.time⟩ := ⟨p.g.tok, ok, p.g.sum, p.g.to, p.g.co⟩
    by_cases ht : 1 <= time /\ time <= 255 /\ K.asked = false
    . rw [if_pos ht]
      have ok2 := (cExtend_ok ok time).1
      have e : cExtendF ⟨{ K.c.s with expect := 1 - K.c.s.expect, inn := cIn K.c T.s.sent }, 2, K.c.time⟩ time = (⟨{ K.c.s with expect := 1 - K.c.s.expect, inn := cIn K.c T.s.sent }, 3, time⟩, some (bS 3 false [b8 time])) := by
        unfold cExtendF
        rw [if_neg (by rintro (h | h | h); exact h rfl; omega; omega)]
      rw [e] at ok2 ⊢
      exact ⟨_, _, rfl, .inr (.inr (.inl ⟨⟨⟨p.g.tok, ok2, p.g.sum, p.g.to, p.g.co⟩, p.busy, hpc, rfl, rfl, ⟨ht.1, ht.2.1⟩, p.inn, hin', p.nx.symm, hseq, p.cn, rfl, p.times, p.right⟩, rfl, hf, by omega⟩))⟩
    . rw [if_neg ht]
      obtain ⟨o, h1, h2, h3, h4⟩ := reply_pc g p.busy hpc rfl p.inn p.nx.symm hseq p.cn hL K.asked
      refine ⟨⟨(cReplyF ⟨{ K.c.s with expect := 1 - K.c.s.expect, inn := cIn K.c T.s.sent }, 2, K.c.time⟩ resp).1, K.asked, 1, true⟩, o, ?_, .inr (.inr (.inr (.inl ⟨h2, h3, hf, ?_⟩)))⟩
      . rw [h1, p.times, p.right, hin']
        simp
      . show 3 * d + 2 * (cReplyF ⟨{ K.c.s with expect := 1 - K.c.s.expect, inn := cIn K.c T.s.sent }, 2, K.c.time⟩ resp).1.s.pieces.length + 1 <= m
        omega
theorem card_ok {b : Bl} {d m : Nat} (hc : cmd.length <= 600) (hL : resp.length + 1 <= L) (h : Ph cmd resp time L T K b d (m + 1)) :
    (∃ K' o, cardF cmd resp time K b 0 = (K', some o) /\ Pre cmd resp time L T K' o d m) /\ Fit K.c.s b := by
  have rfit : ∀ {s : Co} {t : Co} {code : Int}, CoOK t -> (code = 0 ∨ code = 1 ∨ code = 2) -> Fit s (bR t code) := fun ht hcd => ⟨bR_ok ht hcd, rfl, fun h => absurd (show (1 : Int) = 0 from h) (by decide)⟩
  rcases h with ⟨p, hb⟩ | ⟨p, ⟨code, hcd, rfl⟩, h1, h2⟩ | ⟨p, h1, hb⟩ | ⟨p, ⟨code, hcd, rfl⟩, h1, h2⟩ | ⟨p, ⟨code, hcd, rfl⟩, h1, h2⟩
  . have hst : K.c.state ≠ 2 /\ K.c.state ≠ 3 := by have := p.st; omega
    rcases hb with ⟨rfl, h1, h2⟩ | ⟨⟨code, hcd, rfl⟩, h1, h2⟩
    . exact ⟨get_piece p hc hL h1 h2, p.g.tok.s.sent, p.nad, fun _ => p.fit⟩
    . refine ⟨⟨_, _, card_some (c' := K.c) (b := bR K.c.s 0) ?_, .inl ⟨⟨p.g, p.busy, p.k, p.nad, p.fit, p.tp, p.seq, p.nx, p.cn, p.inn, p.all, p.more, p.st, p.cp, p.c4, p.asked, p.times, p.right⟩, ⟨0, .inl rfl, rfl⟩, h1, by omega⟩⟩, rfit p.g.tok.s hcd⟩
      rw [recv_again hst.1 hst.2 _ rfl]
      unfold cAgainF
      rw [if_neg (by rintro ⟨a, b⟩; exact p.c4 a b.symm), if_neg (by rintro ⟨a, b⟩; exact b p.cp)]
  . have hst : K.c.state ≠ 2 /\ K.c.state ≠ 3 := by have := p.st; omega
    refine ⟨⟨_, _, card_some (c' := K.c) (b := bR K.c.s 0) ?_, .inr (.inl ⟨⟨p.g, p.busy, p.tp, p.ne, p.seq, p.nx, p.cn, p.inn, p.all, p.st, p.cp, p.asked, p.times, p.right⟩, ⟨0, .inl rfl, rfl⟩, h1, by omega⟩)⟩, rfit p.g.tok.s hcd⟩
    rw [recv_again hst.1 hst.2 _ rfl]
    have h4 := p.st
    unfold cAgainF
    rw [if_neg (by rintro ⟨a, b⟩; omega), if_neg (by rintro ⟨a, b⟩; omega)]
  . rcases hb with ⟨rfl, h2⟩ | ⟨⟨code, hcd, rfl⟩, h2⟩
    . have hchk : (bS 3 true [b8 time]).chk = 0 := bS_one (.inr rfl) p.ti.1 p.ti.2 (fun h => absurd (show (3 : Int) = 1 from h) (by decide)) _
      refine ⟨?_, hchk, rfl, fun h => absurd (show (2 : Int) = 0 from h) (by decide)⟩
      have e : cRecvF K.c (bS 3 true [b8 time]) 0 = (⟨K.c.s, 2, K.c.time⟩, none) := by
        have hti := p.ti
        unfold cRecvF
        rw [if_neg (by have := p.st; omega), if_pos p.st, if_pos]
        exact ⟨rfl, rfl, rfl, rfl, by rw [p.tm]; exact b8_toNat (by omega) hti.2⟩
      have ok := (cRecv_ok (x := bS 3 true [b8 time]) (r := 0) p.g.cok (.inl rfl) (fun _ => hchk)).1
      rw [e] at ok
      have g : Gn T ⟨K.c.s, 2, K.c.time⟩ := ⟨p.g.tok, ok, p.g.sum, p.g.to, p.g.co⟩
      rw [card_none e rfl, if_neg (by rw [p.asked]; simp)]
      obtain ⟨o, a1, a2, a3, a4⟩ := reply_pc g p.busy p.tp rfl p.inn p.ex p.seq p.cn hL K.asked
      refine ⟨⟨(cReplyF ⟨K.c.s, 2, K.c.time⟩ resp).1, K.asked, 1, true⟩, o, ?_, .inr (.inr (.inr (.inl ⟨a2, a3, h1, ?_⟩)))⟩
      . rw [a1, p.times, p.right, p.all]
        simp
      . show 3 * d + 2 * (cReplyF ⟨K.c.s, 2, K.c.time⟩ resp).1.s.pieces.length + 1 <= m
        omega
    . refine ⟨⟨_, _, card_some (c' := K.c) (recv_ask p.st _ _ (fun h => absurd (show (1 : Int) = 2 from h.2.1) (by decide))), .inr (.inr (.inl ⟨⟨p.g, p.busy, p.tp, p.st, p.tm, p.ti, p.inn, p.all, p.ex, p.seq, p.cn, p.asked, p.times, p.right⟩, by rw [p.tm], h1, by omega⟩))⟩, rfit p.g.tok.s hcd⟩
  . have hst : K.c.state ≠ 2 /\ K.c.state ≠ 3 := by have := p.st; omega
    refine ⟨⟨_, _, card_some (c' := K.c) (b := K.c.s.sent) ?_, .inr (.inr (.inr (.inl ⟨⟨p.g, p.busy, p.tp, p.st, p.k, p.nad, p.fit, p.cp, p.cs, p.cn, p.ex, p.seq, p.all, p.more, p.times, p.right⟩, rfl, h1, by show 3 * d + 2 * K.c.s.pieces.length + 1 <= m; omega⟩)))⟩, rfit p.g.tok.s hcd⟩
    rw [recv_again hst.1 hst.2 _ rfl]
    unfold cAgainF
    rw [if_pos ⟨p.st, p.cs.symm⟩]
  . have hst : K.c.state ≠ 2 /\ K.c.state ≠ 3 := by have := p.st; omega
    have hex := p.g.tok.s.expect
    obtain ⟨q, r, e1, e2⟩ := piece_facts p.g.cok.s p.ne
    obtain ⟨b1, b2, b3, b4, b5⟩ := piece_ok p.g.cok.s p.ne
    have hA : cRecvF K.c (bR T.s code) 0 = (⟨(pieceF K.c.s).1, K.c.state, K.c.time⟩, some (pieceF K.c.s).2) := by
      rw [recv_again hst.1 hst.2 _ rfl]
      unfold cAgainF
      rw [if_neg (by rintro ⟨a, b⟩; have hb' : T.s.expect = K.c.s.sent.seq := b; rw [p.cs] at hb'; omega), if_pos ⟨p.st, p.ne⟩]
    have ok := (cRecv_ok (x := bR T.s code) (r := 0) p.g.cok (.inl rfl) (fun _ => bR_ok p.g.tok.s hcd)).1
    rw [hA] at ok
    rw [e2] at hA ok
    refine ⟨⟨_, _, card_some hA, .inr (.inr (.inr (.inl ⟨⟨⟨p.g.tok, ok, p.g.sum, p.g.to, p.g.co⟩, p.busy, p.tp, p.st, rfl, rfl, p.cp q (by rw [e1]; simp), fun x hx => p.cp x (by rw [e1]; exact List.mem_cons_of_mem _ hx), p.cn, ?_, p.ex, p.seq, ?_, rfl, p.times, p.right⟩, rfl, h1, ?_⟩)))⟩, rfit p.g.tok.s hcd⟩
    . show 1 - K.c.s.next = _
      rw [p.cn]
    . have := p.all
      rw [e1, fl_cons] at this
      exact this
    . rw [e1] at h2
      simp only [List.length_cons] at h2
      show 3 * d + 2 * r.length + 1 <= m
      omega
theorem card_bad {b : Bl} {d m : Nat} (hd : 1 <= d) (h : Ph cmd resp time L T K b d (m + 1)) (x : Bl) :
    ∃ K' o, cardF cmd resp time K x 1 = (K', some o) /\ Pre cmd resp time L T K' o (d - 1) m := by
  rcases h with ⟨p, hb⟩ | ⟨p, ⟨code, hcd, rfl⟩, h1, h2⟩ | ⟨p, h1, hb⟩ | ⟨p, ⟨code, hcd, rfl⟩, h1, h2⟩ | ⟨p, ⟨code, hcd, rfl⟩, h1, h2⟩
  . have hst : K.c.state ≠ 2 /\ K.c.state ≠ 3 := by have := p.st; omega
    have h1 : T.fails + 2 * d <= 10 /\ 3 * d + 2 * T.s.pieces.length + 2 * L + 8 <= m + 1 := by rcases hb with ⟨_, a, b⟩ | ⟨_, a, b⟩ <;> omega
    exact ⟨_, _, card_some (recv_bad hst.1 hst.2 x), .inl ⟨⟨p.g, p.busy, p.k, p.nad, p.fit, p.tp, p.seq, p.nx, p.cn, p.inn, p.all, p.more, p.st, p.cp, p.c4, p.asked, p.times, p.right⟩, ⟨1, .inr rfl, rfl⟩, by omega, by omega⟩⟩
  . have hst : K.c.state ≠ 2 /\ K.c.state ≠ 3 := by have := p.st; omega
    exact ⟨_, _, card_some (recv_bad hst.1 hst.2 x), .inr (.inl ⟨⟨p.g, p.busy, p.tp, p.ne, p.seq, p.nx, p.cn, p.inn, p.all, p.st, p.cp, p.asked, p.times, p.right⟩, ⟨1, .inr rfl, rfl⟩, by omega, by omega⟩)⟩
  . have h2 : 3 * d + 2 * L + 4 <= m + 1 := by rcases hb with ⟨_, a⟩ | ⟨_, a⟩ <;> omega
    exact ⟨_, _, card_some (recv_ask p.st x 1 (fun h => absurd h.1 (by decide))), .inr (.inr (.inl ⟨⟨p.g, p.busy, p.tp, p.st, p.tm, p.ti, p.inn, p.all, p.ex, p.seq, p.cn, p.asked, p.times, p.right⟩, by rw [p.tm], by omega, by omega⟩))⟩
  . have hst : K.c.state ≠ 2 /\ K.c.state ≠ 3 := by have := p.st; omega
    exact ⟨_, _, card_some (recv_bad hst.1 hst.2 x), .inr (.inr (.inr (.inr (.inl ⟨⟨p.g, p.busy, p.tp, p.st, p.k, p.nad, p.fit, p.cp, p.cs, p.cn, p.ex, p.seq, p.all, p.more, p.times, p.right⟩, rfl, by omega, by show 3 * (d - 1) + 2 * K.c.s.pieces.length + 2 <= m; omega⟩))))⟩
  . have hst : K.c.state ≠ 2 /\ K.c.state ≠ 3 := by have := p.st; omega
    exact ⟨_, _, card_some (recv_bad hst.1 hst.2 x), .inr (.inr (.inr (.inr (.inr ⟨⟨p.g, p.busy, p.tp, p.st, p.cp, p.ne, p.cs, p.cn, p.ex, p.seq, p.all, p.times, p.right⟩, rfl, by omega, by show 3 * (d - 1) + 2 * K.c.s.pieces.length + 1 <= m; omega⟩))))⟩
theorem begin_ok (hr : Rest T K.c) (hc : cmd.length <= 600) (ha : K.asked = false) (ht : K.times = 0) (hg : K.right = true) {d : Nat} (hd : d <= 4) (hL : L <= 601) :
    ∃ b, (tSendF T cmd).2 = some b /\ Ph cmd resp time L (tSendF T cmd).1 K b d 2999 := by
  have ok := (tSend_ok hr.g.tok cmd).1
  have ho := hr.g.tok.s.other
  have hex := hr.g.cok.s.expect
  have h1 := cutF_le T.s.other.toNat (by omega) cmd.length cmd (by omega)
  have h2 := cutF_len T.s.other.toNat (by omega) cmd.length cmd
  have h3 := cutF_fl T.s.other.toNat cmd.length cmd
  have h4 := cutF_ne (n := T.s.other.toNat) cmd.length cmd
  unfold tSendF at ok ⊢
  rw [if_neg (not_not_intro hr.t0)] at ok ⊢
  unfold sendF cut at ok ⊢
  generalize cutF T.s.other.toNat cmd.length cmd = l at *
  cases l with
  | nil => exact absurd rfl h4
  | cons p r =>
    have hto := hr.g.to
    have hp := h1 p (by simp)
    have hst := hr.st
    refine ⟨_, rfl, .inl ⟨⟨⟨ok, hr.g.cok, hr.g.sum, hr.g.to, hr.g.co⟩, rfl, rfl, rfl, ?_, fun q hq => ?_, hr.ex.symm, ?_, hr.cn, rfl, ?_, rfl, by omega, hr.cp, hr.c4, ha, ht, hg⟩, .inl ⟨rfl, ?_, ?_⟩⟩⟩
    . show (p.length : Int) <= K.c.s.own
      omega
    . have := h1 q (List.mem_cons_of_mem _ hq)
      show (q.length : Int) <= K.c.s.own
      omega
    . show 1 - T.s.next = _
      rw [hr.ex]
    . rw [if_neg (by omega), List.nil_append]
      show p ++ fl r = cmd
      rw [← fl_cons]; exact h3
    . show (0 : Int) + 2 * d <= 10
      omega
    . show 3 * d + 2 * r.length + 2 * L + 8 <= 2999
      simp only [List.length_cons] at h2
      omega
end
end Go.Proofs.Ytilfphdeacogmaa.En

/- The engine, part a: values as plain data, and what each operation does to them. No program in sight, no proof. -/
namespace Go.Proofs.Ytilfphdeacogmaa.En
open Go
set_option linter.unusedVariables false
inductive CK where
  | int (k : IntKind)
  | bool
  | str
  | bytes (e : TypeId)
  | slc (e : TypeId)
  | ptr
  | iface
  | func
  | bld
structure Ty where
  desc : TypeDesc
  cks : List CK
  nbytes : Nat
  eqb : Bool := false
def Ty.row (t : Ty) : Bool := match t.desc with | .struct _ => true | .array _ _ => true | _ => false
def Ty.size (t : Ty) : Nat := t.cks.length
inductive V where
  | bool (b : Bool)
  | int (k : IntKind) (n : Int)
  | str (s : List UInt8)
  | bytes (s : List UInt8)
  | sl (e : TypeId) (xs : List V)
  | agg (cs : List V)
  | iface (t : TypeId) (v : V)
  | nilI
  deriving Inhabited
inductive Pos where
  | slot (s : Nat)
  | cell (k s i : Nat)
  deriving DecidableEq
def Pos.eqb : Pos -> Pos -> Bool
  | .slot a, .slot b => Nat.beq a b
  | .cell a b c, .cell d e f => Nat.beq a d && (Nat.beq b e && Nat.beq c f)
  | _, _ => false
def hasP (p : Pos) : List Pos -> Bool
  | [] => false
  | q :: r => cond (p.eqb q) true (hasP p r)
inductive Att where
  | no
  | nil (e : TypeId)
  | own (p : Pos) (e : TypeId)
inductive D where
  | v (x : V) (a : Att)
  | ptr (k s o : Nat)
  | nilp
  | eptr (cs : List V) (o : Nat)
  | clos (f : FuncId) (caps : List D)
  | nilF
  | agg (ds : List D)
  | tup (ds : List D)
  | bld
  | any
  deriving Inhabited
structure Bx where
  ty : TypeId
  cells : List D
abbrev Fr := List (Nat × Bx)
abbrev Mem := List Fr
structure St where
  slots : List D
  mem : Mem
  dead : List Pos
def frGet (s : Nat) : Fr -> Option Bx
  | [] => none
  | (s', b) :: r => cond (Nat.beq s s') (some b) (frGet s r)
def frPut (s : Nat) (b : Bx) : Fr -> Fr
  | [] => [(s, b)]
  | (s', b') :: r => cond (Nat.beq s s') ((s, b) :: r) (cond (Nat.blt s s') ((s, b) :: (s', b') :: r) ((s', b') :: frPut s b r))
def Mem.box? : Mem -> Nat -> Nat -> Option Bx
  | [], _, _ => none
  | fr :: _, 0, s => frGet s fr
  | _ :: m, k + 1, s => Mem.box? m k s
def Mem.setBox : Mem -> Nat -> Nat -> Bx -> Mem
  | [], _, _, _ => []
  | fr :: m, 0, s, b => frPut s b fr :: m
  | fr :: m, k + 1, s, b => fr :: Mem.setBox m k s b
def zeroD : CK -> D
  | .int k => .v (.int k 0) .no
  | .bool => .v (.bool false) .no
  | .str => .v (.str []) .no
  | .bytes e => .v (.bytes []) (.nil e)
  | .slc e => .v (.sl e []) (.nil e)
  | .ptr => .nilp
  | .iface => .v .nilI .no
  | .func => .nilF
  | .bld => .bld
def zeroV : CK -> Value
  | .int k => .int k 0
  | .bool => .bool false
  | .str => .string ⟨#[]⟩
  | .bytes _ => .slice none 0 0
  | .slc _ => .slice none 0 0
  | .ptr => .pointer none
  | .iface => .nilIface
  | .func => .nilFunc
  | .bld => .pointer none
def Ty.zero (t : Ty) : Value := if t.row then .agg (t.cks.map zeroV).toArray else zeroV (t.cks.headD .bool)
def Ty.zeroDs (t : Ty) : List D := t.cks.map zeroD
def Att.shift (k : Nat) : Att -> Att
  | .own (.cell k' s i) e => .own (.cell (k' + k) s i) e
  | .own (.slot _) _ => .no
  | a => a
mutual
def D.shift (k : Nat) : D -> D
  | .v x a => .v x (a.shift k)
  | .ptr k' s o => .ptr (k' + k) s o
  | .clos f caps => .clos f (D.shifts k caps)
  | .agg ds => .agg (D.shifts k ds)
  | .tup ds => .tup (D.shifts k ds)
  | .nilp => .nilp
  | .eptr cs o => .eptr cs o
  | .nilF => .nilF
  | .bld => .bld
  | .any => .any
def D.shifts (k : Nat) : List D -> List D
  | [] => []
  | d :: ds => d.shift k :: D.shifts k ds
end
abbrev dI (n : Int) : D := .v (.int .i64 n) .no
abbrev dB (b : Bool) : D := .v (.bool b) .no
abbrev dY (b : List UInt8) : D := .v (.bytes b) .no
end Go.Proofs.Ytilfphdeacogmaa.En

/- The engine, part b: what each operation does to data. Functions in continuation form, so that the kernel evaluates them over unknown data. No proof. -/
namespace Go.Proofs.Ytilfphdeacogmaa.En
open Go
set_option linter.unusedVariables false
variable {R : Type}
def br (c : Bool) (x y : Option R) : Option R := cond c x y
def V.unInt (k : IntKind) (x : V) (K : Int -> Option R) : Option R := match x with | .int k' n => if k' = k then K n else none | _ => none
def V.unBool (x : V) (K : Bool -> Option R) : Option R := match x with | .bool b => K b | _ => none
def V.unStr (x : V) (K : List UInt8 -> Option R) : Option R := match x with | .str b => K b | _ => none
def V.unBytes (x : V) (K : List UInt8 -> Option R) : Option R := match x with | .bytes b => K b | _ => none
def V.unSl (e : TypeId) (x : V) (K : List V -> Option R) : Option R := match x with | .sl e' b => cond (Nat.beq e' e) (K b) none | _ => none
def V.unAgg (x : V) (K : List V -> Option R) : Option R := match x with | .agg b => K b | _ => none
def V.unI (x : V) (K : V -> Option R) : Option R := match x with | .iface t v => K (.iface t v) | .nilI => K .nilI | _ => none
def unCons (xs : List V) (K : V -> List V -> Option R) : Option R := match xs with | x :: r => K x r | [] => none
def unNil (xs : List V) (K : Option R) : Option R := match xs with | [] => K | _ :: _ => none
def fitC : CK -> V -> (V -> Option R) -> Option R
  | .int k, x, K => x.unInt k fun n => K (.int k n)
  | .bool, x, K => x.unBool fun b => K (.bool b)
  | .str, x, K => x.unStr fun b => K (.str b)
  | .bytes _, x, K => x.unBytes fun b => K (.bytes b)
  | .slc e, x, K => x.unSl e fun b => K (.sl e b)
  | .iface, x, K => x.unI fun b => K b
  | _, _, _ => none
def fitCs : List CK -> List V -> (List V -> Option R) -> Option R
  | [], xs, K => unNil xs (K [])
  | ck :: cks, xs, K => unCons xs fun x r => fitC ck x fun y => fitCs cks r fun ys => K (y :: ys)
def fit (ty : Ty) (x : V) (K : List V -> Option R) : Option R :=
  match ty.row with
  | true => x.unAgg fun cs => fitCs ty.cks cs K
  | false => fitC (ty.cks.headD .ptr) x fun y => K [y]
def at? {α : Type} (xs : List α) (i : Nat) (K : α -> Option R) : Option R := match xs[i]? with | some x => K x | none => none
def pickFrom (i : Int) (j : Nat) : Nat -> (Nat -> Option R) -> Option R
  | 0, _ => none
  | m + 1, K => br (decide (i = (j : Int))) (K j) (pickFrom i (j + 1) m K)
def check (b : Bool) (K : Option R) : Option R := br b K none
def V.cells : V -> List V
  | .agg cs => cs
  | x => [x]
def V.one : V -> Bool
  | .agg _ => false
  | _ => true
def okEl (n : Nat) (x : V) : Bool := x.cells.length == n && x.cells.all V.one
def forceA (a : Att) (K : Att -> Option R) : Option R := match a with | .no => K .no | .nil e => K (.nil e) | .own p e => K (.own p e)
mutual
def forceD (d : D) (K : D -> Option R) : Option R :=
  match d with
  | .v x a => forceA a fun a => K (.v x a)
  | .ptr k s o => K (.ptr k s o)
  | .nilp => K .nilp
  | .eptr cs o => K (.eptr cs o)
  | .clos f caps => forceL caps fun caps => K (.clos f caps)
  | .nilF => K .nilF
  | .bld => K .bld
  | .agg ds => forceL ds fun ds => K (.agg ds)
  | .tup ds => forceL ds fun ds => K (.tup ds)
  | .any => K .any
def forceL (ds : List D) (K : List D -> Option R) : Option R :=
  match ds with
  | [] => K []
  | d :: r => forceD d fun d => forceL r fun r => K (d :: r)
end
theorem forceA_eq (a : Att) (K : Att -> Option R) : forceA a K = K a := by cases a <;> rfl
mutual
theorem forceD_eq (d : D) (K : D -> Option R) : forceD d K = K d := by
  cases d <;> simp only [forceD, forceA_eq, forceL_eq]
theorem forceL_eq (ds : List D) (K : List D -> Option R) : forceL ds K = K ds := by
  cases ds <;> simp only [forceL, forceD_eq, forceL_eq]
end
mutual
def D.noOwn : D -> Bool
  | .v _ a => (match a with | .own _ _ => false | _ => true)
  | .clos _ caps => noOwns caps
  | .agg ds => noOwns ds
  | .tup ds => noOwns ds
  | _ => true
def noOwns : List D -> Bool
  | [] => true
  | d :: ds => d.noOwn && noOwns ds
end
def getK : List D -> Nat -> (D -> Option R) -> Option R
  | [], _, K => K .any
  | x :: _, 0, K => K x
  | _ :: r, n + 1, K => getK r n K
theorem getK_eq : ∀ (l : List D) (n : Nat) (K : D -> Option R), getK l n K = K (l.getD n .any)
  | [], n, K => by simp [getK]
  | x :: _, 0, K => rfl
  | x :: r, n + 1, K => by simp only [getK, getK_eq r n K]; rfl
def setK : List D -> Nat -> D -> (List D -> Option R) -> Option R
  | [], _, _, K => K []
  | _ :: r, 0, d, K => K (d :: r)
  | x :: r, n + 1, d, K => setK r n d fun r' => K (x :: r')
theorem setK_eq : ∀ (l : List D) (n : Nat) (d : D) (K : List D -> Option R), setK l n d K = K (l.set n d)
  | [], n, d, K => rfl
  | x :: _, 0, d, K => rfl
  | x :: r, n + 1, d, K => by simp only [setK, setK_eq r n d]; rfl
def frPutK (s : Nat) (b : Bx) : Fr -> (Fr -> Option R) -> Option R
  | [], K => K [(s, b)]
  | (s', b') :: r, K => cond (Nat.beq s s') (K ((s, b) :: r)) (cond (Nat.blt s s') (K ((s, b) :: (s', b') :: r)) (frPutK s b r fun r' => K ((s', b') :: r')))
theorem frPutK_eq (s : Nat) (b : Bx) : ∀ (fr : Fr) (K : Fr -> Option R), frPutK s b fr K = K (frPut s b fr)
  | [], K => rfl
  | (s', b') :: r, K => by
    unfold frPutK frPut
    cases Nat.beq s s' <;> cases Nat.blt s s' <;> simp [frPutK_eq s b r]
def memPutK : Mem -> Nat -> Nat -> Bx -> (Mem -> Option R) -> Option R
  | [], _, _, _, K => K []
  | fr :: m, 0, s, b, K => frPutK s b fr fun fr => K (fr :: m)
  | fr :: m, k + 1, s, b, K => memPutK m k s b fun m => K (fr :: m)
theorem memPutK_eq : ∀ (m : Mem) (k s : Nat) (b : Bx) (K : Mem -> Option R), memPutK m k s b K = K (m.setBox k s b)
  | [], k, s, b, K => rfl
  | fr :: m, 0, s, b, K => by simp only [memPutK, frPutK_eq]; rfl
  | fr :: m, k + 1, s, b, K => by simp only [memPutK, memPutK_eq m k s b]; rfl
def D.one : D -> Bool
  | .v x _ => (match x with | .agg _ => false | _ => true)
  | .ptr _ _ _ => true
  | .nilp => true
  | .eptr _ _ => true
  | .clos _ _ => true
  | .nilF => true
  | .bld => true
  | _ => false
def vD (x : V) : D := .v x .no
def cellsOf : D -> List D
  | .agg ds => ds
  | .v x a => (match x with | .agg cs => cs.map vD | _ => [.v x a])
  | d => [d]
def toVs : List D -> Option (List V)
  | [] => some []
  | .v x _ :: r => (match x with | .agg _ => none | _ => (toVs r).map (x :: ·))
  | _ :: _ => none
def toV : D -> Option V
  | .v x _ => (match x with | .agg _ => none | _ => some x)
  | .agg ds => (toVs ds).map .agg
  | _ => none
def ofCells (row : Bool) (cs : List D) : Option D := match row with | true => some (.agg cs) | false => (match cs with | [d] => cond d.one (some d) none | _ => none)
def setR (cs : List D) (off : Nat) : List D -> List D
  | [] => cs
  | d :: r => setR (cs.set off d) (off + 1) r
def fillD (place : Nat -> Option (Nat × Nat)) (cs : List D) : List (Nat × D) -> Option (List D)
  | [] => some cs
  | (i, d) :: r =>
    match place i with
    | none => none
    | some (off, size) => cond ((cellsOf d).all D.one && (Nat.beq (cellsOf d).length size && Nat.ble (off + size) cs.length)) (fillD place (setR cs off (cellsOf d)) r) none
def Att.plain : Att -> Att
  | .own _ _ => .no
  | a => a
mutual
def D.plain : D -> D
  | .v x a => .v x a.plain
  | .agg ds => .agg (plains ds)
  | .clos f caps => .clos f (plains caps)
  | .tup ds => .tup (plains ds)
  | .ptr k s o => .ptr k s o
  | .nilp => .nilp
  | .eptr cs o => .eptr cs o
  | .nilF => .nilF
  | .bld => .bld
  | .any => .any
def plains : List D -> List D
  | [] => []
  | d :: ds => d.plain :: plains ds
end
mutual
def D.bare : D -> D
  | .v x _ => .v x .no
  | .agg ds => .agg (bares ds)
  | .clos f caps => .clos f (bares caps)
  | .tup ds => .tup (bares ds)
  | .ptr k s o => .ptr k s o
  | .nilp => .nilp
  | .eptr cs o => .eptr cs o
  | .nilF => .nilF
  | .bld => .bld
  | .any => .any
def bares : List D -> List D
  | [] => []
  | d :: ds => d.bare :: bares ds
end
mutual
def D.low (k : Nat) : D -> Option D
  | .v x a => some (.v x (match a with | .nil e => .nil e | _ => .no))
  | .ptr k' s o => cond (Nat.ble k k') (some (.ptr (k' - k) s o)) none
  | .clos f caps => (lows k caps).map (.clos f)
  | .agg ds => (lows k ds).map .agg
  | .tup ds => (lows k ds).map .tup
  | .nilp => some .nilp
  | .eptr cs o => some (.eptr cs o)
  | .nilF => some .nilF
  | .bld => some .bld
  | .any => none
def lows (k : Nat) : List D -> Option (List D)
  | [] => some []
  | d :: ds => match d.low k with
    | some x => (match lows k ds with | some r => some (x :: r) | none => none)
    | none => none
end
def constC (ck : CK) (v : Value) : D :=
  match v with
  | .int k n => cond (decide (k.min <= n) && decide (n <= k.max)) (.v (.int k n) .no) .any
  | .bool b => .v (.bool b) .no
  | .string s => cond (Nat.ble s.data.toList.length 1000000) (.v (.str s.data.toList) .no) .any
  | .nilIface => .v .nilI .no
  | .nilFunc => .nilF
  | .pointer none => .nilp
  | .slice none 0 0 => (match ck with | .bytes e => .v (.bytes []) (.nil e) | .slc e => .v (.sl e []) (.nil e) | _ => .any)
  | .func (.func f) first caps => (match first.toList, caps.toList with | [], [] => .clos f [] | _, _ => .any)
  | _ => .any
def constCs : List CK -> List Value -> List D
  | ck :: cks, v :: vs => constC ck v :: constCs cks vs
  | _, _ => []
def constD (ty : Option Ty) (v : Value) : D :=
  match v with
  | .agg cs => (match ty with | some ty => cond (Nat.beq cs.toList.length ty.cks.length) (.agg (constCs ty.cks cs.toList)) .any | none => .any)
  | v => constC (match ty with | some ty => ty.cks.headD .ptr | none => .ptr) v
def evalD (T : TypeId -> Option Ty) (slots : List D) (h : TypeId) : Operand -> D
  | .tmp t => slots.getD t .any
  | .const v => constD (T h) v
  | .func f => .clos f []
  | .global _ => .any
def evK (T : TypeId -> Option Ty) (slots : List D) (h : TypeId) (x : Operand) (K : D -> Option R) : Option R :=
  match x with
  | .tmp t => getK slots t K
  | .const v => forceD (constD (T h) v) K
  | .func f => K (.clos f [])
  | .global _ => K .any
theorem evK_eq (T : TypeId -> Option Ty) (slots : List D) (h : TypeId) (x : Operand) (K : D -> Option R) : evK T slots h x K = K (evalD T slots h x) := by
  cases x <;> simp only [evK, evalD, getK_eq, forceD_eq]
def intD (k : IntKind) (n : Int) : D := .v (.int k n) .no
def boolD (b : Bool) : D := .v (.bool b) .no
def bitsI (op : BinOp) (k : IntKind) (a b : Int) : Int :=
  match op with
  | .and => k.wrap (BitVec.ofInt k.bits a &&& BitVec.ofInt k.bits b).toNat
  | .or => k.wrap (BitVec.ofInt k.bits a ||| BitVec.ofInt k.bits b).toNat
  | .xor => k.wrap (BitVec.ofInt k.bits a ^^^ BitVec.ofInt k.bits b).toNat
  | _ => k.wrap (BitVec.ofInt k.bits a &&& ~~~ (BitVec.ofInt k.bits b)).toNat
def shlI (k : IntKind) (a b : Int) : Int := k.wrap (a * 2 ^ (min b.toNat k.bits))
def shrI (k : IntKind) (a b : Int) : Int := a.fdiv (2 ^ (min b.toNat k.bits))
def intK (op : BinOp) (k : IntKind) (a b : Int) (K : D -> Option R) : Option R :=
  match op with
  | .add => K (intD k (k.wrap (a + b)))
  | .sub => K (intD k (k.wrap (a - b)))
  | .mul => K (intD k (k.wrap (a * b)))
  | .quo => check (decide (b ≠ 0)) (K (intD k (k.wrap (a.tdiv b))))
  | .rem => check (decide (b ≠ 0)) (K (intD k (a.tmod b)))
  | .and => K (intD k (bitsI .and k a b))
  | .or => K (intD k (bitsI .or k a b))
  | .xor => K (intD k (bitsI .xor k a b))
  | .andNot => K (intD k (bitsI .andNot k a b))
  | .eql => K (boolD (decide (a = b)))
  | .neq => K (boolD (!decide (a = b)))
  | .lss => K (boolD (decide (a < b)))
  | .leq => K (boolD (decide (a <= b)))
  | .gtr => K (boolD (decide (b < a)))
  | .geq => K (boolD (decide (b <= a)))
  | .shl => check (decide (0 <= b)) (K (intD k (shlI k a b)))
  | .shr => check (decide (0 <= b)) (K (intD k (shrI k a b)))
def strK (op : BinOp) (a b : List UInt8) (K : D -> Option R) : Option R :=
  match op with
  | .add => check (decide (a.length + b.length <= 9223372036854775807)) (K (.v (.str (a ++ b)) .no))
  | .eql => K (boolD (decide (a = b)))
  | .neq => K (boolD (!decide (a = b)))
  | .lss => K (boolD (Op.bytesLess a b))
  | .leq => K (boolD (Op.bytesLess a b || decide (a = b)))
  | .gtr => K (boolD (!(Op.bytesLess a b || decide (a = b))))
  | .geq => K (boolD (!Op.bytesLess a b))
  | _ => none
def ptrNil : D -> Option Bool
  | .ptr _ _ _ => some false
  | .eptr _ _ => some false
  | .nilp => some true
  | _ => none
def ifcNil : D -> Option Bool
  | .v (.iface _ _) _ => some false
  | .v .nilI _ => some true
  | _ => none
def fnNil : D -> Option Bool
  | .clos _ _ => some false
  | .nilF => some true
  | _ => none
def nilOf (desc : TypeDesc) (x y : D) : Option Bool :=
  match desc with
  | .pointer _ => (match y with | .nilp => ptrNil x | _ => none)
  | .interface _ => (match y with | .v .nilI _ => ifcNil x | _ => none)
  | .func _ _ _ => (match y with | .nilF => fnNil x | _ => none)
  | _ => none
def isConstO : Operand -> Bool
  | .const _ => true
  | _ => false
def sizes (T : TypeId -> Option Ty) (t : TypeId) : Nat := match T t with | some ty => ty.size | none => 0
def contigT (T : TypeId -> Option Ty) (n : Nat) : Nat -> List Field -> Bool
  | off, [] => Nat.beq off n
  | off, f :: fs => Nat.beq f.offset off && contigT T n (off + sizes T f.type) fs
def eqFsK (F : TypeId -> List D -> List D -> Option Bool) (T : TypeId -> Option Ty) : List Field -> List D -> List D -> Option Bool
  | [], _, _ => some true
  | f :: fs, ds, es => match F f.type (ds.take (sizes T f.type)) (es.take (sizes T f.type)) with
    | some r => (match eqFsK F T fs (ds.drop (sizes T f.type)) (es.drop (sizes T f.type)) with | some q => some (r && q) | none => none)
    | none => none
def eqK (T : TypeId -> Option Ty) : Nat -> TypeId -> List D -> List D -> Option Bool
  | 0, _, _, _ => none
  | n + 1, t, ds, es => match T t with
    | none => none
    | some ty => match ty.desc with
      | .int _ => (match ds, es with | [.v (.int k a) _], [.v (.int k' b) _] => if k = k' then some (decide (a = b)) else none | _, _ => none)
      | .bool => (match ds, es with | [.v (.bool a) _], [.v (.bool b) _] => some (a == b) | _, _ => none)
      | .string => (match ds, es with | [.v (.str a) _], [.v (.str b) _] => some (decide (a = b)) | _, _ => none)
      | .struct fs => cond (ty.eqb && (contigT T ty.size 0 fs.toList && (Nat.beq ds.length ty.size && (Nat.beq es.length ty.size && Nat.ble 1 ty.size)))) (eqFsK (eqK T n) T fs.toList ds es) none
      | _ => none
def eqAggK (T : TypeId -> Option Ty) (t : TypeId) (ds es : List D) (K : Bool -> Option R) : Option R :=
  match T t with
  | some ty => cond ty.row (match eqK T 9 t ds es with | some b => K b | none => none) none
  | none => none
def binK (T : TypeId -> Option Ty) (op : BinOp) (xt : TypeId) (yc : Bool) (x y : D) (K : D -> Option R) : Option R :=
  match x, y with
  | .v (.int k a) _, .v (.int k' b) _ =>
    (match op with
     | .shl => intK .shl k a b K
     | .shr => intK .shr k a b K
     | op => if k = k' then intK op k a b K else none)
  | .v (.str a) _, .v (.str b) _ => strK op a b K
  | .v (.bool a) _, .v (.bool b) _ =>
    (match T xt with
     | some ty => (match ty.desc, op with
       | .bool, .eql => K (boolD (a == b))
       | .bool, .neq => K (boolD (!(a == b)))
       | _, _ => none)
     | none => none)
  | .agg ds, .agg es => (match op with | .eql => eqAggK T xt ds es fun b => K (boolD b) | .neq => eqAggK T xt ds es fun b => K (boolD (!b)) | _ => none)
  | x, y =>
    (match yc, T xt with
     | true, some ty => (match nilOf ty.desc x y with
       | some b => (match op with | .eql => K (boolD b) | .neq => K (boolD (!b)) | _ => none)
       | none => none)
     | _, _ => none)
def unK (op : UnOp) (x : D) (K : D -> Option R) : Option R :=
  match op, x with
  | .neg, .v (.int k n) _ => K (intD k (k.wrap (0 - n)))
  | .xor, .v (.int k n) _ => K (intD k (bitsI .xor k (if k.signed then -1 else k.max) n))
  | .not, .v (.bool b) _ => K (boolD (!b))
  | _, _ => none
def convK (T : TypeId -> Option Ty) (src dst : TypeId) (x : D) (K : D -> Option R) : Option R :=
  match T src, T dst with
  | some ts, some td =>
    (match ts.desc, td.desc, x with
     | .int _, .int k, .v (.int _ n) _ => K (intD k (k.wrap n))
     | .slice e, .string, .v (.bytes s) _ => (match T e with | some te => (match te.desc with | .int .u8 => check (decide (s.length <= 9223372036854775807)) (K (.v (.str s) .no)) | _ => none) | none => none)
     | .string, .slice e, .v (.str s) _ => (match T e with | some te => (match te.desc with | .int .u8 => check (decide (s.length <= 1000000)) (K (.v (.bytes s) .no)) | _ => none) | none => none)
     | .string, .string, .v (.str s) a => K (.v (.str s) a)
     | _, _, _ => none)
  | _, _ => none
def boundK (x : Option D) (dflt hi : Nat) (K : Nat -> Option R) : Option R :=
  match x with
  | none => K dflt
  | some (.v (.int _ i) _) => check (decide (0 <= i) && decide (i <= (hi : Int))) (K i.toNat)
  | some _ => none
def cutK {α : Type} (xs : List α) (lo hi : Option D) (K : List α -> Option R) : Option R :=
  match lo, hi with
  | none, none => K xs
  | some lo, none => boundK (some lo) 0 xs.length fun l => K (xs.drop l)
  | none, some hi => boundK (some hi) 0 xs.length fun h => K (xs.take h)
  | some lo, some hi => boundK (some hi) 0 xs.length fun h => boundK (some lo) 0 h fun l => K ((xs.take h).drop l)
def sliceK (T : TypeId -> Option Ty) (t : TypeId) (x : D) (lo hi mx : Option D) (K : D -> Option R) : Option R :=
  match mx with
  | some _ => none
  | none =>
    match T t with
    | some ty =>
      (match ty.desc, x with
       | .slice e, .v (.bytes s) _ => (match T e with | some te => cond (Nat.beq te.size 1) (cutK s lo hi fun r => K (.v (.bytes r) .no)) none | none => none)
       | .slice e, .v (.sl e' s) _ => (match T e with | some te => cond (Nat.beq e' e) (cutK s lo hi fun r => K (.v (.sl e r) .no)) none | none => none)
       | .string, .v (.str s) _ => cutK s lo hi fun r => K (.v (.str r) .no)
       | _, _ => none)
    | none => none
def lenK (T : TypeId -> Option Ty) (t : TypeId) (x : D) (K : D -> Option R) : Option R :=
  match T t with
  | some ty =>
    (match ty.desc, x with
     | .slice _, .v (.bytes s) _ => K (intD .i64 s.length)
     | .slice _, .v (.sl _ s) _ => K (intD .i64 s.length)
     | .string, .v (.str s) _ => K (intD .i64 s.length)
     | .array n _, _ => check (decide (n <= 1000000)) (K (intD .i64 n))
     | _, _ => none)
  | none => none
def inK (i : Int) (n : Nat) (K : Nat -> Option R) : Option R := check (decide (0 <= i) && decide (i < (n : Int))) (K i.toNat)
def indexAddrK (T : TypeId -> Option Ty) (t : TypeId) (x i : D) (K : D -> Option R) : Option R :=
  match T t, i with
  | some ty, .v (.int _ i) _ =>
    (match ty.desc, x with
     | .slice e, .v (.bytes s) _ => (match T e with | some te => cond (Nat.beq te.size 1) (inK i s.length fun j => at? s j fun b => K (.eptr [.int .u8 b.toNat] 0)) none | none => none)
     | .slice e, .v (.sl e' s) _ => (match T e with | some te => cond (Nat.beq te.size 0 || !Nat.beq e' e) none (inK i s.length fun j => at? s j fun y => fit te y fun cs => K (.eptr cs 0)) | none => none)
     | .array n e, .ptr k s o => (match T e with | some te => pickFrom i 0 n fun j => K (.ptr k s (o + j * te.size)) | none => none)
     | .array n e, .eptr cs o => (match T e with | some te => pickFrom i 0 n fun j => K (.eptr cs (o + j * te.size)) | none => none)
     | _, _ => none)
  | _, _ => none
def partD (row : Bool) (ds : List D) (off size : Nat) : Option D :=
  match row with
  | true => cond (Nat.ble (off + size) ds.length) (some (.agg ((ds.drop off).take size))) none
  | false => ds[off]?
def indexK (T : TypeId -> Option Ty) (t : TypeId) (x i : D) (K : D -> Option R) : Option R :=
  match T t, i with
  | some ty, .v (.int _ i) _ =>
    (match ty.desc, x with
     | .string, .v (.str s) _ => inK i s.length fun j => at? s j fun b => K (intD .u8 b.toNat)
     | .array n e, .agg ds => (match T e with | some te => pickFrom i 0 n fun j => (match partD te.row ds (j * te.size) te.size with | some d => forceD d.plain K | none => none) | none => none)
     | _, _ => none)
  | _, _ => none
def fieldK (T : TypeId -> Option Ty) (t : TypeId) (x : D) (f : Nat) (K : D -> Option R) : Option R :=
  match T t, x with
  | some ty, .agg ds =>
    (match ty.desc with
     | .struct fs => (match fs[f]? with
       | some fl => (match T fl.type with | some te => (match partD te.row ds fl.offset te.size with | some d => forceD d.plain K | none => none) | none => none)
       | none => none)
     | _ => none)
  | _, _ => none
def fieldAddrK (T : TypeId -> Option Ty) (t : TypeId) (x : D) (f : Nat) (K : D -> Option R) : Option R :=
  match T t with
  | some ty =>
    (match ty.desc with
     | .struct fs => (match fs[f]? with
       | some fl => (match T fl.type with
         | some te => cond (Nat.beq te.size 0) none (match x with
           | .ptr k s o => K (.ptr k s (o + fl.offset))
           | .eptr cs o => K (.eptr cs (o + fl.offset))
           | _ => none)
         | none => none)
       | none => none)
     | _ => none)
  | none => none
def loadCell (k s i : Nat) (d : D) : D :=
  match d with
  | .v x (.own _ e) => .v x (.own (.cell k s i) e)
  | .bld => .any
  | d => d.shift k
def loadCellsD (k s : Nat) : Nat -> List D -> List D
  | _, [] => []
  | i, d :: r => (loadCell k s i d).plain :: loadCellsD k s (i + 1) r
def loadK (T : TypeId -> Option Ty) (t : TypeId) (a : D) (m : Mem) (K : D -> Option R) : Option R :=
  match T t with
  | some ty =>
    (match a with
     | .ptr k s o => (match m.box? k s with
       | some b =>
         (match ty.row with
          | true => cond (Nat.ble (o + ty.size) b.cells.length) (forceD (.agg (loadCellsD k s o ((b.cells.drop o).take ty.size))) K) none
          | false => cond (Nat.beq ty.size 1) (match b.cells[o]? with | some d => forceD (loadCell k s o d) K | none => none) none)
       | none => none)
     | .eptr cs o =>
       (match ty.row with
        | true => cond (Nat.ble (o + ty.size) cs.length) (forceD (.agg (((cs.drop o).take ty.size).map vD)) K) none
        | false => cond (Nat.beq ty.size 1) (match cs[o]? with | some y => K (.v y .no) | none => none) none)
     | _ => none)
  | none => none
def cellA (dead : List Pos) (a : Att) : Att :=
  match a with
  | .nil e => .own (.slot 0) e
  | .own (.slot g) e => cond (hasP (.slot g) dead) .no (.own (.slot 0) e)
  | _ => .no
def cellDead (dead : List Pos) (a : Att) : List Pos :=
  match a with
  | .own (.slot g) _ => .slot g :: dead
  | _ => dead
def cellsK (k : Nat) : List D -> List Pos -> (List D -> List Pos -> Option R) -> Option R
  | [], dead, K => K [] dead
  | d :: r, dead, K =>
    cond d.one
      (match d with
       | .v x a => forceA (cellA dead a) fun a' => cellsK k r (cellDead dead a) fun cs dead' => K (.v x a' :: cs) dead'
       | d => (match d.low k with | some d' => forceD d' fun d' => cellsK k r dead fun cs dead' => K (d' :: cs) dead' | none => none))
      none
def setRK (cs : List D) (off : Nat) : List D -> (List D -> Option R) -> Option R
  | [], K => K cs
  | d :: r, K => setK cs off d fun cs => setRK cs (off + 1) r K
def storeK (T : TypeId -> Option Ty) (t : TypeId) (a v : D) (m : Mem) (dead : List Pos) (K : Mem -> List Pos -> Option R) : Option R :=
  match T t with
  | some ty =>
    (match a with
     | .ptr k s o => (match m.box? k s with
       | some b => cond (Nat.beq (cellsOf v).length ty.size && Nat.ble (o + ty.size) b.cells.length)
           (cellsK k (cellsOf v) dead fun cs dead' => setRK b.cells o cs fun cs' => memPutK m k s ⟨b.ty, cs'⟩ fun m' => K m' dead') none
       | none => none)
     | _ => none)
  | none => none
def newBoxK (s : Nat) (t : TypeId) (ds : List D) (m : Mem) (dead : List Pos) (K : Mem -> List Pos -> Option R) : Option R :=
  match m with
  | fr :: _ =>
    (match frGet s fr with
     | none => cellsK 0 ds dead fun cs dead' => memPutK m 0 s ⟨t, cs⟩ fun m' => K m' dead'
     | some _ => none)
  | [] => none
def placesOf (T : TypeId -> Option Ty) : List Field -> Option (List (Nat × Nat))
  | [] => some []
  | f :: fs => match T f.type with
    | some te => (match placesOf T fs with | some r => some ((f.offset, te.size) :: r) | none => none)
    | none => none
def buildK (T : TypeId -> Option Ty) (t : TypeId) (parts : List (Nat × D)) (K : D -> Option R) : Option R :=
  match T t with
  | some ty =>
    (match ty.desc with
     | .struct fs => (match placesOf T fs.toList with
       | some places => (match fillD (fun i => places[i]?) ty.zeroDs (parts.map fun p => (p.1, p.2.plain)) with | some cs => forceD (.agg cs) K | none => none)
       | none => none)
     | .array _ e => (match T e with
       | some te => (match fillD (fun i => some (i * te.size, te.size)) ty.zeroDs (parts.map fun p => (p.1, p.2.plain)) with | some cs => forceD (.agg cs) K | none => none)
       | none => none)
     | _ => none)
  | none => none
def reps {α : Type} (xs : List α) : Nat -> List α
  | 0 => []
  | n + 1 => xs ++ reps xs n
def unU8s : List D -> Option (List UInt8)
  | [] => some []
  | .v (.int .u8 n) _ :: r => (match unU8s r with | some l => some (UInt8.ofNat n.toNat :: l) | none => none)
  | _ :: _ => none
def chunk (row : Bool) (size : Nat) (cs : List D) : Nat -> Option (List V)
  | 0 => some []
  | n + 1 =>
    match ofCells row (cs.take size) with
    | some d => (match toV d with
      | some x => (match chunk row size (cs.drop size) n with | some r => some (x :: r) | none => none)
      | none => none)
    | none => none
def buildSliceK (T : TypeId -> Option Ty) (dst : Nat) (t : TypeId) (len : Nat) (parts : List (Nat × D)) (K : D -> Option R) : Option R :=
  match T t with
  | some ty =>
    (match ty.desc with
     | .slice e => (match T e with
       | some te =>
         cond (Nat.beq te.size 0 || !Nat.ble (len * te.size) 1000) none
         (match fillD (fun i => some (i * te.size, te.size)) (reps te.zeroDs len) (parts.map fun p => (p.1, p.2.bare)) with
          | some cs =>
            (match ty.cks with
             | [.bytes _] => (match unU8s cs with | some l => cond (Nat.beq te.size 1) (K (.v (.bytes l) (.own (.slot dst) e))) none | none => none)
             | [.slc _] => (match chunk te.row te.size cs len with | some l => K (.v (.sl e l) (.own (.slot dst) e)) | none => none)
             | _ => none)
          | none => none)
       | none => none)
     | _ => none)
  | none => none
def makeSliceK (T : TypeId -> Option Ty) (dst : Nat) (t : TypeId) (len cap : D) (K : D -> Option R) : Option R :=
  match T t, len, cap with
  | some ty, .v (.int _ l) _, .v (.int _ c) _ =>
    (match ty.desc with
     | .slice e => (match T e with
       | some te =>
         cond (Nat.beq te.size 0 || Nat.beq te.nbytes 0) none
         (check (decide (0 <= l) && (decide (l <= c) && decide (c * te.nbytes <= 140737488355328)))
          (match ty.cks with
           | [.bytes _] => (match te.cks with | [.int .u8] => K (.v (.bytes (List.replicate l.toNat 0)) (.own (.slot dst) e)) | _ => none)
           | [.slc _] => (match chunk te.row te.size te.zeroDs 1 with
             | some [z] => K (.v (.sl e (List.replicate l.toNat z)) (.own (.slot dst) e))
             | _ => none)
           | _ => none))
       | none => none)
     | _ => none)
  | _, _, _ => none
def useUpK (a : Att) (e : TypeId) (m : Mem) (dead : List Pos) (K : Mem -> List Pos -> Option R) : Option R :=
  match a with
  | .nil e' => cond (Nat.beq e' e) (K m dead) none
  | .own p e' => cond (Nat.beq e' e && !hasP p dead)
      (match p with
       | .slot g => K m (.slot g :: dead)
       | .cell k s i => (match m.box? k s with
         | some b => (match b.cells[i]? with
           | some (.v x (.own _ _)) => setK b.cells i (.v x .no) fun cs => memPutK m k s ⟨b.ty, cs⟩ fun m' => K m' (.cell k s i :: dead)
           | _ => none)
         | none => none))
      none
  | .no => none
def appendK (T : TypeId -> Option Ty) (dst : Nat) (t t2 : TypeId) (s x : D) (m : Mem) (dead : List Pos) (K : D -> Mem -> List Pos -> Option R) : Option R :=
  match T t, T t2 with
  | some ty, some ty2 =>
    (match ty.desc with
     | .slice e => (match T e with
       | some te =>
         (match Nat.beq te.size 0 || Nat.beq te.nbytes 0 with
         | true => none
         | false => match s, x with
          | .v (.bytes xs) a, .v (.bytes ys) _ =>
            (match ty2.desc with
             | .slice e2 => cond (Nat.beq e2 e && Nat.beq te.size 1)
                 (useUpK a e m dead fun m' dead' => check (decide ((xs.length + ys.length) * te.nbytes <= 140737488355328)) (K (.v (.bytes (xs ++ ys)) (.own (.slot dst) e)) m' dead')) none
             | _ => none)
          | .v (.sl e1 xs) a, .v (.sl e1' ys) _ =>
            (match ty2.desc with
             | .slice e2 => cond (Nat.beq e2 e && (Nat.beq e1 e && Nat.beq e1' e))
                 (useUpK a e m dead fun m' dead' => check (decide ((xs.length + ys.length) * te.nbytes <= 140737488355328)) (K (.v (.sl e (xs ++ ys)) (.own (.slot dst) e)) m' dead')) none
             | _ => none)
          | .v (.bytes xs) a, .v (.str ys) _ =>
            (match ty2.desc with
             | .string => cond (Nat.beq te.size 1)
                 (useUpK a e m dead fun m' dead' => check (decide ((xs.length + ys.length) * te.nbytes <= 140737488355328)) (K (.v (.bytes (xs ++ ys)) (.own (.slot dst) e)) m' dead')) none
             | _ => none)
          | _, _ => none)
       | none => none)
     | _ => none)
  | _, _ => none
def minmaxK (mx : Bool) (args : List D) (K : D -> Option R) : Option R :=
  match args with
  | [.v (.int k a) _, .v (.int k' b) _] => if k = k' then K (intD k (match mx with | true => max a b | false => min a b)) else none
  | _ => none
end Go.Proofs.Ytilfphdeacogmaa.En

/- The engine, part c: operations, regions, code, calls. No proof. -/
namespace Go.Proofs.Ytilfphdeacogmaa.En
open Go
set_option linter.unusedVariables false
variable {R : Type}
inductive Ex where
  | normal | exit (id : Nat) | goto (l : Nat) | ret
structure Cx where
  T : TypeId -> Option Ty
  isPure : FuncId -> Bool
  pureK : {R : Type} -> FuncId -> List D -> (List D -> Option R) -> Option R
  memK : {R : Type} -> FuncId -> Nat -> List D -> Mem -> (List D -> Mem -> Option R) -> Option R
  meth : TypeId -> String -> Option FuncId
  keep : Nat -> List Nat
  keepX : Nat -> List Nat
  loopT : {R : Type} -> Nat -> List D -> Mem -> (Ex -> List D -> Mem -> Option R) -> Option R
  jumps : Nat
  dyn : Bool := false
  isStill : FuncId -> Bool := fun _ => false
  stillK : {R : Type} -> FuncId -> List D -> Mem -> (List D -> Option R) -> Option R := fun _ _ _ _ => none
def slotA (dst : Nat) (a : Att) : Att := match a with | .nil e => .own (.slot dst) e | a => a
def slotD (dst : Nat) (d : D) : D := match d with | .v x a => .v x (slotA dst a) | d => d
def putK (slots : List D) (dst : Option Nat) (d : D) (K : List D -> Option R) : Option R :=
  match dst with
  | some s => (match d with | .v x a => forceA (slotA s a) fun a => setK slots s (.v x a) K | d => setK slots s d K)
  | none => K slots
def resD (ds : List D) : D :=
  match ds with
  | [d] => d
  | ds => .tup ds
def argD (d : D) : D := d.bare.shift 1
def argsK (T : TypeId -> Option Ty) (slots : List D) : List TypeId -> List Operand -> (List D -> Option R) -> Option R
  | t :: ts, x :: xs, K => evK T slots t x fun d => forceD (argD d) fun d => argsK T slots ts xs fun r => K (d :: r)
  | [], x :: xs, K => evK T slots 0 x fun d => forceD (argD d) fun d => argsK T slots [] xs fun r => K (d :: r)
  | _, [], K => K []
def elemH (T : TypeId -> Option Ty) (t : TypeId) : TypeId := match T t with | some ty => (match ty.desc with | .slice e => e | _ => 0) | none => 0
def partsK (h0 : TypeId) (T : TypeId -> Option Ty) (slots : List D) : List (Nat × Operand) -> (List (Nat × D) -> Option R) -> Option R
  | [], K => K []
  | (i, x) :: r, K => evK T slots h0 x fun d => partsK h0 T slots r fun ps => K ((i, d) :: ps)
def evO (T : TypeId -> Option Ty) (slots : List D) (x : Option Operand) (K : Option D -> Option R) : Option R :=
  match x with
  | none => K none
  | some x => evK T slots 0 x fun d => K (some d)
def capsK (T : TypeId -> Option Ty) (slots : List D) : List Operand -> (List D -> Option R) -> Option R
  | [], K => K []
  | x :: r, K => evK T slots 0 x fun d => forceD d.plain fun d => capsK T slots r fun ds => K (d :: ds)
def opK (T : TypeId -> Option Ty) (dst : Nat) (oty : TypeId) (slots : List D) (op : Op) (m : Mem) (dead : List Pos) (K : D -> Mem -> List Pos -> Option R) : Option R :=
  match op with
  | .move x => evK T slots oty x fun d => K d m dead
  | .assign x => evK T slots oty x fun d => K d m dead
  | .pick c a b => evK T slots 0 c fun dc => (match dc with
    | .v x _ => x.unBool fun t => br t (evK T slots oty a fun d => K d m dead) (evK T slots oty b fun d => K d m dead)
    | _ => none)
  | .alloc t => (match T t with | some ty => newBoxK dst t ty.zeroDs m dead fun m' d' => K (.ptr 0 dst 0) m' d' | none => none)
  | .box t x => (match T t with | some ty => evK T slots t x fun d => newBoxK dst t (cellsOf d) m dead fun m' d' => K (.ptr 0 dst 0) m' d' | none => none)
  | .build t parts => partsK 0 T slots parts.toList fun ps => buildK T t ps fun d => K d m dead
  | .buildSlice t len parts => partsK (elemH T t) T slots parts.toList fun ps => buildSliceK T dst t len ps fun d => K d m dead
  | .load t a => evK T slots 0 a fun da => loadK T t da m fun d => K d m dead
  | .store t a x => evK T slots 0 a fun da => evK T slots t x fun dx => storeK T t da dx m dead fun m' d' => K .any m' d'
  | .nilCheck x => evK T slots oty x fun d => (match d with | .ptr k s o => K (.ptr k s o) m dead | .eptr cs o => K (.eptr cs o) m dead | .clos f caps => K (.clos f caps) m dead | _ => none)
  | .binOp op xt x y yt => evK T slots xt x fun dx => evK T slots yt y fun dy => binK T op xt (isConstO y) dx dy fun d => K d m dead
  | .unOp op xt x => evK T slots xt x fun dx => unK op dx fun d => K d m dead
  | .convert src t x => evK T slots src x fun dx => convK T src t dx fun d => K d m dead
  | .makeInterface t x => evK T slots t x fun dx => (match T t, toV dx with | some ty, some y => (match ty.desc with | .interface _ => none | _ => K (.v (.iface t y) .no) m dead) | _, _ => none)
  | .makeFunc (.func f) first caps => (match first.toList with | [] => capsK T slots caps.toList fun ds => K (.clos f ds) m dead | _ => none)
  | .makeSlice t l c => evK T slots 0 l fun dl => evK T slots 0 c fun dc => makeSliceK T dst t dl dc fun d => K d m dead
  | .slice t x lo hi mx => evK T slots t x fun dx => evO T slots lo fun dlo => evO T slots hi fun dhi => evO T slots mx fun dmx => sliceK T t dx dlo dhi dmx fun d => K d m dead
  | .fieldAddr t x f => evK T slots 0 x fun dx => fieldAddrK T t dx f fun d => K d m dead
  | .field t x f => evK T slots t x fun dx => fieldK T t dx f fun d => K d m dead
  | .indexAddr t x i => evK T slots t x fun dx => evK T slots 0 i fun di => indexAddrK T t dx di fun d => K d m dead
  | .index t x i => evK T slots t x fun dx => evK T slots 0 i fun di => indexK T t dx di fun d => K d m dead
  | .extract x i => evK T slots 0 x fun dx => (match dx with | .tup ds => (match ds[i]? with | some d => forceD d.plain fun d => K d m dead | none => none) | _ => none)
  | .call c =>
    (match c.callee, c.args.toList, c.argTypes.toList with
     | .builtin .len, [x], [t] => evK T slots t x fun dx => lenK T t dx fun d => K d m dead
     | .builtin .append, [s, x], [t, t2] => evK T slots t s fun ds => evK T slots t2 x fun dx => appendK T dst t t2 ds dx m dead K
     | .builtin .max, [a, b], [t, u] => evK T slots t a fun da => evK T slots u b fun db => minmaxK true [da, db] fun d => K d m dead
     | .builtin .min, [a, b], [t, u] => evK T slots t a fun da => evK T slots u b fun db => minmaxK false [da, db] fun d => K d m dead
     | _, _, _ => none)
  | _ => none
def callK (cx : Cx) (g : FuncId) (dst : Nat) (args : List D) (m : Mem) (dead : List Pos) (K : Bool -> D -> Mem -> List Pos -> Option R) : Option R :=
  match cx.isPure g with
  | true => cx.pureK g args fun rs => K false (resD rs) m dead
  | false => cond (cx.isStill g) (cx.stillK g args m fun rs => K false (resD rs) m dead) (cx.memK g dst args m fun rs m' => K true (resD rs) m' dead)
def recvD (y : V) : D := match y with | .agg cs => .agg (cs.map vD) | y => vD y
def runK (cx : Cx) (o : Oper) (slots : List D) (mem : Mem) (dead : List Pos) (K : Bool -> D -> Mem -> List Pos -> Option R) : Option R :=
  match o.op with
  | .call c =>
    (match c.callee with
     | .builtin _ => opK cx.T (o.dst.getD 0) o.type slots o.op mem dead (K false)
     | .value f => evK cx.T slots 0 f fun df => (match df with
       | .clos g caps => argsK cx.T slots c.argTypes.toList c.args.toList fun args =>
           forceL (caps.map argD) fun caps => callK cx g (o.dst.getD 0) (args ++ caps) mem dead K
       | _ => none)
     | .invoke recv name => evK cx.T slots 0 recv fun dr => (match dr with
       | .v x _ => (match x with
         | .iface t y => (match cx.meth t name with
           | some g => argsK cx.T slots c.argTypes.toList c.args.toList fun args => callK cx g (o.dst.getD 0) (recvD y :: args) mem dead K
           | none => none)
         | _ => none)
       | _ => none))
  | op => opK cx.T (o.dst.getD 0) o.type slots op mem dead (K false)
def dstOf (ops : Array Oper) (j : Nat) : Option Nat := match ops[j]? with | some o => o.dst | none => none
def dropK : List D -> (List D -> Option R) -> Option R
  | [], K => K []
  | d :: r, K =>
    match d with
    | .v x a => (match a with
      | .own p e => (match p with
        | .slot g => dropK r fun r => K (.v x (.own (.slot g) e) :: r)
        | _ => dropK r fun r => K (.v x .no :: r))
      | a => dropK r fun r => K (.v x a :: r))
    | d => cond d.noOwn (dropK r fun r => K (d :: r)) (dropK r fun r => K (.any :: r))
def takeK (cx : Cx) (o : Oper) (st : St) (K : St -> Option R) : Option R :=
  match st with
  | ⟨slots, mem, dead⟩ => runK cx o slots mem dead fun c d m' dead' => cond c (dropK slots fun slots => putK slots o.dst d fun slots => K ⟨slots, m', dead'⟩) (putK slots o.dst d fun slots => K ⟨slots, m', dead'⟩)
def skipK (o : Oper) (st : St) (K : St -> Option R) : Option R :=
  match st with
  | ⟨slots, mem, dead⟩ => putK slots o.dst (.tup []) fun slots => K ⟨slots, mem, dead⟩
def stepK (cx : Cx) (ops : Array Oper) (o : Oper) (st : St) (K : St -> Option R) : Option R :=
  match o.guard with
  | none => takeK cx o st K
  | some (j, want) =>
    (match dstOf ops j, st with
     | some s, ⟨slots, mem, dead⟩ => getK slots s fun d => (match d with
       | .v x a => x.unBool fun b =>
         br b (setK slots s (.v (.bool true) a) fun slots => (match want with | true => takeK cx o ⟨slots, mem, dead⟩ K | false => skipK o ⟨slots, mem, dead⟩ K))
                (setK slots s (.v (.bool false) a) fun slots => (match want with | false => takeK cx o ⟨slots, mem, dead⟩ K | true => skipK o ⟨slots, mem, dead⟩ K))
       | .tup _ => skipK o ⟨slots, mem, dead⟩ K
       | _ => none)
     | none, _ => none)
def findF : List Oper -> Nat -> Option Nat
  | [], _ => none
  | o :: r, j => (match o.dst with
    | some d => cond (Nat.beq d j) (match o.op with | .fieldAddr _ (.tmp p) _ => some p | .indexAddr _ (.tmp p) _ => some p | _ => none) (findF r j)
    | none => findF r j)
def rootN (ops : Array Oper) : Nat -> Nat -> Nat
  | 0, j => j
  | n + 1, j => match findF ops.toList j with | some p => rootN ops n p | none => j
def rootZ (ops : Array Oper) (slots : List D) (z : Operand) (K : Option R) : Option R :=
  match z with
  | .tmp j => getK slots j fun d => (match d with | .ptr k q _ => cond (Nat.beq k 0 && Nat.beq q (rootN ops 20 j)) K none | _ => K)
  | _ => none
def appZ (slots : List D) (args : List Operand) (K : Option R) : Option R :=
  match args with
  | [x, _] => (match x with
    | .tmp j => getK slots j fun d => (match d with
      | .v _ a => (match a with
        | .own p _ => (match p with | .cell _ _ _ => none | _ => K)
        | _ => K)
      | _ => K)
    | _ => none)
  | _ => none
def isApp (op : Op) : Bool := match op with | .call c => (match c.callee with | .builtin .append => true | _ => false) | _ => false
def argsOf (op : Op) : List Operand := match op with | .call c => c.args.toList | _ => []
def rootK (cx : Cx) (ops : Array Oper) (op : Op) (slots : List D) (K : Option R) : Option R :=
  match cx.dyn with
  | false => K
  | true => cond (isApp op) (appZ slots (argsOf op) K) (match op with
    | .load _ z => rootZ ops slots z K
    | .store _ z _ => rootZ ops slots z K
    | _ => K)
def opsK (cx : Cx) (ops : Array Oper) : List Oper -> St -> (St -> Option R) -> Option R
  | [], st, K => K st
  | o :: r, ⟨slots, mem, dead⟩, K => rootK cx ops o.op slots (stepK cx ops o ⟨slots, mem, dead⟩ fun st' => opsK cx ops r st' K)
inductive Cls where
  | n | r | a | w | c | s
def clsOf (cx : Cx) (op : Op) : Cls :=
  match op with
  | .load _ _ => .r
  | .alloc _ => .a
  | .box _ _ => .w
  | .store _ _ _ => .w
  | .call c => (match c.callee with
    | .builtin .append => .w
    | .builtin _ => .n
    | .value (.func f) => (match cx.isPure f with | true => .n | false => cond (cx.isStill f) .s .c)
    | .value _ => .c
    | .invoke _ _ => .c)
  | _ => .n
def canonK (dead : List Pos) : Nat -> List Pos -> List D -> (List D -> Option R) -> Option R
  | _, _, [], K => K []
  | s, seen, d :: r, K =>
    match d with
    | .v x a => (match a with
      | .own p e => (match p with
        | .slot g => cond (hasP (.slot g) dead || hasP (.slot g) seen) (canonK dead (s + 1) seen r fun r => K (.v x .no :: r)) (canonK dead (s + 1) (.slot g :: seen) r fun r => K (.v x (.own (.slot s) e) :: r))
        | _ => canonK dead (s + 1) seen r fun r => K (.v x .no :: r))
      | a => canonK dead (s + 1) seen r fun r => K (.v x a :: r))
    | d => cond d.noOwn (canonK dead (s + 1) seen r fun r => K (d :: r)) (canonK dead (s + 1) seen r fun r => K (.any :: r))
def canonSt (st : St) (K : St -> Option R) : Option R :=
  match st with
  | ⟨slots, mem, dead⟩ => (match dead with
    | [] => K ⟨slots, mem, []⟩
    | p :: r => canonK (p :: r) 0 [] slots fun slots => K ⟨slots, mem, []⟩)
def hasN (s : Nat) : List Nat -> Bool
  | [] => false
  | t :: r => cond (Nat.beq s t) true (hasN s r)
mutual
def D.hangs (ks : List Nat) (k : Nat) : D -> Bool
  | .ptr k' s _ => Nat.beq k' k && !hasN s ks
  | .clos _ caps => hangsL ks k caps
  | .agg ds => hangsL ks k ds
  | .tup ds => hangsL ks k ds
  | _ => false
def hangsL (ks : List Nat) (k : Nat) : List D -> Bool
  | [] => false
  | d :: ds => d.hangs ks k || hangsL ks k ds
end
def keepB (ks : List Nat) : Fr -> (Fr -> Option R) -> Option R
  | [], K => K []
  | (s, b) :: r, K => cond (hasN s ks && !hangsL ks 0 b.cells) (keepB ks r fun r => K ((s, b) :: r)) (cond (hasN s ks) none (keepB ks r K))
def pickL (all : List Nat) (slots : List D) (dead : List Pos) : List Nat -> List Pos -> (List D -> Option R) -> Option R
  | [], _, K => K []
  | s :: ks, seen, K => getK slots s fun d =>
    (match d with
    | .v x a => (match a with
      | .own p e => (match p with
        | .slot g => cond (hasP (.slot g) dead || hasP (.slot g) seen) (pickL all slots dead ks seen fun r => K (.v x .no :: r)) (pickL all slots dead ks (.slot g :: seen) fun r => K (.v x (.own (.slot s) e) :: r))
        | _ => pickL all slots dead ks seen fun r => K (.v x .no :: r))
      | a => pickL all slots dead ks seen fun r => K (.v x a :: r))
    | d => cond (d.noOwn && !d.hangs all 0) (pickL all slots dead ks seen fun r => K (d :: r)) (pickL all slots dead ks seen fun r => K (.any :: r)))
def weakD (d : D) : D := match d with | .v x a => (match a with | .own _ _ => .v x .no | a => .v x a) | d => d
def weakK (ks : List Nat) : Fr -> (Fr -> Option R) -> Option R
  | [], K => K []
  | (s, b) :: r, K => cond (hasN (s + 100000) ks) (forceL (b.cells.map weakD) fun cs => weakK ks r fun r => K ((s, ⟨b.ty, cs⟩) :: r)) (weakK ks r fun r => K ((s, b) :: r))
def wdead (slots : List D) : List Nat -> List Pos -> List Pos
  | [], dead => dead
  | k :: ks, dead => cond (Nat.ble 200000 k) (match slots.getD (k - 200000) .any with | .v _ (.own p _) => p :: wdead slots ks dead | _ => wdead slots ks dead) (wdead slots ks dead)
def wdeadK (slots : List D) : List Nat -> List Pos -> (List Pos -> Option R) -> Option R
  | [], dead, K => K dead
  | k :: ks, dead, K => cond (Nat.ble 200000 k) (getK slots (k - 200000) fun d => match d with | .v _ (.own p _) => wdeadK slots ks dead fun r => K (p :: r) | _ => wdeadK slots ks dead K) (wdeadK slots ks dead K)
def keepK (ks : List Nat) (st : St) (K : List D -> Mem -> Option R) : Option R :=
  match st with
  | ⟨slots, fr :: out, dead⟩ => wdeadK slots ks dead fun dead => pickL ks slots dead ks [] fun ds => keepB ks fr fun fr => weakK ks fr fun fr => K ds (fr :: out)
  | _ => none
def spreadK : Nat -> Nat -> List Nat -> List D -> (List D -> Option R) -> Option R
  | 0, _, _, _, K => K []
  | n + 1, s, k :: ks, d :: ds, K => cond (Nat.beq s k) (spreadK n (s + 1) ks ds fun r => K (d :: r)) (spreadK n (s + 1) (k :: ks) (d :: ds) fun r => K (.any :: r))
  | n + 1, s, ks, ds, K => spreadK n (s + 1) ks ds fun r => K (.any :: r)
def ridOf : Code -> Nat
  | .region id _ _ => id
  | .seq a _ => ridOf a
  | .block _ a => ridOf a
  | .scope a => ridOf a
  | .loop a => ridOf a
  | .cond _ a _ => ridOf a
  | _ => 0
def roundK (body : St -> (Ex -> St -> Option R) -> Option R) (n : Nat) (ks xs : List Nat) (L : List D -> Mem -> Option R) (ds : List D) (m : Mem) (K : Ex -> List D -> Mem -> Option R) : Option R :=
  spreadK n 0 ks ds fun slots => body ⟨slots, m, []⟩ fun e st' =>
    (match e with
     | .normal => keepK ks st' L
     | e => keepK xs st' fun ds m => K e ds m)
def loopK (body : St -> (Ex -> St -> Option R) -> Option R) (n : Nat) (ks xs : List Nat) : Nat -> List D -> Mem -> (Ex -> List D -> Mem -> Option R) -> Option R
  | 0, _, _, _ => none
  | t + 1, ds, m, K => roundK body n ks xs (fun ds m => loopK body n ks xs t ds m K) ds m K
def loopsOf : Code -> List Code
  | .seq a b => loopsOf a ++ loopsOf b
  | .cond _ a b => loopsOf a ++ loopsOf b
  | .block _ a => loopsOf a
  | .loop a => a :: loopsOf a
  | .scope a => loopsOf a
  | _ => []
def drawnOf : Code -> List (Array Oper)
  | .region _ ops draw => (match draw with | true => [ops] | false => [])
  | .seq a b => drawnOf a ++ drawnOf b
  | .cond _ a b => drawnOf a ++ drawnOf b
  | .block _ a => drawnOf a
  | .loop a => drawnOf a
  | .scope a => drawnOf a
  | _ => []
def hasLabel (l : Nat) : Code -> Bool
  | .seq a b => hasLabel l a || hasLabel l b
  | .label l' => Nat.beq l' l
  | _ => false
def jumpK (from_ : Nat -> St -> (Ex -> St -> Option R) -> Option R) (has : Nat -> Bool) : Nat -> Nat -> St -> (Ex -> St -> Option R) -> Option R
  | 0, _, _, _ => none
  | n + 1, l, st, K => from_ l st fun e st' => match e with | .goto l' => cond (has l') (jumpK from_ has n l' st' K) (K (.goto l') st') | e => K e st'
mutual
def codeK (cx : Cx) (c : Code) (st : St) (K : Ex -> St -> Option R) : Option R :=
  match c with
  | .skip => K .normal st
  | .region id ops draw =>
    opsK cx ops ops.toList st fun st' => canonSt st' fun st' => K .normal st'
  | .seq a b => codeK cx a st fun e st' => match e with | .normal => codeK cx b st' K | e => K e st'
  | .cond c a b =>
    (match c, st with
     | .tmp t, ⟨slots, mem, dead⟩ => getK slots t fun d => (match d with
       | .v x at_ => x.unBool fun v => br v (setK slots t (.v (.bool true) at_) fun slots => codeK cx a ⟨slots, mem, dead⟩ K) (setK slots t (.v (.bool false) at_) fun slots => codeK cx b ⟨slots, mem, dead⟩ K)
       | _ => none)
     | .const (.bool v), st => cond v (codeK cx a st K) (codeK cx b st K)
     | _, _ => none)
  | .block id a => codeK cx a st fun e st' => match e with | .exit i => cond (Nat.beq i id) (K .normal st') (K (.exit i) st') | e => K e st'
  | .loop a =>
    (match st with
     | ⟨slots, mem, dead⟩ => keepK (cx.keep (ridOf a)) ⟨slots, mem, dead⟩ fun ds m => cx.loopT (ridOf a) ds m fun e ds m => spreadK slots.length 0 (cx.keepX (ridOf a)) ds fun slots => K e ⟨slots, m, []⟩)
  | .exit id => K (.exit id) st
  | .scope a => codeK cx a st fun e st' => (match e with
    | .goto l => cond (hasLabel l a) (jumpK (fun l st K => fromK cx l a st K) (fun l => hasLabel l a) cx.jumps l st' K) (K (.goto l) st')
    | e => K e st')
  | .label _ => K .normal st
  | .goto l => K (.goto l) st
  | .ret => K .ret st
  | _ => none
def fromK (cx : Cx) (l : Nat) (c : Code) (st : St) (K : Ex -> St -> Option R) : Option R :=
  match c with
  | .seq a b => cond (hasLabel l a) (fromK cx l a st fun e st' => match e with | .normal => codeK cx b st' K | e => K e st') (fromK cx l b st K)
  | .label _ => K .normal st
  | _ => none
end
def retK (cx : Cx) (rv : ResultVar) (st : St) (K : D -> Option R) : Option R :=
  match rv with
  | .tmp t => getK st.slots t fun d => forceD d.bare K
  | .cell p ty => getK st.slots p fun dp => loadK cx.T ty dp st.mem fun d => forceD d.bare K
def retsK (cx : Cx) : List ResultVar -> St -> (List D -> Option R) -> Option R
  | [], _, K => K []
  | r :: rs, st, K => retK cx r st fun d => retsK cx rs st fun ds => K (d :: ds)
def blankK : Nat -> (List D -> Option R) -> Option R
  | 0, K => K []
  | n + 1, K => blankK n fun r => K (.any :: r)
def padK (n : Nat) : List D -> (List D -> Option R) -> Option R
  | [], K => blankK n K
  | d :: ds, K => padK (n - 1) ds fun r => K (d :: r)
def bodyK (cx : Cx) (fn : Func) (args : List D) (m : Mem) (K : List D -> Mem -> Option R) : Option R :=
  match fn.body with
  | some c => padK fn.ntmps args fun slots => codeK cx c ⟨slots, [] :: m, []⟩ fun e st' =>
    (match e with
     | .normal => retsK cx fn.results.toList st' fun rs => K rs st'.mem
     | .ret => retsK cx fn.results.toList st' fun rs => K rs st'.mem
     | _ => none)
  | none => none
def loopN (fn : Func) (i : Nat) : Code := (loopsOf (fn.body.getD .skip)).getD i .skip
def bnd1 {α : Type} (o : Option α) (K : α -> Option R) : Option R := match o with | some a => K a | none => none
def bnd2 {α β : Type} (o : Option (α × β)) (K : α -> β -> Option R) : Option R := match o with | some (a, b) => K a b | none => none
def bnd3 {α β γ : Type} (o : Option (α × β × γ)) (K : α -> β -> γ -> Option R) : Option R := match o with | some (a, b, c) => K a b c | none => none
def bnd4 {α β γ δ : Type} (o : Option (α × β × γ × δ)) (K : α -> β -> γ -> δ -> Option R) : Option R := match o with | some (a, b, c, d) => K a b c d | none => none
end Go.Proofs.Ytilfphdeacogmaa.En

/- The engine, part d: what it means that data describe a world, and how that is kept. No program in sight. -/
namespace Go.Proofs.Ytilfphdeacogmaa.En
open Go
set_option linter.unusedVariables false
inductive APos where
  | slot (d s : Nat)
  | cell (d s i : Nat)
  deriving DecidableEq
inductive Perm where
  | imm
  | low (n : Nat)
  | own (p : APos) (n : Nat)
  | box (d s : Nat)
structure G where
  Γ : Nat -> Perm
  J : Nat -> Nat -> Nat
  sz : TypeId -> Nat
def Stable (g : G) (b o : Nat) : Prop := match g.Γ b with | .imm => True | .low n => o < n | .own _ n => o < n | .box _ _ => False
def absP (d : Nat) : Pos -> APos
  | .slot s => .slot d s
  | .cell k s i => .cell (d - k) s i
def okPos (d : Nat) : Pos -> Prop
  | .slot _ => True
  | .cell k _ _ => k <= d
inductive RepV (g : G) (w : World) : V -> Value -> Prop
  | bool (b : Bool) : RepV g w (.bool b) (.bool b)
  | int (k : IntKind) (n : Int) (h : k.min <= n /\ n <= k.max) : RepV g w (.int k n) (.int k n)
  | str (s : List UInt8) (h : s.length <= 9223372036854775807) : RepV g w (.str s) (.string ⟨s.toArray⟩)
  | bytes (xs : List UInt8) (A : Option Addr) (n c : Nat) (hn : xs.length = n) (hc : n <= c) (hm : c <= maxLen)
      (h : ∀ (k : Nat) x, xs[k]? = some x -> ∃ b off, A = some ⟨b, off, none⟩ /\ Stable g b (off + k) /\ w.cell? ⟨b, off + k, none⟩ = some (.int .u8 (x.toNat : Int))) : RepV g w (.bytes xs) (.slice A n c)
  | sl (e : TypeId) (xs : List V) (A : Option Addr) (n c : Nat) (us : Nat -> Value) (hn : xs.length = n) (hc : n <= c) (hm : c <= maxLen) (hs : ∀ x ∈ xs, okEl (g.sz e) x = true)
      (h : ∀ (k : Nat) y, (xs.flatMap V.cells)[k]? = some y -> ∃ b off, A = some ⟨b, off, none⟩ /\ Stable g b (off + k) /\ w.cell? ⟨b, off + k, none⟩ = some (us k))
      (hr : ∀ (k : Nat) y, (xs.flatMap V.cells)[k]? = some y -> RepV g w y (us k)) : RepV g w (.sl e xs) (.slice A n c)
  | agg (cs : List V) (us : Array Value) (hn : us.size = cs.length) (hr : ∀ (k : Nat) y, cs[k]? = some y -> RepV g w y (us.getD k undef)) : RepV g w (.agg cs) (.agg us)
  | iface (t : TypeId) (x : V) (v : Value) (h : RepV g w x v) : RepV g w (.iface t x) (.iface t v)
  | nilI : RepV g w .nilI .nilIface
structure Later (g : G) (w : World) (g' : G) (w' : World) : Prop where
  sz : g'.sz = g.sz
  st : ∀ b o v, Stable g b o -> w.cell? ⟨b, o, none⟩ = some v -> Stable g' b o /\ w'.cell? ⟨b, o, none⟩ = some v
  im : ∀ b x, g.Γ b = .imm -> w.heap[b]? = some x -> g'.Γ b = .imm /\ w'.heap[b]? = some x
theorem Later.refl (g : G) (w : World) : Later g w g w := ⟨rfl, fun _ _ _ h h' => ⟨h, h'⟩, fun _ _ h h' => ⟨h, h'⟩⟩
theorem Later.trans {g g1 g2 : G} {w w1 w2 : World} (h : Later g w g1 w1) (k : Later g1 w1 g2 w2) : Later g w g2 w2 :=
  ⟨k.sz.trans h.sz, fun b o v h1 h2 => k.st b o v (h.st b o v h1 h2).1 (h.st b o v h1 h2).2, fun b x h1 h2 => k.im b x (h.im b x h1 h2).1 (h.im b x h1 h2).2⟩
theorem RepV.later {g g' : G} {w w' : World} (hl : Later g w g' w') {x : V} {v : Value} (h : RepV g w x v) : RepV g' w' x v := by
  induction h with
  | bool b => exact .bool b
  | int k n h => exact .int k n h
  | str s h => exact .str s h
  | bytes xs A n c hn hc hm h =>
    refine .bytes xs A n c hn hc hm fun k x hx => ?_
    obtain ⟨b, off, e, h1, h2⟩ := h k x hx
    exact ⟨b, off, e, hl.st _ _ _ h1 h2⟩
  | sl e xs A n c us hn hc hm hs h hr ih =>
    refine .sl e xs A n c us hn hc hm (by rw [hl.sz]; exact hs) (fun k x hx => ?_) ih
    obtain ⟨b, off, e, h1, h2⟩ := h k x hx
    exact ⟨b, off, e, hl.st _ _ _ h1 h2⟩
  | agg cs us hn hr ih => exact .agg cs us hn ih
  | iface t x v h ih => exact .iface t x v ih
  | nilI => exact .nilI
theorem RepV.one {g : G} {w : World} {x : V} {v : Value} (h : RepV g w x v) (h1 : x.one = true) : v.oneCell' = true := by
  cases h <;> first | rfl | cases h1
theorem RepV.cells {g : G} {w : World} {x : V} {v : Value} (h : RepV g w x v) : v.cells.size = x.cells.length /\ ∀ (k : Nat) y, x.cells[k]? = some y -> RepV g w y (v.cells.getD k undef) := by
  cases h with
  | agg cs us hn hr => exact ⟨hn, hr⟩
  | _ =>
    refine ⟨rfl, fun k y hk => ?_⟩
    rcases k with _ | k
    . simp [V.cells] at hk
      subst hk
      simp only [Value.cells]
      first
        | exact .bool _
        | exact .int _ _ (by assumption)
        | exact .str _ (by assumption)
        | exact .bytes _ _ _ _ (by assumption) (by assumption) (by assumption) (by assumption)
        | exact .sl _ _ _ _ _ _ (by assumption) (by assumption) (by assumption) (by assumption) (by assumption) (by assumption)
        | exact .iface _ _ _ (by assumption)
        | exact .nilI
    . simp [V.cells] at hk
def OwnAt (g : G) (w : World) (p : APos) (e : TypeId) (v : Value) : Prop :=
  v = .slice none 0 0 ∨ ∃ b n cap cur, v = .slice (some ⟨b, 0, none⟩) n cap /\ g.Γ b = .own p (n * g.sz e) /\ w.heap[b]? = some (.cells cur e (0, 0)) /\ n <= cap /\ cap <= maxLen /\ cur.size = cap * g.sz e
structure Env where
  d : Nat
  dom : Nat -> Nat -> Prop
def AttOK (E : Env) (g : G) (w : World) (dead : List Pos) : Att -> Value -> Prop
  | .no, _ => True
  | .nil _, v => v = .slice none 0 0
  | .own p e, v => p ∈ dead ∨ (okPos E.d p /\ OwnAt g w (absP E.d p) e v)
inductive RepD (E : Env) (g : G) (w : World) (dead : List Pos) : D -> Value -> Prop
  | v (x : V) (a : Att) (v : Value) (h : RepV g w x v) (ha : AttOK E g w dead a v) : RepD E g w dead (.v x a) v
  | ptr (k s o : Nat) (hk : k <= E.d) (hd : E.dom k s) : RepD E g w dead (.ptr k s o) (.pointer (some ⟨g.J (E.d - k) s, o, none⟩))
  | nilp : RepD E g w dead .nilp (.pointer none)
  | eptr (cs : List V) (o b off : Nat) (us : Nat -> Value) (h : ∀ (k : Nat) y, cs[k]? = some y -> Stable g b (off + k) /\ w.cell? ⟨b, off + k, none⟩ = some (us k))
      (hr : ∀ (k : Nat) y, cs[k]? = some y -> RepV g w y (us k)) : RepD E g w dead (.eptr cs o) (.pointer (some ⟨b, off + o, none⟩))
  | clos (f : FuncId) (caps : List D) (us : Array Value) (hn : us.size = caps.length) (hr : ∀ (k : Nat) y, caps[k]? = some y -> RepD E g w dead y (us.getD k undef)) : RepD E g w dead (.clos f caps) (.func (.func f) #[] us)
  | nilF : RepD E g w dead .nilF .nilFunc
  | bld : RepD E g w dead .bld (.pointer none)
  | agg (ds : List D) (us : Array Value) (hn : us.size = ds.length) (hr : ∀ (k : Nat) y, ds[k]? = some y -> RepD E g w dead y (us.getD k undef)) : RepD E g w dead (.agg ds) (.agg us)
  | tup (ds : List D) (us : Array Value) (hn : us.size = ds.length) (hr : ∀ (k : Nat) y, ds[k]? = some y -> RepD E g w dead y (us.getD k undef)) : RepD E g w dead (.tup ds) (.tuple us)
  | any (v : Value) : RepD E g w dead .any v
structure Keeps (E : Env) (g : G) (w : World) (dead : List Pos) (E' : Env) (g' : G) (w' : World) (dead' : List Pos) : Prop where
  later : Later g w g' w'
  d : E'.d = E.d
  dom : ∀ k s, E.dom k s -> E'.dom k s
  J : ∀ k s, k <= E.d -> E.dom k s -> g'.J (E.d - k) s = g.J (E.d - k) s
  dead : ∀ p, p ∈ dead -> p ∈ dead'
  own : ∀ p e v, okPos E.d p -> p ∉ dead' -> OwnAt g w (absP E.d p) e v -> OwnAt g' w' (absP E.d p) e v
theorem Keeps.refl (E : Env) (g : G) (w : World) (dead : List Pos) : Keeps E g w dead E g w dead :=
  ⟨Later.refl g w, rfl, fun _ _ h => h, fun _ _ _ _ => rfl, fun _ h => h, fun _ _ _ _ _ h => h⟩
theorem Keeps.trans {E E1 E2 : Env} {g g1 g2 : G} {w w1 w2 : World} {d d1 d2 : List Pos} (h : Keeps E g w d E1 g1 w1 d1) (k : Keeps E1 g1 w1 d1 E2 g2 w2 d2) : Keeps E g w d E2 g2 w2 d2 := by
  refine ⟨h.later.trans k.later, k.d.trans h.d, fun a s hh => k.dom a s (h.dom a s hh), fun a s ha hd => ?_, fun p hp => k.dead p (h.dead p hp), fun p e v hp hn ho => ?_⟩
  . have := k.J a s (by rw [h.d]; exact ha) (h.dom a s hd)
    rw [h.d] at this
    exact this.trans (h.J a s ha hd)
  . have h1 := h.own p e v hp (fun hh => hn (k.dead p hh)) ho
    have := k.own p e v (by rw [h.d]; exact hp) hn (by rw [h.d]; exact h1)
    rwa [h.d] at this
theorem AttOK.keep {E E' : Env} {g g' : G} {w w' : World} {dead dead' : List Pos} (hk : Keeps E g w dead E' g' w' dead') {a : Att} {v : Value} (h : AttOK E g w dead a v) : AttOK E' g' w' dead' a v := by
  cases a with
  | no => trivial
  | nil e => exact h
  | own p e =>
    by_cases hp : p ∈ dead'
    . exact .inl hp
    . rcases h with h | ⟨h1, h2⟩
      . exact absurd (hk.dead p h) hp
      . refine .inr ⟨by rw [hk.d]; exact h1, ?_⟩
        rw [hk.d]
        exact hk.own p e v h1 hp h2
theorem RepD.keep {E E' : Env} {g g' : G} {w w' : World} {dead dead' : List Pos} (hk : Keeps E g w dead E' g' w' dead') {x : D} {v : Value} (h : RepD E g w dead x v) : RepD E' g' w' dead' x v := by
  induction h with
  | v x a v h ha => exact .v x a v (h.later hk.later) (ha.keep hk)
  | ptr k s o h1 h2 =>
    have := hk.J k s h1 h2
    rw [← this, ← hk.d]
    exact .ptr k s o (by rw [hk.d]; exact h1) (hk.dom k s h2)
  | nilp => exact .nilp
  | eptr cs o b off us h hr => exact .eptr cs o b off us (fun k y hy => hk.later.st _ _ _ (h k y hy).1 (h k y hy).2) (fun k y hy => (hr k y hy).later hk.later)
  | clos f caps us hn hr ih => exact .clos f caps us hn ih
  | nilF => exact .nilF
  | bld => exact .bld
  | agg ds us hn hr ih => exact .agg ds us hn ih
  | tup ds us hn hr ih => exact .tup ds us hn ih
  | any v => exact .any v
def D.flat : D -> Bool
  | .v _ _ => true
  | d => d.noOwn
def memDom (m : Mem) (k s : Nat) : Prop := ∃ b, m.box? k s = some b
def BldAt (b : Nat) (v : Value) : Prop := v = .pointer none ∨ v = .pointer (some ⟨b, 0, none⟩)
structure BoxRep (E : Env) (g : G) (w : World) (k s : Nat) (b : Bx) : Prop where
  le : k <= E.d
  perm : g.Γ (g.J (E.d - k) s) = .box (E.d - k) s
  heap : ∃ us, w.heap[g.J (E.d - k) s]? = some (.cells us b.ty (0, 0)) /\ us.size = b.cells.length /\
    ∀ (i : Nat) c, b.cells[i]? = some c -> c.one = true /\ c.flat = true /\ (c = .bld -> BldAt (g.J (E.d - k) s) (us.getD i undef)) /\ RepD E g w [] (loadCell k s i c) (us.getD i undef)
def MemRep (E : Env) (g : G) (w : World) (m : Mem) : Prop := ∀ k s b, m.box? k s = some b -> BoxRep E g w k s b
structure Tr (d : Nat) (g : G) (w : World) (g' : G) (w' : World) : Prop where
  os : w'.os = w.os
  tape : w'.tape = w.tape
  output : w'.output = w.output
  size : w.heap.size <= w'.heap.size
  later : Later g w g' w'
  hid : ∀ b, b < w.heap.size -> (g.Γ b = .imm ∨ ∃ n, g.Γ b = .low n) -> g'.Γ b = g.Γ b /\ w'.heap[b]? = w.heap[b]?
  J : ∀ d' s, d' < d -> g'.J d' s = g.J d' s
theorem Tr.refl (d : Nat) (g : G) (w : World) : Tr d g w g w :=
  ⟨rfl, rfl, rfl, Nat.le_refl _, Later.refl g w, fun _ _ _ => ⟨rfl, rfl⟩, fun _ _ _ => rfl⟩
theorem Tr.trans {d : Nat} {g g1 g2 : G} {w w1 w2 : World} (h : Tr d g w g1 w1) (k : Tr d g1 w1 g2 w2) : Tr d g w g2 w2 := by
  refine ⟨k.os.trans h.os, k.tape.trans h.tape, k.output.trans h.output, Nat.le_trans h.size k.size, h.later.trans k.later, fun b hb hi => ?_, fun d' s hd => (k.J d' s hd).trans (h.J d' s hd)⟩
  obtain ⟨a1, a2⟩ := h.hid b hb hi
  obtain ⟨b1, b2⟩ := k.hid b (Nat.lt_of_lt_of_le hb h.size) (by rw [a1]; exact hi)
  exact ⟨b1.trans a1, b2.trans a2⟩
theorem Pos.eqb_iff (p q : Pos) : p.eqb q = true ↔ p = q := by
  cases p <;> cases q <;> simp [Pos.eqb]
theorem hasP_iff (p : Pos) : ∀ l : List Pos, hasP p l = true ↔ p ∈ l
  | [] => by simp [hasP]
  | q :: l => by
    unfold hasP
    cases h : p.eqb q with
    | true => simp [(Pos.eqb_iff p q).1 h]
    | false =>
      have : p ≠ q := fun e => by rw [(Pos.eqb_iff p q).2 e] at h; cases h
      simp [hasP_iff p l, this]
theorem beq_ne {s t : Nat} (h : s ≠ t) : Nat.beq s t = false := by
  cases hb : Nat.beq s t with
  | false => rfl
  | true => exact absurd (Nat.eq_of_beq_eq_true hb) h
theorem frGet_cons (t s : Nat) (b : Bx) (r : Fr) : frGet t ((s, b) :: r) = if t = s then some b else frGet t r := by
  show (bif Nat.beq t s then some b else frGet t r) = _
  by_cases h : t = s
  . subst h; simp
  . rw [beq_ne h, if_neg h]; rfl
theorem frGet_put (s t : Nat) (b : Bx) : ∀ fr : Fr, frGet t (frPut s b fr) = if t = s then some b else frGet t fr
  | [] => by rw [frPut, frGet_cons]
  | (s', b') :: r => by
    unfold frPut
    by_cases h1 : s = s'
    . subst h1
      simp only [Nat.beq_refl, cond_true, frGet_cons]
      by_cases h : t = s <;> simp [h]
    . rw [beq_ne h1]
      simp only [cond_false]
      cases hb : Nat.blt s s' with
      | true => simp only [cond_true, frGet_cons]
      | false =>
        simp only [cond_false, frGet_cons, frGet_put s t b r]
        by_cases h : t = s
        . subst h; simp [h1]
        . simp [h]
theorem box_set : ∀ (m : Mem) (k s : Nat) (b : Bx) (k' s' : Nat), (m.setBox k s b).box? k' s' = if k' = k /\ s' = s /\ k < m.length then some b else m.box? k' s'
  | [], k, s, b, k', s' => by simp [Mem.setBox, Mem.box?]
  | fr :: m, 0, s, b, 0, s' => by simp [Mem.setBox, Mem.box?, frGet_put]
  | fr :: m, 0, s, b, k' + 1, s' => by simp [Mem.setBox, Mem.box?]
  | fr :: m, k + 1, s, b, 0, s' => by simp [Mem.setBox, Mem.box?]
  | fr :: m, k + 1, s, b, k' + 1, s' => by simp [Mem.setBox, Mem.box?, box_set m k s b k' s']
theorem setBox_length : ∀ (m : Mem) (k s : Nat) (b : Bx), (m.setBox k s b).length = m.length
  | [], _, _, _ => rfl
  | _ :: _, 0, _, _ => rfl
  | _ :: m, k + 1, s, b => by simp [Mem.setBox, setBox_length m k s b]
theorem box_lt : ∀ (m : Mem) (k s : Nat) (b : Bx), m.box? k s = some b -> k < m.length
  | [], _, _, _, h => by simp [Mem.box?] at h
  | _ :: _, 0, _, _, _ => by simp
  | _ :: m, k + 1, s, b, h => by have := box_lt m k s b h; simp; omega
end Go.Proofs.Ytilfphdeacogmaa.En

/- The engine, part e: each operation does to the world what it does to the data. The operations that leave memory as it is. -/
namespace Go.Proofs.Ytilfphdeacogmaa.En
open Go
set_option linter.unusedVariables false
/-- A struct that is compared. -/
def eqOKB (P : Program) (t : TypeId) (ty : Ty) : Bool := !ty.eqb || (!P.stoodInHeld t && (!P.eqGuardType P.depth t && (match ty.desc with | .struct fs => fs.toList.all fun f => !(f.name == "_") | _ => true)))
structure TyOK (P : Program) (t : TypeId) (ty : Ty) : Prop where
  desc : P.underlying t = some ty.desc
  info : ∃ i, P.info? t = some i /\ i.zero = some ty.zero /\ i.size = ty.size /\ i.bytes = ty.nbytes
  one : ty.row = false -> ty.size = 1
  eq : eqOKB P t ty = true
def TypesOK (P : Program) (T : TypeId -> Option Ty) : Prop := ∀ t ty, T t = some ty -> TyOK P t ty
def Runs (P : Program) (o : Oper) (a : Act) (w : World) (v : Value) (w' : World) : Prop :=
  (execOp a.eval o).run P w = .ok (.value v) w' ∨ ((execOp a.eval o).run P w = .ok .skip w' /\ v = undef)
theorem wp_of_runs {P : Program} {o : Oper} {a : Act} {w w' : World} {v : Value} (h : Runs P o a w v w') {next : Act -> World -> Prop} {Q : Exit -> Act -> World -> Prop} (hn : next (a.put o.dst v) w') : o.wp P a w next Q := by
  unfold Oper.wp
  rcases h with h | ⟨h, rfl⟩
  . rw [h]; exact hn
  . rw [h]; exact hn
def GlobV (b : Nat) (x : Obj) : Prop := False
def globD : List Nat := []
structure SzOK (T : TypeId -> Option Ty) (g : G) (w : World) : Prop where
  eq : g.sz = sizes T
  gl : ∀ b ∈ globD, g.Γ b = .imm /\ ∃ x, w.heap[b]? = some x /\ GlobV b x
theorem SzOK.later {T : TypeId -> Option Ty} {g g' : G} {w w' : World} (h : SzOK T g w) (hl : Later g w g' w') : SzOK T g' w' :=
  ⟨hl.sz.trans h.eq, fun b hb => by
    obtain ⟨h1, x, h2, h3⟩ := h.gl b hb
    obtain ⟨h4, h5⟩ := hl.im b x h1 h2
    exact ⟨h4, x, h5, h3⟩⟩
structure Here (T : TypeId -> Option Ty) (E : Env) (g : G) (w : World) (m : Mem) : Prop where
  mem : MemRep E g w m
  dom : E.dom = memDom m
  sk : SzOK T g w
  len : m.length = E.d + 1
theorem Here.sz {T : TypeId -> Option Ty} {E : Env} {g : G} {w : World} {m : Mem} (h : Here T E g w m) : g.sz = sizes T := h.sk.eq
def Res (P : Program) (T : TypeId -> Option Ty) (E : Env) (g : G) (w : World) (m : Mem) (dead : List Pos) (o : Oper) (a : Act) (x : D) (m' : Mem) (dead' : List Pos) : Prop :=
  ∃ v w' g' E', Runs P o a w v w' /\ Keeps E g w dead E' g' w' dead' /\ Here T E' g' w' m' /\ RepD E' g' w' dead' x v /\ Tr E.d g w g' w'
theorem Res.pure {P : Program} {T : TypeId -> Option Ty} {E : Env} {g : G} {w : World} {m : Mem} {dead : List Pos} {o : Oper} {a : Act} {x : D} (hh : Here T E g w m) {v : Value}
    (hr : (execOp a.eval o).run P w = .ok (.value v) w) (hx : RepD E g w dead x v) : Res P T E g w m dead o a x m dead :=
  ⟨v, w, g, E, .inl hr, Keeps.refl E g w dead, hh, hx, Tr.refl _ _ _⟩
section
variable {P : Program} {T : TypeId -> Option Ty} {E : Env} {g : G} {w : World} {dead : List Pos}
theorem RepD.int_inv {k : IntKind} {n : Int} {a : Att} {v : Value} (h : RepD E g w dead (.v (.int k n) a) v) : v = .int k n /\ k.min <= n /\ n <= k.max := by
  cases h with | v x a v h ha => cases h with | int k n hh => exact ⟨rfl, hh⟩
theorem RepD.bool_inv {b : Bool} {a : Att} {v : Value} (h : RepD E g w dead (.v (.bool b) a) v) : v = .bool b := by
  cases h with | v x a v h ha => cases h; rfl
theorem RepD.str_inv {s : List UInt8} {a : Att} {v : Value} (h : RepD E g w dead (.v (.str s) a) v) : v = .string ⟨s.toArray⟩ /\ s.length <= 9223372036854775807 := by
  cases h with | v x a v h ha => cases h with | str s hh => exact ⟨rfl, hh⟩
theorem RepD.int_ {k : IntKind} {n : Int} (h : k.min <= n /\ n <= k.max) : RepD E g w dead (intD k n) (.int k n) := .v _ _ _ (.int k n h) trivial
theorem RepD.bool_ (b : Bool) : RepD E g w dead (boolD b) (.bool b) := .v _ _ _ (.bool b) trivial
theorem RepD.str_ {s : List UInt8} (h : s.length <= 9223372036854775807) : RepD E g w dead (.v (.str s) .no) (.string ⟨s.toArray⟩) := .v _ _ _ (.str s h) trivial
theorem wrap_bound (k : IntKind) (n : Int) : k.min <= k.wrap n /\ k.wrap n <= k.max := by
  cases k <;> simp only [IntKind.wrap, IntKind.min, IntKind.max, IntKind.bits, IntKind.signed] <;> simp <;> (try split) <;> omega
theorem RepD.plain_ {x : D} {v : Value} (h : RepD E g w dead x v) : RepD E g w dead x.plain v := by
  have hl : ∀ (ds : List D) (k : Nat) y, (plains ds)[k]? = some y -> ∃ z, ds[k]? = some z /\ y = z.plain := by
    intro ds
    induction ds with
    | nil => intro k y h; simp [plains] at h
    | cons d ds ih =>
      intro k y h
      rcases k with _ | k
      . simp [plains] at h; exact ⟨d, by simp, h.symm⟩
      . simp [plains] at h; obtain ⟨z, h1, h2⟩ := ih k y h; exact ⟨z, by simpa using h1, h2⟩
  have hn : ∀ ds : List D, (plains ds).length = ds.length := by
    intro ds; induction ds with | nil => rfl | cons d ds ih => simp [plains, ih]
  induction h with
  | v x a v h ha => cases a <;> simp only [D.plain, Att.plain] <;> first | exact .v _ _ _ h ha | exact .v _ _ _ h trivial
  | ptr k s o h1 h2 => exact .ptr k s o h1 h2
  | nilp => exact .nilp
  | eptr cs o b off us h hr => exact .eptr cs o b off us h hr
  | clos f caps us hn' hr ih =>
    refine .clos f _ us (by rw [hn]; exact hn') fun k y hy => ?_
    obtain ⟨z, hz, rfl⟩ := hl _ k y hy
    exact ih k z hz
  | nilF => exact .nilF
  | bld => exact .bld
  | agg ds us hn' hr ih =>
    refine .agg _ us (by rw [hn]; exact hn') fun k y hy => ?_
    obtain ⟨z, hz, rfl⟩ := hl _ k y hy
    exact ih k z hz
  | tup ds us hn' hr ih =>
    refine .tup _ us (by rw [hn]; exact hn') fun k y hy => ?_
    obtain ⟨z, hz, rfl⟩ := hl _ k y hy
    exact ih k z hz
  | any v => exact .any v
theorem bares_get : ∀ (ds : List D) (k : Nat) y, (bares ds)[k]? = some y -> ∃ z, ds[k]? = some z /\ y = z.bare
  | [], k, y, h => by simp [bares] at h
  | d :: ds, 0, y, h => by simp [bares] at h; exact ⟨d, by simp, h.symm⟩
  | d :: ds, k + 1, y, h => by
    simp [bares] at h; obtain ⟨z, h1, h2⟩ := bares_get ds k y h; exact ⟨z, by simpa using h1, h2⟩
theorem bares_length : ∀ ds : List D, (bares ds).length = ds.length
  | [] => rfl
  | d :: ds => by simp [bares, bares_length ds]
theorem RepD.bare_ {x : D} {v : Value} (h : RepD E g w dead x v) : RepD E g w dead x.bare v := by
  induction h with
  | v x a v h ha => exact .v _ _ _ h trivial
  | ptr k s o h1 h2 => exact .ptr k s o h1 h2
  | nilp => exact .nilp
  | eptr cs o b off us h hr => exact .eptr cs o b off us h hr
  | clos f caps us hn' hr ih =>
    refine .clos f _ us (by rw [bares_length]; exact hn') fun k y hy => ?_
    obtain ⟨z, hz, rfl⟩ := bares_get _ k y hy
    exact ih k z hz
  | nilF => exact .nilF
  | bld => exact .bld
  | agg ds us hn' hr ih =>
    refine .agg _ us (by rw [bares_length]; exact hn') fun k y hy => ?_
    obtain ⟨z, hz, rfl⟩ := bares_get _ k y hy
    exact ih k z hz
  | tup ds us hn' hr ih =>
    refine .tup _ us (by rw [bares_length]; exact hn') fun k y hy => ?_
    obtain ⟨z, hz, rfl⟩ := bares_get _ k y hy
    exact ih k z hz
  | any v => exact .any v
theorem constC_rep (ck : CK) (v : Value) : RepD E g w dead (constC ck v) v := by
  unfold constC
  split
  . rw [Bool.cond_eq_ite]
    split
    . rename_i h; exact RepD.int_ (by simpa using h)
    . exact .any _
  . exact RepD.bool_ _
  . rename_i s
    rw [Bool.cond_eq_ite]
    split
    . rename_i h
      have h := Nat.le_of_ble_eq_true h
      exact RepD.str_ (by omega)
    . exact .any _
  . exact .v _ _ _ .nilI trivial
  . exact .nilF
  . exact .nilp
  . split
    . exact .v _ _ _ (.bytes [] none 0 0 rfl (Nat.le_refl _) (Nat.zero_le _) fun k x h => by simp at h) rfl
    . exact .v _ _ _ (.sl _ [] none 0 0 (fun _ => undef) rfl (Nat.le_refl _) (Nat.zero_le _) (fun x h => by simp at h) (fun k x h => by simp at h) (fun k x h => by simp at h)) rfl
    . exact .any _
  . rename_i f first caps
    obtain ⟨l1⟩ := first
    obtain ⟨l2⟩ := caps
    rcases l1 with _ | ⟨x, l1⟩ <;> rcases l2 with _ | ⟨y, l2⟩ <;> simp only []
    . exact .clos f [] #[] rfl fun k y h => by simp at h
    all_goals exact .any _
  . exact .any _
theorem constCs_rep : ∀ (cks : List CK) (vs : List Value) (k : Nat) y, (constCs cks vs)[k]? = some y -> RepD E g w dead y (vs.getD k undef)
  | [], vs, k, y, h => by simp [constCs] at h
  | _ :: _, [], k, y, h => by simp [constCs] at h
  | ck :: cks, v :: vs, 0, y, h => by simp [constCs] at h; subst h; exact constC_rep ck v
  | ck :: cks, v :: vs, k + 1, y, h => by simp [constCs] at h; simpa using constCs_rep cks vs k y h
theorem constCs_length : ∀ (cks : List CK) (vs : List Value), vs.length = cks.length -> (constCs cks vs).length = vs.length
  | [], [], _ => rfl
  | _ :: cks, _ :: vs, h => by simp [constCs, constCs_length cks vs (by simpa using h)]
  | [], _ :: _, h => by simp at h
  | _ :: _, [], h => by simp at h
theorem constD_rep (ty : Option Ty) (v : Value) : RepD E g w dead (constD ty v) v := by
  unfold constD
  split
  . rename_i cs
    split
    . rw [Bool.cond_eq_ite]
      split
      . rename_i h
        have h := Nat.eq_of_beq_eq_true h
        refine .agg _ cs (by rw [constCs_length _ _ h]; simp) fun k y hy => ?_
        have := constCs_rep (E := E) (g := g) (w := w) (dead := dead) _ _ k y hy
        simpa using this
      . exact .any _
    . exact .any _
  . exact constC_rep _ _
theorem evalD_rep {slots : List D} {a : Act} (hs : ∀ (s : Nat) x, slots[s]? = some x -> RepD E g w dead x (a.tmps.getD s undef)) (h : TypeId) (z : Operand) : RepD E g w dead (evalD T slots h z) (a.eval z) := by
  cases z with
  | tmp t =>
    simp only [evalD, Act.eval, List.getD_eq_getElem?_getD]
    cases hx : slots[t]? with
    | none => exact .any _
    | some x => exact hs t x hx
  | const v => exact constD_rep _ _
  | global gg => exact .any _
  | func f => exact .clos f [] #[] rfl fun k y h => by simp at h
end
end Go.Proofs.Ytilfphdeacogmaa.En

/- The engine, part f: arithmetic, strings, comparisons. -/
namespace Go.Proofs.Ytilfphdeacogmaa.En
open Go
set_option linter.unusedVariables false
section
variable {P : Program} {T : TypeId -> Option Ty} {E : Env} {g : G} {w : World} {dead : List Pos}
theorem check_some {α : Type} {b : Bool} {K : Option α} {r : α} (h : check b K = some r) : b = true /\ K = some r := by
  cases b
  . cases h
  . exact ⟨rfl, h⟩
theorem cond_some {α : Type} {b : Bool} {K K' : Option α} {r : α} (h : cond b K K' = some r) : (b = true /\ K = some r) ∨ (b = false /\ K' = some r) := by
  cases b
  . exact .inr ⟨rfl, h⟩
  . exact .inl ⟨rfl, h⟩
theorem min_nonpos (k : IntKind) : k.min <= 0 /\ 0 <= k.max := by
  cases k <;> simp [IntKind.min, IntKind.max, IntKind.bits, IntKind.signed]
theorem emod_le' (a b : Int) (h : 0 <= a) (hb : 0 < b) : a % b <= a := by
  have h1 := Int.mul_ediv_add_emod a b
  have h2 : 0 <= b * (a / b) := Int.mul_nonneg (Int.le_of_lt hb) (Int.ediv_nonneg h (Int.le_of_lt hb))
  omega
theorem tmod_bound (k : IntKind) (a b : Int) (ha : k.min <= a /\ a <= k.max) : k.min <= a.tmod b /\ a.tmod b <= k.max := by
  have h0 := min_nonpos k
  rcases Int.le_total 0 a with h | h
  . have h1 : 0 <= a.tmod b := Int.tmod_nonneg b h
    have h2 : a.tmod b <= a := by
      by_cases hb : b = 0
      . subst hb; simp
      . rcases Int.lt_or_gt_of_ne hb with hb | hb
        . have := Int.tmod_neg a (-b); rw [Int.neg_neg] at this; rw [this, Int.tmod_eq_emod_of_nonneg h]
          exact emod_le' _ _ h (by omega)
        . rw [Int.tmod_eq_emod_of_nonneg h]; exact emod_le' _ _ h hb
    omega
  . have hn : 0 <= -a := by omega
    have h1 : 0 <= (-a).tmod b := Int.tmod_nonneg b hn
    have h3 : (-a).tmod b = -(a.tmod b) := Int.neg_tmod a b
    have h2 : (-a).tmod b <= -a := by
      by_cases hb : b = 0
      . subst hb; simp
      . rcases Int.lt_or_gt_of_ne hb with hb | hb
        . have := Int.tmod_neg (-a) (-b); rw [Int.neg_neg] at this; rw [this, Int.tmod_eq_emod_of_nonneg hn]
          exact emod_le' _ _ hn (by omega)
        . rw [Int.tmod_eq_emod_of_nonneg hn]; exact emod_le' _ _ hn hb
    omega
theorem shr_bound (k : IntKind) (a b : Int) (ha : k.min <= a /\ a <= k.max) : k.min <= shrI k a b /\ shrI k a b <= k.max := by
  have h0 := min_nonpos k
  unfold shrI
  generalize min b.toNat k.bits = n
  have hp : (0 : Int) < 2 ^ n := Int.pow_pos (by decide)
  rw [Int.fdiv_eq_ediv_of_nonneg _ (Int.le_of_lt hp)]
  rcases Int.le_total 0 a with h | h
  . have h1 : 0 <= a / 2 ^ n := Int.ediv_nonneg h (Int.le_of_lt hp)
    have h2 : a / 2 ^ n <= a := Int.ediv_le_self _ h
    omega
  . have h1 : a <= a / 2 ^ n := by
      rw [Int.le_ediv_iff_mul_le hp]
      have : a * 2 ^ n <= a * 1 := Int.mul_le_mul_of_nonpos_left h (by omega)
      omega
    have h2 : a / 2 ^ n <= 0 := Int.ediv_nonpos_of_nonpos_of_neg h hp
    omega
theorem intK_sound (op : BinOp) (hop : op ≠ .shl /\ op ≠ .shr) (xt : TypeId) (k : IntKind) (a b : Int) (d : D) (h : intK op k a b some = some d) (ha : k.min <= a /\ a <= k.max) (hb : k.min <= b /\ b <= k.max) :
    ∃ v, (binOp op xt (.int k a) (.int k b)).run P w = .ok v w /\ RepD E g w dead d v := by
  cases op <;> simp only [intK, Option.some.injEq] at h
  case add => subst h; exact ⟨_, by simp [binOp, Op.intArith], RepD.int_ (wrap_bound _ _)⟩
  case sub => subst h; exact ⟨_, by simp [binOp, Op.intArith], RepD.int_ (wrap_bound _ _)⟩
  case mul => subst h; exact ⟨_, by simp [binOp, Op.intArith], RepD.int_ (wrap_bound _ _)⟩
  case quo =>
    obtain ⟨h1, h2⟩ := check_some h
    injection h2 with h2; subst h2
    exact ⟨_, by simp at h1; simp [binOp, Op.intDiv, h1], RepD.int_ (wrap_bound _ _)⟩
  case rem =>
    obtain ⟨h1, h2⟩ := check_some h
    injection h2 with h2; subst h2
    exact ⟨_, by simp at h1; simp [binOp, Op.intDiv, h1], RepD.int_ (tmod_bound _ _ _ ha)⟩
  case and => subst h; exact ⟨_, by simp [binOp, Op.intBits, bitsI], RepD.int_ (wrap_bound _ _)⟩
  case or => subst h; exact ⟨_, by simp [binOp, Op.intBits, bitsI], RepD.int_ (wrap_bound _ _)⟩
  case xor => subst h; exact ⟨_, by simp [binOp, Op.intBits, bitsI], RepD.int_ (wrap_bound _ _)⟩
  case andNot => subst h; exact ⟨_, by simp [binOp, Op.intBits, bitsI], RepD.int_ (wrap_bound _ _)⟩
  case shl => exact absurd rfl hop.1
  case shr => exact absurd rfl hop.2
  case eql => subst h; exact ⟨.bool (decide (a = b)), by simp [binOp, Op.intCmp]; rfl, RepD.bool_ _⟩
  case neq => subst h; exact ⟨.bool (!decide (a = b)), by simp [binOp, Op.intCmp]; rfl, RepD.bool_ _⟩
  case lss => subst h; exact ⟨.bool (decide (a < b)), by simp [binOp, Op.intCmp], RepD.bool_ _⟩
  case leq => subst h; exact ⟨.bool (decide (a <= b)), by simp [binOp, Op.intCmp], RepD.bool_ _⟩
  case gtr => subst h; exact ⟨.bool (decide (b < a)), by simp [binOp, Op.intCmp], RepD.bool_ _⟩
  case geq => subst h; exact ⟨.bool (decide (b <= a)), by simp [binOp, Op.intCmp], RepD.bool_ _⟩
theorem shl_sound (xt : TypeId) (k k' : IntKind) (a b : Int) (d : D) (h : intK .shl k a b some = some d) : ∃ v, (binOp .shl xt (.int k a) (.int k' b)).run P w = .ok v w /\ RepD E g w dead d v := by
  obtain ⟨h1, h2⟩ := check_some h
  injection h2 with h2; subst h2
  simp at h1
  exact ⟨_, by simp [binOp, Op.shift, Int.not_lt.2 h1, shlI], RepD.int_ (wrap_bound _ _)⟩
theorem shr_sound (xt : TypeId) (k k' : IntKind) (a b : Int) (d : D) (h : intK .shr k a b some = some d) (ha : k.min <= a /\ a <= k.max) : ∃ v, (binOp .shr xt (.int k a) (.int k' b)).run P w = .ok v w /\ RepD E g w dead d v := by
  obtain ⟨h1, h2⟩ := check_some h
  injection h2 with h2; subst h2
  simp at h1
  exact ⟨_, by simp [binOp, Op.shift, Int.not_lt.2 h1, shrI], RepD.int_ (shr_bound _ _ _ ha)⟩
theorem bytes_toList (s : List UInt8) : (⟨s.toArray⟩ : ByteArray).toList = s := by
  rw [ByteArray.toList_eq]
theorem beq_dec (a b : List UInt8) : (a == b) = decide (a = b) := by rw [Bool.eq_iff_iff]; simp
theorem strK_sound (op : BinOp) (xt : TypeId) (a b : List UInt8) (d : D) (h : strK op a b some = some d) (ha : a.length <= 9223372036854775807) :
    ∃ v, (binOp op xt (.string ⟨a.toArray⟩) (.string ⟨b.toArray⟩)).run P w = .ok v w /\ RepD E g w dead d v := by
  have e1 := bytes_toList a
  have e2 := bytes_toList b
  cases op <;> simp only [strK, Option.some.injEq, reduceCtorEq] at h
  case add =>
    obtain ⟨h1, h2⟩ := check_some h
    injection h2 with h2; subst h2
    simp at h1
    refine ⟨.string ⟨(a ++ b).toArray⟩, ?_, RepD.str_ (by simpa using h1)⟩
    have hs : ((⟨a.toArray⟩ : ByteArray).size + (⟨b.toArray⟩ : ByteArray).size) <= 9223372036854775807 := by simpa [ByteArray.size] using h1
    show (Op.stringOp .add _ _).run P w = _
    rw [run_string_add_sum _ _ _ hs]
    congr 2
  case eql => subst h; exact ⟨.bool (decide (a = b)), by simp [binOp, Op.stringOp, e1, e2, beq_dec], RepD.bool_ _⟩
  case neq => subst h; exact ⟨.bool (!decide (a = b)), by simp [binOp, Op.stringOp, e1, e2, beq_dec], RepD.bool_ _⟩
  case lss => subst h; exact ⟨.bool (Op.bytesLess a b), by simp [binOp, Op.stringOp, e1, e2], RepD.bool_ _⟩
  case leq => subst h; exact ⟨.bool (Op.bytesLess a b || decide (a = b)), by simp [binOp, Op.stringOp, e1, e2, beq_dec], RepD.bool_ _⟩
  case gtr => subst h; exact ⟨.bool (!(Op.bytesLess a b || decide (a = b))), by simp [binOp, Op.stringOp, e1, e2, beq_dec], RepD.bool_ _⟩
  case geq => subst h; exact ⟨.bool (!Op.bytesLess a b), by simp [binOp, Op.stringOp, e1, e2], RepD.bool_ _⟩
end
end Go.Proofs.Ytilfphdeacogmaa.En

/- The engine, part fa: parts of values; structs of numbers, bools and strings are compared. -/
namespace Go.Proofs.Ytilfphdeacogmaa.En
open Go
set_option linter.unusedVariables false
section
variable {P : Program} {T : TypeId -> Option Ty} {E : Env} {g : G} {w : World} {dead : List Pos}
theorem TyOK.size {t : TypeId} {ty : Ty} (h : TyOK P t ty) : (sizeOf t).run P w = .ok ty.size w := by
  obtain ⟨i, hi, _, hs, _⟩ := h.info
  simp [sizeOf, typeInfo, hi, hs]
theorem TyOK.isAgg {t : TypeId} {ty : Ty} (h : TyOK P t ty) : (isAgg t).run P w = .ok ty.row w := by
  unfold Go.isAgg
  rw [Sem.run_bind, run_underlying h.desc w]
  unfold Ty.row
  cases ty.desc <;> simp
theorem partD_sound (hT : TypesOK P T) {e : TypeId} {te : Ty} (hte : T e = some te) (ds : List D) (us : Array Value) (hn : us.size = ds.length) (hr : ∀ (k : Nat) y, ds[k]? = some y -> RepD E g w dead y (us.getD k undef)) (off : Nat) (d : D)
    (h : partD te.row ds off te.size = some d) : ∃ v, (part e us off).run P w = .ok v w /\ RepD E g w dead d v := by
  have hok := hT _ _ hte
  unfold partD at h
  simp only [forceD_eq, Bool.cond_eq_ite] at h
  unfold part
  rw [Sem.run_bind, hok.isAgg]
  simp only [Result.andThen_ok]
  split at h
  . rename_i hrow
    split at h
    . rename_i hle
      have hle := Nat.le_of_ble_eq_true hle
      injection h with h; subst h
      refine ⟨.agg (us.extract off (off + te.size)), ?_, .agg _ _ (by simp; omega) fun k y hk => ?_⟩
      . simp [hok.size (w := w), hrow]
      . rw [List.getElem?_take] at hk
        split at hk
        . rename_i hlt
          rw [List.getElem?_drop] at hk
          have := hr _ y hk
          have hlen := (List.getElem?_eq_some_iff.1 hk).1
          have e1 : (us.extract off (off + te.size)).getD k undef = us.getD (off + k) undef := by
            simp [Array.getD_eq_getD_getElem?, Array.getElem?_extract]
            rw [if_pos (by omega)]
          rw [e1]; exact this
        . cases hk
    . cases h
  . rename_i hrow
    have hlt := (List.getElem?_eq_some_iff.1 h).1
    have hu : us[off]? = some us[off] := Array.getElem?_eq_getElem (by omega)
    refine ⟨us[off], by simp [hu, hrow], ?_⟩
    have := hr off d h
    simpa [hu] using this
theorem eqOK_of {t : TypeId} {ty : Ty} (h : TyOK P t ty) (he : ty.eqb = true) {fs : Array Field} (hd : ty.desc = .struct fs) : P.stoodInHeld t = false /\ P.eqGuardType P.depth t = false /\ P.fieldsOf t = fs /\ ∀ f ∈ fs.toList, f.name ≠ "_" := by
  have h1 := h.eq
  unfold eqOKB at h1
  rw [he, hd] at h1
  simp only [Bool.not_true, Bool.false_or, Bool.and_eq_true, Bool.not_eq_true', List.all_eq_true, beq_eq_false_iff_ne] at h1
  obtain ⟨a, b, c⟩ := h1
  refine ⟨a, b, ?_, c⟩
  unfold Program.fieldsOf
  rw [h.desc, hd]
def Reps (E : Env) (g : G) (w : World) (dead : List Pos) (ds : List D) (us : Array Value) : Prop := us.size = ds.length /\ ∀ (k : Nat) y, ds[k]? = some y -> RepD E g w dead y (us.getD k undef)
theorem sizes_of {t : TypeId} {ty : Ty} (h : T t = some ty) : sizes T t = ty.size := by unfold sizes; rw [h]
theorem eqK_sound (hT : TypesOK P T) : ∀ (n : Nat) (t : TypeId) (te : Ty), T t = some te -> ∀ (ds es : List D) (us vs : Array Value) (off d : Nat) (b : Bool), Reps E g w dead ds us -> Reps E g w dead es vs -> n <= d ->
    eqK T n t ((ds.drop off).take te.size) ((es.drop off).take te.size) = some b ->
    ∃ a c, (part t us off).run P w = .ok a w /\ (part t vs off).run P w = .ok c w /\ (Op.equalIn d t a c).run P w = .ok b w
  | 0, t, te, hte, ds, es, us, vs, off, d, b, _, _, _, h => by simp [eqK] at h
  | n + 1, t, te, hte, ds, es, us, vs, off, d, b, hu, hv, hd, h => by
    obtain ⟨d, rfl⟩ : ∃ d', d = d' + 1 := ⟨d - 1, by omega⟩
    have hok := hT _ _ hte
    have hdesc := hok.desc
    unfold eqK at h
    rw [hte] at h
    simp only at h
    have one : te.row = false -> ∀ (x y : D), (ds.drop off).take te.size = [x] -> (es.drop off).take te.size = [y] -> partD te.row ds off te.size = some x /\ partD te.row es off te.size = some y := by
      intro hr x y hx hy
      have hs := hok.one hr
      rw [hs] at hx hy
      unfold partD
      rw [hr]
      simp only
      have g1 : (ds.drop off)[0]? = some x := by
        have : ((ds.drop off).take 1)[0]? = some x := by rw [hx]; rfl
        rwa [List.getElem?_take_of_lt (by omega)] at this
      have g2 : (es.drop off)[0]? = some y := by
        have : ((es.drop off).take 1)[0]? = some y := by rw [hy]; rfl
        rwa [List.getElem?_take_of_lt (by omega)] at this
      rw [List.getElem?_drop] at g1 g2
      exact ⟨g1, g2⟩
    split at h
    . rename_i k hk
      split at h
      . rename_i k1 a1 _ k2 a2 _ e1 e2
        obtain ⟨p1, p2⟩ := one (by simp [Ty.row, hk]) _ _ e1 e2
        obtain ⟨x, q1, q2⟩ := partD_sound (P := P) (w := w) (E := E) (g := g) (dead := dead) hT hte ds us hu.1 hu.2 off _ p1
        obtain ⟨y, q3, q4⟩ := partD_sound (P := P) (w := w) (E := E) (g := g) (dead := dead) hT hte es vs hv.1 hv.2 off _ p2
        obtain ⟨rfl, _⟩ := q2.int_inv
        obtain ⟨rfl, _⟩ := q4.int_inv
        split at h
        . rename_i hkk
          subst hkk
          injection h with h
          refine ⟨_, _, q1, q3, ?_⟩
          rw [run_equalIn_int w d t k1 k a1 a2 (by rw [hdesc, hk]), ← h]
          rfl
        . cases h
      . cases h
    . rename_i hk
      split at h
      . rename_i a1 _ a2 _ e1 e2
        obtain ⟨p1, p2⟩ := one (by simp [Ty.row, hk]) _ _ e1 e2
        obtain ⟨x, q1, q2⟩ := partD_sound (P := P) (w := w) (E := E) (g := g) (dead := dead) hT hte ds us hu.1 hu.2 off _ p1
        obtain ⟨y, q3, q4⟩ := partD_sound (P := P) (w := w) (E := E) (g := g) (dead := dead) hT hte es vs hv.1 hv.2 off _ p2
        have r1 := q2.bool_inv
        have r2 := q4.bool_inv
        subst r1 r2
        injection h with h
        refine ⟨_, _, q1, q3, ?_⟩
        rw [run_equalIn_bool' w d t a1 a2 (by rw [hdesc, hk]), ← h]
      . cases h
    . rename_i hk
      split at h
      . rename_i a1 _ a2 _ e1 e2
        obtain ⟨p1, p2⟩ := one (by simp [Ty.row, hk]) _ _ e1 e2
        obtain ⟨x, q1, q2⟩ := partD_sound (P := P) (w := w) (E := E) (g := g) (dead := dead) hT hte ds us hu.1 hu.2 off _ p1
        obtain ⟨y, q3, q4⟩ := partD_sound (P := P) (w := w) (E := E) (g := g) (dead := dead) hT hte es vs hv.1 hv.2 off _ p2
        obtain ⟨rfl, _⟩ := q2.str_inv
        obtain ⟨rfl, _⟩ := q4.str_inv
        injection h with h
        refine ⟨_, _, q1, q3, ?_⟩
        rw [run_equalIn_string w d t _ _ (by rw [hdesc, hk]), ← h, ByteArray.toList_eq, ByteArray.toList_eq]
        congr 1
        rw [Bool.eq_iff_iff, beq_iff_eq, decide_eq_true_eq]
      . cases h
    . rename_i fs hk
      rcases cond_some h with ⟨hc, h⟩ | ⟨_, h⟩
      case inr => cases h
      simp only [Bool.and_eq_true] at hc
      obtain ⟨hc1, hc2, hc3, hc4, hc5⟩ := hc
      have hc5 := Nat.le_of_ble_eq_true hc5
      have hc3 := Nat.eq_of_beq_eq_true hc3
      have hc4 := Nat.eq_of_beq_eq_true hc4
      obtain ⟨o1, o2, o3, o4⟩ := eqOK_of hok hc1 hk
      have hrow : te.row = true := by simp [Ty.row, hk]
      have hl1 : off + te.size <= ds.length := by rw [List.length_take, List.length_drop] at hc3; omega
      have hl2 : off + te.size <= es.length := by rw [List.length_take, List.length_drop] at hc4; omega
      have p1 : partD te.row ds off te.size = some (.agg ((ds.drop off).take te.size)) := by
        unfold partD; rw [hrow]; simp only; rw [Nat.ble_eq_true_of_le hl1]; rfl
      have p2 : partD te.row es off te.size = some (.agg ((es.drop off).take te.size)) := by
        unfold partD; rw [hrow]; simp only; rw [Nat.ble_eq_true_of_le hl2]; rfl
      obtain ⟨x, q1, q2⟩ := partD_sound (P := P) (w := w) (E := E) (g := g) (dead := dead) hT hte ds us hu.1 hu.2 off _ p1
      obtain ⟨y, q3, q4⟩ := partD_sound (P := P) (w := w) (E := E) (g := g) (dead := dead) hT hte es vs hv.1 hv.2 off _ p2
      generalize (ds.drop off).take te.size = as1 at *
      generalize (es.drop off).take te.size = bs1 at *
      cases q2 with
      | agg _ us' hn1 hr1 =>
      cases q4 with
      | agg _ vs' hn2 hr2 =>
      refine ⟨_, _, q1, q3, ?_⟩
      rw [run_equalIn_struct w d t us' vs' (by rw [hdesc, hk, o3]) o1, o3]
      have main : ∀ (l : List Field) (o : Nat) (b : Bool), contigT T te.size o l = true -> (∀ f ∈ l, f.name ≠ "_") -> eqFsK (eqK T n) T l (as1.drop o) (bs1.drop o) = some b -> (Op.eqFields d us' vs' l).run P w = .ok b w := by
        intro l
        induction l with
        | nil => intro o b _ _ h; simp [eqFsK] at h; subst h; simp [Op.eqFields]
        | cons f l ih =>
          intro o b hcon hnm h
          simp only [contigT, Bool.and_eq_true] at hcon
          obtain ⟨hcon1, hcon2⟩ := hcon
          have hcon1 := Nat.eq_of_beq_eq_true hcon1
          unfold eqFsK at h
          split at h
          . rename_i r hr
            split at h
            . rename_i q hq
              injection h with h
              cases hTf : T f.type with
              | none => cases n <;> simp [eqK, hTf] at hr
              | some tf =>
                rw [sizes_of hTf] at hr hq hcon2
                obtain ⟨a, c, s1, s2, s3⟩ := eqK_sound hT n f.type tf hTf as1 bs1 us' vs' o d r ⟨hn1, hr1⟩ ⟨hn2, hr2⟩ (by omega) hr
                rw [List.drop_drop, List.drop_drop] at hq
                have ih := ih (o + tf.size) q hcon2 (fun f hf => hnm f (List.mem_cons_of_mem _ hf)) hq
                unfold Op.eqFields
                rw [if_pos (hnm f (by simp)), hcon1]
                simp only [Sem.run_bind, s1, s2, s3, Result.andThen_ok]
                subst h
                cases r with
                | true => simpa using ih
                | false => simp
            . cases h
          . cases h
      exact main fs.toList 0 b hc2 o4 (by simpa using h)
    . cases h
theorem eqAggK_sound (hT : TypesOK P T) {α : Type} {t : TypeId} {ds es : List D} {K : Bool -> Option α} {r : α} (h : eqAggK T t ds es K = some r) {us vs : Array Value} (hu : Reps E g w dead ds us) (hv : Reps E g w dead es vs) :
    ∃ b, K b = some r /\ P.eqGuardType P.depth t = false /\ (Op.equalIn 10000 t (.agg us) (.agg vs)).run P w = .ok b w := by
  unfold eqAggK at h
  split at h
  . rename_i ty hty
    rcases cond_some h with ⟨hrow, h⟩ | ⟨_, h⟩
    case inr => cases h
    split at h
    . rename_i b hb
      have hok := hT _ _ hty
      have hs : ds.length = ty.size /\ es.length = ty.size /\ P.eqGuardType P.depth t = false := by
        unfold eqK at hb
        rw [hty] at hb
        simp only at hb
        split at hb
        . rename_i k hk; rw [Ty.row, hk] at hrow; cases hrow
        . rename_i hk; rw [Ty.row, hk] at hrow; cases hrow
        . rename_i hk; rw [Ty.row, hk] at hrow; cases hrow
        . rename_i fs hk
          rcases cond_some hb with ⟨hc, _⟩ | ⟨_, hb⟩
          . simp only [Bool.and_eq_true] at hc
            obtain ⟨hc1, hc2, hc3, hc4, hc5⟩ := hc
            exact ⟨Nat.eq_of_beq_eq_true hc3, Nat.eq_of_beq_eq_true hc4, (eqOK_of hok hc1 hk).2.1⟩
          . cases hb
        . cases hb
      obtain ⟨s1, s2, s3⟩ := hs
      have hb' : eqK T 9 t ((ds.drop 0).take ty.size) ((es.drop 0).take ty.size) = some b := by
        rw [List.drop_zero, List.drop_zero, ← s1, List.take_length, s1, ← s2, List.take_length]; exact hb
      obtain ⟨a, c, q1, q2, q3⟩ := eqK_sound hT 9 t ty hty ds es us vs 0 10000 b hu hv (by omega) hb'
      have pa : ∀ (us : Array Value), us.size = ty.size -> (part t us 0).run P w = .ok (.agg us) w := by
        intro us hus
        unfold part
        rw [Sem.run_bind, hok.isAgg]
        simp [hok.size (w := w), hrow, ← hus]
      rw [pa us (by rw [hu.1, s1])] at q1
      rw [pa vs (by rw [hv.1, s2])] at q2
      injection q1 with q1
      injection q2 with q2
      subst q1 q2
      exact ⟨b, h, s3, q3⟩
    . cases h
  . cases h
end
end Go.Proofs.Ytilfphdeacogmaa.En

/- The engine, part g: comparisons with nil, conversions, slices, fields. -/
namespace Go.Proofs.Ytilfphdeacogmaa.En
open Go
set_option linter.unusedVariables false
section
variable {P : Program} {T : TypeId -> Option Ty} {E : Env} {g : G} {w : World} {dead : List Pos}
theorem eqGuard_plain (op : BinOp) (t : TypeId) (x y : Operand) (a b : Value) (h1 : ∀ cs, a ≠ .agg cs) (h2 : a = .nilIface -> b = .nilIface -> isConstO y = true) : (eqGuard op t x y a b).run P w = .ok () w := by
  unfold eqGuard
  cases op
  case eql | neq =>
    cases a <;> cases b <;> simp
    case agg.agg cs _ => exact absurd rfl (h1 cs)
    case nilIface.nilIface =>
      have := h2 rfl rfl
      cases y <;> simp [isConstO] at this
      simp
  all_goals simp
theorem eq_of_equalIn {xt : TypeId} {v u : Value} {b : Bool} (h1 : ∀ k n, v ≠ .int k n) (h2 : ∀ f n, v ≠ .float f n) (h3 : ∀ f n m, v ≠ .complex f n m) (h4 : ∀ s, v ≠ .string s)
    (h0 : ∀ cs, v ≠ .agg cs) (h5 : ∀ d, (Op.equalIn (d + 1) xt v u).run P w = .ok b w) : (binOp .eql xt v u).run P w = .ok (.bool b) w /\ (binOp .neq xt v u).run P w = .ok (.bool !b) w /\ (∀ cs, v ≠ .agg cs) := by
  have h6 : (Op.equal xt v u).run P w = .ok b w := h5 9999
  have e1 : binOp .eql xt v u = (do pure (.bool (← Op.equal xt v u)) : Sem Value) := by
    cases v <;> first
      | rfl
      | exact absurd rfl (h1 _ _)
      | exact absurd rfl (h2 _ _)
      | exact absurd rfl (h3 _ _ _)
      | exact absurd rfl (h4 _)
      | (cases u <;> rfl)
  have e2 : binOp .neq xt v u = (do pure (.bool (!(← Op.equal xt v u))) : Sem Value) := by
    cases v <;> first
      | rfl
      | exact absurd rfl (h1 _ _)
      | exact absurd rfl (h2 _ _)
      | exact absurd rfl (h3 _ _ _)
      | exact absurd rfl (h4 _)
      | (cases u <;> rfl)
  rw [e1, e2]
  exact ⟨by simp [h6], by simp [h6], h0⟩
theorem nilOf_sound {ty : Ty} {xt : TypeId} (hd : P.underlying xt = some ty.desc) {x y : D} {vx vy : Value} (hx : RepD E g w dead x vx) (hy : RepD E g w dead y vy) {b : Bool} (h : nilOf ty.desc x y = some b) :
    (binOp .eql xt vx vy).run P w = .ok (.bool b) w /\ (binOp .neq xt vx vy).run P w = .ok (.bool !b) w /\ (∀ cs, vx ≠ .agg cs) := by
  unfold nilOf at h
  split at h
  . rename_i e hdesc
    rw [hdesc] at hd
    split at h
    . cases hy
      cases x <;> simp only [ptrNil, reduceCtorEq, Option.some.injEq] at h
      all_goals
        subst h
        cases hx
        refine eq_of_equalIn (by simp) (by simp) (by simp) (by simp) (by simp) (fun d => ?_)
        simp only [Op.equalIn, Sem.run_bind, run_underlying hd, Result.andThen_ok]
        rfl
    . cases h
  . rename_i ms hdesc
    rw [hdesc] at hd
    split at h
    . cases hy with | v x a v hv ha =>
      cases hv
      cases x <;> simp only [ifcNil, reduceCtorEq] at h
      rename_i z az
      cases z <;> simp only [ifcNil, reduceCtorEq, Option.some.injEq] at h
      all_goals
        subst h
        cases hx with | v x a v hv ha =>
        cases hv
        refine eq_of_equalIn (by simp) (by simp) (by simp) (by simp) (by simp) (fun d => ?_)
        simp only [Op.equalIn, Sem.run_bind, run_underlying hd, Result.andThen_ok]
        rfl
    . cases h
  . rename_i ps rs vr hdesc
    rw [hdesc] at hd
    split at h
    . cases hy
      cases x <;> simp only [fnNil, reduceCtorEq, Option.some.injEq] at h
      all_goals
        subst h
        cases hx
        refine eq_of_equalIn (by simp) (by simp) (by simp) (by simp) (by simp) (fun d => ?_)
        simp only [Op.equalIn, Sem.run_bind, run_underlying hd, Result.andThen_ok]
        rfl
    . cases h
  . cases h
theorem binK_sound (hT : TypesOK P T) (op : BinOp) (xt : TypeId) (ox oy : Operand) (x y : D) (vx vy : Value) (hx : RepD E g w dead x vx) (hy : RepD E g w dead y vy) (d : D)
    (h : binK T op xt (isConstO oy) x y some = some d) :
    ∃ v, (do eqGuard op xt ox oy vx vy; binOp op xt vx vy : Sem Value).run P w = .ok v w /\ RepD E g w dead d v := by
  unfold binK at h
  split at h
  . rename_i k a _ k' b _
    obtain ⟨rfl, ha⟩ := hx.int_inv
    obtain ⟨rfl, hb⟩ := hy.int_inv
    have hg : (eqGuard op xt ox oy (.int k a) (.int k' b)).run P w = .ok () w := eqGuard_plain _ _ _ _ _ _ (by simp) (by simp)
    simp only [Sem.run_bind, hg, Result.andThen_ok]
    split at h
    . exact shl_sound xt k k' a b d h
    . exact shr_sound xt k k' a b d h ha
    . rename_i h1 h2
      split at h
      . rename_i hk
        subst hk
        exact intK_sound op ⟨h1, h2⟩ xt k a b d h ha hb
      . cases h
  . obtain ⟨rfl, ha⟩ := hx.str_inv
    obtain ⟨rfl, hb⟩ := hy.str_inv
    rename_i a _ b _
    have hg : (eqGuard op xt ox oy (.string ⟨a.toArray⟩) (.string ⟨b.toArray⟩)).run P w = .ok () w := eqGuard_plain _ _ _ _ _ _ (by simp) (by simp)
    simp only [Sem.run_bind, hg, Result.andThen_ok]
    exact strK_sound op xt _ _ d h ha
  . have e1 := hx.bool_inv
    have e2 := hy.bool_inv
    subst e1 e2
    rename_i a _ b _
    have hg : (eqGuard op xt ox oy (.bool a) (.bool b)).run P w = .ok () w := eqGuard_plain _ _ _ _ _ _ (by simp) (by simp)
    simp only [Sem.run_bind, hg, Result.andThen_ok]
    split at h
    . rename_i ty hty
      split at h
      . rename_i hd
        injection h with h; subst h
        exact ⟨_, run_eql_bool w xt a b (by rw [(hT _ _ hty).desc, hd]), RepD.bool_ _⟩
      . rename_i hd
        injection h with h; subst h
        refine ⟨_, run_neq_bool w xt a b (by rw [(hT _ _ hty).desc, hd]), ?_⟩
        exact RepD.bool_ _
      . cases h
    . cases h
  . rename_i ds es
    cases hx with
    | agg _ us hn1 hr1 =>
    cases hy with
    | agg _ vs hn2 hr2 =>
    split at h
    . obtain ⟨b, h1, h2, h3⟩ := eqAggK_sound hT h ⟨hn1, hr1⟩ ⟨hn2, hr2⟩
      injection h1 with h1
      subst h1
      refine ⟨_, ?_, RepD.bool_ b⟩
      simp only [Sem.run_bind, run_eqGuard_agg w _ xt ox oy us vs h2, Result.andThen_ok, run_eql_struct, h3]
    . obtain ⟨b, h1, h2, h3⟩ := eqAggK_sound hT h ⟨hn1, hr1⟩ ⟨hn2, hr2⟩
      injection h1 with h1
      subst h1
      refine ⟨_, ?_, RepD.bool_ (!b)⟩
      simp only [Sem.run_bind, run_eqGuard_agg w _ xt ox oy us vs h2, Result.andThen_ok, run_neq_struct, h3]
    . cases h
  . split at h
    . rename_i ty hyc hty
      split at h
      . rename_i b hb
        obtain ⟨h1, h2, h3⟩ := nilOf_sound (hT _ _ hty).desc hx hy hb
        have hg : (eqGuard op xt ox oy vx vy).run P w = .ok () w := eqGuard_plain _ _ _ _ _ _ h3 (fun _ _ => hyc)
        simp only [Sem.run_bind, hg, Result.andThen_ok]
        split at h
        . injection h with h; subst h; exact ⟨_, h1, RepD.bool_ _⟩
        . injection h with h; subst h; exact ⟨_, h2, RepD.bool_ _⟩
        . cases h
      . cases h
    . cases h
theorem unK_sound (op : UnOp) (xt : TypeId) (x : D) (vx : Value) (hx : RepD E g w dead x vx) (d : D) (h : unK op x some = some d) : ∃ v, (Op.unary op vx).run P w = .ok v w /\ RepD E g w dead d v := by
  unfold unK at h
  split at h
  . obtain ⟨rfl, ha⟩ := hx.int_inv
    injection h with h; subst h
    exact ⟨_, by simp [Op.unary, Op.intArith], RepD.int_ (wrap_bound _ _)⟩
  . obtain ⟨rfl, ha⟩ := hx.int_inv
    injection h with h; subst h
    exact ⟨_, by simp [Op.unary, Op.intBits, bitsI], RepD.int_ (wrap_bound _ _)⟩
  . have e1 := hx.bool_inv
    subst e1
    injection h with h; subst h
    exact ⟨_, by simp [Op.unary], RepD.bool_ _⟩
  . cases h
end
end Go.Proofs.Ytilfphdeacogmaa.En

/- The engine, part h: slices, elements, fields, loads. -/
namespace Go.Proofs.Ytilfphdeacogmaa.En
open Go
set_option linter.unusedVariables false
section
variable {P : Program} {T : TypeId -> Option Ty} {E : Env} {g : G} {w : World} {dead : List Pos}
theorem RepD.bytes_inv {s : List UInt8} {a : Att} {v : Value} (h : RepD E g w dead (.v (.bytes s) a) v) : RepV g w (.bytes s) v /\ AttOK E g w dead a v /\ ∃ A n c, v = .slice A n c /\ s.length = n /\ n <= c /\ c <= maxLen := by
  cases h with | v x a v h ha => exact ⟨h, ha, by cases h with | bytes xs A n c hn hc hm h => exact ⟨A, n, c, rfl, hn, hc, hm⟩⟩
theorem RepD.sl_inv {e : TypeId} {s : List V} {a : Att} {v : Value} (h : RepD E g w dead (.v (.sl e s) a) v) : RepV g w (.sl e s) v /\ AttOK E g w dead a v /\ ∃ A n c, v = .slice A n c /\ s.length = n /\ n <= c /\ c <= maxLen := by
  cases h with | v x a v h ha => exact ⟨h, ha, by cases h with | sl e xs A n c us hn hc hm hs h hr => exact ⟨A, n, c, rfl, hn, hc, hm⟩⟩
theorem TyOK.elem {t e : TypeId} {ty : Ty} (h : TyOK P t ty) (hd : ty.desc = .slice e) : P.underlying t = some (.slice (P.elem t)) /\ P.elem t = e := by
  have := h.desc
  rw [hd] at this
  have he : P.elem t = e := by simp [Program.elem, this]
  exact ⟨by rw [he]; exact this, he⟩
theorem len_int (n : Nat) (h : n <= maxLen) : IntKind.i64.min <= (n : Int) /\ (n : Int) <= IntKind.i64.max := by
  have e1 : IntKind.min .i64 = -9223372036854775808 := by decide
  have e2 : IntKind.max .i64 = 9223372036854775807 := by decide
  unfold maxLen at h
  rw [e1, e2]; omega
theorem lenK_sound (hT : TypesOK P T) (t oty : TypeId) (x : D) (vx : Value) (hx : RepD E g w dead x vx) (d : D) (h : lenK T t x some = some d) :
    ∃ v, (Builtin.len_ #[t] oty #[vx]).run P w = .ok v w /\ RepD E g w dead d v := by
  unfold lenK at h
  split at h
  . rename_i ty hty
    have hd := (hT _ _ hty).desc
    split at h
    . rename_i e s a hdesc
      injection h with h; subst h
      obtain ⟨_, _, A, n, c, rfl, hn, hc, hm⟩ := hx.bytes_inv
      subst hn
      exact ⟨_, run_len_slice w t oty A _ c ((hT _ _ hty).elem hdesc).1, RepD.int_ (len_int _ (by omega))⟩
    . rename_i e e' s a hdesc
      injection h with h; subst h
      obtain ⟨_, _, A, n, c, rfl, hn, hc, hm⟩ := hx.sl_inv
      subst hn
      exact ⟨_, run_len_slice w t oty A _ c ((hT _ _ hty).elem hdesc).1, RepD.int_ (len_int _ (by omega))⟩
    . rename_i s a hdesc
      injection h with h; subst h
      obtain ⟨rfl, hl⟩ := hx.str_inv
      exact ⟨_, run_len_string w t oty _ (by rw [hd, hdesc]), RepD.int_ (len_int _ (by unfold maxLen; omega))⟩
    . rename_i n e hdesc
      obtain ⟨h1, h2⟩ := check_some h
      injection h2 with h2; subst h2
      simp at h1
      rw [hdesc] at hd
      exact ⟨goInt n, by cases vx <;> simp [Builtin.len_, run_underlying hd], RepD.int_ (len_int _ (by unfold maxLen; omega))⟩
    . cases h
  . cases h
theorem boundK_some {α : Type} {x : Option D} {df hi : Nat} {K : Nat -> Option α} {r : α} (h : boundK x df hi K = some r) :
    ∃ n, K n = some r /\ ((x = none /\ n = df) ∨ ∃ k i a, x = some (.v (.int k i) a) /\ 0 <= i /\ i <= (hi : Int) /\ n = i.toNat) := by
  unfold boundK at h
  split at h
  . exact ⟨_, h, .inl ⟨rfl, rfl⟩⟩
  . rename_i k i a
    obtain ⟨h1, h2⟩ := check_some h
    simp at h1
    exact ⟨_, h2, .inr ⟨k, i, a, rfl, h1.1, h1.2, rfl⟩⟩
  . cases h
def RepO (E : Env) (g : G) (w : World) (dead : List Pos) : Option D -> Option Value -> Prop
  | none, none => True
  | some d, some v => RepD E g w dead d v
  | _, _ => False
theorem RepO.int {k : IntKind} {i : Int} {a : Att} {v : Option Value} (h : RepO E g w dead (some (.v (.int k i) a)) v) : v = some (.int k i) := by
  cases v with
  | none => exact h.elim
  | some v => rw [(RepD.int_inv h).1]
theorem RepO.none_ {v : Option Value} (h : RepO E g w dead none v) : v = none := by
  cases v with
  | none => rfl
  | some v => exact h.elim
theorem cut_bounds (isSlice : Bool) (len cap : Nat) {lo hi : Option D} {vlo vhi : Option Value} (hlo : RepO E g w dead lo vlo) (hhi : RepO E g w dead hi vhi) (hc : len <= cap) {α β : Type} (xs : List α) (hx : xs.length = len) {K : List α -> Option β} {r : β}
    (h : cutK xs lo hi K = some r) : ∃ l h', l <= h' /\ h' <= len /\ (Instr.sliceBounds isSlice len cap vlo vhi none).run P w = .ok (l, h', cap) w /\ K ((xs.take h').drop l) = some r := by
  unfold cutK at h
  subst hx
  rcases lo with _ | lo <;> rcases hi with _ | hi <;> simp only at h
  . obtain rfl := hlo.none_
    obtain rfl := hhi.none_
    exact ⟨0, _, Nat.zero_le _, Nat.le_refl _, by simp [Instr.sliceBounds], by simpa using h⟩
  . obtain rfl := hlo.none_
    obtain ⟨hv, hq, hh⟩ := boundK_some h
    clear h
    rcases hh with ⟨h0, _⟩ | ⟨k, i, a, h0, i0, i1, rfl⟩
    . cases h0
    . injection h0 with h0; subst h0
      obtain rfl := hhi.int
      refine ⟨0, i.toNat, Nat.zero_le _, by omega, ?_, by simpa using hq⟩
      simp [Instr.sliceBounds, run_sliceBound, i0, (by omega : i <= (cap : Int))]
  . obtain rfl := hhi.none_
    obtain ⟨lv, hq, hl⟩ := boundK_some h
    clear h
    rcases hl with ⟨h0, _⟩ | ⟨k', j, a', h0, j0, j1, rfl⟩
    . cases h0
    . injection h0 with h0; subst h0
      obtain rfl := hlo.int
      refine ⟨j.toNat, _, by omega, Nat.le_refl _, ?_, by simpa using hq⟩
      simp [Instr.sliceBounds, run_sliceBound, j0, j1]
  . obtain ⟨hv, hp, hh⟩ := boundK_some h
    obtain ⟨lv, hq, hl⟩ := boundK_some hp
    clear h hp
    rcases hh with ⟨h0, _⟩ | ⟨k, i, a, h0, i0, i1, rfl⟩
    . cases h0
    rcases hl with ⟨h1, _⟩ | ⟨k', j, a', h1, j0, j1, rfl⟩
    . cases h1
    injection h0 with h0; subst h0
    injection h1 with h1; subst h1
    obtain rfl := hlo.int
    obtain rfl := hhi.int
    refine ⟨j.toNat, i.toNat, by omega, by omega, ?_, hq⟩
    have e : ((i.toNat : Nat) : Int) = i := by omega
    rw [e] at j1
    simp [Instr.sliceBounds, run_sliceBound, i0, (by omega : i <= (cap : Int)), j0, e, j1]
theorem okEl_spec {n : Nat} {x : V} (h : okEl n x = true) : x.cells.length = n /\ ∀ y ∈ x.cells, y.one = true := by
  simp only [okEl, Bool.and_eq_true, beq_iff_eq, List.all_eq_true] at h; exact h
theorem flat_get {xs : List V} {sz : Nat} (hs : ∀ x ∈ xs, x.cells.length = sz) : ∀ (l k : Nat), l <= xs.length -> ((xs.drop l).flatMap V.cells)[k]? = (xs.flatMap V.cells)[l * sz + k]? := by
  induction xs with
  | nil => intro l k h; simp
  | cons x xs ih =>
    intro l k h
    rcases l with _ | l
    . simp
    . have hx := hs x (by simp)
      have := ih (fun y hy => hs y (by simp [hy])) l k (by simpa using h)
      simp only [List.drop_succ_cons, List.flatMap_cons]
      rw [this, List.getElem?_append_right (by rw [hx]; rw [Nat.add_mul]; omega), hx]
      congr 1
      rw [Nat.add_mul]; omega
theorem flat_take {xs : List V} (h k : Nat) {y : V} (hk : ((xs.take h).flatMap V.cells)[k]? = some y) : (xs.flatMap V.cells)[k]? = some y := by
  have e : xs.flatMap V.cells = (xs.take h).flatMap V.cells ++ (xs.drop h).flatMap V.cells := by rw [← List.flatMap_append, List.take_append_drop]
  rw [e, List.getElem?_append_left (List.getElem?_eq_some_iff.1 hk).1]
  exact hk
theorem bytes_cut {s : List UInt8} {A : Option Addr} {n c l h : Nat} (hr : RepV g w (.bytes s) (.slice A n c)) (hl : l <= h) (hh : h <= n) :
    RepV g w (.bytes ((s.take h).drop l)) (.slice (if c = l then A else A.map (·.add (l * 1))) (h - l) (c - l)) := by
  cases hr with
  | bytes xs A n c hn hc hm hx =>
    refine .bytes _ _ _ _ (by simp; omega) (by omega) (by omega) fun k x hk => ?_
    rw [List.getElem?_drop, List.getElem?_take] at hk
    split at hk
    . rename_i hlt
      obtain ⟨b, off, rfl, h1, h2⟩ := hx _ x hk
      have hkn : l + k < n := by have := (List.getElem?_eq_some_iff.1 hk).1; omega
      rw [if_neg (by omega)]
      refine ⟨b, off + l, by simp [Addr.add_mid], ?_, ?_⟩
      . rw [Nat.add_assoc]; exact h1
      . rw [Nat.add_assoc]; exact h2
    . cases hk
theorem sl_cut {e : TypeId} {s : List V} {A : Option Addr} {n c l h : Nat} (hr : RepV g w (.sl e s) (.slice A n c)) (hl : l <= h) (hh : h <= n) :
    RepV g w (.sl e ((s.take h).drop l)) (.slice (if c = l then A else A.map (·.add (l * g.sz e))) (h - l) (c - l)) := by
  cases hr with
  | sl e xs A n c us hn hc hm hs hx hr =>
    have hmem : ∀ x ∈ (s.take h).drop l, x ∈ s := fun x hx => List.mem_of_mem_take (List.mem_of_mem_drop hx)
    have hsz : ∀ x ∈ s, x.cells.length = g.sz e := fun x hx => (okEl_spec (hs x hx)).1
    have key : ∀ (k : Nat) y, (((s.take h).drop l).flatMap V.cells)[k]? = some y -> (s.flatMap V.cells)[l * g.sz e + k]? = some y := by
      intro k y hk
      rw [flat_get (fun x hx => hsz x (List.mem_of_mem_take hx)) l k (by simp; omega)] at hk
      exact flat_take h _ hk
    refine .sl e _ _ _ _ (fun k => us (l * g.sz e + k)) (by simp; omega) (by omega) (by omega) (fun x hx => hs x (hmem x hx)) (fun k y hk => ?_) (fun k y hk => hr _ y (key k y hk))
    obtain ⟨b, off, rfl, h1, h2⟩ := hx _ y (key k y hk)
    have hlt : l < h := by
      rcases Nat.lt_or_ge l h with h' | h'
      . exact h'
      . have : (s.take h).drop l = [] := List.drop_eq_nil_of_le (by simp; omega)
        rw [this] at hk; simp at hk
    rw [if_neg (by omega)]
    refine ⟨b, off + l * g.sz e, by simp [Addr.add_mid], ?_, ?_⟩
    . rw [Nat.add_assoc]; exact h1
    . rw [Nat.add_assoc]; exact h2
end
end Go.Proofs.Ytilfphdeacogmaa.En

/- The engine, part i: slices, elements, fields, loads (2). -/
namespace Go.Proofs.Ytilfphdeacogmaa.En
open Go
set_option linter.unusedVariables false
section
variable {P : Program} {T : TypeId -> Option Ty} {E : Env} {g : G} {w : World} {dead : List Pos}
theorem bytes_extract (s : List UInt8) (l h : Nat) : (⟨s.toArray⟩ : ByteArray).extract l h = ⟨((s.take h).drop l).toArray⟩ := by
  rw [ByteArray.ext_iff]
  simp [ByteArray.extract, ByteArray.copySlice, List.extract_eq_take_drop, List.drop_take]
theorem sliceK_sound (hgs : g.sz = sizes T) (hT : TypesOK P T) (t : TypeId) (x : D) (lo hi mx : Option D) (vx : Value) (vlo vhi vmx : Option Value) (hx : RepD E g w dead x vx) (hlo : RepO E g w dead lo vlo) (hhi : RepO E g w dead hi vhi) (hmx : RepO E g w dead mx vmx)
    (d : D) (h : sliceK T t x lo hi mx some = some d) : ∃ v, (Instr.sliceAt t vx vlo vhi vmx).run P w = .ok v w /\ RepD E g w dead d v := by
  unfold sliceK at h
  split at h
  . cases h
  . obtain rfl := hmx.none_
    split at h
    . rename_i ty hty
      have hok := hT _ _ hty
      split at h
      . rename_i e s a hdesc
        obtain ⟨hr, _, A, n, c, rfl, hn, hc, hm⟩ := hx.bytes_inv
        split at h
        . rename_i te hte
          rcases cond_some h with ⟨hsz, h⟩ | ⟨_, h⟩
          . have hsz := Nat.eq_of_beq_eq_true hsz
            obtain ⟨l, h', h1, h2, h3, h4⟩ := cut_bounds (P := P) true n c hlo hhi hc s hn h
            injection h4 with h4; subst h4
            have he := hok.elem hdesc
            refine ⟨_, ?_, .v _ _ _ (bytes_cut hr h1 h2) trivial⟩
            rw [run_sliceAt_slice w t _ vlo vhi none he.1, run_slice_any w t A n c he.1, h3]
            simp only [Result.andThen_ok]
            rw [he.2, (hT _ _ hte).size (w := w), hsz]
            rfl
          . cases h
        . cases h
      . rename_i e e' s a hdesc
        obtain ⟨hr, _, A, n, c, rfl, hn, hc, hm⟩ := hx.sl_inv
        split at h
        . rename_i te hte
          rcases cond_some h with ⟨hee, h⟩ | ⟨_, h⟩
          . obtain rfl := Nat.eq_of_beq_eq_true hee
            obtain ⟨l, h', h1, h2, h3, h4⟩ := cut_bounds (P := P) true n c hlo hhi hc s hn h
            injection h4 with h4; subst h4
            have he := hok.elem hdesc
            refine ⟨_, ?_, .v _ _ _ (sl_cut hr h1 h2) trivial⟩
            rw [run_sliceAt_slice w t _ vlo vhi none he.1, run_slice_any w t A n c he.1, h3]
            simp only [Result.andThen_ok]
            rw [he.2, (hT _ _ hte).size (w := w)]
            have : g.sz e' = te.size := by rw [hgs]; simp [sizes, hte]
            rw [this]
            rfl
          . cases h
        . cases h
      . rename_i s a hdesc
        obtain ⟨rfl, hl⟩ := hx.str_inv
        have hd := hok.desc
        rw [hdesc] at hd
        obtain ⟨l, h', h1, h2, h3, h4⟩ := cut_bounds (P := P) false s.length s.length hlo hhi (Nat.le_refl _) s rfl h
        injection h4 with h4; subst h4
        refine ⟨.string ⟨((s.take h').drop l).toArray⟩, ?_, RepD.str_ (by simp; omega)⟩
        rw [run_sliceAt_string w t _ vlo vhi none hd]
        have hs : (⟨s.toArray⟩ : ByteArray).size = s.length := by simp [ByteArray.size]
        simp only [Instr.slice, Sem.run_bind, run_underlying hd, Result.andThen_ok]
        simp [hs, h3, bytes_extract]
      . cases h
    . cases h
theorem inK_some {α : Type} {i : Int} {n : Nat} {K : Nat -> Option α} {r : α} (h : inK i n K = some r) : 0 <= i /\ i < (n : Int) /\ K i.toNat = some r := by
  obtain ⟨h1, h2⟩ := check_some h
  simp at h1
  exact ⟨h1.1, h1.2, h2⟩
theorem at_some {α β : Type} {xs : List α} {i : Nat} {K : α -> Option β} {r : β} (h : at? xs i K = some r) : ∃ x, xs[i]? = some x /\ K x = some r := by
  unfold at? at h
  split at h
  . rename_i x hx; exact ⟨x, hx, h⟩
  . cases h
theorem pick_some {α : Type} {i : Int} {K : Nat -> Option α} {r : α} : ∀ {n j : Nat}, pickFrom i j n K = some r -> ∃ m : Nat, i = (m : Int) /\ j <= m /\ m < j + n /\ K m = some r
  | 0, j, h => by cases h
  | n + 1, j, h => by
    rcases cond_some h with ⟨h1, h2⟩ | ⟨h1, h2⟩
    . exact ⟨j, by simpa using h1, Nat.le_refl _, by omega, h2⟩
    . obtain ⟨m, h3, h4, h5, h6⟩ := pick_some h2
      exact ⟨m, h3, by omega, by omega, h6⟩
theorem fitC_some {α : Type} {ck : CK} {x : V} {K : V -> Option α} {r : α} (h : fitC ck x K = some r) : K x = some r /\ x.one = true := by
  cases ck <;> cases x <;> simp only [fitC, V.unInt, V.unBool, V.unStr, V.unBytes, V.unSl, V.unI, reduceCtorEq] at h <;> first
    | exact ⟨h, rfl⟩
    | (split at h
       . rename_i hk; subst hk; exact ⟨h, rfl⟩
       . cases h)
    | (rcases cond_some h with ⟨hk, h'⟩ | ⟨_, h'⟩
       . have := Nat.eq_of_beq_eq_true hk; subst this; exact ⟨h', rfl⟩
       . cases h')
theorem fitCs_some {α : Type} : ∀ {cks : List CK} {xs : List V} {K : List V -> Option α} {r : α}, fitCs cks xs K = some r -> K xs = some r /\ xs.length = cks.length /\ ∀ x ∈ xs, x.one = true
  | [], xs, K, r, h => by
    cases xs with
    | nil => exact ⟨h, rfl, by simp⟩
    | cons x xs => cases h
  | ck :: cks, xs, K, r, h => by
    cases xs with
    | nil => cases h
    | cons x xs =>
      simp only [fitCs, unCons] at h
      obtain ⟨h1, h2⟩ := fitC_some h
      obtain ⟨h3, h4, h5⟩ := fitCs_some h1
      refine ⟨h3, by simp [h4], fun y hy => ?_⟩
      rcases List.mem_cons.1 hy with rfl | hy
      . exact h2
      . exact h5 y hy
theorem fit_some {α : Type} {t : TypeId} {ty : Ty} (hok : TyOK P t ty) {x : V} {K : List V -> Option α} {r : α} (h : fit ty x K = some r) : K x.cells = some r /\ x.cells.length = ty.size /\ ∀ y ∈ x.cells, y.one = true := by
  unfold fit at h
  split at h
  . cases x <;> simp only [V.unAgg, reduceCtorEq] at h
    exact fitCs_some h
  . rename_i hrow
    obtain ⟨h1, h2⟩ := fitC_some h
    have e : x.cells = [x] := by cases x <;> first | rfl | (simp [V.one] at h2)
    rw [e]
    exact ⟨h1, (hok.one hrow).symm, by simpa using h2⟩
theorem flat_elem {xs : List V} {sz : Nat} (hs : ∀ x ∈ xs, x.cells.length = sz) {i k : Nat} {x y : V} (hx : xs[i]? = some x) (hk : x.cells[k]? = some y) : (xs.flatMap V.cells)[i * sz + k]? = some y := by
  have hi : i < xs.length := (List.getElem?_eq_some_iff.1 hx).1
  rw [← flat_get hs i k (by omega)]
  have : xs.drop i = x :: xs.drop (i + 1) := by
    rw [List.drop_eq_getElem_cons hi]
    congr 1
    have := List.getElem?_eq_getElem hi
    rw [this] at hx
    injection hx
  rw [this, List.flatMap_cons, List.getElem?_append_left (List.getElem?_eq_some_iff.1 hk).1]
  exact hk
theorem indexAddrK_sound (hgs : g.sz = sizes T) (hT : TypesOK P T) (t : TypeId) (x i : D) (vx vi : Value) (hx : RepD E g w dead x vx) (hi : RepD E g w dead i vi) (d : D) (h : indexAddrK T t x i some = some d) :
    ∃ v, (Instr.indexAt t vx vi).run P w = .ok v w /\ RepD E g w dead d v := by
  unfold indexAddrK at h
  split at h
  . rename_i ty k i a hty
    have hok := hT _ _ hty
    obtain ⟨rfl, hib⟩ := hi.int_inv
    split at h
    . rename_i e s a' hdesc
      obtain ⟨hr, _, A, n, c, rfl, hn, hc, hm⟩ := hx.bytes_inv
      split at h
      . rename_i te hte
        rcases cond_some h with ⟨hsz, h⟩ | ⟨_, h⟩
        . have hsz := Nat.eq_of_beq_eq_true hsz
          obtain ⟨i0, i1, h⟩ := inK_some h
          obtain ⟨b, hb, h⟩ := at_some h
          injection h with h; subst h
          have he := hok.elem hdesc
          cases hr with
          | bytes xs A n c hn' hc hm hxx =>
            obtain ⟨bb, off, rfl, hst, hcell⟩ := hxx _ _ hb
            refine ⟨.pointer (some ⟨bb, off + i.toNat, none⟩), ?_, ?_⟩
            . rw [run_indexAt_slice w t _ n c k i he.1, if_pos ⟨i0, by omega⟩, he.2, (hT _ _ hte).size (w := w), hsz]
              simp [Addr.add_mid]
            . refine RepD.eptr [.int .u8 b.toNat] 0 bb (off + i.toNat) (fun _ => .int .u8 (b.toNat : Int)) (fun k y hk => ?_) (fun k y hk => ?_)
              . have : k = 0 := by have := (List.getElem?_eq_some_iff.1 hk).1; simp at this; omega
                subst this
                exact ⟨hst, hcell⟩
              . have : k = 0 := by have := (List.getElem?_eq_some_iff.1 hk).1; simp at this; omega
                subst this
                simp at hk
                subst hk
                exact .int _ _ (by have := UInt8.toNat_lt b; simp [IntKind.min, IntKind.max, IntKind.bits, IntKind.signed]; omega)
        . cases h
      . cases h
    . rename_i e e' s a' hdesc
      obtain ⟨hr, _, A, n, c, rfl, hn, hc, hm⟩ := hx.sl_inv
      split at h
      . rename_i te hte
        rcases cond_some h with ⟨_, hk⟩ | ⟨hnz, hk⟩
        . cases hk
        clear h
        simp only [Bool.or_eq_false_iff, Bool.not_eq_false'] at hnz
        obtain rfl := Nat.eq_of_beq_eq_true hnz.2
        have hnz : te.size ≠ 0 := fun e0 => by rw [e0] at hnz; simp at hnz
        obtain ⟨i0, i1, h⟩ := inK_some hk
        obtain ⟨y, hy, h⟩ := at_some h
        obtain ⟨h, hys, hyo⟩ := fit_some (hT _ _ hte) h
        injection h with h; subst h
        have he := hok.elem hdesc
        cases hr with
        | sl e xs A n c us hn' hc hm hs0 hxx hrr =>
          have hmem : y ∈ s := List.mem_of_getElem? hy
          have hse : g.sz e' = te.size := by rw [hgs]; simp [sizes, hte]
          have hs : ∀ x ∈ s, x.cells.length = te.size := fun x hx => by rw [← hse]; exact (okEl_spec (hs0 x hx)).1
          have hpos : ∃ bb off, A = some ⟨bb, off, none⟩ := by
            have hlt : 0 < y.cells.length := by omega
            obtain ⟨bb, off, e1, _⟩ := hxx _ _ (flat_elem hs hy (List.getElem?_eq_getElem hlt))
            exact ⟨bb, off, e1⟩
          obtain ⟨bb, off, rfl⟩ := hpos
          refine ⟨.pointer (some ⟨bb, off + i.toNat * te.size, none⟩), ?_, ?_⟩
          . rw [run_indexAt_slice w t _ n c k i he.1, if_pos ⟨i0, by omega⟩, he.2, (hT _ _ hte).size (w := w)]
            simp [Addr.add_mid]
          . refine RepD.eptr y.cells 0 bb (off + i.toNat * te.size) (fun k => us (i.toNat * te.size + k)) (fun k z hk => ?_) (fun k z hk => hrr _ z (flat_elem hs hy hk))
            obtain ⟨b2, off2, e1, h1, h2⟩ := hxx _ z (flat_elem hs hy hk)
            injection e1 with e1; injection e1 with e1 e2; subst e1 e2
            exact ⟨by rw [Nat.add_assoc]; exact h1, by rw [Nat.add_assoc]; exact h2⟩
      . cases h
    . rename_i n e k' s' o' hdesc
      have hd := hok.desc
      rw [hdesc] at hd
      split at h
      . rename_i te hte
        obtain ⟨m, rfl, _, hm, h⟩ := pick_some h
        injection h with h; subst h
        cases hx with
        | ptr k s o h1 h2 =>
          have hn : ((m : Int) < n) := by omega
          have he : P.elem t = e := by simp [Program.elem, hd]
          refine ⟨.pointer (some ⟨g.J (E.d - k') s', o' + m * te.size, none⟩), ?_, .ptr _ _ _ h1 h2⟩
          simp only [Instr.indexAt, asIntOf, Sem.run_bind, Sem.run_pure, Result.andThen_ok, run_underlying hd, Instr.sureAddr]
          rw [if_pos ⟨by omega, hn⟩]
          simp only [Sem.run_bind, (hT _ _ hte).size (w := w), Result.andThen_ok, Sem.run_pure, Int.toNat_natCast, Addr.add_mid]
      . cases h
    . rename_i n e cs o' hdesc
      have hd := hok.desc
      rw [hdesc] at hd
      split at h
      . rename_i te hte
        obtain ⟨m, rfl, _, hm, h⟩ := pick_some h
        injection h with h; subst h
        cases hx with
        | eptr cs o b off us h1 h2 =>
          have hn : ((m : Int) < n) := by omega
          refine ⟨.pointer (some ⟨b, off + o' + m * te.size, none⟩), ?_, ?_⟩
          . simp only [Instr.indexAt, asIntOf, Sem.run_bind, Sem.run_pure, Result.andThen_ok, run_underlying hd, Instr.sureAddr]
            rw [if_pos ⟨by omega, hn⟩]
            simp only [Sem.run_bind, (hT _ _ hte).size (w := w), Result.andThen_ok, Sem.run_pure, Int.toNat_natCast, Addr.add_mid]
          . have := RepD.eptr (E := E) (dead := dead) cs (o' + m * te.size) b off us h1 h2
            rwa [← Nat.add_assoc] at this
      . cases h
    . cases h
  . cases h
end
end Go.Proofs.Ytilfphdeacogmaa.En

/- The engine, part j: parts, fields, loads, conversions that leave memory as it is. -/
namespace Go.Proofs.Ytilfphdeacogmaa.En
open Go
set_option linter.unusedVariables false
section
variable {P : Program} {T : TypeId -> Option Ty} {E : Env} {g : G} {w : World} {dead : List Pos}
theorem TyOK.infoSize {t : TypeId} {ty : Ty} (h : TyOK P t ty) : (P.info? t).map (·.size) = some ty.size := by
  obtain ⟨i, hi, _, hs, _⟩ := h.info
  simp [hi, hs]
theorem fieldK_sound (hT : TypesOK P T) (t : TypeId) (x : D) (f : Nat) (vx : Value) (hx : RepD E g w dead x vx) (d : D) (h : fieldK T t x f some = some d) :
    ∃ v, (Instr.field t vx f).run P w = .ok v w /\ RepD E g w dead d v := by
  unfold fieldK at h
  simp only [forceD_eq, Bool.cond_eq_ite] at h
  split at h
  . rename_i ty ds hty
    have hd := (hT _ _ hty).desc
    split at h
    . rename_i fs hdesc
      rw [hdesc] at hd
      split at h
      . rename_i fl hfl
        split at h
        . rename_i te hte
          split at h
          . rename_i d' hd'
            injection h with h; subst h
            cases hx with
            | agg ds us hn hr =>
              obtain ⟨v, h1, h2⟩ := partD_sound (P := P) hT hte ds us hn hr fl.offset d' hd'
              exact ⟨v, by simp [Instr.field, run_underlying hd, hfl, asAgg, h1], h2.plain_⟩
          . cases h
        . cases h
      . cases h
    . cases h
  . cases h
theorem indexK_sound (hT : TypesOK P T) (t : TypeId) (x i : D) (vx vi : Value) (hx : RepD E g w dead x vx) (hi : RepD E g w dead i vi) (d : D) (h : indexK T t x i some = some d) :
    ∃ v, (Instr.index t vx vi).run P w = .ok v w /\ RepD E g w dead d v := by
  unfold indexK at h
  simp only [forceD_eq, Bool.cond_eq_ite] at h
  split at h
  . rename_i ty k i a hty
    have hd := (hT _ _ hty).desc
    obtain ⟨rfl, hib⟩ := hi.int_inv
    split at h
    . rename_i s a' hdesc
      rw [hdesc] at hd
      obtain ⟨rfl, hl⟩ := hx.str_inv
      obtain ⟨i0, i1, h⟩ := inK_some h
      obtain ⟨b, hb, h⟩ := at_some h
      injection h with h; subst h
      have hs : (⟨s.toArray⟩ : ByteArray).size = s.length := by simp [ByteArray.size]
      refine ⟨.int .u8 (b.toNat : Int), ?_, RepD.int_ (by have := UInt8.toNat_lt b; simp [IntKind.min, IntKind.max, IntKind.bits, IntKind.signed]; omega)⟩
      rw [run_index_string w t _ k i hd, dif_pos ⟨i0, by rw [hs]; exact i1⟩]
      congr 3
      obtain ⟨h1, h2⟩ := List.getElem?_eq_some_iff.1 hb
      subst h2
      rfl
    . rename_i n e ds hdesc
      rw [hdesc] at hd
      split at h
      . rename_i te hte
        obtain ⟨m, rfl, _, hm, h⟩ := pick_some h
        split at h
        . rename_i d' hd'
          injection h with h; subst h
          cases hx with
          | agg ds us hn hr =>
            obtain ⟨v, h1, h2⟩ := partD_sound (P := P) hT hte ds us hn hr _ d' hd'
            refine ⟨v, ?_, h2.plain_⟩
            simp only [Instr.index, asIntOf, Sem.run_bind, Sem.run_pure, Result.andThen_ok, run_underlying hd]
            rw [if_pos ⟨by omega, by omega⟩]
            simp only [Sem.run_bind, (hT _ _ hte).size (w := w), Result.andThen_ok, Int.toNat_natCast, h1]
        . cases h
      . cases h
    . cases h
  . cases h
theorem fieldAddrK_sound (hT : TypesOK P T) (t : TypeId) (x : D) (f : Nat) (vx : Value) (hx : RepD E g w dead x vx) (d : D) (h : fieldAddrK T t x f some = some d) :
    ∃ v, (Instr.fieldAt t vx f).run P w = .ok v w /\ RepD E g w dead d v := by
  unfold fieldAddrK at h
  simp only [forceD_eq, Bool.cond_eq_ite] at h
  split at h
  . rename_i ty hty
    have hd := (hT _ _ hty).desc
    split at h
    . rename_i fs hdesc
      rw [hdesc] at hd
      split at h
      . rename_i fl hfl
        split at h
        . rename_i te hte
          split at h
          . cases h
          . rename_i hnz
            have hnz : ¬ te.size = 0 := fun e0 => hnz (by rw [e0]; rfl)
            have hplace : ∀ b o, (fieldPlace ⟨b, o, none⟩ fl).run P w = .ok ⟨b, o + fl.offset, none⟩ w := by
              intro b o
              unfold fieldPlace
              simp only [Sem.run_bind, (hT _ _ hte).size (w := w), Result.andThen_ok]
              rw [if_neg hnz, Sem.run_pure, Addr.add_mid]
            split at h
            . injection h with h; subst h
              cases hx with
              | ptr k s o h1 h2 =>
                exact ⟨_, by simp [Instr.fieldAt, run_underlying hd, hfl, Instr.sureAddr, hplace], .ptr _ _ _ h1 h2⟩
            . rename_i cs o
              injection h with h; subst h
              cases hx with
              | eptr _ _ b off us h1 h2 =>
                refine ⟨.pointer (some ⟨b, off + o + fl.offset, none⟩), by simp [Instr.fieldAt, run_underlying hd, hfl, Instr.sureAddr, hplace], ?_⟩
                have := RepD.eptr (E := E) (dead := dead) cs (o + fl.offset) b off us h1 h2
                rwa [← Nat.add_assoc] at this
            . cases h
        . cases h
      . cases h
    . cases h
  . cases h
theorem MemRep.get {m : Mem} (hm : MemRep E g w m) {k s : Nat} {b : Bx} (h : Mem.box? m k s = some b) : ∃ us, w.heap[g.J (E.d - k) s]? = some (.cells us b.ty (0, 0)) /\ us.size = b.cells.length /\
    (∀ (i : Nat) c, b.cells[i]? = some c -> w.cell? ⟨g.J (E.d - k) s, i, none⟩ = some (us.getD i undef) /\ RepD E g w [] (loadCell k s i c) (us.getD i undef)) := by
  obtain ⟨us, h1, h2, h3⟩ := (hm k s b h).heap
  refine ⟨us, h1, h2, fun i c hc => ⟨?_, (h3 i c hc).2.2.2⟩⟩
  rw [cell_of_row w _ i us _ _ h1]
  have := (List.getElem?_eq_some_iff.1 hc).1
  simp [(by omega : i < us.size)]
theorem RepD.weaken {x : D} {v : Value} (h : RepD E g w [] x v) : RepD E g w dead x v :=
  h.keep ⟨Later.refl g w, rfl, fun _ _ h => h, fun _ _ _ _ => rfl, fun p hp => by simp at hp, fun _ _ _ _ _ h => h⟩
theorem loadCellsD_get (k s : Nat) : ∀ (ds : List D) (i j : Nat) y, (loadCellsD k s i ds)[j]? = some y -> ∃ c, ds[j]? = some c /\ y = (loadCell k s (i + j) c).plain
  | [], i, j, y, h => by simp [loadCellsD] at h
  | d :: ds, i, 0, y, h => by
    simp [loadCellsD] at h
    exact ⟨d, by simp, h.symm⟩
  | d :: ds, i, j + 1, y, h => by
    simp [loadCellsD] at h
    obtain ⟨c, h1, h2⟩ := loadCellsD_get k s ds (i + 1) j y h
    exact ⟨c, by simpa using h1, by rw [h2]; congr 2; omega⟩
theorem loadCellsD_length (k s : Nat) : ∀ (ds : List D) (i : Nat), (loadCellsD k s i ds).length = ds.length
  | [], _ => rfl
  | d :: ds, i => by simp [loadCellsD, loadCellsD_length k s ds]
theorem run_load_row {t : TypeId} {ty : Ty} (hok : TyOK P t ty) (hrow : ty.row = true) {b o : Nat} {us : Nat -> Value} (hc : ∀ j, j < ty.size -> w.cell? ⟨b, o + j, none⟩ = some (us j)) :
    (Instr.loadAt t (.pointer (some ⟨b, o, none⟩))).run P w = .ok (.agg ((List.range ty.size).map us).toArray) w := by
  refine run_loadAt_mid w b o t _ ty.desc (fun j v hj => ?_) hok.desc ?_ (by rw [hok.infoSize]; simp)
  . rw [List.getElem?_map, Option.map_eq_some_iff] at hj
    obtain ⟨z, hz, rfl⟩ := hj
    obtain ⟨h1, h2⟩ := List.getElem?_eq_some_iff.1 hz
    simp at h1 h2
    subst h2
    exact hc _ h1
  . unfold Ty.row at hrow
    cases hd : ty.desc <;> simp_all
theorem run_load_one {t : TypeId} {ty : Ty} (hok : TyOK P t ty) (hrow : ty.row = false) {b o : Nat} {u : Value} (hc : w.cell? ⟨b, o, none⟩ = some u) :
    (Instr.loadAt t (.pointer (some ⟨b, o, none⟩))).run P w = .ok u w := by
  simp [Instr.loadAt, Instr.sureAddr, loadVar, hok.isAgg (w := w), hrow, hc]
theorem loadK_sound (hT : TypesOK P T) (t : TypeId) (a : D) (va : Value) (ha : RepD E g w dead a va) {m : Mem} (hm : MemRep E g w m) (d : D) (h : loadK T t a m some = some d) :
    ∃ v, (Instr.loadAt t va).run P w = .ok v w /\ RepD E g w dead d v := by
  unfold loadK at h
  simp only [forceD_eq, Bool.cond_eq_ite] at h
  split at h
  . rename_i ty hty
    have hok := hT _ _ hty
    split at h
    . rename_i k s o
      cases ha with
      | ptr k s o h1 h2 =>
        split at h
        . rename_i b hb
          obtain ⟨us, g1, g2, g3⟩ := hm.get hb
          split at h
          . rename_i hrow
            split at h
            . rename_i hle
              have hle := Nat.le_of_ble_eq_true hle
              injection h with h; subst h
              refine ⟨_, run_load_row (us := fun j => us.getD (o + j) undef) hok hrow (fun j hj => ?_), ?_⟩
              . have : o + j < b.cells.length := by omega
                exact (g3 (o + j) _ (List.getElem?_eq_getElem this)).1
              . refine .agg _ _ (by rw [loadCellsD_length]; simp; omega) fun j y hj => ?_
                obtain ⟨c, hc, rfl⟩ := loadCellsD_get k s _ o j y hj
                rw [List.getElem?_take] at hc
                split at hc
                . rename_i hlt
                  rw [List.getElem?_drop] at hc
                  have := (g3 (o + j) c hc).2.plain_.weaken (dead := dead)
                  simpa [hlt] using this
                . cases hc
            . cases h
          . rename_i hrow
            split at h
            . split at h
              . rename_i c hc
                injection h with h; subst h
                exact ⟨_, run_load_one hok hrow (g3 o c hc).1, (g3 o c hc).2.weaken⟩
              . cases h
            . cases h
        . cases h
    . rename_i cs o
      cases ha with
      | eptr cs o b off us h1 h2 =>
        split at h
        . rename_i hrow
          split at h
          . rename_i hle
            have hle := Nat.le_of_ble_eq_true hle
            injection h with h; subst h
            refine ⟨_, run_load_row (us := fun j => us (o + j)) hok hrow (fun j hj => ?_), ?_⟩
            . have : o + j < cs.length := by omega
              have := (h1 (o + j) _ (List.getElem?_eq_getElem this)).2
              rwa [← Nat.add_assoc] at this
            . refine .agg _ _ (by simp; omega) fun j y hj => ?_
              rw [List.getElem?_map, Option.map_eq_some_iff] at hj
              obtain ⟨z, hz, rfl⟩ := hj
              rw [List.getElem?_take] at hz
              split at hz
              . rename_i hlt
                rw [List.getElem?_drop] at hz
                have := RepD.v (E := E) (dead := dead) z .no _ (h2 (o + j) z hz) trivial
                simpa [hlt, vD] using this
              . cases hz
          . cases h
        . rename_i hrow
          split at h
          . split at h
            . rename_i y hy
              injection h with h; subst h
              exact ⟨_, run_load_one hok hrow (h1 o y hy).2, .v _ _ _ (h2 o y hy) trivial⟩
            . cases h
          . cases h
    . cases h
  . cases h
end
end Go.Proofs.Ytilfphdeacogmaa.En

/- The engine, part k: composite literals. -/
namespace Go.Proofs.Ytilfphdeacogmaa.En
open Go
set_option linter.unusedVariables false
section
variable {P : Program} {T : TypeId -> Option Ty} {E : Env} {g : G} {w : World} {dead : List Pos}
theorem RepD.one_ {d : D} {v : Value} (h : RepD E g w dead d v) (h1 : d.one = true) : v.oneCell' = true := by
  cases h with
  | v x a v h ha =>
    refine h.one ?_
    cases x <;> first | rfl | (simp [D.one] at h1)
  | ptr k s o _ _ => rfl
  | nilp => rfl
  | eptr cs o b off us _ _ => rfl
  | clos f caps us _ _ => rfl
  | nilF => rfl
  | bld => rfl
  | agg ds us _ _ => simp [D.one] at h1
  | tup ds us _ _ => simp [D.one] at h1
  | any v => simp [D.one] at h1
theorem one_cells {v : Value} (h : v.oneCell' = true) : v.cells = #[v] := by cases v <;> first | rfl | cases h
def RepL (E : Env) (g : G) (w : World) (dead : List Pos) (ds : List D) (us : Array Value) : Prop :=
  us.size = ds.length /\ ∀ (k : Nat) y, ds[k]? = some y -> RepD E g w dead y (us.getD k undef)
theorem cells_rep {d : D} {v : Value} (h : RepD E g w dead d v) (h1 : (cellsOf d).all D.one = true) : RepL E g w dead (cellsOf d) v.cells := by
  have single : ∀ {d : D} {v : Value}, RepD E g w dead d v -> d.one = true -> RepL E g w dead [d] v.cells := by
    intro d v h h1
    rw [one_cells (h.one_ h1)]
    refine ⟨rfl, fun k y hk => ?_⟩
    have : k = 0 := by have := (List.getElem?_eq_some_iff.1 hk).1; simp at this; omega
    subst this
    simp at hk; subst hk
    exact h
  cases d with
  | agg ds => cases h with | agg ds us hn hr => exact ⟨hn, hr⟩
  | v x a =>
    cases x with
    | agg cs =>
      cases h with | v x a v h ha =>
      cases h with
      | agg cs us hn hr =>
        refine ⟨by simpa [cellsOf, Value.cells] using hn, fun k y hk => ?_⟩
        simp only [cellsOf, List.getElem?_map, Option.map_eq_some_iff] at hk
        obtain ⟨z, hz, rfl⟩ := hk
        exact .v _ _ _ (hr k z hz) trivial
    | _ => exact single h rfl
  | tup ds => simp [cellsOf, D.one] at h1
  | any => simp [cellsOf, D.one] at h1
  | _ => exact single h rfl
theorem setR_get : ∀ (xs : List D) (off : Nat) (cs : List D) (k : Nat), (setR cs off xs)[k]? = if off <= k /\ k < off + xs.length /\ k < cs.length then xs[k - off]? else cs[k]?
  | [], off, cs, k => by simp [setR]; intro h1 h2; omega
  | x :: xs, off, cs, k => by
    simp only [setR]
    rw [setR_get xs (off + 1) (cs.set off x) k]
    simp only [List.length_set, List.length_cons]
    by_cases h1 : off + 1 <= k /\ k < off + 1 + xs.length /\ k < cs.length
    . rw [if_pos h1, if_pos ⟨by omega, by omega, h1.2.2⟩]
      have : k - off = (k - (off + 1)) + 1 := by omega
      rw [this, List.getElem?_cons_succ]
    . rw [if_neg h1]
      by_cases hk : k = off
      . subst hk
        by_cases hl : k < cs.length
        . rw [if_pos ⟨Nat.le_refl _, by omega, hl⟩]; simp [hl]
        . rw [if_neg (by omega)]; simp [hl]
      . rw [List.getElem?_set_ne (fun e => hk e.symm), if_neg (by omega)]
theorem setR_length : ∀ (xs : List D) (off : Nat) (cs : List D), (setR cs off xs).length = cs.length
  | [], _, _ => rfl
  | x :: xs, off, cs => by simp [setR, setR_length xs]
theorem foldl_set_get : ∀ (xs : List Value) (i off : Nat) (us : Array Value) (k : Nat),
    ((xs.zipIdx i).foldl (fun cs p => cs.setIfInBounds (off + p.2) p.1) us)[k]? = if off + i <= k /\ k < off + i + xs.length /\ k < us.size then xs[k - (off + i)]? else us[k]?
  | [], i, off, us, k => by simp; intro h1 h2; omega
  | x :: xs, i, off, us, k => by
    simp only [List.zipIdx_cons, List.foldl_cons]
    rw [foldl_set_get xs (i + 1) off _ k]
    simp only [Array.size_setIfInBounds, List.length_cons]
    by_cases h1 : off + (i + 1) <= k /\ k < off + (i + 1) + xs.length /\ k < us.size
    . rw [if_pos h1, if_pos ⟨by omega, by omega, h1.2.2⟩]
      have : k - (off + i) = (k - (off + (i + 1))) + 1 := by omega
      rw [this, List.getElem?_cons_succ]
    . rw [if_neg h1]
      by_cases hk : k = off + i
      . subst hk
        by_cases hl : off + i < us.size
        . rw [if_pos ⟨Nat.le_refl _, by omega, hl⟩]; simp [hl]
        . rw [if_neg (by omega)]; simp [hl]
      . rw [Array.getElem?_setIfInBounds_ne (fun e => hk e.symm), if_neg (by omega)]
theorem foldl_set_size : ∀ (xs : List (Value × Nat)) (off : Nat) (us : Array Value), (xs.foldl (fun cs p => cs.setIfInBounds (off + p.2) p.1) us).size = us.size
  | [], _, _ => rfl
  | x :: xs, off, us => by rw [List.foldl_cons, foldl_set_size xs]; simp
theorem RepL.set_ {ds xs : List D} {us vs : Array Value} {off : Nat} (h : RepL E g w dead ds us) (hx : RepL E g w dead xs vs) :
    RepL E g w dead (setR ds off xs) (vs.zipIdx.foldl (fun cs (c, j) => cs.setIfInBounds (off + j) c) us) := by
  have e1 : vs.zipIdx.foldl (fun cs (c, j) => cs.setIfInBounds (off + j) c) us = (vs.toList.zipIdx 0).foldl (fun cs p => cs.setIfInBounds (off + p.2) p.1) us := by
    rw [← Array.foldl_toList]; simp [Array.toList_zipIdx]
  rw [e1]
  refine ⟨by rw [foldl_set_size, setR_length]; exact h.1, fun k y hk => ?_⟩
  rw [setR_get] at hk
  rw [Array.getD_eq_getD_getElem?, foldl_set_get]
  have hl : vs.toList.length = xs.length := by simpa using hx.1
  have hu := h.1
  by_cases hc : off <= k /\ k < off + xs.length /\ k < ds.length
  . rw [if_pos hc] at hk
    rw [if_pos ⟨by omega, by omega, by omega⟩]
    have := hx.2 _ y hk
    simpa [Array.getD_eq_getD_getElem?] using this
  . rw [if_neg hc] at hk
    rw [if_neg (by omega)]
    have := h.2 k y hk
    simpa [Array.getD_eq_getD_getElem?] using this
def RepP (E : Env) (g : G) (w : World) (dead : List Pos) : List (Nat × D) -> List (Nat × Value) -> Prop
  | [], [] => True
  | (i, d) :: r, (j, v) :: s => i = j /\ RepD E g w dead d v /\ RepP E g w dead r s
  | _, _ => False
theorem fillD_sound (place : Nat -> Option (Nat × Nat)) : ∀ (ps : List (Nat × D)) (vs : List (Nat × Value)) (ds : List D) (us : Array Value) (ds' : List D), RepP E g w dead ps vs -> RepL E g w dead ds us -> fillD place ds ps = some ds' ->
    ∃ us', Instr.fill place us vs = some us' /\ RepL E g w dead ds' us'
  | [], [], ds, us, ds', _, h, hf => by
    simp only [fillD, Option.some.injEq] at hf
    subst hf
    exact ⟨us, rfl, h⟩
  | [], _ :: _, _, _, _, hp, _, _ => hp.elim
  | _ :: _, [], _, _, _, hp, _, _ => hp.elim
  | (i, d) :: r, (j, v) :: s, ds, us, ds', ⟨hij, hd, hp⟩, h, hf => by
    subst hij
    unfold fillD at hf
    unfold Instr.fill
    cases hpl : place i with
    | none => rw [hpl] at hf; cases hf
    | some q =>
      obtain ⟨off, size⟩ := q
      rw [hpl] at hf
      simp only [Bool.cond_eq_ite] at hf
      split at hf
      case isFalse => cases hf
      . rename_i hn
        simp only [Bool.and_eq_true] at hn
        obtain ⟨hone, hn1, hn2⟩ := hn
        have hn1 := Nat.eq_of_beq_eq_true hn1
        have hn2 := Nat.le_of_ble_eq_true hn2
        have hc := cells_rep hd hone
        have h1 : v.cells.size = size := by
          rw [hc.1, hn1]
        have h2 : ¬ (off + v.cells.size > us.size) := by
          have := hc.1
          rw [h.1]; omega
        obtain ⟨us', e1, e2⟩ := fillD_sound place r s _ _ ds' hp (h.set_ (off := off) hc) hf
        refine ⟨us', ?_, e2⟩
        simp only [h1] at h2 ⊢
        rw [if_neg (by simp; omega)]
        exact e1
theorem zeroD_rep (ck : CK) : RepD E g w dead (zeroD ck) (zeroV ck) := by
  cases ck with
  | int k => exact RepD.int_ (min_nonpos k)
  | bool => exact RepD.bool_ _
  | str => exact RepD.str_ (s := []) (by simp)
  | bytes e => exact .v _ _ _ (.bytes [] none 0 0 rfl (Nat.le_refl _) (Nat.zero_le _) fun k x h => by simp at h) rfl
  | slc e => exact .v _ _ _ (.sl _ [] none 0 0 (fun _ => undef) rfl (Nat.le_refl _) (Nat.zero_le _) (fun x h => by simp at h) (fun k x h => by simp at h) (fun k x h => by simp at h)) rfl
  | ptr => exact .nilp
  | iface => exact .v _ _ _ .nilI trivial
  | func => exact .nilF
  | bld => exact .bld
theorem zeroV_cells (ck : CK) : (zeroV ck).cells = #[zeroV ck] := by cases ck <;> rfl
theorem zero_rep {t : TypeId} {ty : Ty} (hok : TyOK P t ty) : RepL E g w dead ty.zeroDs ty.zero.cells := by
  unfold Ty.zero
  cases hr : ty.row with
  | true =>
    refine ⟨by simp [Ty.zeroDs, Value.cells], fun k y hk => ?_⟩
    simp only [Ty.zeroDs, List.getElem?_map, Option.map_eq_some_iff] at hk
    obtain ⟨ck, hck, rfl⟩ := hk
    have := zeroD_rep (E := E) (g := g) (w := w) (dead := dead) ck
    simpa [Value.cells, hck] using this
  | false =>
    have h1 := hok.one hr
    unfold Ty.size at h1
    match hcks : ty.cks, h1 with
    | [ck], _ =>
      simp only [Bool.false_eq_true, if_false]
      refine ⟨by simp [Ty.zeroDs, hcks, zeroV_cells], fun k y hk => ?_⟩
      have : k = 0 := by have := (List.getElem?_eq_some_iff.1 hk).1; simp [Ty.zeroDs, hcks] at this; omega
      subst this
      simp [Ty.zeroDs, hcks] at hk
      subst hk
      simpa [zeroV_cells] using zeroD_rep (E := E) (g := g) (w := w) (dead := dead) ck
theorem RepP.map_ {f : D -> D} (hf : ∀ {d v}, RepD E g w dead d v -> RepD E g w dead (f d) v) : ∀ {ps : List (Nat × D)} {vs : List (Nat × Value)}, RepP E g w dead ps vs -> RepP E g w dead (ps.map fun p => (p.1, f p.2)) vs
  | [], [], _ => trivial
  | [], _ :: _, h => h.elim
  | _ :: _, [], h => h.elim
  | (i, d) :: r, (j, v) :: s, ⟨h1, h2, h3⟩ => ⟨h1, hf h2, RepP.map_ hf h3⟩
theorem placesOf_sound (hT : TypesOK P T) : ∀ (fs : List Field) (places : List (Nat × Nat)), placesOf T fs = some places -> fs.mapM (fun f => (P.info? f.type).map fun i => (f.offset, i.size)) = some places
  | [], places, h => by simp only [placesOf, Option.some.injEq] at h; subst h; rfl
  | f :: fs, places, h => by
    unfold placesOf at h
    split at h
    . rename_i te hte
      split at h
      . rename_i r hr
        injection h with h; subst h
        have ih := placesOf_sound hT fs r hr
        obtain ⟨i, hi, _, hs, _⟩ := (hT _ _ hte).info
        simp [List.mapM_cons, hi, hs, ih]
      . cases h
    . cases h
theorem buildK_sound (hT : TypesOK P T) (t : TypeId) (parts : List (Nat × D)) (vparts : Array (Nat × Value)) (hp : RepP E g w dead parts vparts.toList) (d : D) (h : buildK T t parts some = some d) :
    ∃ v, (Instr.build t vparts).run P w = .ok v w /\ RepD E g w dead d v := by
  unfold buildK at h
  simp only [forceD_eq] at h
  split at h
  . rename_i ty hty
    have hok := hT _ _ hty
    obtain ⟨i, hi, hz, hs, _⟩ := hok.info
    have hd := hok.desc
    have hzr := zero_rep (E := E) (g := g) (w := w) (dead := dead) hok
    have hpp := RepP.map_ (f := D.plain) (fun h => h.plain_) hp
    split at h
    . rename_i fs hdesc
      rw [hdesc] at hd
      split at h
      . rename_i places hpl
        split at h
        . rename_i cs hcs
          injection h with h; subst h
          obtain ⟨us, h1, h2⟩ := fillD_sound _ _ _ _ _ cs hpp hzr hcs
          refine ⟨.agg us, run_build w t vparts us ?_, .agg _ _ h2.1 h2.2⟩
          simp only [Program.built, hi, hd, hz, placesOf_sound hT _ _ hpl]
          simpa using h1
        . cases h
      . cases h
    . rename_i n e hdesc
      rw [hdesc] at hd
      split at h
      . rename_i te hte
        split at h
        . rename_i cs hcs
          injection h with h; subst h
          obtain ⟨us, h1, h2⟩ := fillD_sound _ _ _ _ _ cs hpp hzr hcs
          obtain ⟨ie, hie, _, hse, _⟩ := (hT _ _ hte).info
          refine ⟨.agg us, run_build w t vparts us ?_, .agg _ _ h2.1 h2.2⟩
          simp only [Program.built, hi, hd, hz, hie, hse]
          exact h1
        . cases h
      . cases h
    . cases h
  . cases h
end
end Go.Proofs.Ytilfphdeacogmaa.En
