/- smartcard/block.Decode: the walk (printed by wip/gen/decode.py). -/
import Derived.Test.YtpfihchdbdhbjaaN
namespace Go.Proofs.Ytpfihchdbdhbjaa
open Go.RowKit
set_option linter.unusedVariables false

/-! ### What a control byte tells -/
def kindC (c : Nat) : Int := if c < 128 then 0 else if c < 192 then 1 else 2
def seqC (c : Nat) : Int := if c < 128 then (c / 64 : Nat) else if c < 192 then (c / 16 % 2 : Nat) else 0
def moreC (c : Nat) : Bool := if c < 128 then decide (c / 32 % 2 = 1) else false
def codeC (c : Nat) : Int := if c < 128 then 0 else (c % 4 : Nat)
def ansC (c : Nat) : Bool := if c < 192 then false else decide (c / 32 % 2 = 1)
theorem blkC_eq (c : Nat) : blkC c = [.int .i64 0, .int .i64 (kindC c), .int .i64 (seqC c), .bool (moreC c), .int .i64 (codeC c), .bool (ansC c), .slice none 0 0] := by
  unfold blkC kindC seqC moreC codeC ansC
  by_cases h1 : c < 128
  · have h2 : c < 192 := by omega
    simp [h1, h2]
  · by_cases h2 : c < 192 <;> simp [h1, h2]
/-- The error of the bytes ahead of the check value. -/
def bodyE (body : List UInt8) : Int :=
  if okC (body.getD 1 0).toNat = true ∧ (body.getD 2 0).toNat = body.length - 3 then
    checkE (body.getD 0 0).toNat (kindC (body.getD 1 0).toNat) (seqC (body.getD 1 0).toNat) (moreC (body.getD 1 0).toNat) (codeC (body.getD 1 0).toNat) (ansC (body.getD 1 0).toNat) (body.drop 3)
  else 4
def zeroL : List Value := [.int .i64 0, .int .i64 0, .int .i64 0, .bool false, .int .i64 0, .bool false, .slice none 0 0]

/-- Cell 6 of block g holds a slice that reads as inf and does not lie in g. -/
def Six (g : Nat) (inf : List UInt8) (w : World) : Prop := ∃ A n c, w.cell? ⟨g, 6, none⟩ = some (.slice A n c) ∧ IsB w A n c inf ∧ ∀ b off, A = some ⟨b, off, none⟩ → g < b
/-- The relation of worlds while a decoded block g is completed: its cell 0 and its cell 6 are set once. -/
structure TG (g : Nat) (v0 : Value) (inf : List UInt8) (w w' : World) : Prop where
  grown : w.grownBy w' (some g)
  there : w.there g 0 7 → w'.there g 0 7
  mid : ∀ j, 1 ≤ j → j ≤ 5 → w'.cell? ⟨g, j, none⟩ = w.cell? ⟨g, j, none⟩
  zero : w.cell? ⟨g, 0, none⟩ = some v0 → w'.cell? ⟨g, 0, none⟩ = some v0
  six : Six g inf w → Six g inf w'
section
variable {g : Nat} {v0 : Value} {inf : List UInt8}
theorem TG.refl (w : World) : TG g v0 inf w w := ⟨World.grownBy.refl w _, id, fun _ _ _ => rfl, id, id⟩
theorem TG.trans (x y z : World) (h : TG g v0 inf x y) (k : TG g v0 inf y z) : TG g v0 inf x z :=
  ⟨grown_trans h.grown k.grown, fun q => k.there (h.there q), fun j a b => (k.mid j a b).trans (h.mid j a b), fun q => k.zero (h.zero q), fun q => k.six (h.six q)⟩
theorem TG.of_below {w w' : World} (hg : g < w.heap.size) (h : Below w.heap.size w w') : TG g v0 inf w w' := by
  have hc : ∀ j, w'.cell? ⟨g, j, none⟩ = w.cell? ⟨g, j, none⟩ := fun j => h.cell (p := ⟨g, j, none⟩) hg
  exact ⟨⟨h.os, h.tape, h.output, h.size, fun k hk _ => h.block k hk⟩,
   fun q j hj => ⟨by rw [hc]; exact (q j hj).1, by rw [h.frozen (p := ⟨g, 0 + j, none⟩) hg]; exact (q j hj).2⟩,
   fun j _ _ => hc j, fun q => by rw [hc]; exact q, fun ⟨A, n, c, q, r, s⟩ => ⟨A, n, c, by rw [hc]; exact q, Rd.below r h, s⟩⟩
theorem grown_keepB {w w' : World} (h : w.grownBy w' (some g)) {A : Option Addr} {n c : Nat} {xs : List UInt8} (hr : IsB w A n c xs) (hne : ∀ b off, A = some ⟨b, off, none⟩ → b ≠ g) : IsB w' A n c xs :=
  Rd.mk (Rd.len hr) (Rd.cap hr) (Rd.max hr) fun k v hv => by
    obtain ⟨b, off, rfl, hc⟩ := Rd.at_ hr k v hv
    refine ⟨b, off, rfl, ?_⟩
    rw [World.cell?_of_block (a := ⟨b, off + k, none⟩) (h.block b (World.block_lt_of_cell? w _ hc) (fun e => hne b off rfl (by injection e)))]
    exact hc
theorem there_setCell {w : World} {p : Addr} {v : Value} (h : w.there g 0 7) : (w.setCell p v).there g 0 7 := by
  intro j hj
  obtain ⟨h1, h2⟩ := h j hj
  refine ⟨?_, by rw [World.frozen?_setCell]; exact h2⟩
  obtain ⟨u, hu⟩ := Option.isSome_iff_exists.1 h1
  by_cases he : p = ⟨g, 0 + j, none⟩
  · subst he; rw [World.cell?_setCell_same _ _ _ hu]; rfl
  · rw [World.cell?_setCell_other _ _ _ _ he]; exact h1
theorem grown_setCell (w : World) (g j : Nat) (v : Value) : w.grownBy (w.setCell ⟨g, j, none⟩ v) (some g) :=
  ⟨rfl, rfl, rfl, by simp, fun k _ hne => Below.heap_setCell w ⟨g, j, none⟩ v k (fun e => hne (by rw [e]))⟩
theorem TG.set0 {w : World} (h : w.there g 0 7) : TG g v0 inf w (w.setCell ⟨g, 0, none⟩ v0) ∧ (w.setCell ⟨g, 0, none⟩ v0).cell? ⟨g, 0, none⟩ = some v0 := by
  obtain ⟨u, hu⟩ := Option.isSome_iff_exists.1 (h 0 (by omega)).1
  have h0 := World.cell?_setCell_same w ⟨g, 0, none⟩ v0 hu
  refine ⟨⟨grown_setCell w g 0 v0, there_setCell, fun j a b => World.cell?_setCell_other _ _ _ _ (by simp <;> omega), fun _ => h0, ?_⟩, h0⟩
  rintro ⟨A, n, c, q, r, s⟩
  exact ⟨A, n, c, by rw [World.cell?_setCell_other _ _ _ _ (by simp)]; exact q, grown_keepB (grown_setCell w g 0 v0) r (fun b off e => by have := s b off e; omega), s⟩
theorem TG.set6 {w : World} {A : Option Addr} {n c : Nat} (h : w.there g 0 7) (hr : IsB w A n c inf) (hne : ∀ b off, A = some ⟨b, off, none⟩ → g < b) :
    TG g v0 inf w (w.setCell ⟨g, 6, none⟩ (.slice A n c)) ∧ Six g inf (w.setCell ⟨g, 6, none⟩ (.slice A n c)) := by
  obtain ⟨u, hu⟩ := Option.isSome_iff_exists.1 (h 6 (by omega)).1
  have h6 := World.cell?_setCell_same w ⟨g, 6, none⟩ (.slice A n c) hu
  have hs : Six g inf (w.setCell ⟨g, 6, none⟩ (.slice A n c)) := ⟨A, n, c, h6, grown_keepB (grown_setCell w g 6 _) hr (fun b off e => by have := hne b off e; omega), hne⟩
  exact ⟨⟨grown_setCell w g 6 _, there_setCell, fun j a b => World.cell?_setCell_other _ _ _ _ (by simp <;> omega), fun q => by rw [World.cell?_setCell_other _ _ _ _ (by simp)]; exact q, fun _ => hs⟩, hs⟩
end

theorem there_below {w w' : World} {R n : Nat} (h : w.there R 0 n) (hR : R < w.heap.size) (hb : Below w.heap.size w w') : w'.there R 0 n := fun j hj =>
  ⟨by rw [hb.cell (p := ⟨R, 0 + j, none⟩) hR]; exact (h j hj).1, by rw [hb.frozen (p := ⟨R, 0 + j, none⟩) hR]; exact (h j hj).2⟩
theorem there_zero (w : World) (e : TypeId) : (w.alloc (.cells #[.int .i64 0, .int .i64 0, .int .i64 0, .bool false, .int .i64 0, .bool false, .slice none 0 0] e)).there w.heap.size 0 7 := there_of_cells (heap_alloc_new w _) rfl

set_option maxHeartbeats 400000 in
theorem decode_kind (A : Option Addr) (n c : Nat) (k : Int) (hk : ¬ (k = 0 ∨ k = 1)) (w : World) :
    Calls Try.prog 16 #[.slice A n c, .int .i64 k] w
      fun e w' => e = .returned (.tuple #[.agg zeroL.toArray, .int .i64 1]) ∧ Below w.heap.size w w' := by
  have hs : sizeI k = 0 := by unfold sizeI; rw [if_neg (by omega), if_neg (by omega)]
  have HTH := Lib.hid (there_zero w 24)
  go_enter Try.func16, Try.ntmps16
  go_wp2_with fail
  refine (size_any k _).mono ?_
  rintro e w1 ⟨rfl, rfl⟩
  rw [hs]
  go_wp2_with (refine wpList_store_mid rfl 24 _ _ rfl w.heap.size 0 #[.int .i64 0, .int .i64 0, .int .i64 0, .bool false, .int .i64 0, .bool false, .slice none 0 0] rfl rfl HTH.out (by kernel_rfl) (by simp [Value.oneCell']) ?_)
  refine bodyPost_ret (results_cell_tmp rfl _ _ w.heap.size 0 zeroL _ rfl (World.rangeAt_setCells_same _ w.heap.size 0 zeroL HTH.out) Try.underlying24 rfl (by kernel_rfl)) rfl ⟨rfl, ?_⟩
  exact below_setCells (Nat.le_refl _) _ _ _ ((Below.refl _ _).alloc (Nat.le_refl _) _)

set_option maxHeartbeats 400000 in
theorem decode_short (A : Option Addr) (n c : Nat) (k : Int) (hk : k = 0 ∨ k = 1) (hn : n < 3 + sizeN k) (w : World) :
    Calls Try.prog 16 #[.slice A n c, .int .i64 k] w
      fun e w' => e = .returned (.tuple #[.agg zeroL.toArray, .int .i64 5]) ∧ Below w.heap.size w w' := by
  have hp := sizeN_pos k hk
  have HTH := Lib.hid (there_zero w 24)
  go_enter Try.func16, Try.ntmps16
  go_wp2_with fail
  refine (size_any k _).mono ?_
  rintro e w1 ⟨rfl, rfl⟩
  rw [sizeI_eq]
  generalize sizeN k = s at *
  have h0 : ((s : Int) == 0) = false := by simp; omega
  go_wp2_with (refine wpList_store_mid rfl 24 _ _ rfl w.heap.size 0 #[.int .i64 0, .int .i64 0, .int .i64 0, .bool false, .int .i64 0, .bool false, .slice none 0 0] rfl rfl HTH.out (by kernel_rfl) (by simp [Value.oneCell']) ?_)
  refine bodyPost_ret (results_cell_tmp rfl _ _ w.heap.size 0 zeroL _ rfl (World.rangeAt_setCells_same _ w.heap.size 0 zeroL HTH.out) Try.underlying24 rfl (by kernel_rfl)) rfl ⟨rfl, ?_⟩
  exact below_setCells (Nat.le_refl _) _ _ _ ((Below.refl _ _).alloc (Nat.le_refl _) _)

set_option maxHeartbeats 400000 in
theorem decode_sum (A : Option Addr) (m s c : Nat) (k : Int) (hk : k = 0 ∨ k = 1) (hs : sizeN k = s) (xs : List UInt8) (hm : 3 ≤ m) (w : World) (h : IsB w A (m + s) c xs) (hne : ¬ sumB k (xs.take m) = xs.drop m) :
    Calls Try.prog 16 #[.slice A (m + s) c, .int .i64 k] w
      fun e w' => e = .returned (.tuple #[.agg zeroL.toArray, .int .i64 6]) ∧ Below w.heap.size w w' := by
  have hp := sizeN_pos k hk
  have h63 := h.len63
  have HR := Lib.hid (fun W hW => remove_sum k hk A m s c hs xs W hW hne)
  clear hne
  go_enter Try.func16, Try.ntmps16
  go_wp2_with fail
  refine (size_any k _).mono ?_
  rintro e w1 ⟨rfl, rfl⟩
  rw [sizeI_eq, hs]
  rw [hs] at hp
  have h0 : ((s : Int) == 0) = false := by simp; omega
  clear hs
  go_wp2_with fail
  refine (HR.out _ (h.alloc _)).mono ?_
  rintro e w1 ⟨rfl, hb⟩
  have HTH := Lib.hid (there_below (there_zero w 24) (by simp) hb)
  go_wp2_with (refine wpList_store_mid rfl 24 _ _ rfl w.heap.size 0 #[.int .i64 0, .int .i64 0, .int .i64 0, .bool false, .int .i64 0, .bool false, .slice none 0 0] rfl rfl HTH.out (by kernel_rfl) (by simp [Value.oneCell']) ?_)
  refine bodyPost_ret (results_cell_tmp rfl _ _ w.heap.size 0 zeroL _ rfl (World.rangeAt_setCells_same _ w.heap.size 0 zeroL HTH.out) Try.underlying24 rfl (by kernel_rfl)) rfl ⟨rfl, ?_⟩
  exact below_setCells (Nat.le_refl _) _ _ _ (((Below.refl _ _).alloc (Nat.le_refl _) _).trans (hb.mono (by simp)))

set_option maxRecDepth 8000 in
set_option maxHeartbeats 2000000 in
theorem decode_form1 (A : Option Addr) (q s c : Nat) (k : Int) (hk : k = 0 ∨ k = 1) (hs : sizeN k = s) (xs : List UInt8) (b0 b1 b2 : UInt8) (inf : List UInt8) (w : World) (h : IsB w A (q + 3 + s) c xs) (hx : xs.length ≤ 900000)
    (heq : sumB k (xs.take (q + 3)) = xs.drop (q + 3)) (hbody : xs.take (q + 3) = b0 :: b1 :: b2 :: inf) (hok : okC b1.toNat = false) :
    Calls Try.prog 16 #[.slice A (q + 3 + s) c, .int .i64 k] w fun e w' => e = .returned (.tuple #[.agg zeroL.toArray, .int .i64 4]) ∧ Below w.heap.size w w' := by
  have hp := sizeN_pos k hk
  have h63 := h.len63
  have hq : inf.length = q := by have := congrArg List.length hbody; have := IsB.len h; simp at *; omega
  have HR := Lib.hid (fun W hW => remove_ok k hk A (q + 3) s c hs xs W hW hx heq)
  have hP := fun W => bparse_any b1.toNat (UInt8.toNat_lt b1) W
  rw [blkC_eq, hok] at hP
  generalize kindC b1.toNat = kd at *
  generalize seqC b1.toNat = sq at *
  generalize moreC b1.toNat = mo at *
  generalize codeC b1.toNat = co at *
  generalize ansC b1.toNat = an at *
  have HP := Lib.hid hP
  have HQ := Lib.hid (And.intro hq (And.intro hbody hx))
  clear heq hP hq hx
  go_enter Try.func16, Try.ntmps16
  go_wp2_with fail
  refine (size_any k _).mono ?_
  rintro e w1 ⟨rfl, rfl⟩
  rw [sizeI_eq, hs]
  rw [hs] at hp
  have h0 : ((s : Int) == 0) = false := by simp; omega
  clear hs
  go_wp2_with fail
  refine (HR.out _ (h.alloc _)).mono ?_
  rintro e w1 ⟨A1, n1, c1, rfl, ho, hb⟩
  have ho1 := ho.rd
  rw [HQ.out.2.1] at ho1
  have hn1 : n1 = q + 3 := by have := IsB.len ho1; have := HQ.out.1; simp at *; omega
  subst hn1
  obtain ⟨b, off, rfl, hcell⟩ := IsB.cells ho1 (by omega)
  have hx0 : w1.cell? ⟨b, off, none⟩ = some (.int .u8 (b0.toNat : Int)) := hcell 0 b0 rfl
  have hx1 : w1.cell? ⟨b, off + 1, none⟩ = some (.int .u8 (b1.toNat : Int)) := hcell 1 b1 rfl
  have hx2 : w1.cell? ⟨b, off + 2, none⟩ = some (.int .u8 (b2.toNat : Int)) := hcell 2 b2 rfl
  have hb0 : (b0.toNat : Int) < 256 := by have := UInt8.toNat_lt b0; omega
  have hb1 : (b1.toNat : Int) < 256 := by have := UInt8.toNat_lt b1; omega
  have hb2l : (b2.toNat : Int) < 256 := by have := UInt8.toNat_lt b2; omega
  have hcap := ho1.cap
  have hmax := ho1.len63.2
  have hbw1 : Below w.heap.size w w1 := ((Below.refl _ _).alloc (Nat.le_refl _) _).trans (hb.mono (by simp))
  have hz1 : w.heap.size < w1.heap.size := by have := hb.size; simp at this; omega
  have H1 := Lib.hid (And.intro ho1 (And.intro hbw1 (there_below (there_zero w 24) (by simp) hb)))
  have hblt := World.block_lt_of_cell? _ _ hx0
  have hblk : Hid (b ≠ w.heap.size) := by
    have h1 := (ho.lt b rfl).1
    simp at h1
    show b ≠ _
    omega
  clear ho ho1 hb hbw1 hcell
  go_wp2_with fail
  refine (HP.out _).mono ?_
  rintro e w2 ⟨rfl, hb⟩
  have hz2 : w1.heap.size ≤ w2.heap.size := hb.size
  have hbw2 := H1.out.2.1.trans (hb.mono H1.out.2.1.size)
  have H2 := Lib.hid (And.intro (Rd.below H1.out.1 hb) (And.intro hbw2 (there_below H1.out.2.2 hz1 hb)))
  have hy0 : w2.cell? ⟨b, off, none⟩ = some (.int .u8 (b0.toNat : Int)) := (hb.cell (p := ⟨b, off, none⟩) hblt).trans hx0
  have hy2 : w2.cell? ⟨b, off + 2, none⟩ = some (.int .u8 (b2.toNat : Int)) := (hb.cell (p := ⟨b, off + 2, none⟩) hblt).trans hx2
  have hblt2 : b < w2.heap.size := by omega
  have hy0' : (w2.alloc (.cells #[.int .i64 0, .int .i64 kd, .int .i64 sq, .bool mo, .int .i64 co, .bool an, .slice none 0 0] 24)).cell? ⟨b, off, none⟩ = some (.int .u8 (b0.toNat : Int)) := by rw [World.cell?_alloc_lt _ _ _ hblt2]; exact hy0
  have hy2' : (w2.alloc (.cells #[.int .i64 0, .int .i64 kd, .int .i64 sq, .bool mo, .int .i64 co, .bool an, .slice none 0 0] 24)).cell? ⟨b, off + 2, none⟩ = some (.int .u8 (b2.toNat : Int)) := by rw [World.cell?_alloc_lt _ _ _ hblt2]; exact hy2
  have hz : w.heap.size < w2.heap.size := by omega
  have HTH := Lib.hid (there_below H2.out.2.2 hz ((Below.refl _ _).alloc (Nat.le_refl _) (.cells #[.int .i64 0, .int .i64 kd, .int .i64 sq, .bool mo, .int .i64 co, .bool an, .slice none 0 0] 24)))
  clear hbw2 hb
  go_wp2_with (refine wpList_store_mid rfl 24 _ _ rfl w.heap.size 0 #[.int .i64 0, .int .i64 0, .int .i64 0, .bool false, .int .i64 0, .bool false, .slice none 0 0] rfl rfl HTH.out (by kernel_rfl) (by simp [Value.oneCell']) ?_)
  refine bodyPost_ret (results_cell_tmp rfl _ _ w.heap.size 0 zeroL _ rfl (World.rangeAt_setCells_same _ w.heap.size 0 zeroL HTH.out) Try.underlying24 rfl (by kernel_rfl)) rfl ⟨rfl, ?_⟩
  exact below_setCells (Nat.le_refl _) _ _ _ (H2.out.2.1.alloc H2.out.2.1.size _)

set_option maxRecDepth 8000 in
set_option maxHeartbeats 2000000 in
theorem decode_form2 (A : Option Addr) (q s c : Nat) (k : Int) (hk : k = 0 ∨ k = 1) (hs : sizeN k = s) (xs : List UInt8) (b0 b1 b2 : UInt8) (inf : List UInt8) (w : World) (h : IsB w A (q + 3 + s) c xs) (hx : xs.length ≤ 900000)
    (heq : sumB k (xs.take (q + 3)) = xs.drop (q + 3)) (hbody : xs.take (q + 3) = b0 :: b1 :: b2 :: inf) (hok : okC b1.toNat = true) (hb2 : b2.toNat ≠ inf.length) :
    Calls Try.prog 16 #[.slice A (q + 3 + s) c, .int .i64 k] w fun e w' => e = .returned (.tuple #[.agg zeroL.toArray, .int .i64 4]) ∧ Below w.heap.size w w' := by
  have hp := sizeN_pos k hk
  have h63 := h.len63
  have hq : inf.length = q := by have := congrArg List.length hbody; have := IsB.len h; simp at *; omega
  have HR := Lib.hid (fun W hW => remove_ok k hk A (q + 3) s c hs xs W hW hx heq)
  have hP := fun W => bparse_any b1.toNat (UInt8.toNat_lt b1) W
  rw [blkC_eq, hok] at hP
  generalize kindC b1.toNat = kd at *
  generalize seqC b1.toNat = sq at *
  generalize moreC b1.toNat = mo at *
  generalize codeC b1.toNat = co at *
  generalize ansC b1.toNat = an at *
  have HP := Lib.hid hP
  have HQ := Lib.hid (And.intro hq (And.intro hbody hx))
  clear heq hP hq hx
  go_enter Try.func16, Try.ntmps16
  go_wp2_with fail
  refine (size_any k _).mono ?_
  rintro e w1 ⟨rfl, rfl⟩
  rw [sizeI_eq, hs]
  rw [hs] at hp
  have h0 : ((s : Int) == 0) = false := by simp; omega
  clear hs
  go_wp2_with fail
  refine (HR.out _ (h.alloc _)).mono ?_
  rintro e w1 ⟨A1, n1, c1, rfl, ho, hb⟩
  have ho1 := ho.rd
  rw [HQ.out.2.1] at ho1
  have hn1 : n1 = q + 3 := by have := IsB.len ho1; have := HQ.out.1; simp at *; omega
  subst hn1
  obtain ⟨b, off, rfl, hcell⟩ := IsB.cells ho1 (by omega)
  have hx0 : w1.cell? ⟨b, off, none⟩ = some (.int .u8 (b0.toNat : Int)) := hcell 0 b0 rfl
  have hx1 : w1.cell? ⟨b, off + 1, none⟩ = some (.int .u8 (b1.toNat : Int)) := hcell 1 b1 rfl
  have hx2 : w1.cell? ⟨b, off + 2, none⟩ = some (.int .u8 (b2.toNat : Int)) := hcell 2 b2 rfl
  have hb0 : (b0.toNat : Int) < 256 := by have := UInt8.toNat_lt b0; omega
  have hb1 : (b1.toNat : Int) < 256 := by have := UInt8.toNat_lt b1; omega
  have hb2l : (b2.toNat : Int) < 256 := by have := UInt8.toNat_lt b2; omega
  have hcap := ho1.cap
  have hmax := ho1.len63.2
  have hbw1 : Below w.heap.size w w1 := ((Below.refl _ _).alloc (Nat.le_refl _) _).trans (hb.mono (by simp))
  have hz1 : w.heap.size < w1.heap.size := by have := hb.size; simp at this; omega
  have H1 := Lib.hid (And.intro ho1 (And.intro hbw1 (there_below (there_zero w 24) (by simp) hb)))
  have hblt := World.block_lt_of_cell? _ _ hx0
  have hblk : Hid (b ≠ w.heap.size) := by
    have h1 := (ho.lt b rfl).1
    simp at h1
    show b ≠ _
    omega
  clear ho ho1 hb hbw1 hcell
  go_wp2_with fail
  refine (HP.out _).mono ?_
  rintro e w2 ⟨rfl, hb⟩
  have hz2 : w1.heap.size ≤ w2.heap.size := hb.size
  have hbw2 := H1.out.2.1.trans (hb.mono H1.out.2.1.size)
  have H2 := Lib.hid (And.intro (Rd.below H1.out.1 hb) (And.intro hbw2 (there_below H1.out.2.2 hz1 hb)))
  have hy0 : w2.cell? ⟨b, off, none⟩ = some (.int .u8 (b0.toNat : Int)) := (hb.cell (p := ⟨b, off, none⟩) hblt).trans hx0
  have hy2 : w2.cell? ⟨b, off + 2, none⟩ = some (.int .u8 (b2.toNat : Int)) := (hb.cell (p := ⟨b, off + 2, none⟩) hblt).trans hx2
  have hblt2 : b < w2.heap.size := by omega
  have hy0' : (w2.alloc (.cells #[.int .i64 0, .int .i64 kd, .int .i64 sq, .bool mo, .int .i64 co, .bool an, .slice none 0 0] 24)).cell? ⟨b, off, none⟩ = some (.int .u8 (b0.toNat : Int)) := by rw [World.cell?_alloc_lt _ _ _ hblt2]; exact hy0
  have hy2' : (w2.alloc (.cells #[.int .i64 0, .int .i64 kd, .int .i64 sq, .bool mo, .int .i64 co, .bool an, .slice none 0 0] 24)).cell? ⟨b, off + 2, none⟩ = some (.int .u8 (b2.toNat : Int)) := by rw [World.cell?_alloc_lt _ _ _ hblt2]; exact hy2
  have hz : w.heap.size < w2.heap.size := by omega
  have HTH := Lib.hid (there_below H2.out.2.2 hz ((Below.refl _ _).alloc (Nat.le_refl _) (.cells #[.int .i64 0, .int .i64 kd, .int .i64 sq, .bool mo, .int .i64 co, .bool an, .slice none 0 0] 24)))
  clear hbw2 hb
  have hne : ((b2.toNat : Int) != (q : Int)) = true := by have := HQ.out.1; simp; omega
  have hne' : (b2.toNat != q) = true := by have := HQ.out.1; simp; omega
  clear hb2
  go_wp2_with (refine wpList_store_mid rfl 24 _ _ rfl w.heap.size 0 #[.int .i64 0, .int .i64 0, .int .i64 0, .bool false, .int .i64 0, .bool false, .slice none 0 0] rfl rfl HTH.out (by kernel_rfl) (by simp [Value.oneCell']) ?_)
  refine bodyPost_ret (results_cell_tmp rfl _ _ w.heap.size 0 zeroL _ rfl (World.rangeAt_setCells_same _ w.heap.size 0 zeroL HTH.out) Try.underlying24 rfl (by kernel_rfl)) rfl ⟨rfl, ?_⟩
  exact below_setCells (Nat.le_refl _) _ _ _ (H2.out.2.1.alloc H2.out.2.1.size _)

set_option maxRecDepth 8000 in
set_option maxHeartbeats 2000000 in
theorem decode_bad (A : Option Addr) (q s c : Nat) (k : Int) (hk : k = 0 ∨ k = 1) (hs : sizeN k = s) (xs : List UInt8) (b0 b1 b2 : UInt8) (inf : List UInt8) (w : World) (h : IsB w A (q + 3 + s) c xs) (hx : xs.length ≤ 900000)
    (heq : sumB k (xs.take (q + 3)) = xs.drop (q + 3)) (hbody : xs.take (q + 3) = b0 :: b1 :: b2 :: inf) (hok : okC b1.toNat = true) (hb2 : b2.toNat = inf.length) (er : Int) (her : checkE b0.toNat (kindC b1.toNat) (seqC b1.toNat) (moreC b1.toNat) (codeC b1.toNat) (ansC b1.toNat) inf = er) (hne0 : (er != 0) = true) :
    Calls Try.prog 16 #[.slice A (q + 3 + s) c, .int .i64 k] w fun e w' => e = .returned (.tuple #[.agg zeroL.toArray, .int .i64 er]) ∧ Below w.heap.size w w' := by
  have hp := sizeN_pos k hk
  have h63 := h.len63
  have hq : inf.length = q := by have := congrArg List.length hbody; have := IsB.len h; simp at *; omega
  have HR := Lib.hid (fun W hW => remove_ok k hk A (q + 3) s c hs xs W hW hx heq)
  have hP := fun W => bparse_any b1.toNat (UInt8.toNat_lt b1) W
  rw [blkC_eq, hok] at hP
  generalize kindC b1.toNat = kd at *
  generalize seqC b1.toNat = sq at *
  generalize moreC b1.toNat = mo at *
  generalize codeC b1.toNat = co at *
  generalize ansC b1.toNat = an at *
  have HP := Lib.hid hP
  have HQ := Lib.hid (And.intro hq (And.intro hbody hx))
  clear heq hP hq hx
  go_enter Try.func16, Try.ntmps16
  go_wp2_with fail
  refine (size_any k _).mono ?_
  rintro e w1 ⟨rfl, rfl⟩
  rw [sizeI_eq, hs]
  rw [hs] at hp
  have h0 : ((s : Int) == 0) = false := by simp; omega
  clear hs
  go_wp2_with fail
  refine (HR.out _ (h.alloc _)).mono ?_
  rintro e w1 ⟨A1, n1, c1, rfl, ho, hb⟩
  have ho1 := ho.rd
  rw [HQ.out.2.1] at ho1
  have hn1 : n1 = q + 3 := by have := IsB.len ho1; have := HQ.out.1; simp at *; omega
  subst hn1
  obtain ⟨b, off, rfl, hcell⟩ := IsB.cells ho1 (by omega)
  have hx0 : w1.cell? ⟨b, off, none⟩ = some (.int .u8 (b0.toNat : Int)) := hcell 0 b0 rfl
  have hx1 : w1.cell? ⟨b, off + 1, none⟩ = some (.int .u8 (b1.toNat : Int)) := hcell 1 b1 rfl
  have hx2 : w1.cell? ⟨b, off + 2, none⟩ = some (.int .u8 (b2.toNat : Int)) := hcell 2 b2 rfl
  have hb0 : (b0.toNat : Int) < 256 := by have := UInt8.toNat_lt b0; omega
  have hb1 : (b1.toNat : Int) < 256 := by have := UInt8.toNat_lt b1; omega
  have hb2l : (b2.toNat : Int) < 256 := by have := UInt8.toNat_lt b2; omega
  have hcap := ho1.cap
  have hmax := ho1.len63.2
  have hbw1 : Below w.heap.size w w1 := ((Below.refl _ _).alloc (Nat.le_refl _) _).trans (hb.mono (by simp))
  have hz1 : w.heap.size < w1.heap.size := by have := hb.size; simp at this; omega
  have H1 := Lib.hid (And.intro ho1 (And.intro hbw1 (there_below (there_zero w 24) (by simp) hb)))
  have hblt := World.block_lt_of_cell? _ _ hx0
  have hblk : Hid (b ≠ w.heap.size) := by
    have h1 := (ho.lt b rfl).1
    simp at h1
    show b ≠ _
    omega
  clear ho ho1 hb hbw1 hcell
  go_wp2_with fail
  refine (HP.out _).mono ?_
  rintro e w2 ⟨rfl, hb⟩
  have hz2 : w1.heap.size ≤ w2.heap.size := hb.size
  have hbw2 := H1.out.2.1.trans (hb.mono H1.out.2.1.size)
  have H2 := Lib.hid (And.intro (Rd.below H1.out.1 hb) (And.intro hbw2 (there_below H1.out.2.2 hz1 hb)))
  have hy0 : w2.cell? ⟨b, off, none⟩ = some (.int .u8 (b0.toNat : Int)) := (hb.cell (p := ⟨b, off, none⟩) hblt).trans hx0
  have hy2 : w2.cell? ⟨b, off + 2, none⟩ = some (.int .u8 (b2.toNat : Int)) := (hb.cell (p := ⟨b, off + 2, none⟩) hblt).trans hx2
  have hblt2 : b < w2.heap.size := by omega
  have hy0' : (w2.alloc (.cells #[.int .i64 0, .int .i64 kd, .int .i64 sq, .bool mo, .int .i64 co, .bool an, .slice none 0 0] 24)).cell? ⟨b, off, none⟩ = some (.int .u8 (b0.toNat : Int)) := by rw [World.cell?_alloc_lt _ _ _ hblt2]; exact hy0
  have hy2' : (w2.alloc (.cells #[.int .i64 0, .int .i64 kd, .int .i64 sq, .bool mo, .int .i64 co, .bool an, .slice none 0 0] 24)).cell? ⟨b, off + 2, none⟩ = some (.int .u8 (b2.toNat : Int)) := by rw [World.cell?_alloc_lt _ _ _ hblt2]; exact hy2
  have hz : w.heap.size < w2.heap.size := by omega
  have HTH := Lib.hid (there_below H2.out.2.2 hz ((Below.refl _ _).alloc (Nat.le_refl _) (.cells #[.int .i64 0, .int .i64 kd, .int .i64 sq, .bool mo, .int .i64 co, .bool an, .slice none 0 0] 24)))
  clear hbw2 hb
  have hb2' : (b2.toNat : Int) = (q : Int) := by have := HQ.out.1; omega
  have hb2n : b2.toNat = q := by omega
  have hth : ((w2.alloc (.cells #[.int .i64 0, .int .i64 kd, .int .i64 sq, .bool mo, .int .i64 co, .bool an, .slice none 0 0] 24)).drew).there w2.heap.size 0 7 := there_of_cells (cs := #[.int .i64 0, .int .i64 kd, .int .i64 sq, .bool mo, .int .i64 co, .bool an, .slice none 0 0]) (t := 24) (heap_alloc_new w2 _) rfl
  have hbk := hblk.out
  have hbg : b ≠ w2.heap.size := by omega
  have HC : Hid (∀ (A : Option Addr) (n c : Nat) (W : World), IsB W A n c inf → Calls Try.prog 10 #[.agg #[.int .i64 (b0.toNat : Int), .int .i64 kd, .int .i64 sq, .bool mo, .int .i64 co, .bool an, .slice A n c]] W
      fun e w' => e = .returned (.int .i64 er) ∧ Below W.heap.size W w') := fun A n c W hW => by
    have := check_any b0.toNat kd sq mo co an A n c inf W hW
    rwa [her] at this
  clear her
  rw [hb2n] at *
  go_wp2_with fail
  refine wp_region_list' (T := TG w2.heap.size (.int .i64 (b0.toNat : Int)) inf) [St.is (.slice (some ⟨b, off, none⟩) (q + 3) c1), St.is (.pointer (some ⟨b, off, none⟩)), St.is (.int .u8 (b0.toNat : Int)), St.is (.int .i64 (b0.toNat : Int)), St.is (.slice (some ⟨b, off, none⟩) (q + 3) c1), St.pred (fun v' w' => ∃ A' c', v' = .slice A' q c' ∧ IsB w' A' q c' inf ∧ ∀ b off, A' = some ⟨b, off, none⟩ → b ≠ w2.heap.size) (fun _ _ _ h ⟨A, c, e, r, s⟩ => ⟨A, c, e, grown_keepB h.grown r s, s⟩), St.pred (fun v' w' => ∃ A' n' c', v' = .slice A' n' c' ∧ IsB w' A' n' c' inf ∧ ∀ b off, A' = some ⟨b, off, none⟩ → w2.heap.size < b) (fun _ _ _ h ⟨A, n, c, e, r, s⟩ => ⟨A, n, c, e, grown_keepB h.grown r (fun b off e => by have := s b off e; omega), s⟩), St.is (.pointer (some ⟨w2.heap.size, 0, none⟩)), St.pred (fun v' w' => w'.cell? ⟨w2.heap.size, 0, none⟩ = some (.int .i64 (b0.toNat : Int))) (fun _ _ _ h q => h.zero q), St.is (.pointer (some ⟨w2.heap.size, 6, none⟩)), St.pred (fun v' w' => Six w2.heap.size inf w') (fun _ _ _ h q => h.six q)] (by kernel_rfl) (by kernel_rfl) (TG.refl) (TG.trans) ⟨?s0, ?s1, ?s2, ?s3, ?s4, ?s5, ?s6, ?s7, ?s8, ?s9, ?s10, trivial⟩ ?hfin
  case s0 =>
    intro a w' K hT hf hw hK
    refine step_free ?_ ?_
    · rfl
    have h7 : a.tmps[7]?.getD undef = .slice (some ⟨b, off, none⟩) (q + 3) c1 := hf 7 (by kernel_rfl)
    clear hf hw
    go_simp
    exact hK _ _ (TG.refl _) rfl
  case s1 =>
    intro a w' K hT hf hw hK
    refine step_free ?_ ?_
    · rfl
    have h54 : a.tmps[54]?.getD undef = .slice (some ⟨b, off, none⟩) (q + 3) c1 := hw.1
    clear hf hw
    have hq0 : (0 : Int) < (q : Int) + 3 := by omega
    go_simp
    exact hK _ _ (TG.refl _) rfl
  case s2 =>
    intro a w' K hT hf hw hK
    refine step_free ?_ ?_
    · rfl
    have h55 : a.tmps[55]?.getD undef = .pointer (some ⟨b, off, none⟩) := hw.1
    clear hf hw
    have hcc : w'.cell? ⟨b, off, none⟩ = some (.int .u8 (b0.toNat : Int)) := (World.cell?_of_block (a := ⟨b, off, none⟩) (hT.grown.block b (by simp; omega) (fun e => by injection e with e; omega))).trans hy0'
    go_simp
    exact hK _ _ (TG.refl _) rfl
  case s3 =>
    intro a w' K hT hf hw hK
    refine step_free ?_ ?_
    · rfl
    have h56 : a.tmps[56]?.getD undef = .int .u8 (b0.toNat : Int) := hw.1
    clear hf hw
    have hwr : IntKind.i64.wrap (b0.toNat : Int) = (b0.toNat : Int) := IntWalk.i64_in _ (by omega)
    go_simp
    exact hK _ _ (TG.refl _) rfl
  case s4 =>
    intro a w' K hT hf hw hK
    refine step_free ?_ ?_
    · rfl
    have h7 : a.tmps[7]?.getD undef = .slice (some ⟨b, off, none⟩) (q + 3) c1 := hf 7 (by kernel_rfl)
    clear hf hw
    go_simp
    exact hK _ _ (TG.refl _) rfl
  case s5 =>
    intro a w' K hT hf hw hK
    refine step_free ?_ ?_
    · rfl
    have h58 : a.tmps[58]?.getD undef = .slice (some ⟨b, off, none⟩) (q + 3) c1 := hw.1
    clear hf hw
    have hrr : IsB w' (some ⟨b, off, none⟩) (q + 3) c1 (b0 :: b1 :: b2 :: inf) := grown_keepB hT.grown (Rd.drew (Rd.alloc H2.out.1 _)) (fun b' off' e => by injection e with e; injection e with e1 e2; omega)
    have hcut := IsB.cut hrr (k := 3) (by omega)
    rw [show q + 3 - 3 = q by omega] at hcut
    have hcut : IsB w' (if c1 = 3 then some ⟨b, off, none⟩ else some ⟨b, off + 3, none⟩) q (c1 - 3) inf := hcut
    have hcutg : ∀ b' off', (if c1 = 3 then some (⟨b, off, none⟩ : Addr) else some ⟨b, off + 3, none⟩) = some ⟨b', off', none⟩ → b' ≠ w2.heap.size := by intro b' off' e; split at e <;> (injection e with e; injection e with e1 e2; omega)
    have HCC := Lib.hid (And.intro hcut hcutg)
    clear hcut hcutg hrr
    go_simp
    refine hK _ _ (TG.refl _) ?_
    exact ⟨_, _, rfl, HCC.out.1, HCC.out.2⟩
  case s6 =>
    intro a w' K hT hf hw hK
    refine step_free ?_ ?_
    · rfl
    have h59 := hw.1
    clear hf hw
    obtain ⟨A5, c5, h59, h5r, h5g⟩ := h59
    have h59 : a.tmps[59]?.getD undef = .slice A5 q c5 := h59
    have hgl : w2.heap.size < w'.heap.size := by have := hT.grown.size; simp at this; omega
    go_simp
    refine (clone_any A5 q c5 inf _ h5r (by have := HQ.out.1; have := HQ.out.2; simp at *; omega)).mono ?_
    rintro e w3 ⟨A3, n3, c3, rfl, ho3, hb3⟩
    refine hK _ _ (TG.of_below hgl hb3) ?_
    refine ⟨A3, n3, c3, rfl, ho3.rd, fun b off e => ?_⟩
    subst e
    have := (ho3.lt b rfl).1
    omega
  case s7 =>
    intro a w' K hT hf hw hK
    refine step_free ?_ ?_
    · rfl
    have h9 : a.tmps[9]?.getD undef = .pointer (some ⟨w2.heap.size, 0, none⟩) := hf 9 (by kernel_rfl)
    clear hf hw
    go_simp
    exact hK _ _ (TG.refl _) rfl
  case s8 =>
    intro a w' K hT hf hw hK
    refine step_free ?_ ?_
    · rfl
    have h61 : a.tmps[61]?.getD undef = .pointer (some ⟨w2.heap.size, 0, none⟩) := hw.1
    have h57 : a.tmps[57]?.getD undef = .int .i64 (b0.toNat : Int) := hw.2.1
    clear hf hw
    obtain ⟨u0, hu0⟩ := Option.isSome_iff_exists.1 (hT.there hth 0 (by omega)).1
    have hf0 := (hT.there hth 0 (by omega)).2
    simp only [Nat.zero_add] at hu0 hf0
    go_simp
    exact hK undef _ (TG.set0 (hT.there hth)).1 (TG.set0 (v0 := .int .i64 (b0.toNat : Int)) (inf := inf) (hT.there hth)).2
  case s9 =>
    intro a w' K hT hf hw hK
    refine step_free ?_ ?_
    · rfl
    have h9 : a.tmps[9]?.getD undef = .pointer (some ⟨w2.heap.size, 0, none⟩) := hf 9 (by kernel_rfl)
    clear hf hw
    go_simp
    exact hK _ _ (TG.refl _) rfl
  case s10 =>
    intro a w' K hT hf hw hK
    refine step_free ?_ ?_
    · rfl
    have h62 : a.tmps[62]?.getD undef = .pointer (some ⟨w2.heap.size, 6, none⟩) := hw.1
    have h60 := hw.2.1
    clear hf hw
    obtain ⟨A6, n6, c6, h60, h6r, h6g⟩ := h60
    have h60 : a.tmps[60]?.getD undef = .slice A6 n6 c6 := h60
    obtain ⟨u0, hu0⟩ := Option.isSome_iff_exists.1 (hT.there hth 6 (by omega)).1
    have hf0 := (hT.there hth 6 (by omega)).2
    simp only [Nat.zero_add] at hu0 hf0
    go_simp
    exact hK undef _ (TG.set6 (hT.there hth) h6r h6g).1 (TG.set6 (v0 := .int .i64 (b0.toNat : Int)) (hT.there hth) h6r h6g).2
  case hfin =>
    rintro vs w' hT ⟨f0, f1, f2, f3, f4, f5, f6, f7, f8, f9, f10, -⟩
    have e0 : vs 0 = .slice (some ⟨b, off, none⟩) (q + 3) c1 := f0
    have e1 : vs 1 = .pointer (some ⟨b, off, none⟩) := f1
    have e2 : vs 2 = .int .u8 (b0.toNat : Int) := f2
    have e3 : vs 3 = .int .i64 (b0.toNat : Int) := f3
    have e4 : vs 4 = .slice (some ⟨b, off, none⟩) (q + 3) c1 := f4
    have e7 : vs 7 = .pointer (some ⟨w2.heap.size, 0, none⟩) := f7
    have e9 : vs 9 = .pointer (some ⟨w2.heap.size, 6, none⟩) := f9
    simp only [putsAt, Act.put, e0, e1, e2, e3, e4, e7, e9]
    simp only [List.setIfInBounds_toArray, List.set_cons_succ, List.set_cons_zero]
    clear e0 e1 e2 e3 e4 e7 e9 f0 f1 f2 f3 f4 f7 f9
    have hz0 : w'.cell? ⟨w2.heap.size, 0, none⟩ = some (.int .i64 (b0.toNat : Int)) := f8
    obtain ⟨A6, n6, c6, hz6, hr6, hs6⟩ : Six w2.heap.size inf w' := f10
    have hmid : ∀ j v, 1 ≤ j → j ≤ 5 → [.int .i64 0, .int .i64 kd, .int .i64 sq, .bool mo, .int .i64 co, .bool an, .slice none 0 0][j]? = some v → w'.cell? ⟨w2.heap.size, j, none⟩ = some v := fun j v h1 h5 hv => (hT.mid j h1 h5).trans ((cell_new w2 _ _ j).trans hv)
    have hz1 := hmid 1 _ (by omega) (by omega) rfl
    have hz2 := hmid 2 _ (by omega) (by omega) rfl
    have hz3 := hmid 3 _ (by omega) (by omega) rfl
    have hz4 := hmid 4 _ (by omega) (by omega) rfl
    have hz5 := hmid 5 _ (by omega) (by omega) rfl
    have hsz : w2.heap.size < w'.heap.size := by have := hT.grown.size; simp at this; omega
    have hbw' : Below w.heap.size w w' := (H2.out.2.1.alloc H2.out.2.1.size _).drew.grown hT.grown (by have := H2.out.2.1.size; simp; omega) (fun k hk => by injection hk with hk; omega)
    have hthR : w'.there w.heap.size 0 7 := fun j hj => ⟨by rw [World.cell?_of_block (a := ⟨w.heap.size, 0 + j, none⟩) (hT.grown.block w.heap.size (by simp; omega) (fun e => by injection e with e; omega))]; exact (HTH.out j hj).1, by rw [World.frozen?_of_block (a := ⟨w.heap.size, 0 + j, none⟩) (hT.grown.block w.heap.size (by simp; omega) (fun e => by injection e with e; omega))]; exact (HTH.out j hj).2⟩
    have HW := Lib.hid (And.intro hbw' (And.intro hthR (And.intro hr6 hs6)))
    clear f8 hmid hbw' hthR hr6 hs6 f5 f6 hT
    go_wp2_with fail
    refine (HC.out _ _ _ _ HW.out.2.2.1).mono ?_
    rintro e w5 ⟨rfl, hb5⟩
    have hzR : w.heap.size < w'.heap.size := by omega
    have HTH5 := Lib.hid (there_below HW.out.2.1 hzR hb5)
    have HB5 := Lib.hid (HW.out.1.trans (hb5.mono HW.out.1.size))
    go_wp2_with (refine wpList_store_mid rfl 24 _ _ rfl w.heap.size 0 #[.int .i64 0, .int .i64 0, .int .i64 0, .bool false, .int .i64 0, .bool false, .slice none 0 0] rfl rfl HTH5.out (by kernel_rfl) (by simp [Value.oneCell']) ?_)
    refine bodyPost_ret (results_cell_tmp rfl _ _ w.heap.size 0 zeroL _ rfl (World.rangeAt_setCells_same _ w.heap.size 0 zeroL HTH5.out) Try.underlying24 rfl (by kernel_rfl)) rfl ⟨rfl, ?_⟩
    exact below_setCells (Nat.le_refl _) _ _ _ HB5.out

set_option maxRecDepth 8000 in
set_option maxHeartbeats 2000000 in
theorem decode_ok (A : Option Addr) (q s c : Nat) (k : Int) (hk : k = 0 ∨ k = 1) (hs : sizeN k = s) (xs : List UInt8) (b0 b1 b2 : UInt8) (inf : List UInt8) (w : World) (h : IsB w A (q + 3 + s) c xs) (hx : xs.length ≤ 900000)
    (heq : sumB k (xs.take (q + 3)) = xs.drop (q + 3)) (hbody : xs.take (q + 3) = b0 :: b1 :: b2 :: inf) (hok : okC b1.toNat = true) (hb2 : b2.toNat = inf.length) (her : checkE b0.toNat (kindC b1.toNat) (seqC b1.toNat) (moreC b1.toNat) (codeC b1.toNat) (ansC b1.toNat) inf = 0) :
    Calls Try.prog 16 #[.slice A (q + 3 + s) c, .int .i64 k] w fun e w' => ∃ A6 n6 c6, e = .returned (.tuple #[.agg #[.int .i64 (b0.toNat : Int), .int .i64 (kindC b1.toNat), .int .i64 (seqC b1.toNat), .bool (moreC b1.toNat), .int .i64 (codeC b1.toNat), .bool (ansC b1.toNat), .slice A6 n6 c6], .int .i64 0]) ∧ IsB w' A6 n6 c6 inf ∧ Below w.heap.size w w' := by
  have hp := sizeN_pos k hk
  have h63 := h.len63
  have hq : inf.length = q := by have := congrArg List.length hbody; have := IsB.len h; simp at *; omega
  have HR := Lib.hid (fun W hW => remove_ok k hk A (q + 3) s c hs xs W hW hx heq)
  have hP := fun W => bparse_any b1.toNat (UInt8.toNat_lt b1) W
  rw [blkC_eq, hok] at hP
  generalize kindC b1.toNat = kd at *
  generalize seqC b1.toNat = sq at *
  generalize moreC b1.toNat = mo at *
  generalize codeC b1.toNat = co at *
  generalize ansC b1.toNat = an at *
  have HP := Lib.hid hP
  have HQ := Lib.hid (And.intro hq (And.intro hbody hx))
  clear heq hP hq hx
  go_enter Try.func16, Try.ntmps16
  go_wp2_with fail
  refine (size_any k _).mono ?_
  rintro e w1 ⟨rfl, rfl⟩
  rw [sizeI_eq, hs]
  rw [hs] at hp
  have h0 : ((s : Int) == 0) = false := by simp; omega
  clear hs
  go_wp2_with fail
  refine (HR.out _ (h.alloc _)).mono ?_
  rintro e w1 ⟨A1, n1, c1, rfl, ho, hb⟩
  have ho1 := ho.rd
  rw [HQ.out.2.1] at ho1
  have hn1 : n1 = q + 3 := by have := IsB.len ho1; have := HQ.out.1; simp at *; omega
  subst hn1
  obtain ⟨b, off, rfl, hcell⟩ := IsB.cells ho1 (by omega)
  have hx0 : w1.cell? ⟨b, off, none⟩ = some (.int .u8 (b0.toNat : Int)) := hcell 0 b0 rfl
  have hx1 : w1.cell? ⟨b, off + 1, none⟩ = some (.int .u8 (b1.toNat : Int)) := hcell 1 b1 rfl
  have hx2 : w1.cell? ⟨b, off + 2, none⟩ = some (.int .u8 (b2.toNat : Int)) := hcell 2 b2 rfl
  have hb0 : (b0.toNat : Int) < 256 := by have := UInt8.toNat_lt b0; omega
  have hb1 : (b1.toNat : Int) < 256 := by have := UInt8.toNat_lt b1; omega
  have hb2l : (b2.toNat : Int) < 256 := by have := UInt8.toNat_lt b2; omega
  have hcap := ho1.cap
  have hmax := ho1.len63.2
  have hbw1 : Below w.heap.size w w1 := ((Below.refl _ _).alloc (Nat.le_refl _) _).trans (hb.mono (by simp))
  have hz1 : w.heap.size < w1.heap.size := by have := hb.size; simp at this; omega
  have H1 := Lib.hid (And.intro ho1 (And.intro hbw1 (there_below (there_zero w 24) (by simp) hb)))
  have hblt := World.block_lt_of_cell? _ _ hx0
  have hblk : Hid (b ≠ w.heap.size) := by
    have h1 := (ho.lt b rfl).1
    simp at h1
    show b ≠ _
    omega
  clear ho ho1 hb hbw1 hcell
  go_wp2_with fail
  refine (HP.out _).mono ?_
  rintro e w2 ⟨rfl, hb⟩
  have hz2 : w1.heap.size ≤ w2.heap.size := hb.size
  have hbw2 := H1.out.2.1.trans (hb.mono H1.out.2.1.size)
  have H2 := Lib.hid (And.intro (Rd.below H1.out.1 hb) (And.intro hbw2 (there_below H1.out.2.2 hz1 hb)))
  have hy0 : w2.cell? ⟨b, off, none⟩ = some (.int .u8 (b0.toNat : Int)) := (hb.cell (p := ⟨b, off, none⟩) hblt).trans hx0
  have hy2 : w2.cell? ⟨b, off + 2, none⟩ = some (.int .u8 (b2.toNat : Int)) := (hb.cell (p := ⟨b, off + 2, none⟩) hblt).trans hx2
  have hblt2 : b < w2.heap.size := by omega
  have hy0' : (w2.alloc (.cells #[.int .i64 0, .int .i64 kd, .int .i64 sq, .bool mo, .int .i64 co, .bool an, .slice none 0 0] 24)).cell? ⟨b, off, none⟩ = some (.int .u8 (b0.toNat : Int)) := by rw [World.cell?_alloc_lt _ _ _ hblt2]; exact hy0
  have hy2' : (w2.alloc (.cells #[.int .i64 0, .int .i64 kd, .int .i64 sq, .bool mo, .int .i64 co, .bool an, .slice none 0 0] 24)).cell? ⟨b, off + 2, none⟩ = some (.int .u8 (b2.toNat : Int)) := by rw [World.cell?_alloc_lt _ _ _ hblt2]; exact hy2
  have hz : w.heap.size < w2.heap.size := by omega
  have HTH := Lib.hid (there_below H2.out.2.2 hz ((Below.refl _ _).alloc (Nat.le_refl _) (.cells #[.int .i64 0, .int .i64 kd, .int .i64 sq, .bool mo, .int .i64 co, .bool an, .slice none 0 0] 24)))
  clear hbw2 hb
  have hb2' : (b2.toNat : Int) = (q : Int) := by have := HQ.out.1; omega
  have hb2n : b2.toNat = q := by omega
  have hth : ((w2.alloc (.cells #[.int .i64 0, .int .i64 kd, .int .i64 sq, .bool mo, .int .i64 co, .bool an, .slice none 0 0] 24)).drew).there w2.heap.size 0 7 := there_of_cells (cs := #[.int .i64 0, .int .i64 kd, .int .i64 sq, .bool mo, .int .i64 co, .bool an, .slice none 0 0]) (t := 24) (heap_alloc_new w2 _) rfl
  have hbk := hblk.out
  have hbg : b ≠ w2.heap.size := by omega
  have HC : Hid (∀ (A : Option Addr) (n c : Nat) (W : World), IsB W A n c inf → Calls Try.prog 10 #[.agg #[.int .i64 (b0.toNat : Int), .int .i64 kd, .int .i64 sq, .bool mo, .int .i64 co, .bool an, .slice A n c]] W
      fun e w' => e = .returned (.int .i64 0) ∧ Below W.heap.size W w') := fun A n c W hW => by
    have := check_any b0.toNat kd sq mo co an A n c inf W hW
    rwa [her] at this
  clear her
  rw [hb2n] at *
  go_wp2_with fail
  refine wp_region_list' (T := TG w2.heap.size (.int .i64 (b0.toNat : Int)) inf) [St.is (.slice (some ⟨b, off, none⟩) (q + 3) c1), St.is (.pointer (some ⟨b, off, none⟩)), St.is (.int .u8 (b0.toNat : Int)), St.is (.int .i64 (b0.toNat : Int)), St.is (.slice (some ⟨b, off, none⟩) (q + 3) c1), St.pred (fun v' w' => ∃ A' c', v' = .slice A' q c' ∧ IsB w' A' q c' inf ∧ ∀ b off, A' = some ⟨b, off, none⟩ → b ≠ w2.heap.size) (fun _ _ _ h ⟨A, c, e, r, s⟩ => ⟨A, c, e, grown_keepB h.grown r s, s⟩), St.pred (fun v' w' => ∃ A' n' c', v' = .slice A' n' c' ∧ IsB w' A' n' c' inf ∧ ∀ b off, A' = some ⟨b, off, none⟩ → w2.heap.size < b) (fun _ _ _ h ⟨A, n, c, e, r, s⟩ => ⟨A, n, c, e, grown_keepB h.grown r (fun b off e => by have := s b off e; omega), s⟩), St.is (.pointer (some ⟨w2.heap.size, 0, none⟩)), St.pred (fun v' w' => w'.cell? ⟨w2.heap.size, 0, none⟩ = some (.int .i64 (b0.toNat : Int))) (fun _ _ _ h q => h.zero q), St.is (.pointer (some ⟨w2.heap.size, 6, none⟩)), St.pred (fun v' w' => Six w2.heap.size inf w') (fun _ _ _ h q => h.six q)] (by kernel_rfl) (by kernel_rfl) (TG.refl) (TG.trans) ⟨?s0, ?s1, ?s2, ?s3, ?s4, ?s5, ?s6, ?s7, ?s8, ?s9, ?s10, trivial⟩ ?hfin
  case s0 =>
    intro a w' K hT hf hw hK
    refine step_free ?_ ?_
    · rfl
    have h7 : a.tmps[7]?.getD undef = .slice (some ⟨b, off, none⟩) (q + 3) c1 := hf 7 (by kernel_rfl)
    clear hf hw
    go_simp
    exact hK _ _ (TG.refl _) rfl
  case s1 =>
    intro a w' K hT hf hw hK
    refine step_free ?_ ?_
    · rfl
    have h54 : a.tmps[54]?.getD undef = .slice (some ⟨b, off, none⟩) (q + 3) c1 := hw.1
    clear hf hw
    have hq0 : (0 : Int) < (q : Int) + 3 := by omega
    go_simp
    exact hK _ _ (TG.refl _) rfl
  case s2 =>
    intro a w' K hT hf hw hK
    refine step_free ?_ ?_
    · rfl
    have h55 : a.tmps[55]?.getD undef = .pointer (some ⟨b, off, none⟩) := hw.1
    clear hf hw
    have hcc : w'.cell? ⟨b, off, none⟩ = some (.int .u8 (b0.toNat : Int)) := (World.cell?_of_block (a := ⟨b, off, none⟩) (hT.grown.block b (by simp; omega) (fun e => by injection e with e; omega))).trans hy0'
    go_simp
    exact hK _ _ (TG.refl _) rfl
  case s3 =>
    intro a w' K hT hf hw hK
    refine step_free ?_ ?_
    · rfl
    have h56 : a.tmps[56]?.getD undef = .int .u8 (b0.toNat : Int) := hw.1
    clear hf hw
    have hwr : IntKind.i64.wrap (b0.toNat : Int) = (b0.toNat : Int) := IntWalk.i64_in _ (by omega)
    go_simp
    exact hK _ _ (TG.refl _) rfl
  case s4 =>
    intro a w' K hT hf hw hK
    refine step_free ?_ ?_
    · rfl
    have h7 : a.tmps[7]?.getD undef = .slice (some ⟨b, off, none⟩) (q + 3) c1 := hf 7 (by kernel_rfl)
    clear hf hw
    go_simp
    exact hK _ _ (TG.refl _) rfl
  case s5 =>
    intro a w' K hT hf hw hK
    refine step_free ?_ ?_
    · rfl
    have h58 : a.tmps[58]?.getD undef = .slice (some ⟨b, off, none⟩) (q + 3) c1 := hw.1
    clear hf hw
    have hrr : IsB w' (some ⟨b, off, none⟩) (q + 3) c1 (b0 :: b1 :: b2 :: inf) := grown_keepB hT.grown (Rd.drew (Rd.alloc H2.out.1 _)) (fun b' off' e => by injection e with e; injection e with e1 e2; omega)
    have hcut := IsB.cut hrr (k := 3) (by omega)
    rw [show q + 3 - 3 = q by omega] at hcut
    have hcut : IsB w' (if c1 = 3 then some ⟨b, off, none⟩ else some ⟨b, off + 3, none⟩) q (c1 - 3) inf := hcut
    have hcutg : ∀ b' off', (if c1 = 3 then some (⟨b, off, none⟩ : Addr) else some ⟨b, off + 3, none⟩) = some ⟨b', off', none⟩ → b' ≠ w2.heap.size := by intro b' off' e; split at e <;> (injection e with e; injection e with e1 e2; omega)
    have HCC := Lib.hid (And.intro hcut hcutg)
    clear hcut hcutg hrr
    go_simp
    refine hK _ _ (TG.refl _) ?_
    exact ⟨_, _, rfl, HCC.out.1, HCC.out.2⟩
  case s6 =>
    intro a w' K hT hf hw hK
    refine step_free ?_ ?_
    · rfl
    have h59 := hw.1
    clear hf hw
    obtain ⟨A5, c5, h59, h5r, h5g⟩ := h59
    have h59 : a.tmps[59]?.getD undef = .slice A5 q c5 := h59
    have hgl : w2.heap.size < w'.heap.size := by have := hT.grown.size; simp at this; omega
    go_simp
    refine (clone_any A5 q c5 inf _ h5r (by have := HQ.out.1; have := HQ.out.2; simp at *; omega)).mono ?_
    rintro e w3 ⟨A3, n3, c3, rfl, ho3, hb3⟩
    refine hK _ _ (TG.of_below hgl hb3) ?_
    refine ⟨A3, n3, c3, rfl, ho3.rd, fun b off e => ?_⟩
    subst e
    have := (ho3.lt b rfl).1
    omega
  case s7 =>
    intro a w' K hT hf hw hK
    refine step_free ?_ ?_
    · rfl
    have h9 : a.tmps[9]?.getD undef = .pointer (some ⟨w2.heap.size, 0, none⟩) := hf 9 (by kernel_rfl)
    clear hf hw
    go_simp
    exact hK _ _ (TG.refl _) rfl
  case s8 =>
    intro a w' K hT hf hw hK
    refine step_free ?_ ?_
    · rfl
    have h61 : a.tmps[61]?.getD undef = .pointer (some ⟨w2.heap.size, 0, none⟩) := hw.1
    have h57 : a.tmps[57]?.getD undef = .int .i64 (b0.toNat : Int) := hw.2.1
    clear hf hw
    obtain ⟨u0, hu0⟩ := Option.isSome_iff_exists.1 (hT.there hth 0 (by omega)).1
    have hf0 := (hT.there hth 0 (by omega)).2
    simp only [Nat.zero_add] at hu0 hf0
    go_simp
    exact hK undef _ (TG.set0 (hT.there hth)).1 (TG.set0 (v0 := .int .i64 (b0.toNat : Int)) (inf := inf) (hT.there hth)).2
  case s9 =>
    intro a w' K hT hf hw hK
    refine step_free ?_ ?_
    · rfl
    have h9 : a.tmps[9]?.getD undef = .pointer (some ⟨w2.heap.size, 0, none⟩) := hf 9 (by kernel_rfl)
    clear hf hw
    go_simp
    exact hK _ _ (TG.refl _) rfl
  case s10 =>
    intro a w' K hT hf hw hK
    refine step_free ?_ ?_
    · rfl
    have h62 : a.tmps[62]?.getD undef = .pointer (some ⟨w2.heap.size, 6, none⟩) := hw.1
    have h60 := hw.2.1
    clear hf hw
    obtain ⟨A6, n6, c6, h60, h6r, h6g⟩ := h60
    have h60 : a.tmps[60]?.getD undef = .slice A6 n6 c6 := h60
    obtain ⟨u0, hu0⟩ := Option.isSome_iff_exists.1 (hT.there hth 6 (by omega)).1
    have hf0 := (hT.there hth 6 (by omega)).2
    simp only [Nat.zero_add] at hu0 hf0
    go_simp
    exact hK undef _ (TG.set6 (hT.there hth) h6r h6g).1 (TG.set6 (v0 := .int .i64 (b0.toNat : Int)) (hT.there hth) h6r h6g).2
  case hfin =>
    rintro vs w' hT ⟨f0, f1, f2, f3, f4, f5, f6, f7, f8, f9, f10, -⟩
    have e0 : vs 0 = .slice (some ⟨b, off, none⟩) (q + 3) c1 := f0
    have e1 : vs 1 = .pointer (some ⟨b, off, none⟩) := f1
    have e2 : vs 2 = .int .u8 (b0.toNat : Int) := f2
    have e3 : vs 3 = .int .i64 (b0.toNat : Int) := f3
    have e4 : vs 4 = .slice (some ⟨b, off, none⟩) (q + 3) c1 := f4
    have e7 : vs 7 = .pointer (some ⟨w2.heap.size, 0, none⟩) := f7
    have e9 : vs 9 = .pointer (some ⟨w2.heap.size, 6, none⟩) := f9
    simp only [putsAt, Act.put, e0, e1, e2, e3, e4, e7, e9]
    simp only [List.setIfInBounds_toArray, List.set_cons_succ, List.set_cons_zero]
    clear e0 e1 e2 e3 e4 e7 e9 f0 f1 f2 f3 f4 f7 f9
    have hz0 : w'.cell? ⟨w2.heap.size, 0, none⟩ = some (.int .i64 (b0.toNat : Int)) := f8
    obtain ⟨A6, n6, c6, hz6, hr6, hs6⟩ : Six w2.heap.size inf w' := f10
    have hmid : ∀ j v, 1 ≤ j → j ≤ 5 → [.int .i64 0, .int .i64 kd, .int .i64 sq, .bool mo, .int .i64 co, .bool an, .slice none 0 0][j]? = some v → w'.cell? ⟨w2.heap.size, j, none⟩ = some v := fun j v h1 h5 hv => (hT.mid j h1 h5).trans ((cell_new w2 _ _ j).trans hv)
    have hz1 := hmid 1 _ (by omega) (by omega) rfl
    have hz2 := hmid 2 _ (by omega) (by omega) rfl
    have hz3 := hmid 3 _ (by omega) (by omega) rfl
    have hz4 := hmid 4 _ (by omega) (by omega) rfl
    have hz5 := hmid 5 _ (by omega) (by omega) rfl
    have hsz : w2.heap.size < w'.heap.size := by have := hT.grown.size; simp at this; omega
    have hbw' : Below w.heap.size w w' := (H2.out.2.1.alloc H2.out.2.1.size _).drew.grown hT.grown (by have := H2.out.2.1.size; simp; omega) (fun k hk => by injection hk with hk; omega)
    have hthR : w'.there w.heap.size 0 7 := fun j hj => ⟨by rw [World.cell?_of_block (a := ⟨w.heap.size, 0 + j, none⟩) (hT.grown.block w.heap.size (by simp; omega) (fun e => by injection e with e; omega))]; exact (HTH.out j hj).1, by rw [World.frozen?_of_block (a := ⟨w.heap.size, 0 + j, none⟩) (hT.grown.block w.heap.size (by simp; omega) (fun e => by injection e with e; omega))]; exact (HTH.out j hj).2⟩
    have HW := Lib.hid (And.intro hbw' (And.intro hthR (And.intro hr6 hs6)))
    clear f8 hmid hbw' hthR hr6 hs6 f5 f6 hT
    go_wp2_with fail
    refine (HC.out _ _ _ _ HW.out.2.2.1).mono ?_
    rintro e w5 ⟨rfl, hb5⟩
    have hzR : w.heap.size < w'.heap.size := by omega
    have HTH5 := Lib.hid (there_below HW.out.2.1 hzR hb5)
    have HB5 := Lib.hid (HW.out.1.trans (hb5.mono HW.out.1.size))
    have h5c : ∀ j v, w'.cell? ⟨w2.heap.size, j, none⟩ = some v → w5.cell? ⟨w2.heap.size, j, none⟩ = some v := fun j v hv => (hb5.cell (p := ⟨w2.heap.size, j, none⟩) hsz).trans hv
    have hv0 := h5c 0 _ hz0
    have hv1 := h5c 1 _ hz1
    have hv2 := h5c 2 _ hz2
    have hv3 := h5c 3 _ hz3
    have hv4 := h5c 4 _ hz4
    have hv5 := h5c 5 _ hz5
    have hv6 := h5c 6 _ hz6
    have H6 := Lib.hid (Rd.below HW.out.2.2.1 hb5)
    clear h5c hb5
    go_wp2_with (refine wpList_store_mid rfl 24 _ _ rfl w.heap.size 0 #[.int .i64 (b0.toNat : Int), .int .i64 kd, .int .i64 sq, .bool mo, .int .i64 co, .bool an, .slice A6 n6 c6] rfl rfl HTH5.out (by kernel_rfl) (by simp [Value.oneCell']) ?_)
    refine bodyPost_ret (results_cell_tmp rfl _ _ w.heap.size 0 [.int .i64 (b0.toNat : Int), .int .i64 kd, .int .i64 sq, .bool mo, .int .i64 co, .bool an, .slice A6 n6 c6] _ rfl (World.rangeAt_setCells_same w5 w.heap.size 0 [.int .i64 (b0.toNat : Int), .int .i64 kd, .int .i64 sq, .bool mo, .int .i64 co, .bool an, .slice A6 n6 c6] HTH5.out) Try.underlying24 rfl (by kernel_rfl)) rfl ⟨A6, n6, c6, rfl, ?_, ?_⟩
    · exact grown_keepB (grown_setCells _ 0 w5) H6.out (fun b off e => by have := HW.out.2.2.2 b off e; omega)
    · exact below_setCells (Nat.le_refl _) _ _ _ HB5.out
end Go.Proofs.Ytpfihchdbdhbjaa
