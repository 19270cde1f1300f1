/- smartcardref06.Decode: the walk (printed by wip/gen/rdecode.py). -/
import Derived.Test.YtpfihchdbdhbjaaKd
namespace Go.Proofs.Ytpfihchdbdhbjaa
open Go.RowKit
set_option linter.unusedVariables false
set_option maxHeartbeats 400000 in
theorem rdecode_kind (A : Option Addr) (n c : Nat) (k : Int) (hk : ¬ (k = 0 ∨ k = 1)) (w : World) :
    Calls Try.prog 17 #[.slice A n c, .int .i64 k] w
      fun e w' => e = .returned (.tuple #[.agg zeroL.toArray, .int .i64 1]) ∧ Below w.heap.size w w' := by
  have hs : sizeN k = 0 := by unfold sizeN; rw [if_neg (by omega), if_neg (by omega)]
  have HTH := Lib.hid (there_zero w 24)
  go_enter Try.func17, Try.ntmps17
  go_wp2_with fail
  refine (rsize_any k _).mono ?_
  rintro e w1 ⟨rfl, rfl⟩
  rw [hs]
  go_wp2_with (refine wpList_store_mid rfl 24 _ _ rfl w.heap.size 0 #[.int .i64 0, .int .i64 0, .int .i64 0, .bool false, .int .i64 0, .bool false, .slice none 0 0] rfl rfl HTH.out (by kernel_rfl) (by simp [Value.oneCell']) ?_)
  refine bodyPost_ret (results_cell_tmp rfl _ _ w.heap.size 0 zeroL _ rfl (World.rangeAt_setCells_same _ w.heap.size 0 zeroL HTH.out) Try.underlying24 rfl (by kernel_rfl)) rfl ⟨rfl, ?_⟩
  exact below_setCells (Nat.le_refl _) _ _ _ ((Below.refl _ _).alloc (Nat.le_refl _) _)

set_option maxHeartbeats 400000 in
theorem rdecode_short (A : Option Addr) (n c : Nat) (k : Int) (hk : k = 0 ∨ k = 1) (hn : n < 3 + sizeN k) (w : World) :
    Calls Try.prog 17 #[.slice A n c, .int .i64 k] w
      fun e w' => e = .returned (.tuple #[.agg zeroL.toArray, .int .i64 5]) ∧ Below w.heap.size w w' := by
  have hp := sizeN_pos k hk
  have HTH := Lib.hid (there_zero w 24)
  generalize hs : sizeN k = s at *
  have h0 : ((s : Int) == 0) = false := by simp; omega
  go_enter Try.func17, Try.ntmps17
  go_wp2_with fail
  refine (rsize_any k _).mono ?_
  rintro e w1 ⟨rfl, rfl⟩
  rw [hs]
  go_wp2_with fail
  refine (rsize_any k _).mono ?_
  rintro e w1 ⟨rfl, rfl⟩
  rw [hs]
  go_wp2_with (refine wpList_store_mid rfl 24 _ _ rfl w.heap.size 0 #[.int .i64 0, .int .i64 0, .int .i64 0, .bool false, .int .i64 0, .bool false, .slice none 0 0] rfl rfl HTH.out (by kernel_rfl) (by simp [Value.oneCell']) ?_)
  refine bodyPost_ret (results_cell_tmp rfl _ _ w.heap.size 0 zeroL _ rfl (World.rangeAt_setCells_same _ w.heap.size 0 zeroL HTH.out) Try.underlying24 rfl (by kernel_rfl)) rfl ⟨rfl, ?_⟩
  exact below_setCells (Nat.le_refl _) _ _ _ ((Below.refl _ _).alloc (Nat.le_refl _) _)

set_option maxHeartbeats 400000 in
theorem rdecode_sum (A : Option Addr) (m s c : Nat) (k : Int) (hk : k = 0 ∨ k = 1) (hs : sizeN k = s) (xs : List UInt8) (hx : xs.length ≤ 900000) (hm : 3 ≤ m) (w : World) (h : IsB w A (m + s) c xs) (hne : ¬ sumB k (xs.take m) = xs.drop m) :
    Calls Try.prog 17 #[.slice A (m + s) c, .int .i64 k] w
      fun e w' => e = .returned (.tuple #[.agg zeroL.toArray, .int .i64 6]) ∧ Below w.heap.size w w' := by
  have hp := sizeN_pos k hk
  have h63 := h.len63
  have HR := Lib.hid (fun W hW => rremove_long k hk A m s c hs xs W hW hx)
  have HNE := Lib.hid hne
  clear hne
  rw [hs] at hp
  have h0 : ((s : Int) == 0) = false := by simp; omega
  go_enter Try.func17, Try.ntmps17
  go_wp2_with fail
  refine (rsize_any k _).mono ?_
  rintro e w1 ⟨rfl, rfl⟩
  rw [hs]
  go_wp2_with fail
  refine (rsize_any k _).mono ?_
  rintro e w1 ⟨rfl, rfl⟩
  rw [hs]
  clear hs
  go_wp2_with fail
  refine (HR.out _ (h.alloc _)).mono ?_
  intro e w1 hrm
  unfold Removes at hrm
  rw [if_neg HNE.out] at hrm
  obtain ⟨rfl, hb⟩ := hrm
  have HTH := Lib.hid (there_below (there_zero w 24) (by simp) hb)
  go_wp2_with (refine wpList_store_mid rfl 24 _ _ rfl w.heap.size 0 #[.int .i64 0, .int .i64 0, .int .i64 0, .bool false, .int .i64 0, .bool false, .slice none 0 0] rfl rfl HTH.out (by kernel_rfl) (by simp [Value.oneCell']) ?_)
  refine bodyPost_ret (results_cell_tmp rfl _ _ w.heap.size 0 zeroL _ rfl (World.rangeAt_setCells_same _ w.heap.size 0 zeroL HTH.out) Try.underlying24 rfl (by kernel_rfl)) rfl ⟨rfl, ?_⟩
  exact below_setCells (Nat.le_refl _) _ _ _ (((Below.refl _ _).alloc (Nat.le_refl _) _).trans (hb.mono (by simp)))

set_option maxRecDepth 8000 in
set_option maxHeartbeats 1000000 in
theorem rdecode_form1 (A : Option Addr) (q s c : Nat) (k : Int) (hk : k = 0 ∨ k = 1) (hs : sizeN k = s) (xs : List UInt8) (b0 b1 b2 : UInt8) (inf : List UInt8) (w : World) (h : IsB w A (q + 3 + s) c xs) (hx : xs.length ≤ 900000)
    (heq : sumB k (xs.take (q + 3)) = xs.drop (q + 3)) (hbody : xs.take (q + 3) = b0 :: b1 :: b2 :: inf) (hok : okC b1.toNat = false) :
    Calls Try.prog 17 #[.slice A (q + 3 + s) c, .int .i64 k] w fun e w' => e = .returned (.tuple #[.agg zeroL.toArray, .int .i64 4]) ∧ Below w.heap.size w w' := by
  have hp := sizeN_pos k hk
  have h63 := h.len63
  have hq : inf.length = q := by have := congrArg List.length hbody; have := IsB.len h; simp at *; omega
  have HR := Lib.hid (fun W hW => rremove_long k hk A (q + 3) s c hs xs W hW hx)
  have hP := fun W => rkind_any b1.toNat (UInt8.toNat_lt b1) W
  unfold blkR at hP
  rw [hok] at hP
  generalize kindC b1.toNat = kd at *
  generalize seqC b1.toNat = sq at *
  generalize moreC b1.toNat = mo at *
  generalize codeR b1.toNat = co at *
  generalize ansC b1.toNat = an at *
  have HP := Lib.hid hP
  have HQ := Lib.hid (And.intro hq (And.intro hbody (And.intro hx heq)))
  clear heq hP hq hx
  rw [hs] at hp
  have h0 : ((s : Int) == 0) = false := by simp; omega
  go_enter Try.func17, Try.ntmps17
  go_wp2_with fail
  refine (rsize_any k _).mono ?_
  rintro e w1 ⟨rfl, rfl⟩
  rw [hs]
  go_wp2_with fail
  refine (rsize_any k _).mono ?_
  rintro e w1 ⟨rfl, rfl⟩
  rw [hs]
  clear hs
  go_wp2_with fail
  refine (HR.out _ (h.alloc _)).mono ?_
  intro e w1 hrm
  unfold Removes at hrm
  rw [if_pos HQ.out.2.2.2] at hrm
  obtain ⟨A1, n1, c1, rfl, ho, hb⟩ := hrm
  have ho1 := ho.rd
  rw [HQ.out.2.1] at ho1
  have hn1 : n1 = q + 3 := by have := IsB.len ho1; have := HQ.out.1; simp at *; omega
  subst hn1
  obtain ⟨b, off, rfl, hcell⟩ := IsB.cells ho1 (by omega)
  have hx0 : w1.cell? ⟨b, off, none⟩ = some (.int .u8 (b0.toNat : Int)) := hcell 0 b0 rfl
  have hx1 : w1.cell? ⟨b, off + 1, none⟩ = some (.int .u8 (b1.toNat : Int)) := hcell 1 b1 rfl
  have hx2 : w1.cell? ⟨b, off + 2, none⟩ = some (.int .u8 (b2.toNat : Int)) := hcell 2 b2 rfl
  have hb0 : (b0.toNat : Int) < 256 := by have := UInt8.toNat_lt b0; omega
  have hb1 : (b1.toNat : Int) < 256 := by have := UInt8.toNat_lt b1; omega
  have hb2l : (b2.toNat : Int) < 256 := by have := UInt8.toNat_lt b2; omega
  have hcap := ho1.cap
  have hmax := ho1.len63.2
  have hbw1 : Below w.heap.size w w1 := ((Below.refl _ _).alloc (Nat.le_refl _) _).trans (hb.mono (by simp))
  have hz1 : w.heap.size < w1.heap.size := by have := hb.size; simp at this; omega
  have H1 := Lib.hid (And.intro ho1 (And.intro hbw1 (there_below (there_zero w 24) (by simp) hb)))
  have hblt := World.block_lt_of_cell? _ _ hx0
  have hblk : Hid (b ≠ w.heap.size) := by
    have h1 := (ho.lt b rfl).1
    simp at h1
    show b ≠ _
    omega
  clear ho ho1 hb hbw1 hcell
  go_wp2_with fail
  refine (HP.out _).mono ?_
  rintro e w2 ⟨rfl, hb⟩
  have hz2 : w1.heap.size ≤ w2.heap.size := hb.size
  have hbw2 := H1.out.2.1.trans (hb.mono H1.out.2.1.size)
  have H2 := Lib.hid (And.intro (Rd.below H1.out.1 hb) (And.intro hbw2 (there_below H1.out.2.2 hz1 hb)))
  have hy0 : w2.cell? ⟨b, off, none⟩ = some (.int .u8 (b0.toNat : Int)) := (hb.cell (p := ⟨b, off, none⟩) hblt).trans hx0
  have hy2 : w2.cell? ⟨b, off + 2, none⟩ = some (.int .u8 (b2.toNat : Int)) := (hb.cell (p := ⟨b, off + 2, none⟩) hblt).trans hx2
  have hblt2 : b < w2.heap.size := by omega
  have hz : w.heap.size < w2.heap.size := by omega
  clear hbw2 hb
  have hy2' : (w2.alloc (.cells #[.int .i64 0, .int .i64 kd, .int .i64 sq, .bool mo, .int .i64 co, .bool an, .slice none 0 0] 24)).cell? ⟨b, off + 2, none⟩ = some (.int .u8 (b2.toNat : Int)) := by rw [World.cell?_alloc_lt _ _ _ hblt2]; exact hy2
  have HTH := Lib.hid (there_below H2.out.2.2 hz ((Below.refl _ _).alloc (Nat.le_refl _) (.cells #[.int .i64 0, .int .i64 kd, .int .i64 sq, .bool mo, .int .i64 co, .bool an, .slice none 0 0] 24)))
  go_wp2_with (refine wpList_store_mid rfl 24 _ _ rfl w.heap.size 0 #[.int .i64 0, .int .i64 0, .int .i64 0, .bool false, .int .i64 0, .bool false, .slice none 0 0] rfl rfl HTH.out (by kernel_rfl) (by simp [Value.oneCell']) ?_)
  refine bodyPost_ret (results_cell_tmp rfl _ _ w.heap.size 0 zeroL _ rfl (World.rangeAt_setCells_same _ w.heap.size 0 zeroL HTH.out) Try.underlying24 rfl (by kernel_rfl)) rfl ⟨rfl, ?_⟩
  exact below_setCells (Nat.le_refl _) _ _ _ (H2.out.2.1.alloc H2.out.2.1.size _)

set_option maxRecDepth 8000 in
set_option maxHeartbeats 1000000 in
theorem rdecode_form2 (A : Option Addr) (q s c : Nat) (k : Int) (hk : k = 0 ∨ k = 1) (hs : sizeN k = s) (xs : List UInt8) (b0 b1 b2 : UInt8) (inf : List UInt8) (w : World) (h : IsB w A (q + 3 + s) c xs) (hx : xs.length ≤ 900000)
    (heq : sumB k (xs.take (q + 3)) = xs.drop (q + 3)) (hbody : xs.take (q + 3) = b0 :: b1 :: b2 :: inf) (hok : okC b1.toNat = true) (hb2 : b2.toNat ≠ inf.length) :
    Calls Try.prog 17 #[.slice A (q + 3 + s) c, .int .i64 k] w fun e w' => e = .returned (.tuple #[.agg zeroL.toArray, .int .i64 4]) ∧ Below w.heap.size w w' := by
  have hp := sizeN_pos k hk
  have h63 := h.len63
  have hq : inf.length = q := by have := congrArg List.length hbody; have := IsB.len h; simp at *; omega
  have HR := Lib.hid (fun W hW => rremove_long k hk A (q + 3) s c hs xs W hW hx)
  have hP := fun W => rkind_any b1.toNat (UInt8.toNat_lt b1) W
  unfold blkR at hP
  rw [hok] at hP
  generalize kindC b1.toNat = kd at *
  generalize seqC b1.toNat = sq at *
  generalize moreC b1.toNat = mo at *
  generalize codeR b1.toNat = co at *
  generalize ansC b1.toNat = an at *
  have HP := Lib.hid hP
  have HQ := Lib.hid (And.intro hq (And.intro hbody (And.intro hx heq)))
  clear heq hP hq hx
  rw [hs] at hp
  have h0 : ((s : Int) == 0) = false := by simp; omega
  go_enter Try.func17, Try.ntmps17
  go_wp2_with fail
  refine (rsize_any k _).mono ?_
  rintro e w1 ⟨rfl, rfl⟩
  rw [hs]
  go_wp2_with fail
  refine (rsize_any k _).mono ?_
  rintro e w1 ⟨rfl, rfl⟩
  rw [hs]
  clear hs
  go_wp2_with fail
  refine (HR.out _ (h.alloc _)).mono ?_
  intro e w1 hrm
  unfold Removes at hrm
  rw [if_pos HQ.out.2.2.2] at hrm
  obtain ⟨A1, n1, c1, rfl, ho, hb⟩ := hrm
  have ho1 := ho.rd
  rw [HQ.out.2.1] at ho1
  have hn1 : n1 = q + 3 := by have := IsB.len ho1; have := HQ.out.1; simp at *; omega
  subst hn1
  obtain ⟨b, off, rfl, hcell⟩ := IsB.cells ho1 (by omega)
  have hx0 : w1.cell? ⟨b, off, none⟩ = some (.int .u8 (b0.toNat : Int)) := hcell 0 b0 rfl
  have hx1 : w1.cell? ⟨b, off + 1, none⟩ = some (.int .u8 (b1.toNat : Int)) := hcell 1 b1 rfl
  have hx2 : w1.cell? ⟨b, off + 2, none⟩ = some (.int .u8 (b2.toNat : Int)) := hcell 2 b2 rfl
  have hb0 : (b0.toNat : Int) < 256 := by have := UInt8.toNat_lt b0; omega
  have hb1 : (b1.toNat : Int) < 256 := by have := UInt8.toNat_lt b1; omega
  have hb2l : (b2.toNat : Int) < 256 := by have := UInt8.toNat_lt b2; omega
  have hcap := ho1.cap
  have hmax := ho1.len63.2
  have hbw1 : Below w.heap.size w w1 := ((Below.refl _ _).alloc (Nat.le_refl _) _).trans (hb.mono (by simp))
  have hz1 : w.heap.size < w1.heap.size := by have := hb.size; simp at this; omega
  have H1 := Lib.hid (And.intro ho1 (And.intro hbw1 (there_below (there_zero w 24) (by simp) hb)))
  have hblt := World.block_lt_of_cell? _ _ hx0
  have hblk : Hid (b ≠ w.heap.size) := by
    have h1 := (ho.lt b rfl).1
    simp at h1
    show b ≠ _
    omega
  clear ho ho1 hb hbw1 hcell
  go_wp2_with fail
  refine (HP.out _).mono ?_
  rintro e w2 ⟨rfl, hb⟩
  have hz2 : w1.heap.size ≤ w2.heap.size := hb.size
  have hbw2 := H1.out.2.1.trans (hb.mono H1.out.2.1.size)
  have H2 := Lib.hid (And.intro (Rd.below H1.out.1 hb) (And.intro hbw2 (there_below H1.out.2.2 hz1 hb)))
  have hy0 : w2.cell? ⟨b, off, none⟩ = some (.int .u8 (b0.toNat : Int)) := (hb.cell (p := ⟨b, off, none⟩) hblt).trans hx0
  have hy2 : w2.cell? ⟨b, off + 2, none⟩ = some (.int .u8 (b2.toNat : Int)) := (hb.cell (p := ⟨b, off + 2, none⟩) hblt).trans hx2
  have hblt2 : b < w2.heap.size := by omega
  have hz : w.heap.size < w2.heap.size := by omega
  clear hbw2 hb
  have hy2' : (w2.alloc (.cells #[.int .i64 0, .int .i64 kd, .int .i64 sq, .bool mo, .int .i64 co, .bool an, .slice none 0 0] 24)).cell? ⟨b, off + 2, none⟩ = some (.int .u8 (b2.toNat : Int)) := by rw [World.cell?_alloc_lt _ _ _ hblt2]; exact hy2
  have HTH := Lib.hid (there_below H2.out.2.2 hz ((Below.refl _ _).alloc (Nat.le_refl _) (.cells #[.int .i64 0, .int .i64 kd, .int .i64 sq, .bool mo, .int .i64 co, .bool an, .slice none 0 0] 24)))
  have hne : ((b2.toNat : Int) != (q : Int)) = true := by have := HQ.out.1; simp; omega
  have hne' : ((b2.toNat : Int) != (q : Int) + 3 - 3) = true := by have := HQ.out.1; simp; omega
  clear hb2
  go_wp2_with (refine wpList_store_mid rfl 24 _ _ rfl w.heap.size 0 #[.int .i64 0, .int .i64 0, .int .i64 0, .bool false, .int .i64 0, .bool false, .slice none 0 0] rfl rfl HTH.out (by kernel_rfl) (by simp [Value.oneCell']) ?_)
  refine bodyPost_ret (results_cell_tmp rfl _ _ w.heap.size 0 zeroL _ rfl (World.rangeAt_setCells_same _ w.heap.size 0 zeroL HTH.out) Try.underlying24 rfl (by kernel_rfl)) rfl ⟨rfl, ?_⟩
  exact below_setCells (Nat.le_refl _) _ _ _ (H2.out.2.1.alloc H2.out.2.1.size _)

set_option maxRecDepth 8000 in
set_option maxHeartbeats 1000000 in
theorem rdecode_bad (A : Option Addr) (q s c : Nat) (k : Int) (hk : k = 0 ∨ k = 1) (hs : sizeN k = s) (xs : List UInt8) (b0 b1 b2 : UInt8) (inf : List UInt8) (w : World) (h : IsB w A (q + 3 + s) c xs) (hx : xs.length ≤ 900000)
    (heq : sumB k (xs.take (q + 3)) = xs.drop (q + 3)) (hbody : xs.take (q + 3) = b0 :: b1 :: b2 :: inf) (hok : okC b1.toNat = true) (hb2 : b2.toNat = inf.length) (er : Int) (her : checkE b0.toNat (kindC b1.toNat) (seqC b1.toNat) (moreC b1.toNat) (codeC b1.toNat) (ansC b1.toNat) inf = er) (hne0 : (er != 0) = true) :
    Calls Try.prog 17 #[.slice A (q + 3 + s) c, .int .i64 k] w fun e w' => e = .returned (.tuple #[.agg zeroL.toArray, .int .i64 er]) ∧ Below w.heap.size w w' := by
  have hp := sizeN_pos k hk
  have h63 := h.len63
  have hq : inf.length = q := by have := congrArg List.length hbody; have := IsB.len h; simp at *; omega
  have HR := Lib.hid (fun W hW => rremove_long k hk A (q + 3) s c hs xs W hW hx)
  have hP := fun W => rkind_any b1.toNat (UInt8.toNat_lt b1) W
  unfold blkR at hP
  rw [hok] at hP
  rw [codeR_ok b1.toNat (UInt8.toNat_lt b1) hok] at hP
  generalize kindC b1.toNat = kd at *
  generalize seqC b1.toNat = sq at *
  generalize moreC b1.toNat = mo at *
  generalize codeC b1.toNat = co at *
  generalize ansC b1.toNat = an at *
  have HP := Lib.hid hP
  have HQ := Lib.hid (And.intro hq (And.intro hbody (And.intro hx heq)))
  clear heq hP hq hx
  rw [hs] at hp
  have h0 : ((s : Int) == 0) = false := by simp; omega
  go_enter Try.func17, Try.ntmps17
  go_wp2_with fail
  refine (rsize_any k _).mono ?_
  rintro e w1 ⟨rfl, rfl⟩
  rw [hs]
  go_wp2_with fail
  refine (rsize_any k _).mono ?_
  rintro e w1 ⟨rfl, rfl⟩
  rw [hs]
  clear hs
  go_wp2_with fail
  refine (HR.out _ (h.alloc _)).mono ?_
  intro e w1 hrm
  unfold Removes at hrm
  rw [if_pos HQ.out.2.2.2] at hrm
  obtain ⟨A1, n1, c1, rfl, ho, hb⟩ := hrm
  have ho1 := ho.rd
  rw [HQ.out.2.1] at ho1
  have hn1 : n1 = q + 3 := by have := IsB.len ho1; have := HQ.out.1; simp at *; omega
  subst hn1
  obtain ⟨b, off, rfl, hcell⟩ := IsB.cells ho1 (by omega)
  have hx0 : w1.cell? ⟨b, off, none⟩ = some (.int .u8 (b0.toNat : Int)) := hcell 0 b0 rfl
  have hx1 : w1.cell? ⟨b, off + 1, none⟩ = some (.int .u8 (b1.toNat : Int)) := hcell 1 b1 rfl
  have hx2 : w1.cell? ⟨b, off + 2, none⟩ = some (.int .u8 (b2.toNat : Int)) := hcell 2 b2 rfl
  have hb0 : (b0.toNat : Int) < 256 := by have := UInt8.toNat_lt b0; omega
  have hb1 : (b1.toNat : Int) < 256 := by have := UInt8.toNat_lt b1; omega
  have hb2l : (b2.toNat : Int) < 256 := by have := UInt8.toNat_lt b2; omega
  have hcap := ho1.cap
  have hmax := ho1.len63.2
  have hbw1 : Below w.heap.size w w1 := ((Below.refl _ _).alloc (Nat.le_refl _) _).trans (hb.mono (by simp))
  have hz1 : w.heap.size < w1.heap.size := by have := hb.size; simp at this; omega
  have H1 := Lib.hid (And.intro ho1 (And.intro hbw1 (there_below (there_zero w 24) (by simp) hb)))
  have hblt := World.block_lt_of_cell? _ _ hx0
  have hblk : Hid (b ≠ w.heap.size) := by
    have h1 := (ho.lt b rfl).1
    simp at h1
    show b ≠ _
    omega
  clear ho ho1 hb hbw1 hcell
  go_wp2_with fail
  refine (HP.out _).mono ?_
  rintro e w2 ⟨rfl, hb⟩
  have hz2 : w1.heap.size ≤ w2.heap.size := hb.size
  have hbw2 := H1.out.2.1.trans (hb.mono H1.out.2.1.size)
  have H2 := Lib.hid (And.intro (Rd.below H1.out.1 hb) (And.intro hbw2 (there_below H1.out.2.2 hz1 hb)))
  have hy0 : w2.cell? ⟨b, off, none⟩ = some (.int .u8 (b0.toNat : Int)) := (hb.cell (p := ⟨b, off, none⟩) hblt).trans hx0
  have hy2 : w2.cell? ⟨b, off + 2, none⟩ = some (.int .u8 (b2.toNat : Int)) := (hb.cell (p := ⟨b, off + 2, none⟩) hblt).trans hx2
  have hblt2 : b < w2.heap.size := by omega
  have hz : w.heap.size < w2.heap.size := by omega
  clear hbw2 hb
  have hy2' : (w2.alloc (.cells #[.int .i64 0, .int .i64 kd, .int .i64 sq, .bool mo, .int .i64 co, .bool an, .slice none 0 0] 24)).cell? ⟨b, off + 2, none⟩ = some (.int .u8 (b2.toNat : Int)) := by rw [World.cell?_alloc_lt _ _ _ hblt2]; exact hy2
  have HTH := Lib.hid (there_below H2.out.2.2 hz ((Below.refl _ _).alloc (Nat.le_refl _) (.cells #[.int .i64 0, .int .i64 kd, .int .i64 sq, .bool mo, .int .i64 co, .bool an, .slice none 0 0] 24)))
  have hb2n : b2.toNat = q := by have := HQ.out.1; omega
  have hne : ((b2.toNat : Int) != (q : Int)) = false := by simp; omega
  have hne' : ((b2.toNat : Int) != (q : Int) + 3 - 3) = false := by simp; omega
  have hy0' : (w2.alloc (.cells #[.int .i64 0, .int .i64 kd, .int .i64 sq, .bool mo, .int .i64 co, .bool an, .slice none 0 0] 24)).cell? ⟨b, off, none⟩ = some (.int .u8 (b0.toNat : Int)) := by rw [World.cell?_alloc_lt _ _ _ hblt2]; exact hy0
  have HC : Hid (∀ (A : Option Addr) (n c : Nat) (W : World), IsB W A n c inf → Calls Try.prog 11 #[.agg #[.int .i64 (b0.toNat : Int), .int .i64 kd, .int .i64 sq, .bool mo, .int .i64 co, .bool an, .slice A n c]] W
      fun e w' => e = .returned (.int .i64 er) ∧ Below W.heap.size W w') := fun A n c W hW => by
    have := rcheck_any b0.toNat kd sq mo co an A n c inf W hW
    rwa [her] at this
  have hcut := IsB.cut H2.out.1 (k := 3) (by omega)
  rw [show q + 3 - 3 = q by omega] at hcut
  have hcut : IsB w2 (if c1 = 3 then some (⟨b, off, none⟩ : Addr) else some ⟨b, off + 3, none⟩) q (c1 - 3) inf := hcut
  have HCUT := Lib.hid hcut
  clear her hcut
  generalize hA6 : (if c1 = 3 then some (⟨b, off, none⟩ : Addr) else some ⟨b, off + 3, none⟩) = A6 at *
  go_wp2_with fail
  refine (HC.out _ _ _ _ (HCUT.out.alloc _)).mono ?_
  rintro e w5 ⟨rfl, hb5⟩
  have hbs : Below w.heap.size w w5 := (H2.out.2.1.alloc H2.out.2.1.size _).trans (hb5.mono (by have := H2.out.2.1.size; simp; omega))
  have HTH5 := Lib.hid (there_below (there_below H2.out.2.2 hz ((Below.refl _ _).alloc (Nat.le_refl _) (.cells #[.int .i64 (b0.toNat : Int), .int .i64 kd, .int .i64 sq, .bool mo, .int .i64 co, .bool an, .slice A6 q (c1 - 3)] 24))) (by simp; omega) hb5)
  have HB5 := Lib.hid hbs
  clear hbs
  clear hb5
  go_wp2_with (refine wpList_store_mid rfl 24 _ _ rfl w.heap.size 0 #[.int .i64 0, .int .i64 0, .int .i64 0, .bool false, .int .i64 0, .bool false, .slice none 0 0] rfl rfl HTH5.out (by kernel_rfl) (by simp [Value.oneCell']) ?_)
  refine bodyPost_ret (results_cell_tmp rfl _ _ w.heap.size 0 zeroL _ rfl (World.rangeAt_setCells_same _ w.heap.size 0 zeroL HTH5.out) Try.underlying24 rfl (by kernel_rfl)) rfl ⟨rfl, ?_⟩
  exact below_setCells (Nat.le_refl _) _ _ _ HB5.out

set_option maxRecDepth 8000 in
set_option maxHeartbeats 1000000 in
theorem rdecode_ok (A : Option Addr) (q s c : Nat) (k : Int) (hk : k = 0 ∨ k = 1) (hs : sizeN k = s) (xs : List UInt8) (b0 b1 b2 : UInt8) (inf : List UInt8) (w : World) (h : IsB w A (q + 3 + s) c xs) (hx : xs.length ≤ 900000)
    (heq : sumB k (xs.take (q + 3)) = xs.drop (q + 3)) (hbody : xs.take (q + 3) = b0 :: b1 :: b2 :: inf) (hok : okC b1.toNat = true) (hb2 : b2.toNat = inf.length) (her : checkE b0.toNat (kindC b1.toNat) (seqC b1.toNat) (moreC b1.toNat) (codeC b1.toNat) (ansC b1.toNat) inf = 0) :
    Calls Try.prog 17 #[.slice A (q + 3 + s) c, .int .i64 k] w fun e w' => ∃ A6 n6 c6, e = .returned (.tuple #[.agg #[.int .i64 (b0.toNat : Int), .int .i64 (kindC b1.toNat), .int .i64 (seqC b1.toNat), .bool (moreC b1.toNat), .int .i64 (codeC b1.toNat), .bool (ansC b1.toNat), .slice A6 n6 c6], .int .i64 0]) ∧ IsB w' A6 n6 c6 inf ∧ Below w.heap.size w w' := by
  have hp := sizeN_pos k hk
  have h63 := h.len63
  have hq : inf.length = q := by have := congrArg List.length hbody; have := IsB.len h; simp at *; omega
  have HR := Lib.hid (fun W hW => rremove_long k hk A (q + 3) s c hs xs W hW hx)
  have hP := fun W => rkind_any b1.toNat (UInt8.toNat_lt b1) W
  unfold blkR at hP
  rw [hok] at hP
  rw [codeR_ok b1.toNat (UInt8.toNat_lt b1) hok] at hP
  generalize kindC b1.toNat = kd at *
  generalize seqC b1.toNat = sq at *
  generalize moreC b1.toNat = mo at *
  generalize codeC b1.toNat = co at *
  generalize ansC b1.toNat = an at *
  have HP := Lib.hid hP
  have HQ := Lib.hid (And.intro hq (And.intro hbody (And.intro hx heq)))
  clear heq hP hq hx
  rw [hs] at hp
  have h0 : ((s : Int) == 0) = false := by simp; omega
  go_enter Try.func17, Try.ntmps17
  go_wp2_with fail
  refine (rsize_any k _).mono ?_
  rintro e w1 ⟨rfl, rfl⟩
  rw [hs]
  go_wp2_with fail
  refine (rsize_any k _).mono ?_
  rintro e w1 ⟨rfl, rfl⟩
  rw [hs]
  clear hs
  go_wp2_with fail
  refine (HR.out _ (h.alloc _)).mono ?_
  intro e w1 hrm
  unfold Removes at hrm
  rw [if_pos HQ.out.2.2.2] at hrm
  obtain ⟨A1, n1, c1, rfl, ho, hb⟩ := hrm
  have ho1 := ho.rd
  rw [HQ.out.2.1] at ho1
  have hn1 : n1 = q + 3 := by have := IsB.len ho1; have := HQ.out.1; simp at *; omega
  subst hn1
  obtain ⟨b, off, rfl, hcell⟩ := IsB.cells ho1 (by omega)
  have hx0 : w1.cell? ⟨b, off, none⟩ = some (.int .u8 (b0.toNat : Int)) := hcell 0 b0 rfl
  have hx1 : w1.cell? ⟨b, off + 1, none⟩ = some (.int .u8 (b1.toNat : Int)) := hcell 1 b1 rfl
  have hx2 : w1.cell? ⟨b, off + 2, none⟩ = some (.int .u8 (b2.toNat : Int)) := hcell 2 b2 rfl
  have hb0 : (b0.toNat : Int) < 256 := by have := UInt8.toNat_lt b0; omega
  have hb1 : (b1.toNat : Int) < 256 := by have := UInt8.toNat_lt b1; omega
  have hb2l : (b2.toNat : Int) < 256 := by have := UInt8.toNat_lt b2; omega
  have hcap := ho1.cap
  have hmax := ho1.len63.2
  have hbw1 : Below w.heap.size w w1 := ((Below.refl _ _).alloc (Nat.le_refl _) _).trans (hb.mono (by simp))
  have hz1 : w.heap.size < w1.heap.size := by have := hb.size; simp at this; omega
  have H1 := Lib.hid (And.intro ho1 (And.intro hbw1 (there_below (there_zero w 24) (by simp) hb)))
  have hblt := World.block_lt_of_cell? _ _ hx0
  have hblk : Hid (b ≠ w.heap.size) := by
    have h1 := (ho.lt b rfl).1
    simp at h1
    show b ≠ _
    omega
  clear ho ho1 hb hbw1 hcell
  go_wp2_with fail
  refine (HP.out _).mono ?_
  rintro e w2 ⟨rfl, hb⟩
  have hz2 : w1.heap.size ≤ w2.heap.size := hb.size
  have hbw2 := H1.out.2.1.trans (hb.mono H1.out.2.1.size)
  have H2 := Lib.hid (And.intro (Rd.below H1.out.1 hb) (And.intro hbw2 (there_below H1.out.2.2 hz1 hb)))
  have hy0 : w2.cell? ⟨b, off, none⟩ = some (.int .u8 (b0.toNat : Int)) := (hb.cell (p := ⟨b, off, none⟩) hblt).trans hx0
  have hy2 : w2.cell? ⟨b, off + 2, none⟩ = some (.int .u8 (b2.toNat : Int)) := (hb.cell (p := ⟨b, off + 2, none⟩) hblt).trans hx2
  have hblt2 : b < w2.heap.size := by omega
  have hz : w.heap.size < w2.heap.size := by omega
  clear hbw2 hb
  have hy2' : (w2.alloc (.cells #[.int .i64 0, .int .i64 kd, .int .i64 sq, .bool mo, .int .i64 co, .bool an, .slice none 0 0] 24)).cell? ⟨b, off + 2, none⟩ = some (.int .u8 (b2.toNat : Int)) := by rw [World.cell?_alloc_lt _ _ _ hblt2]; exact hy2
  have HTH := Lib.hid (there_below H2.out.2.2 hz ((Below.refl _ _).alloc (Nat.le_refl _) (.cells #[.int .i64 0, .int .i64 kd, .int .i64 sq, .bool mo, .int .i64 co, .bool an, .slice none 0 0] 24)))
  have hb2n : b2.toNat = q := by have := HQ.out.1; omega
  have hne : ((b2.toNat : Int) != (q : Int)) = false := by simp; omega
  have hne' : ((b2.toNat : Int) != (q : Int) + 3 - 3) = false := by simp; omega
  have hy0' : (w2.alloc (.cells #[.int .i64 0, .int .i64 kd, .int .i64 sq, .bool mo, .int .i64 co, .bool an, .slice none 0 0] 24)).cell? ⟨b, off, none⟩ = some (.int .u8 (b0.toNat : Int)) := by rw [World.cell?_alloc_lt _ _ _ hblt2]; exact hy0
  have HC : Hid (∀ (A : Option Addr) (n c : Nat) (W : World), IsB W A n c inf → Calls Try.prog 11 #[.agg #[.int .i64 (b0.toNat : Int), .int .i64 kd, .int .i64 sq, .bool mo, .int .i64 co, .bool an, .slice A n c]] W
      fun e w' => e = .returned (.int .i64 0) ∧ Below W.heap.size W w') := fun A n c W hW => by
    have := rcheck_any b0.toNat kd sq mo co an A n c inf W hW
    rwa [her] at this
  have hcut := IsB.cut H2.out.1 (k := 3) (by omega)
  rw [show q + 3 - 3 = q by omega] at hcut
  have hcut : IsB w2 (if c1 = 3 then some (⟨b, off, none⟩ : Addr) else some ⟨b, off + 3, none⟩) q (c1 - 3) inf := hcut
  have HCUT := Lib.hid hcut
  clear her hcut
  generalize hA6 : (if c1 = 3 then some (⟨b, off, none⟩ : Addr) else some ⟨b, off + 3, none⟩) = A6 at *
  go_wp2_with fail
  refine (HC.out _ _ _ _ (HCUT.out.alloc _)).mono ?_
  rintro e w5 ⟨rfl, hb5⟩
  have hbs : Below w.heap.size w w5 := (H2.out.2.1.alloc H2.out.2.1.size _).trans (hb5.mono (by have := H2.out.2.1.size; simp; omega))
  have HTH5 := Lib.hid (there_below (there_below H2.out.2.2 hz ((Below.refl _ _).alloc (Nat.le_refl _) (.cells #[.int .i64 (b0.toNat : Int), .int .i64 kd, .int .i64 sq, .bool mo, .int .i64 co, .bool an, .slice A6 q (c1 - 3)] 24))) (by simp; omega) hb5)
  have HB5 := Lib.hid hbs
  clear hbs
  have h5c : ∀ j v, [.int .i64 (b0.toNat : Int), .int .i64 kd, .int .i64 sq, .bool mo, .int .i64 co, .bool an, .slice A6 q (c1 - 3)][j]? = some v → w5.cell? ⟨w2.heap.size, j, none⟩ = some v := fun j v hv => (hb5.cell (p := ⟨w2.heap.size, j, none⟩) (by simp)).trans ((cell_new w2 _ _ j).trans hv)
  have hv0 := h5c 0 _ rfl
  have hv1 := h5c 1 _ rfl
  have hv2 := h5c 2 _ rfl
  have hv3 := h5c 3 _ rfl
  have hv4 := h5c 4 _ rfl
  have hv5 := h5c 5 _ rfl
  have hv6 := h5c 6 _ rfl
  have HI := Lib.hid (Rd.below (HCUT.out.alloc (.cells #[.int .i64 (b0.toNat : Int), .int .i64 kd, .int .i64 sq, .bool mo, .int .i64 co, .bool an, .slice A6 q (c1 - 3)] 24)) hb5)
  have hA : ∀ b' off', A6 = some ⟨b', off', none⟩ → b' ≠ w.heap.size := by
    intro b' off' e
    have hbk := hblk.out
    rw [← hA6] at e
    split at e <;> (injection e with e; injection e with e1 e2; omega)
  have HA := Lib.hid hA
  clear hA h5c hb5 hA6
  go_wp2_with (refine wpList_store_mid rfl 24 _ _ rfl w.heap.size 0 #[.int .i64 (b0.toNat : Int), .int .i64 kd, .int .i64 sq, .bool mo, .int .i64 co, .bool an, .slice A6 q (c1 - 3)] rfl rfl HTH5.out (by kernel_rfl) (by simp [Value.oneCell']) ?_)
  refine bodyPost_ret (results_cell_tmp rfl _ _ w.heap.size 0 [.int .i64 (b0.toNat : Int), .int .i64 kd, .int .i64 sq, .bool mo, .int .i64 co, .bool an, .slice A6 q (c1 - 3)] _ rfl (World.rangeAt_setCells_same w5 w.heap.size 0 [.int .i64 (b0.toNat : Int), .int .i64 kd, .int .i64 sq, .bool mo, .int .i64 co, .bool an, .slice A6 q (c1 - 3)] HTH5.out) Try.underlying24 rfl (by kernel_rfl)) rfl ⟨A6, q, c1 - 3, rfl, ?_, ?_⟩
  · exact grown_keepB (grown_setCells _ 0 w5) HI.out HA.out
  · exact below_setCells (Nat.le_refl _) _ _ _ HB5.out
end Go.Proofs.Ytpfihchdbdhbjaa
