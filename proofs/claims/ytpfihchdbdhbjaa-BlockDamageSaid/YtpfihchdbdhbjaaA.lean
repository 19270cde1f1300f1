/- check.Append, check.Remove: the walks. -/
import Derived.Test.YtpfihchdbdhbjaaE
namespace Go.Proofs.Ytpfihchdbdhbjaa
open Go.RowKit
set_option maxHeartbeats 400000 in
theorem append_ok (k : Int) (hk : k = 0 ∨ k = 1) (A : Option Addr) (n c : Nat) (xs : List UInt8) (w : World) (h : IsB w A n c xs) (hx : xs.length ≤ 900000) :
    Calls Try.prog 27 #[.int .i64 k, .slice A n c] w fun e w' => ∃ A' n' c', e = .returned (.tuple #[.slice A' n' c', .int .i64 0]) ∧ Own w' w.heap.size 5 A' n' c' ((xs ++ sumB k xs).map u8) ∧ Below w.heap.size w w' := by
  have he : sumE k = 0 := by unfold sumE; rw [if_pos hk]
  have hlen : (xs ++ sumB k xs).length ≤ 1000000 := by
    rw [List.length_append, sumB_length]; unfold sizeN; (split <;> (try split) <;> omega)
  go_enter Try.func27, Try.ntmps27
  go_wp2_with fail
  refine (sum_any k A n c xs _ h).mono ?_
  rintro e w1 ⟨A1, n1, c1, rfl, ho, hb⟩
  rw [he]
  have HB := Lib.hid hb
  have H1 := Lib.hid (IsBB.lit2 (e := 22) (h.below hb) ho.rd)
  clear hb ho he
  have HX := Lib.hid hlen
  clear hlen
  go_wp2_with fail
  refine (join_any _ _ _ [xs, sumB k xs] _ H1.out (by simpa using HX.out)).mono ?_
  rintro e w2 ⟨A2, n2, c2, rfl, ho2, hb2⟩
  go_wp2_with fail
  go_ret2
  refine ⟨A2, n2, c2, rfl, ?_, (HB.out.alloc HB.out.size _).trans (hb2.mono (by have := HB.out.size; simp; omega))⟩
  have := ho2.base (B' := w.heap.size) (by have := HB.out.size; simp; omega)
  simpa using this

theorem sizeI_eq (k : Int) : sizeI k = (sizeN k : Int) := by unfold sizeI sizeN; split <;> (try split) <;> rfl
theorem sizeN_pos (k : Int) (h : k = 0 ∨ k = 1) : 0 < sizeN k ∧ sizeN k ≤ 2 := by rcases h with rfl | rfl <;> decide

set_option maxHeartbeats 400000 in
theorem remove_bad (k : Int) (hk : ¬ (k = 0 ∨ k = 1)) (A : Option Addr) (n c : Nat) (w : World) :
    Calls Try.prog 33 #[.int .i64 k, .slice A n c] w fun e w' => e = .returned (.tuple #[.slice none 0 0, .int .i64 1]) ∧ Below w.heap.size w w' := by
  have hs : sizeI k = 0 := by unfold sizeI; rw [if_neg (by omega), if_neg (by omega)]
  go_enter Try.func33, Try.ntmps33
  go_wp2_with fail
  refine (size_any k _).mono ?_
  rintro e w1 ⟨rfl, rfl⟩
  rw [hs]
  go_wp2_with fail
  go_ret2
  exact ⟨rfl, Below.refl _ _⟩

set_option maxHeartbeats 400000 in
theorem remove_short (k : Int) (hk : k = 0 ∨ k = 1) (A : Option Addr) (n c : Nat) (hn : n < sizeN k) (w : World) :
    Calls Try.prog 33 #[.int .i64 k, .slice A n c] w fun e w' => e = .returned (.tuple #[.slice none 0 0, .int .i64 5]) ∧ Below w.heap.size w w' := by
  have hp := sizeN_pos k hk
  go_enter Try.func33, Try.ntmps33
  go_wp2_with fail
  refine (size_any k _).mono ?_
  rintro e w1 ⟨rfl, rfl⟩
  rw [sizeI_eq]
  generalize sizeN k = s at *
  have h0 : ((s : Int) == 0) = false := by simp; omega
  go_wp2_with fail
  go_ret2
  exact ⟨rfl, Below.refl _ _⟩

set_option maxHeartbeats 400000 in
theorem remove_ok (k : Int) (hk : k = 0 ∨ k = 1) (A : Option Addr) (m s c : Nat) (hs : sizeN k = s) (xs : List UInt8) (w : World) (h : IsB w A (m + s) c xs) (hx : xs.length ≤ 900000) (heq : sumB k (xs.take m) = xs.drop m) :
    Calls Try.prog 33 #[.int .i64 k, .slice A (m + s) c] w fun e w' => ∃ A' n' c', e = .returned (.tuple #[.slice A' n' c', .int .i64 0]) ∧ Own w' w.heap.size 5 A' n' c' ((xs.take m).map u8) ∧ Below w.heap.size w w' := by
  have hd : decide (sumB k (xs.take m) = xs.drop m) = true := decide_eq_true heq
  clear heq
  have hp := sizeN_pos k hk
  have he : sumE k = 0 := by unfold sumE; rw [if_pos hk]
  have hcap := h.cap
  have h63 := h.len63
  have h1 : IsB w A m c (xs.take m) := IsB.take h (by omega)
  have h2 : IsB w (A.map (·.add m)) s (c - m) (xs.drop m) := by
    have := IsB.cut h (k := m) (by omega)
    rwa [if_neg (by omega), Nat.add_sub_cancel_left] at this
  go_enter Try.func33, Try.ntmps33
  go_wp2_with fail
  refine (size_any k _).mono ?_
  rintro e w1 ⟨rfl, rfl⟩
  rw [sizeI_eq, hs]
  rw [hs] at hp
  have h0 : ((s : Int) == 0) = false := by simp; omega
  have H := Lib.hid (And.intro hs (And.intro h1 (And.intro h2 he)))
  clear hs h1 h2 he
  go_wp2_with fail
  refine (sum_any k A m c _ _ H.out.2.1).mono ?_
  rintro e w1 ⟨A1, n1, c1, rfl, ho, hb⟩
  rw [H.out.2.2.2]
  have HB := Lib.hid (And.intro ho hb)
  clear ho hb
  go_wp2_with fail
  refine (equal_any _ _ _ _ _ _ _ _ _ HB.out.1.rd (Rd.below H.out.2.2.1 HB.out.2)).mono ?_
  rintro e w2 ⟨rfl, rfl⟩
  rw [hd]
  clear hd
  have HJ := Lib.hid (IsBB.lit1 (e := 22) (Rd.below H.out.2.1 HB.out.2))
  have HL : Hid (([xs.take m] : List (List UInt8)).flatten.length ≤ 1000000) := by
    show _ ≤ _
    simp; omega
  go_wp2_with fail
  refine (join_any _ _ _ [xs.take m] _ HJ.out HL.out).mono ?_
  rintro e w2 ⟨A2, n2, c2, rfl, ho2, hb2⟩
  have HO := Lib.hid (And.intro ho2 hb2)
  clear ho2 hb2
  go_wp2_with fail
  go_ret2
  obtain ⟨ho2, hb2⟩ := HO.out
  have hb := HB.out.2
  refine ⟨A2, n2, c2, rfl, ?_, (hb.alloc hb.size _).trans (hb2.mono (by have := hb.size; simp; omega))⟩
  have := ho2.base (B' := w.heap.size) (by have := hb.size; simp; omega)
  simpa using this

set_option maxHeartbeats 400000 in
theorem remove_sum (k : Int) (hk : k = 0 ∨ k = 1) (A : Option Addr) (m s c : Nat) (hs : sizeN k = s) (xs : List UInt8) (w : World) (h : IsB w A (m + s) c xs) (heq : ¬ sumB k (xs.take m) = xs.drop m) :
    Calls Try.prog 33 #[.int .i64 k, .slice A (m + s) c] w fun e w' => e = .returned (.tuple #[.slice none 0 0, .int .i64 6]) ∧ Below w.heap.size w w' := by
  have hd : decide (sumB k (xs.take m) = xs.drop m) = false := decide_eq_false heq
  clear heq
  have hp := sizeN_pos k hk
  have he : sumE k = 0 := by unfold sumE; rw [if_pos hk]
  have hcap := h.cap
  have h63 := h.len63
  have h1 : IsB w A m c (xs.take m) := IsB.take h (by omega)
  have h2 : IsB w (A.map (·.add m)) s (c - m) (xs.drop m) := by
    have := IsB.cut h (k := m) (by omega)
    rwa [if_neg (by omega), Nat.add_sub_cancel_left] at this
  go_enter Try.func33, Try.ntmps33
  go_wp2_with fail
  refine (size_any k _).mono ?_
  rintro e w1 ⟨rfl, rfl⟩
  rw [sizeI_eq, hs]
  rw [hs] at hp
  have h0 : ((s : Int) == 0) = false := by simp; omega
  have H := Lib.hid (And.intro hs (And.intro h1 (And.intro h2 he)))
  clear hs h1 h2 he
  go_wp2_with fail
  refine (sum_any k A m c _ _ H.out.2.1).mono ?_
  rintro e w1 ⟨A1, n1, c1, rfl, ho, hb⟩
  rw [H.out.2.2.2]
  have HB := Lib.hid (And.intro ho hb)
  clear ho hb
  go_wp2_with fail
  refine (equal_any _ _ _ _ _ _ _ _ _ HB.out.1.rd (Rd.below H.out.2.2.1 HB.out.2)).mono ?_
  rintro e w2 ⟨rfl, rfl⟩
  rw [hd]
  clear hd
  go_wp2_with fail
  go_ret2
  exact ⟨rfl, HB.out.2⟩
end Go.Proofs.Ytpfihchdbdhbjaa
