/- check.Sum: the walk. -/
import Derived.Test.YtpfihchdbdhbjaaT
namespace Go.Proofs.Ytpfihchdbdhbjaa
open Go.RowKit
theorem own_lit {w : World} {B : Nat} {e : TypeId} (vs : List Value) (hB : B ≤ w.heap.size) (hm : vs.length ≤ 1000) : Own (w.alloc (.cells vs.toArray e)) B e (some ⟨w.heap.size, 0, none⟩) vs.length vs.length vs := by
  have h := World.ownsRow_lit (base := B) (e := e) (size := 1) w vs.toArray vs.length hB (by unfold maxLen; omega) (by simp)
  simpa using h

set_option maxHeartbeats 400000 in
theorem sum_any (k : Int) (A : Option Addr) (n c : Nat) (xs : List UInt8) (w : World) (h : IsB w A n c xs) :
    Calls Try.prog 44 #[.int .i64 k, .slice A n c] w fun e w' => ∃ A' n' c', e = .returned (.tuple #[.slice A' n' c', .int .i64 (sumE k)]) ∧ Own w' w.heap.size 5 A' n' c' ((sumB k xs).map u8) ∧ Below w.heap.size w w' := by
  by_cases h0 : k = 0
  · subst h0
    go_enter Try.func44, Try.ntmps44
    go_wp2_with fail
    refine (lrc_any A n c xs _ h).mono ?_
    rintro e w1 ⟨rfl, rfl⟩
    go_wp2_with fail
    go_ret2
    exact ⟨_, _, _, rfl, own_lit [u8 (lrcB xs)] (Nat.le_refl _) (by simp), (Below.refl _ _).alloc (Nat.le_refl _) _⟩
  by_cases h1 : k = 1
  · subst h1
    go_enter Try.func44, Try.ntmps44
    go_wp2_with fail
    refine (crc_any A n c xs _ h).mono ?_
    rintro e w1 ⟨rfl, hb⟩
    have hlt := crcInv_lt xs
    have hr : (crcInv xs : Int) < 65536 := by omega
    have HC := Lib.hid (And.intro (crcLo_toNat xs) (And.intro (crcHi_toNat xs) hlt))
    clear hlt
    go_wp2_with fail
    go_ret2
    refine ⟨_, _, _, rfl, ?_, hb.alloc hb.size _⟩
    have e1 : u8 (crcLo xs) = .int .u8 ((crcInv xs : Int) % 256) := by rw [u8, HC.out.1]; rfl
    have e2 : u8 (crcHi xs) = .int .u8 ((crcInv xs : Int) / 256) := by rw [u8, HC.out.2.1]; rfl
    have h := own_lit (w := w1) (B := w.heap.size) (e := 5) [u8 (crcLo xs), u8 (crcHi xs)] hb.size (by simp)
    show Own _ _ _ _ 2 2 [u8 (crcLo xs), u8 (crcHi xs)]
    rw [e1, e2]
    rw [e1, e2] at h
    exact h
  have h0' : (k == 0) = false := by simp [h0]
  have h1' : (k == 1) = false := by simp [h1]
  have hs : sumB k xs = [] := by simp [sumB, h0, h1]
  have he : sumE k = 1 := by simp [sumE, h0, h1]
  rw [hs, he]
  clear hs he h0 h1
  go_enter Try.func44, Try.ntmps44
  go_wp2_with fail
  go_ret2
  exact ⟨none, 0, 0, rfl, Own.nil _ _, Below.refl _ _⟩
end Go.Proofs.Ytpfihchdbdhbjaa
