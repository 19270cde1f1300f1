/- smartcard/block: the methods parse of the kinds: the walks. -/
import Derived.Test.YtpfihchdbdhbjaaL
namespace Go.Proofs.Ytpfihchdbdhbjaa
open Go.RowKit
set_option linter.unusedVariables false

theorem i64_and (a b : Nat) (ha : a < 4611686018427387904) (hb : b < 4611686018427387904) : bits .and .i64 (a : Int) (b : Int) = ((a &&& b : Nat) : Int) := by
  have hx : a &&& b < 2 ^ 62 := Nat.and_lt_two_pow _ (by omega)
  have e : ∀ c : Nat, c < 4611686018427387904 → (BitVec.ofInt 64 (c : Int)).toNat = c := fun c hc => by
    rw [BitVec.ofInt_natCast, BitVec.toNat_ofNat]; exact Nat.mod_eq_of_lt (by omega)
  show IntKind.i64.wrap ((BitVec.ofInt 64 (a : Int) &&& BitVec.ofInt 64 (b : Int)).toNat : Int) = _
  rw [BitVec.toNat_and, e a ha, e b hb, IntKind.wrap_i64]
  omega
theorem byte_and32 (c : Nat) (h : c < 256) : bits .and .i64 (c : Int) 32 = ((c / 32 % 2 * 32 : Nat) : Int) := by
  have := i64_and c 32 (by omega) (by omega)
  rw [nat_bit 5 c] at this
  exact this
theorem byte_and3 (c : Nat) (h : c < 256) : bits .and .i64 (c : Int) 3 = ((c % 4 : Nat) : Int) := by
  have := i64_and c 3 (by omega) (by omega)
  rw [nat_mask2] at this
  exact this
theorem byte_and1 (c : Nat) (h : c < 256) : bits .and .i64 (c : Int) 1 = ((c % 2 : Nat) : Int) := by
  have := i64_and c 1 (by omega) (by omega)
  rw [nat_mask1] at this
  exact this
theorem byte_and192 (c : Nat) (h : c < 256) : bits .and .i64 (c : Int) 192 = ((c / 64 * 64 : Nat) : Int) := by
  have := i64_and c 192 (by omega) (by omega)
  rw [show c &&& 192 = c / 64 * 64 from by
    have e := nat_midmask 8 6 c (by decide)
    rw [show (2 : Nat) ^ 8 - 2 ^ 6 = 192 by decide] at e
    rw [e, Nat.mod_eq_of_lt (by omega)]] at this
  exact this

set_option maxHeartbeats 1000000 in
theorem parse_I (c : Nat) (hc : c < 128) (w : World) :
    Calls Try.prog 74 #[.agg #[], .int .i64 (c : Int)] w
      fun e w' => e = .returned (.agg #[.int .i64 0, .int .i64 0, .int .i64 (c / 64 : Nat), .bool (decide (c / 32 % 2 = 1)), .int .i64 0, .bool false, .slice none 0 0]) ∧ Below w.heap.size w w' := by
  have h1 := byte_and32 c (by omega)
  rcases Nat.mod_two_eq_zero_or_one (c / 32) with h2 | h2
  · rw [h2] at h1
    have HD : Hid (decide (c / 32 % 2 = 1) = false) := by show _ = _; rw [h2]; rfl
    have hci : (c : Int) < 256 := by omega
    clear h2
    go_enter Try.func74, Try.ntmps74
    go_wp2
    refine bodyPost_ret (v := .agg #[.int .i64 0, .int .i64 0, .int .i64 ((c : Int) / 64), .bool false, .int .i64 0, .bool false, .slice none 0 0]) (by simp [results, Try.results74, go_sem]) rfl ⟨?_, ((Below.refl _ _).alloc (Nat.le_refl _) _).alloc (by simp) _⟩
    rw [HD.out]; rfl
  · rw [h2] at h1
    have HD : Hid (decide (c / 32 % 2 = 1) = true) := by show _ = _; rw [h2]; rfl
    have hci : (c : Int) < 256 := by omega
    clear h2
    go_enter Try.func74, Try.ntmps74
    go_wp2
    refine bodyPost_ret (v := .agg #[.int .i64 0, .int .i64 0, .int .i64 ((c : Int) / 64), .bool true, .int .i64 0, .bool false, .slice none 0 0]) (by simp [results, Try.results74, go_sem]) rfl ⟨?_, ((Below.refl _ _).alloc (Nat.le_refl _) _).alloc (by simp) _⟩
    rw [HD.out]; rfl

set_option maxHeartbeats 1000000 in
theorem parse_R (c : Nat) (hc : c < 256) (w : World) :
    Calls Try.prog 96 #[.agg #[], .int .i64 (c : Int)] w
      fun e w' => e = .returned (.agg #[.int .i64 0, .int .i64 1, .int .i64 (c / 16 % 2 : Nat), .bool false, .int .i64 (c % 4 : Nat), .bool false, .slice none 0 0]) ∧ Below w.heap.size w w' := by
  have h1 : bits .and .i64 ((c : Int) / 16) 1 = ((c / 16 % 2 : Nat) : Int) := byte_and1 (c / 16) (by omega)
  have h3 := byte_and3 c hc
  have hci : (c : Int) < 256 := by omega
  go_enter Try.func96, Try.ntmps96
  go_wp2
  exact bodyPost_ret (v := .agg #[.int .i64 0, .int .i64 1, .int .i64 (c / 16 % 2 : Nat), .bool false, .int .i64 (c % 4 : Nat), .bool false, .slice none 0 0]) (by simp [results, Try.results96, go_sem]) rfl ⟨rfl, ((Below.refl _ _).alloc (Nat.le_refl _) _).alloc (by simp) _⟩

set_option maxHeartbeats 1000000 in
theorem parse_S (c : Nat) (hc : c < 256) (w : World) :
    Calls Try.prog 93 #[.agg #[], .int .i64 (c : Int)] w
      fun e w' => e = .returned (.agg #[.int .i64 0, .int .i64 2, .int .i64 0, .bool false, .int .i64 (c % 4 : Nat), .bool (decide (c / 32 % 2 = 1)), .slice none 0 0]) ∧ Below w.heap.size w w' := by
  have h1 := byte_and32 c hc
  have h3 := byte_and3 c hc
  rcases Nat.mod_two_eq_zero_or_one (c / 32) with h2 | h2
  · rw [h2] at h1
    have HD : Hid (decide (c / 32 % 2 = 1) = false) := by show _ = _; rw [h2]; rfl
    have hci : (c : Int) < 256 := by omega
    clear h2
    go_enter Try.func93, Try.ntmps93
    go_wp2
    refine bodyPost_ret (v := .agg #[.int .i64 0, .int .i64 2, .int .i64 0, .bool false, .int .i64 ((c % 4 : Nat) : Int), .bool false, .slice none 0 0]) (by simp [results, Try.results93, go_sem]) rfl ⟨?_, ((Below.refl _ _).alloc (Nat.le_refl _) _).alloc (by simp) _⟩
    rw [HD.out]
  · rw [h2] at h1
    have HD : Hid (decide (c / 32 % 2 = 1) = true) := by show _ = _; rw [h2]; rfl
    have hci : (c : Int) < 256 := by omega
    clear h2
    go_enter Try.func93, Try.ntmps93
    go_wp2
    refine bodyPost_ret (v := .agg #[.int .i64 0, .int .i64 2, .int .i64 0, .bool false, .int .i64 ((c % 4 : Nat) : Int), .bool true, .slice none 0 0]) (by simp [results, Try.results93, go_sem]) rfl ⟨?_, ((Below.refl _ _).alloc (Nat.le_refl _) _).alloc (by simp) _⟩
    rw [HD.out]

/-! The methods that an interface value of a known kind leads to. -/
theorem m_PI (w : World) : (method 217 44 (.agg #[]) "smartcard/block.parse").run Try.prog w = .ok (74, .agg #[]) w := by kernel_rfl
theorem m_PR (w : World) : (method 217 63 (.agg #[]) "smartcard/block.parse").run Try.prog w = .ok (96, .agg #[]) w := by kernel_rfl
theorem m_PS (w : World) : (method 217 46 (.agg #[]) "smartcard/block.parse").run Try.prog w = .ok (93, .agg #[]) w := by kernel_rfl
theorem m_CI (w : World) : (method 217 44 (.agg #[]) "smartcard/block.control").run Try.prog w = .ok (73, .agg #[]) w := by kernel_rfl
theorem m_CR (w : World) : (method 217 63 (.agg #[]) "smartcard/block.control").run Try.prog w = .ok (95, .agg #[]) w := by kernel_rfl
theorem m_CS (w : World) : (method 217 46 (.agg #[]) "smartcard/block.control").run Try.prog w = .ok (92, .agg #[]) w := by kernel_rfl
end Go.Proofs.Ytpfihchdbdhbjaa
