/- Check values in plain Lean: the exclusive or of bytes, and the CRC. No program in sight. -/
import Derived.Laws.BitsAllLaws
namespace Go.Proofs.Ytpfihchdbdhbjaa

def lrcB (xs : List UInt8) : UInt8 := xs.foldl (· ^^^ ·) 0
theorem lrcB_snoc (xs : List UInt8) (b : UInt8) : lrcB (xs ++ [b]) = lrcB xs ^^^ b := by simp [lrcB]

theorem u8_xor_byte (a b : UInt8) : bits .xor .u8 (a.toNat : Int) (b.toNat : Int) = ((a ^^^ b).toNat : Int) := by
  rw [u8_xor_nat _ _ (UInt8.toNat_lt a) (UInt8.toNat_lt b)]; simp

def crcStep (r : Nat) : Nat := if r % 2 = 1 then (r / 2) ^^^ 33800 else r / 2
def crcSteps : Nat → Nat → Nat
  | 0, r => r
  | k + 1, r => crcStep (crcSteps k r)
def crc8 (r : Nat) : Nat := crcSteps 8 r
def crcN (xs : List UInt8) : Nat := xs.foldl (fun r b => crc8 (r ^^^ b.toNat)) 65535
theorem crcN_snoc (xs : List UInt8) (b : UInt8) : crcN (xs ++ [b]) = crc8 (crcN xs ^^^ b.toNat) := by simp [crcN]

theorem crcStep_lt (r : Nat) (h : r < 65536) : crcStep r < 65536 := by
  unfold crcStep
  split
  · exact Nat.xor_lt_two_pow (n := 16) (by omega) (by omega)
  · omega
theorem crcSteps_lt (k r : Nat) (h : r < 65536) : crcSteps k r < 65536 := by
  induction k with
  | zero => exact h
  | succ k ih => exact crcStep_lt _ ih
theorem crc8_lt (r : Nat) (h : r < 65536) : crc8 r < 65536 := crcSteps_lt 8 r h
theorem xor_byte_lt (r : Nat) (b : UInt8) (h : r < 65536) : r ^^^ b.toNat < 65536 :=
  Nat.xor_lt_two_pow (n := 16) (by omega) (by have := UInt8.toNat_lt b; omega)
theorem crcN_lt (xs : List UInt8) : crcN xs < 65536 := by
  unfold crcN
  have : ∀ (xs : List UInt8) r, r < 65536 → xs.foldl (fun r b => crc8 (r ^^^ b.toNat)) r < 65536 := by
    intro xs
    induction xs with
    | nil => intro r h; exact h
    | cons b xs ih => intro r h; exact ih _ (crc8_lt _ (xor_byte_lt r b h))
  exact this xs _ (by omega)

theorem xor_lc (a b c : Nat) : a ^^^ (b ^^^ c) = b ^^^ (a ^^^ c) := by rw [← Nat.xor_assoc, Nat.xor_comm a b, Nat.xor_assoc]
/-- The register is linear over the exclusive or. -/
theorem crcStep_xor (a b : Nat) : crcStep (a ^^^ b) = crcStep a ^^^ crcStep b := by
  have hm : (a ^^^ b) % 2 = (a % 2 + b % 2) % 2 := by
    have := Nat.xor_mod_two_pow (a := a) (b := b) (n := 1)
    simp only [Nat.pow_one] at this
    rw [this]
    rcases Nat.mod_two_eq_zero_or_one a with h | h <;> rcases Nat.mod_two_eq_zero_or_one b with g | g <;> rw [h, g] <;> decide
  have hd : (a ^^^ b) / 2 = a / 2 ^^^ b / 2 := by
    have := Nat.shiftRight_xor_distrib (a := a) (b := b) (i := 1)
    simpa [Nat.shiftRight_eq_div_pow] using this
  unfold crcStep
  rw [hm, hd]
  rcases Nat.mod_two_eq_zero_or_one a with h | h <;> rcases Nat.mod_two_eq_zero_or_one b with g | g <;> rw [h, g] <;> simp
  · rw [Nat.xor_assoc]
  · rw [Nat.xor_assoc, Nat.xor_comm (b / 2), Nat.xor_assoc]
  · rw [Nat.xor_assoc, Nat.xor_comm (b / 2), ← Nat.xor_assoc 33800 33800, Nat.xor_self, Nat.zero_xor]
theorem crcSteps_xor (k a b : Nat) : crcSteps k (a ^^^ b) = crcSteps k a ^^^ crcSteps k b := by
  induction k with
  | zero => rfl
  | succ k ih => simp only [crcSteps]; rw [ih, crcStep_xor]
theorem crcSteps_pow (k y j : Nat) (h : k ≤ j) : crcSteps k (y * 2 ^ j) = y * 2 ^ (j - k) := by
  induction k with
  | zero => rfl
  | succ k ih =>
    simp only [crcSteps]
    rw [ih (by omega)]
    have : y * 2 ^ (j - k) = 2 * (y * 2 ^ (j - (k + 1))) := by
      rw [show j - k = (j - (k + 1)) + 1 by omega, Nat.pow_succ]; rw [← Nat.mul_assoc, Nat.mul_comm]
    rw [this]
    unfold crcStep
    rw [if_neg (by omega)]
    omega
/-- A step by the table: the high byte is shifted, the low one looked up. -/
theorem crc8_table (r : Nat) : crc8 r = r / 256 ^^^ crc8 (r % 256) := by
  have h : r = (r / 256) * 2 ^ 8 ^^^ r % 256 := by
    have h1 := Nat.div_add_mod r 256
    have h2 : (r / 256) * 2 ^ 8 ^^^ r % 256 = (r / 256) * 2 ^ 8 + r % 256 := by
      have hlt : r % 256 < 2 ^ 8 := by omega
      rw [Nat.mul_comm, Nat.two_pow_add_eq_or_of_lt hlt]
      apply Nat.eq_of_testBit_eq
      intro i
      simp only [Nat.testBit_xor, Nat.testBit_or, Nat.testBit_two_pow_mul]
      by_cases hi : 8 ≤ i
      · have : (r % 256).testBit i = false := Nat.testBit_lt_two_pow (Nat.lt_of_lt_of_le hlt (Nat.pow_le_pow_right (by omega) hi))
        simp [this]
      · simp [hi]
    omega
  conv => lhs; rw [h]
  rw [crc8, crcSteps_xor, crcSteps_pow 8 _ 8 (by omega)]
  simp [crc8]
theorem crc8_byte (r : Nat) (b : UInt8) : crc8 (r ^^^ b.toNat) = r / 256 ^^^ crc8 (r % 256 ^^^ b.toNat) := by
  have hb := UInt8.toNat_lt b
  rw [crc8_table]
  have h1 : (r ^^^ b.toNat) / 256 = r / 256 := by
    have := Nat.shiftRight_xor_distrib (a := r) (b := b.toNat) (i := 8)
    simp only [Nat.shiftRight_eq_div_pow] at this
    rw [show (256 : Nat) = 2 ^ 8 by decide, this, Nat.div_eq_of_lt (by omega : b.toNat < 2 ^ 8)]; simp
  have h2 : (r ^^^ b.toNat) % 256 = r % 256 ^^^ b.toNat := by
    have := Nat.xor_mod_two_pow (a := r) (b := b.toNat) (n := 8)
    rw [show (256 : Nat) = 2 ^ 8 by decide, this, Nat.mod_eq_of_lt (by omega : b.toNat < 2 ^ 8)]
  rw [h1, h2]
theorem xor_full (n x : Nat) (h : x < 2 ^ n) : (2 ^ n - 1) ^^^ x = 2 ^ n - 1 - x := by
  apply Nat.eq_of_testBit_eq
  intro i
  rw [show 2 ^ n - 1 - x = 2 ^ n - (x + 1) by omega, Nat.testBit_two_pow_sub_succ h, Nat.testBit_xor, Nat.testBit_two_pow_sub_one]
  by_cases hi : i < n
  · simp [hi]
  · have : x.testBit i = false := Nat.testBit_lt_two_pow (Nat.lt_of_lt_of_le h (Nat.pow_le_pow_right (by omega) (by omega)))
    simp [hi, this]
theorem u16_not (x : Nat) (h : x < 65536) : bits .xor .u16 IntKind.u16.max (x : Int) = ((65535 - x : Nat) : Int) := by
  have hm : IntKind.u16.max = ((65535 : Nat) : Int) := rfl
  rw [hm, u16_xor_nat _ _ (by omega) h, xor_full 16 x h]
/-- The CRC as it is sent. -/
def crcInv (xs : List UInt8) : Nat := 65535 - crcN xs
theorem crcInv_lt (xs : List UInt8) : crcInv xs < 65536 := by unfold crcInv; omega
theorem u16_crcInv (xs : List UInt8) : bits .xor .u16 IntKind.u16.max (crcN xs : Int) = (crcInv xs : Int) := u16_not _ (crcN_lt xs)
def crcLo (xs : List UInt8) : UInt8 := UInt8.ofNat (crcInv xs % 256)
def crcHi (xs : List UInt8) : UInt8 := UInt8.ofNat (crcInv xs / 256)
theorem crcLo_toNat (xs : List UInt8) : (crcLo xs).toNat = crcInv xs % 256 := by simp [crcLo]
theorem crcHi_toNat (xs : List UInt8) : (crcHi xs).toNat = crcInv xs / 256 := by have := crcInv_lt xs; simp [crcHi]; omega
/-- The check value of a kind: 0 is one byte, 1 two bytes; there are no others. -/
def sumB (k : Int) (xs : List UInt8) : List UInt8 := if k = 0 then [lrcB xs] else if k = 1 then [crcLo xs, crcHi xs] else []
def sumE (k : Int) : Int := if k = 0 ∨ k = 1 then 0 else 1
def sizeN (k : Int) : Nat := if k = 0 then 1 else if k = 1 then 2 else 0
/-- Taking a check value off again: the error, and the bytes that remain. -/
def removeE (k : Int) (xs : List UInt8) : Int := if sizeN k = 0 then 1 else if xs.length < sizeN k then 5 else if sumB k (xs.take (xs.length - sizeN k)) = xs.drop (xs.length - sizeN k) then 0 else 6
def removeB (k : Int) (xs : List UInt8) : List UInt8 := if removeE k xs = 0 then xs.take (xs.length - sizeN k) else []
theorem sumB_length (k : Int) (xs : List UInt8) : (sumB k xs).length = sizeN k := by
  unfold sumB sizeN
  split
  · rfl
  · split <;> rfl
end Go.Proofs.Ytpfihchdbdhbjaa
