/- A byte of an encoded block that is changed is found out, in plain words. -/
import Derived.Test.YtpfihchdbdhbjaaQl
namespace Go.Proofs.Ytpfihchdbdhbjaa
set_option linter.unusedVariables false
theorem crcStep_zero (x : Nat) (h : x < 65536) (h0 : crcStep x = 0) : x = 0 := by
  unfold crcStep at h0
  split at h0
  · have : x / 2 = 33800 := by
      have h1 : (x / 2 ^^^ 33800) ^^^ 33800 = 0 ^^^ 33800 := by rw [h0]
      rwa [Nat.xor_assoc, Nat.xor_self, Nat.xor_zero, Nat.zero_xor] at h1
    omega
  · omega
theorem crcSteps_zero (k x : Nat) (h : x < 65536) (h0 : crcSteps k x = 0) : x = 0 := by
  induction k with
  | zero => exact h0
  | succ k ih => exact ih (crcStep_zero _ (crcSteps_lt k x h) h0)
theorem xor_zero_eq {a b : Nat} (h : a ^^^ b = 0) : a = b := by
  have h1 : (a ^^^ b) ^^^ b = 0 ^^^ b := by rw [h]
  rwa [Nat.xor_assoc, Nat.xor_self, Nat.xor_zero, Nat.zero_xor] at h1
theorem crc8_inj {a b : Nat} (ha : a < 65536) (hb : b < 65536) (h : crc8 a = crc8 b) : a = b := by
  refine xor_zero_eq (crcSteps_zero 8 _ (Nat.xor_lt_two_pow (n := 16) (by omega) (by omega)) ?_)
  have h1 : crcSteps 8 a = crcSteps 8 b := h
  rw [crcSteps_xor, h1, Nat.xor_self]
theorem xor_right_inj {a b c : Nat} (h : a ^^^ c = b ^^^ c) : a = b := by
  have h1 : (a ^^^ c) ^^^ c = (b ^^^ c) ^^^ c := by rw [h]
  rwa [Nat.xor_assoc, Nat.xor_assoc, Nat.xor_self, Nat.xor_zero, Nat.xor_zero] at h1
theorem xor_left_inj {a b c : Nat} (h : c ^^^ a = c ^^^ b) : a = b := by
  rw [Nat.xor_comm c a, Nat.xor_comm c b] at h; exact xor_right_inj h
theorem crc_fold_inj (xs : List UInt8) : ∀ r s, r < 65536 → s < 65536 → xs.foldl (fun r b => crc8 (r ^^^ b.toNat)) r = xs.foldl (fun r b => crc8 (r ^^^ b.toNat)) s → r = s := by
  induction xs with
  | nil => intro r s _ _ h; exact h
  | cons b xs ih =>
    intro r s hr hs h
    have h1 := ih _ _ (crc8_lt _ (xor_byte_lt r b hr)) (crc8_lt _ (xor_byte_lt s b hs)) h
    exact xor_right_inj (crc8_inj (xor_byte_lt r b hr) (xor_byte_lt s b hs) h1)
theorem crcN_change (p q : List UInt8) (b c : UInt8) (h : crcN (p ++ b :: q) = crcN (p ++ c :: q)) : b = c := by
  unfold crcN at h
  rw [List.foldl_append, List.foldl_append, List.foldl_cons, List.foldl_cons] at h
  have hp := crcN_lt p
  unfold crcN at hp
  have h1 := crc_fold_inj q _ _ (crc8_lt _ (xor_byte_lt _ b hp)) (crc8_lt _ (xor_byte_lt _ c hp)) h
  have h2 := xor_left_inj (crc8_inj (xor_byte_lt _ b hp) (xor_byte_lt _ c hp) h1)
  exact UInt8.toNat_inj.1 h2
theorem u8_xor_right_inj {a b c : UInt8} (h : a ^^^ c = b ^^^ c) : a = b := by
  have h1 : (a ^^^ c) ^^^ c = (b ^^^ c) ^^^ c := by rw [h]
  rwa [UInt8.xor_assoc, UInt8.xor_assoc, UInt8.xor_self, UInt8.xor_zero, UInt8.xor_zero] at h1
theorem lrc_fold_inj (xs : List UInt8) : ∀ r s : UInt8, xs.foldl (· ^^^ ·) r = xs.foldl (· ^^^ ·) s → r = s := by
  induction xs with
  | nil => intro r s h; exact h
  | cons b xs ih => intro r s h; exact u8_xor_right_inj (ih _ _ h)
theorem lrcB_change (p q : List UInt8) (b c : UInt8) (h : lrcB (p ++ b :: q) = lrcB (p ++ c :: q)) : b = c := by
  unfold lrcB at h
  rw [List.foldl_append, List.foldl_append, List.foldl_cons, List.foldl_cons] at h
  have h1 := lrc_fold_inj q _ _ h
  rw [UInt8.xor_comm _ b, UInt8.xor_comm _ c] at h1
  exact u8_xor_right_inj h1
theorem sumB_inj {k : Int} (hk : k = 0 ∨ k = 1) (p q : List UInt8) (b c : UInt8) (h : sumB k (p ++ b :: q) = sumB k (p ++ c :: q)) : b = c := by
  rcases hk with rfl | rfl
  · unfold sumB at h
    simp at h
    exact lrcB_change p q b c h
  · unfold sumB at h
    simp at h
    obtain ⟨h1, h2⟩ := h
    have e1 := crcLo_toNat (p ++ b :: q)
    have e2 := crcLo_toNat (p ++ c :: q)
    have e3 := crcHi_toNat (p ++ b :: q)
    have e4 := crcHi_toNat (p ++ c :: q)
    rw [h1] at e1
    rw [h2] at e3
    have hI : crcInv (p ++ b :: q) = crcInv (p ++ c :: q) := by omega
    unfold crcInv at hI
    have l1 := crcN_lt (p ++ b :: q)
    have l2 := crcN_lt (p ++ c :: q)
    exact crcN_change p q b c (by omega)
theorem split_at {l : List UInt8} {i : Nat} (h : i < l.length) : l = l.take i ++ l[i] :: l.drop (i + 1) := by
  rw [← List.drop_eq_getElem_cons h, List.take_append_drop]
theorem sumB_set {k : Int} (hk : k = 0 ∨ k = 1) (l : List UInt8) (i : Nat) (h : i < l.length) (b : UInt8) (hb : b ≠ l[i]) : sumB k (l.set i b) ≠ sumB k l := by
  intro he
  rw [List.set_eq_take_append_cons_drop, if_pos h] at he
  conv at he => rhs; rw [split_at h]
  exact hb (sumB_inj hk _ _ _ _ he)
/-- A changed byte is found out. -/
theorem damage {k : Int} (hk : k = 0 ∨ k = 1) (body : List UInt8) (h3 : 3 ≤ body.length) (i : Nat) (b : UInt8) (hi : i < (body ++ sumB k body).length) (hb : b ≠ (body ++ sumB k body)[i]) : decE k ((body ++ sumB k body).set i b) = 6 := by
  have hl := sumB_length k body
  have hm : ((body ++ sumB k body).set i b).length - sizeN k = body.length := by rw [List.length_set, List.length_append, hl]; omega
  unfold decE bodyB
  rw [if_neg (not_not_intro hk), hm, if_neg (by rw [List.length_set, List.length_append, hl]; omega)]
  rw [List.take_set, List.drop_set, List.take_left, List.drop_left]
  by_cases hlt : i < body.length
  · rw [if_pos hlt, if_neg (sumB_set hk body i hlt b (by rwa [List.getElem_append_left hlt] at hb))]
  · rw [if_neg hlt, List.set_eq_of_length_le (by omega), if_neg]
    intro he
    rw [List.getElem_append_right (by omega)] at hb
    have hj : i - body.length < (sumB k body).length := by rw [List.length_append] at hi; omega
    have : (sumB k body)[i - body.length]? = some b := by rw [he, List.getElem?_set_self hj]
    rw [List.getElem?_eq_getElem hj] at this
    injection this with this
    exact hb this.symm
theorem flip_ne (c : UInt8) (j : Nat) (hj : j < 8) : c ^^^ UInt8.ofNat (2 ^ j) ≠ c := by
  intro h
  have h1 : c ^^^ (c ^^^ UInt8.ofNat (2 ^ j)) = c ^^^ c := by rw [h]
  rw [← UInt8.xor_assoc, UInt8.xor_self, UInt8.zero_xor] at h1
  have : ∀ j : Nat, j < 8 → UInt8.ofNat (2 ^ j) ≠ 0 := by decide
  exact this j hj h1
end Go.Proofs.Ytpfihchdbdhbjaa
