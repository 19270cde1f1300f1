/- smartcard/check: the walks. -/
import Derived.Test.YtpfihchdbdhbjaaJ
import Derived.Test.YtpfihchdbdhbjaaQ
namespace Go.Proofs.Ytpfihchdbdhbjaa
open Go.RowKit

def sizeI (k : Int) : Int := if k = 0 then 1 else if k = 1 then 2 else 0
theorem size_any (k : Int) (w : World) :
    Calls Try.prog 26 #[.int .i64 k] w fun e w' => e = .returned (.int .i64 (sizeI k)) ∧ w = w' := by
  by_cases h0 : k = 0
  · subst h0
    go_enter Try.func26, Try.ntmps26
    go_wp2
    go_ret
    exact ⟨rfl, rfl⟩
  by_cases h1 : k = 1
  · subst h1
    go_enter Try.func26, Try.ntmps26
    go_wp2
    go_ret
    exact ⟨rfl, rfl⟩
  have hs : sizeI k = 0 := by simp [sizeI, h0, h1]
  rw [hs]
  clear hs
  go_enter Try.func26, Try.ntmps26
  go_wp2
  go_ret
  exact ⟨rfl, rfl⟩

set_option maxHeartbeats 400000 in
theorem lrc_any (A : Option Addr) (n c : Nat) (xs : List UInt8) (w : World) (h : IsB w A n c xs) :
    Calls Try.prog 49 #[.slice A n c] w fun e w' => e = .returned (.int .u8 ((lrcB xs).toNat : Int)) ∧ w = w' := by
  have hn := h.len63
  have hlen := IsB.len h
  have H := Lib.hid h
  have HL := Lib.hid hlen
  clear h hlen
  go_enter Try.func49, Try.ntmps49
  go_wp2
  go_loopg [3, 8] n (fun g x i wr => ∃ k, k ≤ n ∧ g = n - k ∧ i = .int .i64 (k : Int) ∧ x = .int .u8 ((lrcB (xs.take k)).toNat : Int) ∧ wr = w)
  case atStart => exact ⟨0, by omega, rfl, rfl, rfl, rfl⟩
  case round =>
    obtain ⟨k, hk, hg, rfl, rfl, rfl⟩ := hrel
    by_cases hlt : k < n
    · obtain ⟨x, b, off, hx, rfl, hc, hx8⟩ := IsB.at_ H.out hlt
      have hl8 := UInt8.toNat_lt (lrcB (xs.take k))
      have HX := Lib.hid (u8_xor_byte (lrcB (xs.take k)) x)
      go_wp2
      go_roundg (n - (k + 1))
      case measure => omega
      case rel => exact ⟨k + 1, by omega, rfl, by go_num, by rw [HX.out, take_snoc hx, lrcB_snoc], rfl⟩
    · go_wp2
      go_ret
      have : k = xs.length := by rw [HL.out]; omega
      subst this
      exact ⟨by simp, rfl⟩
end Go.Proofs.Ytpfihchdbdhbjaa
