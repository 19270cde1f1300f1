/- The references' comparison of bytes: the walks. -/
import Derived.Test.YtpfihchdbdhbjaaA
import Derived.Deep.QuietTactic
import Derived.BigQuiet
namespace Go.Proofs.Ytpfihchdbdhbjaa
open Go.RowKit

def cmpB : List UInt8 → List UInt8 → Int
  | [], [] => 0
  | [], _ :: _ => -1
  | _ :: _, [] => 1
  | x :: xs, y :: ys => if x.toNat < y.toNat then -1 else if y.toNat < x.toNat then 1 else cmpB xs ys
theorem cmpB_cons (x y : UInt8) (xs ys : List UInt8) : cmpB (x :: xs) (y :: ys) = if x.toNat < y.toNat then -1 else if y.toNat < x.toNat then 1 else cmpB xs ys := by rw [cmpB]
theorem cmpB_nil_cons (y : UInt8) (ys : List UInt8) : cmpB [] (y :: ys) = -1 := by rw [cmpB]
theorem cmpB_cons_nil (x : UInt8) (xs : List UInt8) : cmpB (x :: xs) [] = 1 := by rw [cmpB]
theorem cmpB_nil : cmpB [] [] = 0 := by rw [cmpB]
theorem cmpB_self (xs : List UInt8) : cmpB xs xs = 0 := by
  induction xs with
  | nil => rfl
  | cons x xs ih => simp [cmpB, ih]
theorem cmpB_eq : ∀ (xs ys : List UInt8), cmpB xs ys = 0 → xs = ys
  | [], [], _ => rfl
  | [], _ :: _, h => by simp [cmpB] at h
  | _ :: _, [], h => by simp [cmpB] at h
  | x :: xs, y :: ys, h => by
    unfold cmpB at h
    split at h
    · simp at h
    · split at h
      · simp at h
      · rw [cmpB_eq xs ys h]
        congr 1
        exact UInt8.toNat_inj.1 (by omega)
theorem cmpB_iff (xs ys : List UInt8) : (cmpB xs ys == 0) = decide (xs = ys) := by
  rw [Bool.eq_iff_iff]
  simp only [beq_iff_eq, decide_eq_true_eq]
  exact ⟨cmpB_eq xs ys, fun h => by rw [h]; exact cmpB_self ys⟩
theorem drop_of_get {xs : List UInt8} {k : Nat} {x : UInt8} (h : Hid (xs[k]? = some x)) : xs.drop k = x :: xs.drop (k + 1) := by
  obtain ⟨hk, rfl⟩ := List.getElem?_eq_some_iff.1 h.out
  exact List.drop_eq_getElem_cons hk

set_option maxHeartbeats 1000000 in
theorem compare_any (A : Option Addr) (n c : Nat) (xs : List UInt8) (A' : Option Addr) (n' c' : Nat) (ys : List UInt8) (w : World) (h : IsB w A n c xs) (h' : IsB w A' n' c' ys) :
    Calls Try.prog 32 #[.slice A n c, .slice A' n' c'] w fun e w' => e = .returned (.int .i64 (cmpB xs ys)) ∧ Below w.heap.size w w' := by
  have hn := h.len63.1
  have hn' := h'.len63.1
  have HL := Lib.hid (And.intro (IsB.len h) (IsB.len h'))
  have H := Lib.hid (And.intro h h')
  clear h h'
  go_enter Try.func32, Try.ntmps32
  go_wp2
  go_loopg [5] n (fun g i wr => ∃ k, k ≤ n ∧ k ≤ n' ∧ g = n - k ∧ i = .int .i64 (k : Int) ∧ Hid (cmpB xs ys = cmpB (xs.drop k) (ys.drop k)) ∧ Below w.heap.size w wr)
  case atStart => exact ⟨0, by omega, by omega, rfl, rfl, by simp [Hid], Below.refl _ _⟩
  case round =>
    obtain ⟨k, hk, hk', hg, rfl, hc, hb⟩ := hrel
    by_cases hlt : k < n
    · by_cases hlt' : k < n'
      · obtain ⟨x, b, off, hx, rfl, hcx, hx8⟩ := IsB.at_ (Rd.below H.out.1 hb) hlt
        obtain ⟨y, b', off', hy, rfl, hcy, hy8⟩ := IsB.at_ (Rd.below H.out.2 hb) hlt'
        have HX := Lib.hid (And.intro hx hy)
        have hcons : cmpB (xs.drop k) (ys.drop k) = cmpB (x :: xs.drop (k + 1)) (y :: ys.drop (k + 1)) := by rw [drop_of_get hx, drop_of_get hy]
        rw [cmpB_cons] at hcons
        obtain ⟨a, ha⟩ : ∃ a, a = x.toNat := ⟨_, rfl⟩
        obtain ⟨d, hd⟩ : ∃ d, d = y.toNat := ⟨_, rfl⟩
        rw [← ha, ← hd] at hcons
        rw [← ha] at hcx hx8
        rw [← hd] at hcy hy8
        clear hx hy ha hd HX
        by_cases h1 : a < d
        · rw [if_pos h1] at hcons
          have HC := Lib.hid (hc.out.trans hcons)
          have h1' : (a : Int) < d := by omega
          clear hc hcons h1
          go_wp2
          go_region
          go_wp2
          go_ret
          exact ⟨ret_i64 HC.out.symm, hb.drew⟩
        · rw [if_neg h1] at hcons
          have h1' : decide (a < d) = false := decide_eq_false h1
          by_cases h2 : d < a
          · rw [if_pos h2] at hcons
            have HC := Lib.hid (hc.out.trans hcons)
            have h2' : decide (d < a) = true := decide_eq_true h2
            clear hc hcons h1 h2
            go_wp2
            go_region
            go_wp2
            go_region
            go_wp2
            go_ret
            exact ⟨ret_i64 HC.out.symm, hb.drew.drew⟩
          · rw [if_neg h2] at hcons
            have HC := Lib.hid (hc.out.trans hcons)
            have h2' : decide (d < a) = false := decide_eq_false h2
            clear hc hcons h1 h2
            go_wp2
            go_region
            go_wp2
            go_region
            go_wp2
            go_roundg (n - (k + 1))
            case measure => omega
            case rel => exact ⟨k + 1, by omega, by omega, rfl, by go_num, HC.out, hb.drew.drew⟩
      · have hxe : ∃ x, Hid (xs[k]? = some x) := by have := HL.out.1; exact ⟨xs[k]'(by omega), List.getElem?_eq_getElem (by omega)⟩
        obtain ⟨x, hx⟩ := hxe
        have hcy : ys.drop k = [] := List.drop_eq_nil_of_le (by have := HL.out.2; omega)
        have hv := hc.out
        rw [drop_of_get hx, hcy, cmpB_cons_nil] at hv
        have HC := Lib.hid hv
        have hnn : ¬ (n : Int) < n' := by omega
        have hnn' : (n' : Int) < n := by omega
        clear hx hcy hv hc
        go_wp2
        go_ret
        exact ⟨ret_i64 HC.out.symm, hb⟩
    · have hcx : xs.drop k = [] := List.drop_eq_nil_of_le (by have := HL.out.1; omega)
      have hv := hc.out
      rw [hcx] at hv
      by_cases hlt' : k < n'
      · have hye : ∃ y, Hid (ys[k]? = some y) := by have := HL.out.2; exact ⟨ys[k]'(by omega), List.getElem?_eq_getElem (by omega)⟩
        obtain ⟨y, hy⟩ := hye
        rw [drop_of_get hy, cmpB_nil_cons] at hv
        have HC := Lib.hid hv
        have hnn : (n : Int) < n' := by omega
        clear hy hcx hv hc
        go_wp2
        go_ret
        exact ⟨ret_i64 HC.out.symm, hb⟩
      · have hcy : ys.drop k = [] := List.drop_eq_nil_of_le (by have := HL.out.2; omega)
        rw [hcy, cmpB_nil] at hv
        have HC := Lib.hid hv
        have hnn : ¬ (n : Int) < n' := by omega
        have hnn' : ¬ (n' : Int) < n := by omega
        clear hcx hcy hv hc
        go_wp2
        go_ret
        exact ⟨ret_i64 HC.out.symm, hb⟩

set_option maxHeartbeats 400000 in
theorem same_any (A : Option Addr) (n c : Nat) (xs : List UInt8) (A' : Option Addr) (n' c' : Nat) (ys : List UInt8) (w : World) (h : IsB w A n c xs) (h' : IsB w A' n' c' ys) :
    Calls Try.prog 15 #[.slice A n c, .slice A' n' c'] w fun e w' => e = .returned (.bool (decide (xs = ys))) ∧ Below w.heap.size w w' := by
  go_enter Try.func15, Try.ntmps15
  go_wp2_with fail
  refine (compare_any _ _ _ _ _ _ _ _ _ h h').mono ?_
  rintro e w2 ⟨rfl, hb⟩
  go_wp2_with fail
  go_ret
  exact ⟨ret_bool (cmpB_iff xs ys), hb⟩
end Go.Proofs.Ytpfihchdbdhbjaa
