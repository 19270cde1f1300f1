/- The reference's check values (smartcardref03): the walks. -/
import Derived.Test.YtpfihchdbdhbjaaR
namespace Go.Proofs.Ytpfihchdbdhbjaa
open Go.RowKit

theorem rsize_any (k : Int) (w : World) :
    Calls Try.prog 29 #[.int .i64 k] w fun e w' => e = .returned (.int .i64 (sizeN k : Int)) ∧ w = w' := by
  by_cases h0 : k = 0
  · subst h0
    go_enter Try.func29, Try.ntmps29
    go_wp2
    go_ret
    exact ⟨rfl, rfl⟩
  by_cases h1 : k = 1
  · subst h1
    go_enter Try.func29, Try.ntmps29
    go_wp2
    go_ret
    exact ⟨rfl, rfl⟩
  have hs : sizeN k = 0 := by simp [sizeN, h0, h1]
  rw [hs]
  clear hs
  go_enter Try.func29, Try.ntmps29
  go_wp2
  go_ret
  exact ⟨rfl, rfl⟩

set_option maxHeartbeats 400000 in
theorem rlrc_any (A : Option Addr) (n c : Nat) (xs : List UInt8) (w : World) (h : IsB w A n c xs) :
    Calls Try.prog 51 #[.slice A n c] w fun e w' => e = .returned (.int .u8 ((lrcB xs).toNat : Int)) ∧ w = w' := by
  have hn := h.len63
  have HL := Lib.hid (IsB.len h)
  have H := Lib.hid h
  clear h
  go_enter Try.func51, Try.ntmps51
  go_wp2
  go_loopg [3, 4] n (fun g x i wr => ∃ k, k ≤ n ∧ g = n - k ∧ i = .int .i64 (k : Int) ∧ x = .int .u8 ((lrcB (xs.take k)).toNat : Int) ∧ wr = w)
  case atStart => exact ⟨0, by omega, rfl, rfl, rfl, rfl⟩
  case round =>
    obtain ⟨k, hk, hg, rfl, rfl, rfl⟩ := hrel
    by_cases hlt : k < n
    · obtain ⟨x, b, off, hx, rfl, hc, hx8⟩ := IsB.at_ H.out hlt
      have hl8 := UInt8.toNat_lt (lrcB (xs.take k))
      have HX := Lib.hid (u8_xor_byte (lrcB (xs.take k)) x)
      go_wp2
      go_roundg (n - (k + 1))
      case measure => omega
      case rel => exact ⟨k + 1, by omega, rfl, by go_num, by rw [HX.out, take_snoc hx, lrcB_snoc], rfl⟩
    · go_wp2
      go_ret
      have : k = xs.length := by rw [HL.out]; omega
      subst this
      exact ⟨by simp, rfl⟩

theorem i64_xor (a b : Nat) (ha : a < 4611686018427387904) (hb : b < 4611686018427387904) : bits .xor .i64 (a : Int) (b : Int) = ((a ^^^ b : Nat) : Int) := by
  have hx : a ^^^ b < 2 ^ 62 := Nat.xor_lt_two_pow (by omega) (by omega)
  have e : ∀ c : Nat, c < 4611686018427387904 → (BitVec.ofInt 64 (c : Int)).toNat = c := fun c hc => by
    rw [BitVec.ofInt_natCast, BitVec.toNat_ofNat]; exact Nat.mod_eq_of_lt (by omega)
  show IntKind.i64.wrap ((BitVec.ofInt 64 (a : Int) ^^^ BitVec.ofInt 64 (b : Int)).toNat : Int) = _
  rw [BitVec.toNat_xor, e a ha, e b hb, IntKind.wrap_i64]
  omega
theorem i64_poly (r : Nat) (h : r < 65536) : bits .xor .i64 (r : Int) 33800 = ((r ^^^ 33800 : Nat) : Int) := i64_xor r 33800 (by omega) (by omega)

set_option maxHeartbeats 1000000 in
theorem rcrc_any (A : Option Addr) (n c : Nat) (xs : List UInt8) (w : World) (h : IsB w A n c xs) :
    Calls Try.prog 52 #[.slice A n c] w fun e w' => e = .returned (.int .i64 (crcInv xs : Int)) ∧ w = w' := by
  have hn := h.len63
  have HL := Lib.hid (IsB.len h)
  have H := Lib.hid h
  clear h
  go_enter Try.func52, Try.ntmps52
  go_wp2
  go_loopg [3, 4] n (fun g x i wr => ∃ k, k ≤ n ∧ g = n - k ∧ i = .int .i64 (k : Int) ∧ x = .int .i64 (crcN (xs.take k) : Int) ∧ wr = w)
  case atStart => exact ⟨0, by omega, rfl, rfl, rfl, rfl⟩
  case round =>
    obtain ⟨k, hk, hg, rfl, rfl, rfl⟩ := hrel
    have hr0 := crcN_lt (xs.take k)
    by_cases hlt : k < n
    · obtain ⟨x, b, off, hx, rfl, hc, hx8⟩ := IsB.at_ H.out hlt
      have hl := xor_byte_lt _ x hr0
      have hxr := i64_xor (crcN (xs.take k)) x.toNat (by omega) (by omega)
      obtain ⟨q, hq⟩ : ∃ q, q = crcN (xs.take k) ^^^ x.toNat := ⟨_, rfl⟩
      rw [← hq] at hxr hl
      have HQ := Lib.hid (And.intro hq hl)
      clear hq hl hr0
      go_wp2
      go_loopg [3, 5] 8 (fun g x i wr' => ∃ m, m ≤ 8 ∧ g = 8 - m ∧ i = .int .i64 (m : Int) ∧ x = .int .i64 (crcSteps m q : Int) ∧ wr' = wr)
      case atStart => exact ⟨0, by omega, rfl, rfl, rfl, rfl⟩
      case round =>
        obtain ⟨m, hm, hg', rfl, rfl, rfl⟩ := hrel
        have HM := Lib.hid (And.intro hm hg')
        have hr := crcSteps_lt m q HQ.out.2
        by_cases hlm : m < 8
        · have hmi : (m : Int) < 8 := by omega
          have HS : Hid (crcSteps (m + 1) q = crcStep (crcSteps m q)) := rfl
          have HLM := Lib.hid hlm
          clear hm hg' hlm
          generalize crcSteps m q = r at *
          have HX := Lib.hid (i64_poly (r / 2) (by omega))
          have hr1 : (r : Int) < 65536 := by omega
          rcases Nat.mod_two_eq_zero_or_one r with h2 | h2
          · have ha : ((r : Int) % 2 == 1) = false := by simp; omega
            have H2 := Lib.hid h2
            clear hr h2
            go_wp2
            go_roundg (8 - (m + 1))
            case measure => have := HM.out; have := HLM.out; omega
            case rel =>
              refine ⟨m + 1, HLM.out, rfl, by go_num, ?_, rfl⟩
              rw [HS.out, crcStep, if_neg (by rw [H2.out]; decide)]; go_num
          · have ha : ((r : Int) % 2 == 1) = true := by simp; omega
            have H2 := Lib.hid h2
            clear hr h2
            go_wp2
            go_roundg (8 - (m + 1))
            case measure => have := HM.out; have := HLM.out; omega
            case rel =>
              refine ⟨m + 1, HLM.out, rfl, by go_num, ?_, rfl⟩
              have hx := HX.out
              rw [HS.out, crcStep, if_pos H2.out, ← hx]; rfl
        · have hmi : ¬ (m : Int) < 8 := by omega
          obtain rfl : m = 8 := by omega
          clear hm hg' hlm hmi HM hr
          obtain ⟨r8, h8⟩ : ∃ r, r = crcSteps 8 q := ⟨_, rfl⟩
          rw [← h8]
          have H8 := Lib.hid h8
          clear h8
          go_wp2
          go_roundg (n - (k + 1))
          case measure => omega
          case rel =>
            refine ⟨k + 1, by omega, rfl, by go_num, ?_, rfl⟩
            rw [take_snoc hx, crcN_snoc, ← HQ.out.1, H8.out]; rfl
    · have hk' : k = xs.length := by have := HL.out; omega
      have HK := Lib.hid hk'
      have hr1 : (crcN (xs.take k) : Int) < 65536 := by omega
      have HR := Lib.hid hr0
      clear hk' hr0
      go_wp2
      go_ret
      refine ⟨ret_i64 ?_, rfl⟩
      have h1 := HR.out
      have h2 : xs.take k = xs := by rw [HK.out, List.take_length]
      rw [h2] at h1 ⊢
      unfold crcInv
      omega

set_option maxHeartbeats 400000 in
theorem rsum_ok (k : Int) (hk : k = 0 ∨ k = 1) (A : Option Addr) (n c : Nat) (xs : List UInt8) (w : World) (h : IsB w A n c xs) :
    Calls Try.prog 45 #[.int .i64 k, .slice A n c] w fun e w' => ∃ A' n' c', e = .returned (.tuple #[.slice A' n' c', .int .i64 0]) ∧ Own w' w.heap.size 5 A' n' c' ((sumB k xs).map u8) ∧ Below w.heap.size w w' := by
  rcases hk with rfl | rfl
  · go_enter Try.func45, Try.ntmps45
    go_wp2_with fail
    refine (rsize_any 0 _).mono ?_
    rintro e w1 ⟨rfl, rfl⟩
    rw [show ((sizeN 0 : Nat) : Int) = 1 from rfl]
    go_wp2_with fail
    refine (rlrc_any A n c xs _ h).mono ?_
    rintro e w1 ⟨rfl, rfl⟩
    go_wp2_with fail
    go_ret2
    exact ⟨_, _, _, rfl, own_lit [u8 (lrcB xs)] (Nat.le_refl _) (by simp), (Below.refl _ _).alloc (Nat.le_refl _) _⟩
  · go_enter Try.func45, Try.ntmps45
    go_wp2_with fail
    refine (rsize_any 1 _).mono ?_
    rintro e w1 ⟨rfl, rfl⟩
    rw [show ((sizeN 1 : Nat) : Int) = 2 from rfl]
    go_wp2_with fail
    refine (rcrc_any A n c xs _ h).mono ?_
    rintro e w1 ⟨rfl, rfl⟩
    have hlt := crcInv_lt xs
    have hr : (crcInv xs : Int) < 65536 := by omega
    have HC := Lib.hid (And.intro (crcLo_toNat xs) (And.intro (crcHi_toNat xs) hlt))
    clear hlt
    go_wp2_with fail
    go_ret2
    refine ⟨_, _, _, rfl, ?_, (Below.refl _ _).alloc (Nat.le_refl _) _⟩
    have e1 : u8 (crcLo xs) = .int .u8 ((crcInv xs : Int) % 256) := by rw [u8, HC.out.1]; rfl
    have e2 : u8 (crcHi xs) = .int .u8 ((crcInv xs : Int) / 256) := by rw [u8, HC.out.2.1]; rfl
    have h := own_lit (w := w) (B := w.heap.size) (e := 5) [u8 (crcLo xs), u8 (crcHi xs)] (Nat.le_refl _) (by simp)
    show Own _ _ _ _ 2 2 [u8 (crcLo xs), u8 (crcHi xs)]
    rw [e1, e2]
    rw [e1, e2] at h
    exact h

set_option maxHeartbeats 400000 in
theorem rappend_ok (k : Int) (hk : k = 0 ∨ k = 1) (A : Option Addr) (n c : Nat) (xs : List UInt8) (w : World) (h : IsB w A n c xs) (hx : xs.length ≤ 900000) :
    Calls Try.prog 31 #[.int .i64 k, .slice A n c] w fun e w' => ∃ A' n' c', e = .returned (.tuple #[.slice A' n' c', .int .i64 0]) ∧ Own w' w.heap.size 5 A' n' c' ((xs ++ sumB k xs).map u8) ∧ Below w.heap.size w w' := by
  obtain ⟨i0, hi0, hz0, hz1, hz2⟩ := info_parts info8
  have HI := Lib.hid (And.intro hi0 (And.intro hz0 (And.intro hz1 hz2)))
  have hs2 := (sizeN_pos k hk).2
  have hsl := sumB_length k xs
  have hnx := IsB.len h
  go_enter Try.func31, Try.ntmps31
  go_wp2_with fail
  refine (rsum_ok k hk A n c xs _ h).mono ?_
  rintro e w1 ⟨A1, n1, c1, rfl, ho, hb⟩
  have hn1 : n1 ≤ 2 := by have := ho.rd.len; rw [List.length_map] at this; omega
  have hn0 : n ≤ 900000 := by omega
  have HB := Lib.hid (And.intro ho (And.intro hb (h.below hb)))
  clear ho hb hi0 hz0 hz1 hz2 hsl hnx hs2
  go_wp2_with (at_builtin; refine wpList_append_rd _ rfl (.tmp 18) (.tmp 19) 22 rfl w.heap.size 5 i0 _ 1 Try.underlying22 HI.out.1 HI.out.2.1 HI.out.2.2.1 HI.out.2.2.2 rfl none 0 0 [] rfl (Own.nil _ _) A n c _ rfl HB.out.2.2 (u8_one _) ?_ (by omega) HB.out.2.1.size ?_)
  case _ => omega
  intro A3 c3 w3 hown3 hg3 _
  have hb3 : Below w1.heap.size w1 w3 := (Below.refl _ _).grown hg3 (Nat.le_refl _) (by simp [Value.ownBlock])
  have hbw3 : Below w.heap.size w w3 := HB.out.2.1.trans (hb3.mono HB.out.2.1.size)
  have ho3 : Rd w3 A1 n1 c1 _ := HB.out.1.rd.below hb3
  have hown3' : Own w3 w.heap.size 5 A3 n c3 (xs.map u8) := by simpa using hown3
  have HB3 := Lib.hid (And.intro hown3' (And.intro hbw3 ho3))
  clear hown3 hown3' hg3 hb3 hbw3 ho3
  go_wp2_with (at_builtin; refine wpList_append_rd _ rfl (.tmp 21) (.tmp 22) 22 rfl w.heap.size 5 i0 _ 1 Try.underlying22 HI.out.1 HI.out.2.1 HI.out.2.2.1 HI.out.2.2.2 rfl A3 n c3 _ rfl HB3.out.1 A1 n1 c1 _ rfl HB3.out.2.2 (u8_one _) ?_ (by omega) HB3.out.2.1.size ?_)
  case _ => omega
  intro A4 c4 w4 hown4 hg4 _
  have HB4 := Lib.hid (And.intro hown4 (HB3.out.2.1.grown hg4 HB3.out.2.1.size HB3.out.1.block))
  clear hown4 hg4
  go_wp2_with fail
  go_ret2
  exact ⟨A4, n + n1, c4, rfl, by simpa using HB4.out.1, HB4.out.2⟩

set_option maxHeartbeats 400000 in
theorem rremove_bad (k : Int) (hk : ¬ (k = 0 ∨ k = 1)) (A : Option Addr) (n c : Nat) (w : World) :
    Calls Try.prog 36 #[.int .i64 k, .slice A n c] w fun e w' => e = .returned (.tuple #[.slice none 0 0, .int .i64 1]) ∧ Below w.heap.size w w' := by
  have hs : sizeN k = 0 := by unfold sizeN; rw [if_neg (by omega), if_neg (by omega)]
  go_enter Try.func36, Try.ntmps36
  go_wp2_with fail
  refine (rsize_any k _).mono ?_
  rintro e w1 ⟨rfl, rfl⟩
  rw [hs]
  go_wp2_with fail
  go_ret2
  exact ⟨rfl, Below.refl _ _⟩

set_option maxHeartbeats 400000 in
theorem rremove_short (k : Int) (hk : k = 0 ∨ k = 1) (A : Option Addr) (n c : Nat) (hn : n < sizeN k) (w : World) :
    Calls Try.prog 36 #[.int .i64 k, .slice A n c] w fun e w' => e = .returned (.tuple #[.slice none 0 0, .int .i64 5]) ∧ Below w.heap.size w w' := by
  have hp := sizeN_pos k hk
  go_enter Try.func36, Try.ntmps36
  go_wp2_with fail
  refine (rsize_any k _).mono ?_
  rintro e w1 ⟨rfl, rfl⟩
  generalize sizeN k = s at *
  have h0 : ((s : Int) == 0) = false := by simp; omega
  go_wp2_with fail
  go_ret2
  exact ⟨rfl, Below.refl _ _⟩

/-- What the reference's comparison of the check value comes to. -/
def Removes (w0 : World) (e5 : TypeId) (xs : List UInt8) (m : Nat) (s : List UInt8) (e : Ending) (w' : World) : Prop :=
  if s = xs.drop m then ∃ A' n' c', e = .returned (.tuple #[.slice A' n' c', .int .i64 0]) ∧ Own w' w0.heap.size e5 A' n' c' ((xs.take m).map u8) ∧ Below w0.heap.size w0 w'
  else e = .returned (.tuple #[.slice none 0 0, .int .i64 6]) ∧ Below w0.heap.size w0 w'

set_option maxHeartbeats 1000000 in
theorem rremove_long (k : Int) (hk : k = 0 ∨ k = 1) (A : Option Addr) (m s c : Nat) (hs : sizeN k = s) (xs : List UInt8) (w : World) (h : IsB w A (m + s) c xs) (hx : xs.length ≤ 900000) :
    Calls Try.prog 36 #[.int .i64 k, .slice A (m + s) c] w fun e w' => Removes w 5 xs m (sumB k (xs.take m)) e w' := by
  obtain ⟨i0, hi0, hz0, hz1, hz2⟩ := info_parts info8
  have HI := Lib.hid (And.intro hi0 (And.intro hz0 (And.intro hz1 hz2)))
  have hp := sizeN_pos k hk
  have hcap := h.cap
  have h63 := h.len63
  have hl := IsB.len h
  have h1 : IsB w A m c (xs.take m) := IsB.take h (by omega)
  have hsl := sumB_length k (xs.take m)
  rw [hs] at hp hsl
  go_enter Try.func36, Try.ntmps36
  go_wp2_with fail
  refine (rsize_any k _).mono ?_
  rintro e w1 ⟨rfl, rfl⟩
  rw [hs]
  have h0 : ((s : Int) == 0) = false := by simp; omega
  have hm : m ≤ 900000 := by omega
  have H := Lib.hid (And.intro h (And.intro h1 (And.intro hl hsl)))
  clear hs h1 h hl hsl hi0 hz0 hz1 hz2
  go_wp2_with fail
  refine (rsum_ok k hk A m c _ _ H.out.2.1).mono ?_
  rintro e w1 ⟨A1, n1, c1, rfl, ho, hb⟩
  generalize hss : sumB k (xs.take m) = ss at *
  have hn1 : n1 = s := by have := ho.rd.len; rw [List.length_map] at this; have := H.out.2.2.2; omega
  subst hn1
  have HB := Lib.hid (And.intro ho hb)
  have HSS := Lib.hid hss
  clear ho hb hss
  go_wp2_with fail
  go_loopg [10] n1 (fun g i wr => ∃ j, j ≤ n1 ∧ g = n1 - j ∧ i = .int .i64 (j : Int) ∧ Hid (∀ q, q < j → ss[q]? = xs[m + q]?) ∧ Below w1.heap.size w1 wr)
  case atStart => exact ⟨0, by omega, rfl, rfl, fun q hq => absurd hq (by omega), Below.refl _ _⟩
  case round =>
    obtain ⟨j, hj, hg, rfl, hq, hb⟩ := hrel
    have hbw := HB.out.2.trans (hb.mono HB.out.2.size)
    by_cases hlt : j < n1
    · obtain ⟨x, b, off, hx, rfl, hcx, hx8⟩ := IsB.at_ (Rd.below H.out.1 hbw) (show m + j < m + n1 by omega)
      obtain ⟨y, b', off', hy, rfl, hcy, hy8⟩ := IsB.at_ (xs := ss) (Rd.below HB.out.1.rd hb) hlt
      have hi0 : (0 : Int) ≤ (m : Int) + j ∧ (m : Int) + j < (m : Int) + n1 := by omega
      have hi1 : (0 : Int) ≤ j ∧ (j : Int) < n1 := by omega
      have HBW := Lib.hid hbw
      obtain ⟨a, ha⟩ : ∃ a, a = x.toNat := ⟨_, rfl⟩
      obtain ⟨d, hd⟩ : ∃ d, d = y.toNat := ⟨_, rfl⟩
      rw [← ha] at hcx hx8
      rw [← hd] at hcy hy8
      by_cases had : a = d
      · subst had
        have hxy : x = y := UInt8.toNat_inj.1 (ha.symm.trans hd)
        subst hxy
        have HXY := Lib.hid (And.intro hx hy)
        clear hx hy hbw ha hd
        go_wp2_with fail
        go_region
        go_wp2_with fail
        go_roundg (n1 - (j + 1))
        case measure => omega
        case rel =>
          refine ⟨j + 1, by omega, rfl, by go_num, ?_, hb.drew⟩
          intro q hqj
          rcases Nat.lt_or_ge q j with h | h
          · exact hq.out q h
          · obtain rfl : q = j := by omega
            exact HXY.out.2.out.trans HXY.out.1.out.symm
      · have hne : ((a : Int) != d) = true := by simp; omega
        have hne' : (a != d) = true := by simp; omega
        have hns : ¬ ss = xs.drop m := by
          intro he
          have h1 := hx.out
          have h2 := hy.out
          rw [he, List.getElem?_drop, h1] at h2
          injection h2 with h2
          subst h2
          exact had (ha.trans hd.symm)
        have HXY := Lib.hid hns
        clear hx hy hbw ha hd hns
        go_wp2_with fail
        go_region
        go_wp2_with fail
        go_ret2
        show Removes _ _ _ _ _ _ _
        unfold Removes
        rw [HSS.out, if_neg HXY.out]
        exact ⟨rfl, HBW.out.drew⟩
    · have hse : ss = xs.drop m := by
        obtain rfl : j = n1 := by omega
        have h1 := H.out.2.2
        apply List.ext_getElem?
        intro q
        rw [List.getElem?_drop]
        rcases Nat.lt_or_ge q j with h | h
        · exact hq.out q h
        · rw [List.getElem?_eq_none (by omega), List.getElem?_eq_none (by omega)]
      have HS := Lib.hid hse
      have HBW := Lib.hid (And.intro hbw (Rd.below H.out.2.1 hbw))
      clear hbw hse hb
      go_wp2_with (at_builtin; refine wpList_append_rd _ rfl (.tmp 48) (.tmp 51) 22 rfl w.heap.size 5 i0 _ 1 Try.underlying22 HI.out.1 HI.out.2.1 HI.out.2.2.1 HI.out.2.2.2 rfl none 0 0 [] rfl (Own.nil _ _) A m c _ rfl HBW.out.2 (u8_one _) ?_ (by omega) HBW.out.1.size ?_)
      case _ => omega
      intro A3 c3 w3 hown3 hg3 _
      have hown3' : Own w3 w.heap.size 5 A3 m c3 ((xs.take m).map u8) := by simpa using hown3
      have HB3 := Lib.hid (And.intro hown3' (HBW.out.1.grown hg3 HBW.out.1.size (by simp [Value.ownBlock])))
      clear hown3 hg3 hown3'
      go_wp2_with fail
      go_ret2
      show Removes _ _ _ _ _ _ _
      unfold Removes
      rw [HSS.out, if_pos HS.out]
      exact ⟨A3, m, c3, rfl, HB3.out.1, HB3.out.2⟩
end Go.Proofs.Ytpfihchdbdhbjaa
