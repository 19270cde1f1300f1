import Derived.Test.YtpfihchdbdhbjaaC
namespace Go.Proofs.Ytpfihchdbdhbjaa
open Go.RowKit
theorem u16_low (r : Nat) (h : r < 65536) : bits .and .u16 (r : Int) 1 = ((r % 2 : Nat) : Int) := by
  have := u16_and_nat r 1 h (by omega)
  rw [nat_mask1] at this
  exact this
theorem u16_poly (r : Nat) (h : r < 65536) : bits .xor .u16 (r : Int) 33800 = ((r ^^^ 33800 : Nat) : Int) := u16_xor_nat r 33800 h (by omega)
/-- After k rounds of the outer loop. -/
structure TabRel (w : World) (k : Nat) (wr : World) : Prop where
  le : k ≤ 256
  out : wr.heap[w.heap.size]? = some (.cells Try.zeroCells81 81 (0, 0))
  tab : ∃ cs : Array Value, wr.heap[w.heap.size + 1]? = some (.cells cs 81 (0, 0)) ∧ cs.size = 256 ∧ ∀ j, j < k → cs[j]? = some (.int .u16 (crc8 j : Int))
  size : w.heap.size + 2 ≤ wr.heap.size
  below : Below w.heap.size w wr

set_option maxHeartbeats 1000000 in
theorem table_any (w : World) :
    Calls Try.prog 55 #[] w fun e w' => ∃ cs : Array Value, e = .returned (.agg cs) ∧ cs.size = 256 ∧ (∀ j, j < 256 → cs[j]? = some (.int .u16 (crc8 j : Int))) ∧ Below w.heap.size w w' := by
  go_enter Try.func55, Try.ntmps55
  go_wp2_with fail
  go_loopg [5] 256 (fun g i wr => ∃ k, g = 256 - k ∧ i = .int .i64 (k : Int) ∧ TabRel w k wr)
  case atStart =>
    refine ⟨0, rfl, rfl, ⟨by omega, heap_alloc2_old w _ _, ⟨Try.zeroCells81, heap_alloc2_new w _ _, Try.zeroCells81_size, fun j h => absurd h (by omega)⟩, by simp, ?_⟩⟩
    exact ((Below.refl _ _).alloc (Nat.le_refl _) _).alloc (by simp) _
  case round =>
    obtain ⟨k, hg, rfl, hrel⟩ := hrel
    by_cases hlt : k < 256
    · have hki : (k : Int) < 256 := by omega
      have HLT := Lib.hid hlt
      clear hlt
      have hwr : IntKind.u16.wrap (k : Int) = k := by rw [IntKind.wrap_u16]; omega
      go_wp2
      obtain ⟨wo, rfl⟩ : ∃ wo : World, wo = wr := ⟨_, rfl⟩
      go_loopg [3, 10] 8 (fun g r i wr => ∃ m, m ≤ 8 ∧ g = 8 - m ∧ i = .int .i64 (m : Int) ∧ r = .int .u16 (crcSteps m k : Int) ∧ wr = wo)
      case atStart => exact ⟨0, by omega, rfl, rfl, rfl, rfl⟩
      case round =>
        obtain ⟨m, hm, hg, rfl, rfl, rfl⟩ := hrel
        have HM := Lib.hid (And.intro hm hg)
        by_cases hlm : m < 8
        · have hr := crcSteps_lt m k (by have := HLT.out; omega)
          have hmi : (m : Int) < 8 := by omega
          have HS : Hid (crcSteps (m + 1) k = crcStep (crcSteps m k)) := rfl
          have HLM := Lib.hid hlm
          clear hm hg hlm
          generalize crcSteps m k = r at *
          have ha := u16_low r hr
          have HX := Lib.hid (u16_poly (r / 2) (by omega))
          rcases Nat.mod_two_eq_zero_or_one r with h2 | h2
          · rw [h2] at ha
            have H2 := Lib.hid h2
            clear hr h2
            go_wp2
            go_roundg (8 - (m + 1))
            case measure => have := HM.out; have := HLM.out; omega
            case rel =>
              refine ⟨m + 1, HLM.out, rfl, by go_num, ?_, rfl⟩
              rw [HS.out, crcStep, if_neg (by rw [H2.out]; decide)]; go_num
          · rw [h2] at ha
            have H2 := Lib.hid h2
            clear hr h2
            go_wp2
            go_roundg (8 - (m + 1))
            case measure => have := HM.out; have := HLM.out; omega
            case rel =>
              refine ⟨m + 1, HLM.out, rfl, by go_num, ?_, rfl⟩
              have hx := HX.out
              rw [HS.out, crcStep, if_pos H2.out, ← hx]; rfl
        · have hmi : ¬ (m : Int) < 8 := by omega
          obtain rfl : m = 8 := by omega
          clear hm hg hlm hmi HM
          obtain ⟨cs, hcs, hsz, hj⟩ := hrel.tab
          have hlt := HLT.out
          have hc0 : wr.cell? ⟨w.heap.size + 1, k, none⟩ = some (cs[k]'(by omega)) := by
            rw [cell_of_row wr _ k cs _ _ hcs]; exact Array.getElem?_eq_getElem (by omega)
          have hf0 := frozen_of_row wr _ k cs _ hcs
          have HR := Lib.hid (And.intro hrel (And.intro hcs (And.intro hsz hj)))
          obtain ⟨r8, h8⟩ : ∃ r, r = crcSteps 8 k := ⟨_, rfl⟩
          rw [← h8]
          have H8 := Lib.hid h8
          clear hrel hcs hj hlt h8
          go_wp2
          go_roundg (256 - (k + 1))
          case measure => have := HLT.out; omega
          case rel =>
            refine ⟨k + 1, rfl, by go_num, ?_⟩
            obtain ⟨hrel, hcs, hsz, hj⟩ := HR.out
            have hlt := HLT.out
            refine ⟨by omega, ?_, ⟨cs.setIfInBounds k (.int .u16 r8), heap_setCell_same wr _ _ cs _ _ hcs, by simp [hsz], ?_⟩, by simpa [World.setCell] using hrel.size, hrel.below.setCell (by simp) _⟩
            · rw [heap_setCell_other _ _ _ _ (by simp)]; exact hrel.out
            · intro j hjk
              by_cases hjk' : j = k
              · subst hjk'
                rw [Array.getElem?_setIfInBounds_self_of_lt (by omega), H8.out]; rfl
              · rw [Array.getElem?_setIfInBounds_ne (by omega)]
                exact hj j (by omega)
    · have hki : ¬ (k : Int) < 256 := by omega
      have hle := hrel.le
      obtain rfl : k = 256 := by omega
      obtain ⟨cs, hcs, hsz, hj⟩ := hrel.tab
      have HR := Lib.hid (And.intro hrel (And.intro hcs (And.intro hsz hj)))
      clear hlt hle hj hrel
      have hth : wr.there w.heap.size 0 cs.size := by
        have := there_of_block HR.out.1.out
        rw [Try.zeroCells81_size] at this
        rw [hsz]; exact this
      have hone : cs.all (·.oneCell') = true := by
        rw [Array.all_eq_true]
        intro i hi
        have := HR.out.2.2.2 i (by omega)
        rw [Array.getElem?_eq_getElem hi] at this
        injection this with this
        rw [this]; rfl
      have HT := Lib.hid (And.intro hth hone)
      clear hth hone
      go_wp2_with (first | (refine wpList_load_row rfl 81 _ rfl (w.heap.size + 1) rfl _ cs _ _ hcs Try.underlying81 rfl (by rw [hsz]; kernel_rfl) ?_) | (refine wpList_store_mid rfl 81 _ _ rfl w.heap.size 0 cs rfl rfl HT.out.1 (by rw [hsz]; kernel_rfl) HT.out.2 ?_))
      refine bodyPost_ret (results_cell_mid rfl _ _ w.heap.size 0 cs.toList _ rfl (World.rangeAt_setCells_same _ _ _ _ (by simpa using HT.out.1)) Try.underlying81 rfl (by rw [Array.length_toList, hsz]; kernel_rfl)) rfl ?_
      exact ⟨cs, rfl, hsz, HR.out.2.2.2, below_setCells (Nat.le_refl _) _ _ _ HR.out.1.below⟩

set_option maxHeartbeats 1000000 in
theorem crc_any (A : Option Addr) (n c : Nat) (xs : List UInt8) (w : World) (h : IsB w A n c xs) :
    Calls Try.prog 50 #[.slice A n c] w fun e w' => e = .returned (.int .u16 (crcInv xs : Int)) ∧ Below w.heap.size w w' := by
  have hn := h.len63
  have HL := Lib.hid (IsB.len h)
  have H := Lib.hid h
  clear h
  go_enter Try.func50, Try.ntmps50
  go_wp2_with fail
  refine (table_any _).mono ?_
  rintro e w1 ⟨cs, rfl, hsz, hj, hb⟩
  have HJ := Lib.hid (And.intro hsz hj)
  have hth : (w1.alloc (.cells Try.zeroCells81 81)).there w1.heap.size 0 cs.size := by
    have := there_of_block (heap_alloc_new w1 (.cells Try.zeroCells81 81))
    rw [Try.zeroCells81_size] at this
    rw [hsz]; exact this
  have hone : cs.all (·.oneCell') = true := by
    rw [Array.all_eq_true]
    intro i hi
    have := hj i (by omega)
    rw [Array.getElem?_eq_getElem hi] at this
    injection this with this
    rw [this]; rfl
  have HT := Lib.hid (And.intro hth (And.intro hone hsz))
  clear hj hth hone hsz
  go_wp2_with (refine wpList_store_mid rfl 81 _ _ rfl w1.heap.size 0 cs rfl rfl HT.out.1 (by rw [HT.out.2.2]; kernel_rfl) HT.out.2.1 ?_)
  obtain ⟨W, hW⟩ : ∃ W, W = (w1.alloc (.cells Try.zeroCells81 81)).setCells w1.heap.size 0 cs.toList := ⟨_, rfl⟩
  have hbW : Below w.heap.size w W := by rw [hW]; exact below_setCells hb.size _ _ _ (hb.alloc hb.size _)
  have hcell : ∀ j : Nat, j < 256 → W.cell? ⟨w1.heap.size, j, none⟩ = some (.int .u16 (crc8 j : Int)) := fun j hj => by
    have := World.rangeAt_setCells_same (w1.alloc (.cells Try.zeroCells81 81)) w1.heap.size 0 cs.toList (by simpa using HT.out.1) j _ (by rw [Array.getElem?_toList]; exact HJ.out.2 j hj)
    rw [hW]; simpa using this
  rw [← hW]
  have HW := Lib.hid (And.intro hbW hcell)
  clear hW hbW hcell hb
  go_loopg [4, 10] n (fun g r i wr => ∃ k, k ≤ n ∧ g = n - k ∧ i = .int .i64 (k : Int) ∧ r = .int .u16 (crcN (xs.take k) : Int) ∧ wr = W)
  case atStart => exact ⟨0, by omega, rfl, rfl, rfl, rfl⟩
  case round =>
    obtain ⟨k, hk, hg, rfl, rfl, rfl⟩ := hrel
    by_cases hlt : k < n
    · obtain ⟨x, b, off, hx, rfl, hc, hx8⟩ := IsB.at_ (Rd.below H.out HW.out.1) hlt
      have hr := crcN_lt (xs.take k)
      have hstep := crc8_byte (crcN (xs.take k)) x
      generalize hcr : crcN (xs.take k) = r at *
      have hd : r % 256 ^^^ x.toNat < 256 := Nat.xor_lt_two_pow (n := 8) (by omega) (by omega)
      have hx1 : bits .xor .u8 ((r : Int) % 256) (x.toNat : Int) = ((r % 256 ^^^ x.toNat : Nat) : Int) := u8_xor_nat (r % 256) x.toNat (by omega) (by omega)
      have hcd := HW.out.2 _ hd
      have ht := crc8_lt (r % 256 ^^^ x.toNat) (by omega)
      generalize r % 256 ^^^ x.toNat = d at *
      generalize crc8 d = t at *
      have hx2 : bits .xor .u16 ((r : Int) / 256) (t : Int) = ((r / 256 ^^^ t : Nat) : Int) := u16_xor_nat (r / 256) t (by omega) ht
      have hdi : (d : Int) < 256 := by omega
      have HR := Lib.hid (And.intro hr (And.intro hcr hstep))
      clear hr hcr hstep ht hd
      go_wp2
      go_roundg (n - (k + 1))
      case measure => omega
      case rel =>
        refine ⟨k + 1, by omega, rfl, by go_num, ?_, rfl⟩
        rw [take_snoc hx, crcN_snoc, HR.out.2.1, HR.out.2.2]
    · have hk' : k = xs.length := by have := HL.out; omega
      have hx := u16_crcInv (xs.take k)
      have HK := Lib.hid hk'
      clear hk'
      go_wp2
      go_ret
      exact ⟨by rw [HK.out, List.take_length]; rfl, HW.out.1⟩
end Go.Proofs.Ytpfihchdbdhbjaa
