/- Several texts in one. -/
import Derived.Test.YtomdjcodgkoapaaI2
import Derived.Deep.QuietTactic
import Derived.BigQuiet
import Derived.Orders
import Derived.Deep.RegionHeld3

set_option linter.unusedSimpArgs false
set_option linter.unusedVariables false
set_option linter.unusedSectionVars false
/- bytes.Equal, slices.Clone of bytes: the walks. -/
namespace Go.Proofs.Ytomdjcodgkoapaa
open Go.RowKit
set_option maxHeartbeats 400000 in
theorem equal_any (A : Option Addr) (n c : Nat) (xs : List UInt8) (A' : Option Addr) (n' c' : Nat) (ys : List UInt8) (w : World) (h : IsB w A n c xs) (h' : IsB w A' n' c' ys) :
    Calls Try.prog 35 #[.slice A n c, .slice A' n' c'] w fun e w' => e = .returned (.bool (decide (xs = ys))) ∧ w = w' := by
  have k1 := run_convert_rd (P := Try.prog) h 22 5 9 Try.underlying22 Try.underlying5 Try.underlying9
  have k2 := run_convert_rd (P := Try.prog) h' 22 5 9 Try.underlying22 Try.underlying5 Try.underlying9
  clear h h'
  go_enter Try.func35, Try.ntmps35
  go_wp2_with fail
  go_ret
  exact ⟨ret_bool (by rw [Bool.eq_iff_iff]; simp), rfl⟩

set_option maxHeartbeats 400000 in
theorem clone_any (A : Option Addr) (n c : Nat) (xs : List UInt8) (w : World) (h : IsB w A n c xs) (hn : xs.length ≤ 1000000) :
    Calls Try.prog 31 #[.slice A n c] w fun e w' => ∃ A' n' c', e = .returned (.slice A' n' c') ∧ Own w' w.heap.size 5 A' n' c' (xs.map u8) ∧ Below w.heap.size w w' := by
  obtain ⟨i0, hi0, hz0, hz1, hz2⟩ := info_parts info8
  have hl := IsB.len h
  have H := Lib.hid h
  have HI := Lib.hid (And.intro hi0 (And.intro hz0 (And.intro hz1 hz2)))
  have HL := Lib.hid hl
  clear h hi0 hz0 hz1 hz2 hl
  have qT : ∀ (w : World) (a : Option Addr) (n c n' c' : Nat), (binOp .eql 22 (.slice a n c) (.slice none n' c')).run Try.prog w = .ok (.bool a.isNone) w := fun w a n c n' c' => Lib.run_eql_slice_nil w _ _ a n c n' c' Try.underlying22
  cases A with
  | none =>
    have h0 : xs = [] := by
      have hr := H.out
      rcases xs with _ | ⟨x, xs⟩
      · rfl
      · obtain ⟨b, off, hA, _⟩ := Rd.at_ hr 0 (u8 x) rfl
        cases hA
    subst h0
    go_enter Try.func31, Try.ntmps31
    go_wp2_with fail
    go_ret
    exact ⟨none, 0, 0, rfl, Own.nil _ _, Below.refl _ _⟩
  | some a =>
    go_enter Try.func31, Try.ntmps31
    have hown := own_lit (w := w) (B := w.heap.size) (e := 5) [] (Nat.le_refl _) (by simp)
    have HO := Lib.hid hown
    clear hown
    have hn' : n ≤ 1000000 := by have := HL.out; omega
    go_wp2_with (at_builtin; refine wpList_append_rd _ rfl (.tmp 5) (.tmp 6) 22 rfl w.heap.size 5 i0 _ 1 Try.underlying22 HI.out.1 HI.out.2.1 HI.out.2.2.1 HI.out.2.2.2 rfl (some ⟨w.heap.size, 0, none⟩) 0 0 [] rfl HO.out (some a) n c _ rfl (H.out.alloc _) (u8_one _) ?_ (by omega) (by simp) ?_)
    case _ => omega
    intro A3 c3 w3 hown3 hg3 _
    have hb3 : Below w.heap.size w w3 := ((Below.refl _ _).alloc (Nat.le_refl _) _).grown hg3 (by simp) (by simp [Value.ownBlock])
    go_wp2
    go_ret
    exact ⟨A3, 0 + n, c3, by simp, by simpa using hown3, hb3⟩
end Go.Proofs.Ytomdjcodgkoapaa

/- check.Append, check.Remove: the walks. -/
namespace Go.Proofs.Ytomdjcodgkoapaa
open Go.RowKit
set_option maxHeartbeats 400000 in
theorem append_ok (k : Int) (hk : k = 0 ∨ k = 1) (A : Option Addr) (n c : Nat) (xs : List UInt8) (w : World) (h : IsB w A n c xs) (hx : xs.length ≤ 900000) :
    Calls Try.prog 27 #[.int .i64 k, .slice A n c] w fun e w' => ∃ A' n' c', e = .returned (.tuple #[.slice A' n' c', .int .i64 0]) ∧ Own w' w.heap.size 5 A' n' c' ((xs ++ sumB k xs).map u8) ∧ Below w.heap.size w w' := by
  have he : sumE k = 0 := by unfold sumE; rw [if_pos hk]
  have hlen : (xs ++ sumB k xs).length ≤ 1000000 := by
    rw [List.length_append, sumB_length]; unfold sizeN; (split <;> (try split) <;> omega)
  go_enter Try.func27, Try.ntmps27
  go_wp2_with fail
  refine (sum_any k A n c xs _ h).mono ?_
  rintro e w1 ⟨A1, n1, c1, rfl, ho, hb⟩
  rw [he]
  have HB := Lib.hid hb
  have H1 := Lib.hid (IsBB.lit2 (e := 22) (h.below hb) ho.rd)
  clear hb ho he
  have HX := Lib.hid hlen
  clear hlen
  go_wp2_with fail
  refine (join_any _ _ _ [xs, sumB k xs] _ H1.out (by simpa using HX.out)).mono ?_
  rintro e w2 ⟨A2, n2, c2, rfl, ho2, hb2⟩
  go_wp2_with fail
  go_ret2
  refine ⟨A2, n2, c2, rfl, ?_, (HB.out.alloc HB.out.size _).trans (hb2.mono (by have := HB.out.size; simp; omega))⟩
  have := ho2.base (B' := w.heap.size) (by have := HB.out.size; simp; omega)
  simpa using this

theorem sizeI_eq (k : Int) : sizeI k = (sizeN k : Int) := by unfold sizeI sizeN; split <;> (try split) <;> rfl
theorem sizeN_pos (k : Int) (h : k = 0 ∨ k = 1) : 0 < sizeN k ∧ sizeN k ≤ 2 := by rcases h with rfl | rfl <;> decide

set_option maxHeartbeats 400000 in
theorem remove_ok (k : Int) (hk : k = 0 ∨ k = 1) (A : Option Addr) (m s c : Nat) (hs : sizeN k = s) (xs : List UInt8) (w : World) (h : IsB w A (m + s) c xs) (hx : xs.length ≤ 900000) (heq : sumB k (xs.take m) = xs.drop m) :
    Calls Try.prog 29 #[.int .i64 k, .slice A (m + s) c] w fun e w' => ∃ A' n' c', e = .returned (.tuple #[.slice A' n' c', .int .i64 0]) ∧ Own w' w.heap.size 5 A' n' c' ((xs.take m).map u8) ∧ Below w.heap.size w w' := by
  have hd : decide (sumB k (xs.take m) = xs.drop m) = true := decide_eq_true heq
  clear heq
  have hp := sizeN_pos k hk
  have he : sumE k = 0 := by unfold sumE; rw [if_pos hk]
  have hcap := h.cap
  have h63 := h.len63
  have h1 : IsB w A m c (xs.take m) := IsB.take h (by omega)
  have h2 : IsB w (A.map (·.add m)) s (c - m) (xs.drop m) := by
    have := IsB.cut h (k := m) (by omega)
    rwa [if_neg (by omega), Nat.add_sub_cancel_left] at this
  go_enter Try.func29, Try.ntmps29
  go_wp2_with fail
  refine (size_any k _).mono ?_
  rintro e w1 ⟨rfl, rfl⟩
  rw [sizeI_eq, hs]
  rw [hs] at hp
  have h0 : ((s : Int) == 0) = false := by simp; omega
  have H := Lib.hid (And.intro hs (And.intro h1 (And.intro h2 he)))
  clear hs h1 h2 he
  go_wp2_with fail
  refine (sum_any k A m c _ _ H.out.2.1).mono ?_
  rintro e w1 ⟨A1, n1, c1, rfl, ho, hb⟩
  rw [H.out.2.2.2]
  have HB := Lib.hid (And.intro ho hb)
  clear ho hb
  go_wp2_with fail
  refine (equal_any _ _ _ _ _ _ _ _ _ HB.out.1.rd (Rd.below H.out.2.2.1 HB.out.2)).mono ?_
  rintro e w2 ⟨rfl, rfl⟩
  rw [hd]
  clear hd
  have HJ := Lib.hid (IsBB.lit1 (e := 22) (Rd.below H.out.2.1 HB.out.2))
  have HL : Hid (([xs.take m] : List (List UInt8)).flatten.length ≤ 1000000) := by
    show _ ≤ _
    simp; omega
  go_wp2_with fail
  refine (join_any _ _ _ [xs.take m] _ HJ.out HL.out).mono ?_
  rintro e w2 ⟨A2, n2, c2, rfl, ho2, hb2⟩
  have HO := Lib.hid (And.intro ho2 hb2)
  clear ho2 hb2
  go_wp2_with fail
  go_ret2
  obtain ⟨ho2, hb2⟩ := HO.out
  have hb := HB.out.2
  refine ⟨A2, n2, c2, rfl, ?_, (hb.alloc hb.size _).trans (hb2.mono (by have := hb.size; simp; omega))⟩
  have := ho2.base (B' := w.heap.size) (by have := hb.size; simp; omega)
  simpa using this

end Go.Proofs.Ytomdjcodgkoapaa

/- The references' comparison of bytes: the walks. -/
namespace Go.Proofs.Ytomdjcodgkoapaa
open Go.RowKit

def cmpB : List UInt8 → List UInt8 → Int
  | [], [] => 0
  | [], _ :: _ => -1
  | _ :: _, [] => 1
  | x :: xs, y :: ys => if x.toNat < y.toNat then -1 else if y.toNat < x.toNat then 1 else cmpB xs ys
theorem cmpB_cons (x y : UInt8) (xs ys : List UInt8) : cmpB (x :: xs) (y :: ys) = if x.toNat < y.toNat then -1 else if y.toNat < x.toNat then 1 else cmpB xs ys := by rw [cmpB]
theorem cmpB_nil_cons (y : UInt8) (ys : List UInt8) : cmpB [] (y :: ys) = -1 := by rw [cmpB]
theorem cmpB_cons_nil (x : UInt8) (xs : List UInt8) : cmpB (x :: xs) [] = 1 := by rw [cmpB]
theorem cmpB_nil : cmpB [] [] = 0 := by rw [cmpB]
theorem cmpB_self (xs : List UInt8) : cmpB xs xs = 0 := by
  induction xs with
  | nil => rfl
  | cons x xs ih => simp [cmpB, ih]
theorem cmpB_eq : ∀ (xs ys : List UInt8), cmpB xs ys = 0 → xs = ys
  | [], [], _ => rfl
  | [], _ :: _, h => by simp [cmpB] at h
  | _ :: _, [], h => by simp [cmpB] at h
  | x :: xs, y :: ys, h => by
    unfold cmpB at h
    split at h
    · simp at h
    · split at h
      · simp at h
      · rw [cmpB_eq xs ys h]
        congr 1
        exact UInt8.toNat_inj.1 (by omega)
theorem cmpB_iff (xs ys : List UInt8) : (cmpB xs ys == 0) = decide (xs = ys) := by
  rw [Bool.eq_iff_iff]
  simp only [beq_iff_eq, decide_eq_true_eq]
  exact ⟨cmpB_eq xs ys, fun h => by rw [h]; exact cmpB_self ys⟩
theorem drop_of_get {xs : List UInt8} {k : Nat} {x : UInt8} (h : Hid (xs[k]? = some x)) : xs.drop k = x :: xs.drop (k + 1) := by
  obtain ⟨hk, rfl⟩ := List.getElem?_eq_some_iff.1 h.out
  exact List.drop_eq_getElem_cons hk

set_option maxHeartbeats 1000000 in
theorem compare_any (A : Option Addr) (n c : Nat) (xs : List UInt8) (A' : Option Addr) (n' c' : Nat) (ys : List UInt8) (w : World) (h : IsB w A n c xs) (h' : IsB w A' n' c' ys) :
    Calls Try.prog 25 #[.slice A n c, .slice A' n' c'] w fun e w' => e = .returned (.int .i64 (cmpB xs ys)) ∧ Below w.heap.size w w' := by
  have hn := h.len63.1
  have hn' := h'.len63.1
  have HL := Lib.hid (And.intro (IsB.len h) (IsB.len h'))
  have H := Lib.hid (And.intro h h')
  clear h h'
  go_enter Try.func25, Try.ntmps25
  go_wp2
  go_loopg [5] n (fun g i wr => ∃ k, k ≤ n ∧ k ≤ n' ∧ g = n - k ∧ i = .int .i64 (k : Int) ∧ Hid (cmpB xs ys = cmpB (xs.drop k) (ys.drop k)) ∧ Below w.heap.size w wr)
  case atStart => exact ⟨0, by omega, by omega, rfl, rfl, by simp [Hid], Below.refl _ _⟩
  case round =>
    obtain ⟨k, hk, hk', hg, rfl, hc, hb⟩ := hrel
    by_cases hlt : k < n
    · by_cases hlt' : k < n'
      · obtain ⟨x, b, off, hx, rfl, hcx, hx8⟩ := IsB.at_ (Rd.below H.out.1 hb) hlt
        obtain ⟨y, b', off', hy, rfl, hcy, hy8⟩ := IsB.at_ (Rd.below H.out.2 hb) hlt'
        have HX := Lib.hid (And.intro hx hy)
        have hcons : cmpB (xs.drop k) (ys.drop k) = cmpB (x :: xs.drop (k + 1)) (y :: ys.drop (k + 1)) := by rw [drop_of_get hx, drop_of_get hy]
        rw [cmpB_cons] at hcons
        obtain ⟨a, ha⟩ : ∃ a, a = x.toNat := ⟨_, rfl⟩
        obtain ⟨d, hd⟩ : ∃ d, d = y.toNat := ⟨_, rfl⟩
        rw [← ha, ← hd] at hcons
        rw [← ha] at hcx hx8
        rw [← hd] at hcy hy8
        clear hx hy ha hd HX
        by_cases h1 : a < d
        · rw [if_pos h1] at hcons
          have HC := Lib.hid (hc.out.trans hcons)
          have h1' : (a : Int) < d := by omega
          clear hc hcons h1
          go_wp2
          go_region
          go_wp2
          go_ret
          exact ⟨ret_i64 HC.out.symm, hb.drew⟩
        · rw [if_neg h1] at hcons
          have h1' : decide (a < d) = false := decide_eq_false h1
          by_cases h2 : d < a
          · rw [if_pos h2] at hcons
            have HC := Lib.hid (hc.out.trans hcons)
            have h2' : decide (d < a) = true := decide_eq_true h2
            clear hc hcons h1 h2
            go_wp2
            go_region
            go_wp2
            go_region
            go_wp2
            go_ret
            exact ⟨ret_i64 HC.out.symm, hb.drew.drew⟩
          · rw [if_neg h2] at hcons
            have HC := Lib.hid (hc.out.trans hcons)
            have h2' : decide (d < a) = false := decide_eq_false h2
            clear hc hcons h1 h2
            go_wp2
            go_region
            go_wp2
            go_region
            go_wp2
            go_roundg (n - (k + 1))
            case measure => omega
            case rel => exact ⟨k + 1, by omega, by omega, rfl, by go_num, HC.out, hb.drew.drew⟩
      · have hxe : ∃ x, Hid (xs[k]? = some x) := by have := HL.out.1; exact ⟨xs[k]'(by omega), List.getElem?_eq_getElem (by omega)⟩
        obtain ⟨x, hx⟩ := hxe
        have hcy : ys.drop k = [] := List.drop_eq_nil_of_le (by have := HL.out.2; omega)
        have hv := hc.out
        rw [drop_of_get hx, hcy, cmpB_cons_nil] at hv
        have HC := Lib.hid hv
        have hnn : ¬ (n : Int) < n' := by omega
        have hnn' : (n' : Int) < n := by omega
        clear hx hcy hv hc
        go_wp2
        go_ret
        exact ⟨ret_i64 HC.out.symm, hb⟩
    · have hcx : xs.drop k = [] := List.drop_eq_nil_of_le (by have := HL.out.1; omega)
      have hv := hc.out
      rw [hcx] at hv
      by_cases hlt' : k < n'
      · have hye : ∃ y, Hid (ys[k]? = some y) := by have := HL.out.2; exact ⟨ys[k]'(by omega), List.getElem?_eq_getElem (by omega)⟩
        obtain ⟨y, hy⟩ := hye
        rw [drop_of_get hy, cmpB_nil_cons] at hv
        have HC := Lib.hid hv
        have hnn : (n : Int) < n' := by omega
        clear hy hcx hv hc
        go_wp2
        go_ret
        exact ⟨ret_i64 HC.out.symm, hb⟩
      · have hcy : ys.drop k = [] := List.drop_eq_nil_of_le (by have := HL.out.2; omega)
        rw [hcy, cmpB_nil] at hv
        have HC := Lib.hid hv
        have hnn : ¬ (n : Int) < n' := by omega
        have hnn' : ¬ (n' : Int) < n := by omega
        clear hcx hcy hv hc
        go_wp2
        go_ret
        exact ⟨ret_i64 HC.out.symm, hb⟩

set_option maxHeartbeats 400000 in
theorem same_any (A : Option Addr) (n c : Nat) (xs : List UInt8) (A' : Option Addr) (n' c' : Nat) (ys : List UInt8) (w : World) (h : IsB w A n c xs) (h' : IsB w A' n' c' ys) :
    Calls Try.prog 16 #[.slice A n c, .slice A' n' c'] w fun e w' => e = .returned (.bool (decide (xs = ys))) ∧ Below w.heap.size w w' := by
  go_enter Try.func16, Try.ntmps16
  go_wp2_with fail
  refine (compare_any _ _ _ _ _ _ _ _ _ h h').mono ?_
  rintro e w2 ⟨rfl, hb⟩
  go_wp2_with fail
  go_ret
  exact ⟨ret_bool (cmpB_iff xs ys), hb⟩
end Go.Proofs.Ytomdjcodgkoapaa

/- smartcard/block: kindOf, codes, flag, infField, Check: the walks. -/
namespace Go.Proofs.Ytomdjcodgkoapaa
open Go.RowKit

/-- The error of an information field. -/
def infE (kind code : Int) (inf : List UInt8) : Int :=
  if kind = 0 then (if 254 < inf.length then 3 else 0)
  else if kind = 1 ∨ code = 0 ∨ code = 2 then (if inf.length = 0 then 0 else 4)
  else if inf.length = 1 ∧ 1 ≤ (inf.getD 0 0).toNat ∧ (code = 1 → (inf.getD 0 0).toNat ≤ 254) then 0 else 4
/-- The error of a block. -/
def checkE (nad kind seq : Int) (more : Bool) (code : Int) (answer : Bool) (inf : List UInt8) : Int :=
  if kind < 0 ∨ 2 < kind then 1
  else if nad < 0 ∨ 254 < nad then 2
  else if kind ≠ 2 ∧ (seq < 0 ∨ 1 < seq) then 2
  else if kind ≠ 0 ∧ (code < 0 ∨ (if kind = 1 then 3 else 4) ≤ code) then 2
  else if (kind = 2 ∧ seq ≠ 0) ∨ (kind = 0 ∧ code ≠ 0) ∨ (kind ≠ 0 ∧ more = true) ∨ (kind ≠ 2 ∧ answer = true) then 4
  else infE kind code inf

theorem ta_II (w : World) : (Instr.typeAssert (.iface 44 (.agg #[])) 31 44 true).run Try.prog w = .ok (.tuple #[.agg #[], .bool true]) w := by kernel_rfl
theorem ta_IR (w : World) : (Instr.typeAssert (.iface 44 (.agg #[])) 31 50 true).run Try.prog w = .ok (.tuple #[.agg #[], .bool false]) w := by kernel_rfl
theorem ta_IS (w : World) : (Instr.typeAssert (.iface 44 (.agg #[])) 31 46 true).run Try.prog w = .ok (.tuple #[.agg #[], .bool false]) w := by kernel_rfl
theorem ta_RI (w : World) : (Instr.typeAssert (.iface 50 (.agg #[])) 31 44 true).run Try.prog w = .ok (.tuple #[.agg #[], .bool false]) w := by kernel_rfl
theorem ta_RR (w : World) : (Instr.typeAssert (.iface 50 (.agg #[])) 31 50 true).run Try.prog w = .ok (.tuple #[.agg #[], .bool true]) w := by kernel_rfl
theorem ta_RS (w : World) : (Instr.typeAssert (.iface 50 (.agg #[])) 31 46 true).run Try.prog w = .ok (.tuple #[.agg #[], .bool false]) w := by kernel_rfl
theorem ta_SI (w : World) : (Instr.typeAssert (.iface 46 (.agg #[])) 31 44 true).run Try.prog w = .ok (.tuple #[.agg #[], .bool false]) w := by kernel_rfl
theorem ta_SR (w : World) : (Instr.typeAssert (.iface 46 (.agg #[])) 31 50 true).run Try.prog w = .ok (.tuple #[.agg #[], .bool false]) w := by kernel_rfl
theorem ta_SS (w : World) : (Instr.typeAssert (.iface 46 (.agg #[])) 31 46 true).run Try.prog w = .ok (.tuple #[.agg #[], .bool true]) w := by kernel_rfl
theorem ta_NI (w : World) : (Instr.typeAssert (.nilIface) 31 44 true).run Try.prog w = .ok (.tuple #[.agg #[], .bool false]) w := by kernel_rfl
theorem ta_NR (w : World) : (Instr.typeAssert (.nilIface) 31 50 true).run Try.prog w = .ok (.tuple #[.agg #[], .bool false]) w := by kernel_rfl
theorem ta_NS (w : World) : (Instr.typeAssert (.nilIface) 31 46 true).run Try.prog w = .ok (.tuple #[.agg #[], .bool false]) w := by kernel_rfl
attribute [local go_sem] ta_II ta_IR ta_IS ta_RI ta_RR ta_RS ta_SI ta_SR ta_SS ta_NI ta_NR ta_NS

theorem codes_R (w : World) : Calls Try.prog 19 #[.iface 50 (.agg #[])] w fun e w' => e = .returned (.int .i64 3) ∧ w' = w := by
  go_enter Try.func19, Try.ntmps19
  go_wp2
  go_ret
  exact ⟨rfl, rfl⟩
theorem codes_S (w : World) : Calls Try.prog 19 #[.iface 46 (.agg #[])] w fun e w' => e = .returned (.int .i64 4) ∧ w' = w := by
  go_enter Try.func19, Try.ntmps19
  go_wp2
  go_ret
  exact ⟨rfl, rfl⟩
theorem codes_I (w : World) : Calls Try.prog 19 #[.iface 44 (.agg #[])] w fun e w' => e = .returned (.int .i64 0) ∧ w' = w := by
  go_enter Try.func19, Try.ntmps19
  go_wp2
  go_ret
  exact ⟨rfl, rfl⟩

set_option maxHeartbeats 400000 in
theorem inf_I (nad kind seq : Int) (more : Bool) (code : Int) (answer : Bool) (A : Option Addr) (n c : Nat) (inf : List UInt8) (w : World) (h : IsB w A n c inf) :
    Calls Try.prog 20 #[.iface 44 (.agg #[]), .agg #[.int .i64 nad, .int .i64 kind, .int .i64 seq, .bool more, .int .i64 code, .bool answer, .slice A n c]] w
      fun e w' => e = .returned (.int .i64 (infE 0 code inf)) ∧ Below w.heap.size w w' := by
  have hl := IsB.len h
  by_cases h1 : 254 < n
  · have HV : Hid (infE 0 code inf = 3) := by show _ = _; unfold infE; rw [if_pos rfl, if_pos (by omega)]
    clear hl
    go_enter Try.func20, Try.ntmps20
    go_wp2
    go_ret
    exact ⟨ret_i64 HV.out.symm, (Below.refl _ _).alloc (Nat.le_refl _) _⟩
  · have HV : Hid (infE 0 code inf = 0) := by show _ = _; unfold infE; rw [if_pos rfl, if_neg (by omega)]
    clear hl
    go_enter Try.func20, Try.ntmps20
    go_wp2
    go_ret
    exact ⟨ret_i64 HV.out.symm, (Below.refl _ _).alloc (Nat.le_refl _) _⟩

set_option maxHeartbeats 400000 in
theorem inf_R (nad kind seq : Int) (more : Bool) (code : Int) (answer : Bool) (A : Option Addr) (n c : Nat) (inf : List UInt8) (w : World) (h : IsB w A n c inf) :
    Calls Try.prog 20 #[.iface 50 (.agg #[]), .agg #[.int .i64 nad, .int .i64 kind, .int .i64 seq, .bool more, .int .i64 code, .bool answer, .slice A n c]] w
      fun e w' => e = .returned (.int .i64 (infE 1 code inf)) ∧ Below w.heap.size w w' := by
  have hl := IsB.len h
  by_cases h1 : n = 0
  · subst h1
    have HV : Hid (infE 1 code inf = 0) := by show _ = _; unfold infE; rw [if_neg (by omega), if_pos (by omega), if_pos (by omega)]
    clear hl
    go_enter Try.func20, Try.ntmps20
    go_wp2
    go_ret
    exact ⟨ret_i64 HV.out.symm, (Below.refl _ _).alloc (Nat.le_refl _) _⟩
  · have HV : Hid (infE 1 code inf = 4) := by show _ = _; unfold infE; rw [if_neg (by omega), if_pos (by omega), if_neg (by omega)]
    have h1' : ((n : Int) == 0) = false := by simp; omega
    clear hl
    go_enter Try.func20, Try.ntmps20
    go_wp2
    go_ret
    exact ⟨ret_i64 HV.out.symm, (Below.refl _ _).alloc (Nat.le_refl _) _⟩

theorem getD_of_get {xs : List UInt8} {k : Nat} {x : UInt8} (h : Hid (xs[k]? = some x)) : xs.getD k 0 = x := by
  rw [List.getD_eq_getElem?_getD, h.out]; rfl

set_option maxHeartbeats 1000000 in
theorem inf_S (nad kind seq : Int) (more : Bool) (code : Int) (answer : Bool) (A : Option Addr) (n c : Nat) (inf : List UInt8) (w : World) (h : IsB w A n c inf) (h0 : 0 ≤ code) (h3 : code ≤ 3) :
    Calls Try.prog 20 #[.iface 46 (.agg #[]), .agg #[.int .i64 nad, .int .i64 kind, .int .i64 seq, .bool more, .int .i64 code, .bool answer, .slice A n c]] w
      fun e w' => e = .returned (.int .i64 (infE 2 code inf)) ∧ Below w.heap.size w w' := by
  have hl := IsB.len h
  by_cases hc : code = 0 ∨ code = 2
  · have hc1 : (code == 1) = false := by simp; omega
    have hc3 : (code == 3) = false := by simp; omega
    by_cases h1 : n = 0
    · subst h1
      have HV : Hid (infE 2 code inf = 0) := by show _ = _; unfold infE; rw [if_neg (by omega), if_pos (by omega), if_pos (by omega)]
      clear hl hc h0 h3
      go_enter Try.func20, Try.ntmps20
      go_wp2
      go_ret
      exact ⟨ret_i64 HV.out.symm, (Below.refl _ _).alloc (Nat.le_refl _) _⟩
    · have HV : Hid (infE 2 code inf = 4) := by show _ = _; unfold infE; rw [if_neg (by omega), if_pos (by omega), if_neg (by omega)]
      have h1' : ((n : Int) == 0) = false := by simp; omega
      clear hl hc h0 h3 h1
      go_enter Try.func20, Try.ntmps20
      go_wp2
      go_ret
      exact ⟨ret_i64 HV.out.symm, (Below.refl _ _).alloc (Nat.le_refl _) _⟩
  · by_cases h1 : n = 1
    · subst h1
      obtain ⟨x, b, off, hx, rfl, hcx, hx8⟩ := IsB.at_ h (show 0 < 1 by omega)
      have hgx := getD_of_get hx
      obtain ⟨a, ha⟩ : ∃ a, a = x.toNat := ⟨_, rfl⟩
      rw [← ha] at hcx hx8
      have hV : infE 2 code inf = if 1 ≤ a ∧ (code = 1 → a ≤ 254) then 0 else 4 := by
        unfold infE
        rw [if_neg (by omega), if_neg (by omega), hgx, ← ha]
        by_cases hq : 1 ≤ a ∧ (code = 1 → a ≤ 254)
        · rw [if_pos hq, if_pos ⟨hl, hq.1, hq.2⟩]
        · rw [if_neg hq, if_neg (fun h => hq ⟨h.2.1, h.2.2⟩)]
      rw [Nat.add_zero] at hcx
      have hb := World.block_lt_of_cell? w _ hcx
      have hc2 : (w.alloc (.cells #[.int .i64 nad, .int .i64 kind, .int .i64 seq, .bool more, .int .i64 code, .bool answer, .slice (some ⟨b, off, none⟩) 1 c] 24)).cell? ⟨b, off, none⟩ = some (.int .u8 (a : Int)) := by
        rw [World.cell?_alloc_lt _ _ _ hb]; exact hcx
      clear hl hgx ha hx
      by_cases hc1 : code = 1
      · subst hc1
        by_cases hq : 1 ≤ a ∧ a ≤ 254
        · have HV := Lib.hid (hV.trans (if_pos ⟨hq.1, fun _ => hq.2⟩))
          have hi1 : (1 : Int) ≤ a := by omega
          have hi2 : (a : Int) ≤ 254 := by omega
          clear hV hq hc h0 h3
          go_enter Try.func20, Try.ntmps20
          go_wp2
          go_ret
          exact ⟨ret_i64 HV.out.symm, (Below.refl _ _).alloc (Nat.le_refl _) _⟩
        · have HV := Lib.hid (hV.trans (if_neg (by omega)))
          by_cases hi1 : (1 : Int) ≤ a
          · have hi2 : ¬ (a : Int) ≤ 254 := by omega
            clear hV hq hc h0 h3
            go_enter Try.func20, Try.ntmps20
            go_wp2
            go_ret
            exact ⟨ret_i64 HV.out.symm, (Below.refl _ _).alloc (Nat.le_refl _) _⟩
          · clear hV hq hc h0 h3
            go_enter Try.func20, Try.ntmps20
            go_wp2
            go_ret
            exact ⟨ret_i64 HV.out.symm, (Below.refl _ _).alloc (Nat.le_refl _) _⟩
      · obtain rfl : code = 3 := by omega
        by_cases hq : 1 ≤ a
        · have HV := Lib.hid (hV.trans (if_pos ⟨hq, fun h => absurd h (by omega)⟩))
          have hi1 : (1 : Int) ≤ a := by omega
          have hi2 : (a : Int) ≤ 255 := by omega
          clear hV hq hc h0 h3 hc1
          go_enter Try.func20, Try.ntmps20
          go_wp2
          go_ret
          exact ⟨ret_i64 HV.out.symm, (Below.refl _ _).alloc (Nat.le_refl _) _⟩
        · have HV := Lib.hid (hV.trans (if_neg (by omega)))
          have hi1 : ¬ (1 : Int) ≤ a := by omega
          clear hV hq hc h0 h3 hc1
          go_enter Try.func20, Try.ntmps20
          go_wp2
          go_ret
          exact ⟨ret_i64 HV.out.symm, (Below.refl _ _).alloc (Nat.le_refl _) _⟩
    · have HV : Hid (infE 2 code inf = 4) := by show _ = _; unfold infE; rw [if_neg (by omega), if_neg (by omega), if_neg (by omega)]
      have h1' : ((n : Int) == 1) = false := by simp; omega
      clear hl h1
      by_cases hc1 : code = 1
      · subst hc1
        clear hc h0 h3
        go_enter Try.func20, Try.ntmps20
        go_wp2
        go_ret
        exact ⟨ret_i64 HV.out.symm, (Below.refl _ _).alloc (Nat.le_refl _) _⟩
      · obtain rfl : code = 3 := by omega
        clear hc h0 h3 hc1
        go_enter Try.func20, Try.ntmps20
        go_wp2
        go_ret
        exact ⟨ret_i64 HV.out.symm, (Below.refl _ _).alloc (Nat.le_refl _) _⟩
end Go.Proofs.Ytomdjcodgkoapaa

/- smartcard/block.Check: the walk, path by path (printed by wip/gen/check.py). -/
namespace Go.Proofs.Ytomdjcodgkoapaa
open Go.RowKit
set_option linter.unusedVariables false
attribute [local go_sem] ta_II ta_IR ta_IS ta_RI ta_RR ta_RS ta_SI ta_SR ta_SS ta_NI ta_NR ta_NS
set_option maxHeartbeats 1000000 in
theorem check_N (nad seq kind : Int) (more : Bool) (code : Int) (answer : Bool) (A : Option Addr) (n c : Nat) (inf : List UInt8) (w : World) (hk : kind < 0 ∨ 2 < kind) :
    Calls Try.prog 8 #[.agg #[.int .i64 nad, .int .i64 kind, .int .i64 seq, .bool more, .int .i64 code, .bool answer, .slice A n c]] w
      fun e w' => e = .returned (.int .i64 (checkE nad kind seq more code answer inf)) ∧ Below w.heap.size w w' := by
  have HV : Hid (checkE nad kind seq more code answer inf = 1) := by show _ = _; unfold checkE; rw [if_pos hk]
  have h1 : (kind == 0) = false := by simp; omega
  have h2 : (kind == 1) = false := by simp; omega
  have h3 : (kind == 2) = false := by simp; omega
  clear hk
  go_enter Try.func8, Try.ntmps8
  go_wp2_with (first | (go_at_call 9; go_in) | fail)
  go_ret
  exact ⟨ret_i64 HV.out.symm, (((Below.refl _ _).alloc (Nat.le_refl _) _).alloc (by simp) _).alloc (by simp; omega) _⟩

set_option maxHeartbeats 1000000 in
theorem check_I_0 (nad seq : Int) (more : Bool) (code : Int) (answer : Bool) (A : Option Addr) (n c : Nat) (inf : List UInt8) (w : World) (h : IsB w A n c inf)
    (h_nadlo : nad < 0) :
    Calls Try.prog 8 #[.agg #[.int .i64 nad, .int .i64 0, .int .i64 seq, .bool more, .int .i64 code, .bool answer, .slice A n c]] w
      fun e w' => e = .returned (.int .i64 (checkE nad 0 seq more code answer inf)) ∧ Below w.heap.size w w' := by
  have HV : Hid (checkE nad 0 seq more code answer inf = 2) := by
    show _ = _
    unfold checkE
    simp_all <;> (try omega)
  go_enter Try.func8, Try.ntmps8
  go_wp2_with (first | (go_at_call 9; go_in) | fail)
  go_ret
  exact ⟨ret_i64 HV.out.symm, (((Below.refl _ _).alloc (Nat.le_refl _) _).alloc (by simp) _).alloc (by simp; omega) _⟩

set_option maxHeartbeats 1000000 in
theorem check_I_1 (nad seq : Int) (more : Bool) (code : Int) (answer : Bool) (A : Option Addr) (n c : Nat) (inf : List UInt8) (w : World) (h : IsB w A n c inf)
    (h_nadlo : ¬ (nad < 0)) (h_nadhi : 254 < nad) :
    Calls Try.prog 8 #[.agg #[.int .i64 nad, .int .i64 0, .int .i64 seq, .bool more, .int .i64 code, .bool answer, .slice A n c]] w
      fun e w' => e = .returned (.int .i64 (checkE nad 0 seq more code answer inf)) ∧ Below w.heap.size w w' := by
  have HV : Hid (checkE nad 0 seq more code answer inf = 2) := by
    show _ = _
    unfold checkE
    simp_all <;> (try omega)
  go_enter Try.func8, Try.ntmps8
  go_wp2_with (first | (go_at_call 9; go_in) | fail)
  go_ret
  exact ⟨ret_i64 HV.out.symm, (((Below.refl _ _).alloc (Nat.le_refl _) _).alloc (by simp) _).alloc (by simp; omega) _⟩

set_option maxHeartbeats 1000000 in
theorem check_I_2 (nad seq : Int) (more : Bool) (code : Int) (answer : Bool) (A : Option Addr) (n c : Nat) (inf : List UInt8) (w : World) (h : IsB w A n c inf)
    (h_nadlo : ¬ (nad < 0)) (h_nadhi : ¬ (254 < nad)) (h_seqlo : seq < 0) :
    Calls Try.prog 8 #[.agg #[.int .i64 nad, .int .i64 0, .int .i64 seq, .bool more, .int .i64 code, .bool answer, .slice A n c]] w
      fun e w' => e = .returned (.int .i64 (checkE nad 0 seq more code answer inf)) ∧ Below w.heap.size w w' := by
  have HV : Hid (checkE nad 0 seq more code answer inf = 2) := by
    show _ = _
    unfold checkE
    simp_all <;> (try omega)
  go_enter Try.func8, Try.ntmps8
  go_wp2_with (first | (go_at_call 9; go_in) | fail)
  go_ret
  exact ⟨ret_i64 HV.out.symm, (((Below.refl _ _).alloc (Nat.le_refl _) _).alloc (by simp) _).alloc (by simp; omega) _⟩

set_option maxHeartbeats 1000000 in
theorem check_I_3 (nad seq : Int) (more : Bool) (code : Int) (answer : Bool) (A : Option Addr) (n c : Nat) (inf : List UInt8) (w : World) (h : IsB w A n c inf)
    (h_nadlo : ¬ (nad < 0)) (h_nadhi : ¬ (254 < nad)) (h_seqlo : ¬ (seq < 0)) (h_seqhi : 1 < seq) :
    Calls Try.prog 8 #[.agg #[.int .i64 nad, .int .i64 0, .int .i64 seq, .bool more, .int .i64 code, .bool answer, .slice A n c]] w
      fun e w' => e = .returned (.int .i64 (checkE nad 0 seq more code answer inf)) ∧ Below w.heap.size w w' := by
  have HV : Hid (checkE nad 0 seq more code answer inf = 2) := by
    show _ = _
    unfold checkE
    simp_all <;> (try omega)
  go_enter Try.func8, Try.ntmps8
  go_wp2_with (first | (go_at_call 9; go_in) | fail)
  go_ret
  exact ⟨ret_i64 HV.out.symm, (((Below.refl _ _).alloc (Nat.le_refl _) _).alloc (by simp) _).alloc (by simp; omega) _⟩

set_option maxHeartbeats 1000000 in
theorem check_I_4 (nad seq : Int) (more : Bool) (code : Int) (answer : Bool) (A : Option Addr) (n c : Nat) (inf : List UInt8) (w : World) (h : IsB w A n c inf)
    (h_nadlo : ¬ (nad < 0)) (h_nadhi : ¬ (254 < nad)) (h_seqlo : ¬ (seq < 0)) (h_seqhi : ¬ (1 < seq)) (h_code0 : ¬ (code = 0)) :
    Calls Try.prog 8 #[.agg #[.int .i64 nad, .int .i64 0, .int .i64 seq, .bool more, .int .i64 code, .bool answer, .slice A n c]] w
      fun e w' => e = .returned (.int .i64 (checkE nad 0 seq more code answer inf)) ∧ Below w.heap.size w w' := by
  have HV : Hid (checkE nad 0 seq more code answer inf = 4) := by
    show _ = _
    unfold checkE
    simp_all <;> (try omega)
  have b_code0 : (code != 0) = true := by simp; omega
  go_enter Try.func8, Try.ntmps8
  go_wp2_with (first | (go_at_call 9; go_in) | fail)
  go_quiet (fail)
  go_wp2_with fail
  go_ret
  exact ⟨ret_i64 HV.out.symm, Below.drewN' ((((Below.refl _ _).alloc (Nat.le_refl _) _).alloc (by simp) _).alloc (by simp; omega) _) _⟩

set_option maxHeartbeats 1000000 in
theorem check_I_5 (nad seq : Int) (more : Bool) (code : Int) (answer : Bool) (A : Option Addr) (n c : Nat) (inf : List UInt8) (w : World) (h : IsB w A n c inf)
    (h_nadlo : ¬ (nad < 0)) (h_nadhi : ¬ (254 < nad)) (h_seqlo : ¬ (seq < 0)) (h_seqhi : ¬ (1 < seq)) (h_code0 : code = 0) (h_answer : answer = true) :
    Calls Try.prog 8 #[.agg #[.int .i64 nad, .int .i64 0, .int .i64 seq, .bool more, .int .i64 code, .bool answer, .slice A n c]] w
      fun e w' => e = .returned (.int .i64 (checkE nad 0 seq more code answer inf)) ∧ Below w.heap.size w w' := by
  have HV : Hid (checkE nad 0 seq more code answer inf = 4) := by
    show _ = _
    unfold checkE
    simp_all <;> (try omega)
  subst h_code0
  subst h_answer
  go_enter Try.func8, Try.ntmps8
  go_wp2_with (first | (go_at_call 9; go_in) | fail)
  go_quiet (fail)
  go_wp2_with fail
  go_ret
  exact ⟨ret_i64 HV.out.symm, Below.drewN' ((((Below.refl _ _).alloc (Nat.le_refl _) _).alloc (by simp) _).alloc (by simp; omega) _) _⟩

set_option maxHeartbeats 1000000 in
theorem check_I_6 (nad seq : Int) (more : Bool) (code : Int) (answer : Bool) (A : Option Addr) (n c : Nat) (inf : List UInt8) (w : World) (h : IsB w A n c inf)
    (h_nadlo : ¬ (nad < 0)) (h_nadhi : ¬ (254 < nad)) (h_seqlo : ¬ (seq < 0)) (h_seqhi : ¬ (1 < seq)) (h_code0 : code = 0) (h_answer : ¬ (answer = true)) :
    Calls Try.prog 8 #[.agg #[.int .i64 nad, .int .i64 0, .int .i64 seq, .bool more, .int .i64 code, .bool answer, .slice A n c]] w
      fun e w' => e = .returned (.int .i64 (checkE nad 0 seq more code answer inf)) ∧ Below w.heap.size w w' := by
  have HV : Hid (checkE nad 0 seq more code answer inf = infE 0 code inf) := by
    show _ = _
    unfold checkE
    simp_all <;> (try omega)
  subst h_code0
  obtain rfl : answer = false := by simpa using h_answer
  go_enter Try.func8, Try.ntmps8
  go_wp2_with (first | (go_at_call 9; go_in) | fail)
  go_quiet (fail)
  go_wp2_with fail
  refine (inf_I _ _ _ _ _ _ _ _ _ inf _ (Rd.drewN (((h.alloc _).alloc _).alloc _) _)).mono ?_
  rintro e w1 ⟨rfl, hb⟩
  go_wp2_with fail
  go_ret
  exact ⟨ret_i64 HV.out.symm, (Below.drewN' ((((Below.refl _ _).alloc (Nat.le_refl _) _).alloc (by simp) _).alloc (by simp; omega) _) _).trans (hb.mono (by simp; omega))⟩

set_option maxHeartbeats 1000000 in
theorem check_R_0 (nad seq : Int) (more : Bool) (code : Int) (answer : Bool) (A : Option Addr) (n c : Nat) (inf : List UInt8) (w : World) (h : IsB w A n c inf)
    (h_nadlo : nad < 0) :
    Calls Try.prog 8 #[.agg #[.int .i64 nad, .int .i64 1, .int .i64 seq, .bool more, .int .i64 code, .bool answer, .slice A n c]] w
      fun e w' => e = .returned (.int .i64 (checkE nad 1 seq more code answer inf)) ∧ Below w.heap.size w w' := by
  have HV : Hid (checkE nad 1 seq more code answer inf = 2) := by
    show _ = _
    unfold checkE
    simp_all <;> (try omega)
  go_enter Try.func8, Try.ntmps8
  go_wp2_with (first | (go_at_call 9; go_in) | fail)
  go_ret
  exact ⟨ret_i64 HV.out.symm, (((Below.refl _ _).alloc (Nat.le_refl _) _).alloc (by simp) _).alloc (by simp; omega) _⟩

set_option maxHeartbeats 1000000 in
theorem check_R_1 (nad seq : Int) (more : Bool) (code : Int) (answer : Bool) (A : Option Addr) (n c : Nat) (inf : List UInt8) (w : World) (h : IsB w A n c inf)
    (h_nadlo : ¬ (nad < 0)) (h_nadhi : 254 < nad) :
    Calls Try.prog 8 #[.agg #[.int .i64 nad, .int .i64 1, .int .i64 seq, .bool more, .int .i64 code, .bool answer, .slice A n c]] w
      fun e w' => e = .returned (.int .i64 (checkE nad 1 seq more code answer inf)) ∧ Below w.heap.size w w' := by
  have HV : Hid (checkE nad 1 seq more code answer inf = 2) := by
    show _ = _
    unfold checkE
    simp_all <;> (try omega)
  go_enter Try.func8, Try.ntmps8
  go_wp2_with (first | (go_at_call 9; go_in) | fail)
  go_ret
  exact ⟨ret_i64 HV.out.symm, (((Below.refl _ _).alloc (Nat.le_refl _) _).alloc (by simp) _).alloc (by simp; omega) _⟩

set_option maxHeartbeats 1000000 in
theorem check_R_2 (nad seq : Int) (more : Bool) (code : Int) (answer : Bool) (A : Option Addr) (n c : Nat) (inf : List UInt8) (w : World) (h : IsB w A n c inf)
    (h_nadlo : ¬ (nad < 0)) (h_nadhi : ¬ (254 < nad)) (h_seqlo : seq < 0) :
    Calls Try.prog 8 #[.agg #[.int .i64 nad, .int .i64 1, .int .i64 seq, .bool more, .int .i64 code, .bool answer, .slice A n c]] w
      fun e w' => e = .returned (.int .i64 (checkE nad 1 seq more code answer inf)) ∧ Below w.heap.size w w' := by
  have HV : Hid (checkE nad 1 seq more code answer inf = 2) := by
    show _ = _
    unfold checkE
    simp_all <;> (try omega)
  go_enter Try.func8, Try.ntmps8
  go_wp2_with (first | (go_at_call 9; go_in) | fail)
  go_ret
  exact ⟨ret_i64 HV.out.symm, (((Below.refl _ _).alloc (Nat.le_refl _) _).alloc (by simp) _).alloc (by simp; omega) _⟩

set_option maxHeartbeats 1000000 in
theorem check_R_3 (nad seq : Int) (more : Bool) (code : Int) (answer : Bool) (A : Option Addr) (n c : Nat) (inf : List UInt8) (w : World) (h : IsB w A n c inf)
    (h_nadlo : ¬ (nad < 0)) (h_nadhi : ¬ (254 < nad)) (h_seqlo : ¬ (seq < 0)) (h_seqhi : 1 < seq) :
    Calls Try.prog 8 #[.agg #[.int .i64 nad, .int .i64 1, .int .i64 seq, .bool more, .int .i64 code, .bool answer, .slice A n c]] w
      fun e w' => e = .returned (.int .i64 (checkE nad 1 seq more code answer inf)) ∧ Below w.heap.size w w' := by
  have HV : Hid (checkE nad 1 seq more code answer inf = 2) := by
    show _ = _
    unfold checkE
    simp_all <;> (try omega)
  go_enter Try.func8, Try.ntmps8
  go_wp2_with (first | (go_at_call 9; go_in) | fail)
  go_ret
  exact ⟨ret_i64 HV.out.symm, (((Below.refl _ _).alloc (Nat.le_refl _) _).alloc (by simp) _).alloc (by simp; omega) _⟩

set_option maxHeartbeats 1000000 in
theorem check_R_4 (nad seq : Int) (more : Bool) (code : Int) (answer : Bool) (A : Option Addr) (n c : Nat) (inf : List UInt8) (w : World) (h : IsB w A n c inf)
    (h_nadlo : ¬ (nad < 0)) (h_nadhi : ¬ (254 < nad)) (h_seqlo : ¬ (seq < 0)) (h_seqhi : ¬ (1 < seq)) (h_codelo : code < 0) :
    Calls Try.prog 8 #[.agg #[.int .i64 nad, .int .i64 1, .int .i64 seq, .bool more, .int .i64 code, .bool answer, .slice A n c]] w
      fun e w' => e = .returned (.int .i64 (checkE nad 1 seq more code answer inf)) ∧ Below w.heap.size w w' := by
  have HV : Hid (checkE nad 1 seq more code answer inf = 2) := by
    show _ = _
    unfold checkE
    simp_all <;> (try omega)
  go_enter Try.func8, Try.ntmps8
  go_wp2_with (first | (go_at_call 9; go_in) | fail)
  go_quiet (fail)
  go_wp2_with fail
  go_ret
  exact ⟨ret_i64 HV.out.symm, Below.drewN' ((((Below.refl _ _).alloc (Nat.le_refl _) _).alloc (by simp) _).alloc (by simp; omega) _) _⟩

set_option maxHeartbeats 1000000 in
theorem check_R_5 (nad seq : Int) (more : Bool) (code : Int) (answer : Bool) (A : Option Addr) (n c : Nat) (inf : List UInt8) (w : World) (h : IsB w A n c inf)
    (h_nadlo : ¬ (nad < 0)) (h_nadhi : ¬ (254 < nad)) (h_seqlo : ¬ (seq < 0)) (h_seqhi : ¬ (1 < seq)) (h_codelo : ¬ (code < 0)) (h_codehi : 3 ≤ code) :
    Calls Try.prog 8 #[.agg #[.int .i64 nad, .int .i64 1, .int .i64 seq, .bool more, .int .i64 code, .bool answer, .slice A n c]] w
      fun e w' => e = .returned (.int .i64 (checkE nad 1 seq more code answer inf)) ∧ Below w.heap.size w w' := by
  have HV : Hid (checkE nad 1 seq more code answer inf = 2) := by
    show _ = _
    unfold checkE
    simp_all <;> (try omega)
  go_enter Try.func8, Try.ntmps8
  go_wp2_with (first | (go_at_call 9; go_in) | fail)
  go_quiet ((go_at_call 19; exact Calls.quiet_of_same (codes_R _)))
  go_wp2_with fail
  go_ret
  exact ⟨ret_i64 HV.out.symm, Below.drewN' ((((Below.refl _ _).alloc (Nat.le_refl _) _).alloc (by simp) _).alloc (by simp; omega) _) _⟩

set_option maxHeartbeats 1000000 in
theorem check_R_6 (nad seq : Int) (more : Bool) (code : Int) (answer : Bool) (A : Option Addr) (n c : Nat) (inf : List UInt8) (w : World) (h : IsB w A n c inf)
    (h_nadlo : ¬ (nad < 0)) (h_nadhi : ¬ (254 < nad)) (h_seqlo : ¬ (seq < 0)) (h_seqhi : ¬ (1 < seq)) (h_codelo : ¬ (code < 0)) (h_codehi : ¬ (3 ≤ code)) (h_more : more = true) :
    Calls Try.prog 8 #[.agg #[.int .i64 nad, .int .i64 1, .int .i64 seq, .bool more, .int .i64 code, .bool answer, .slice A n c]] w
      fun e w' => e = .returned (.int .i64 (checkE nad 1 seq more code answer inf)) ∧ Below w.heap.size w w' := by
  have HV : Hid (checkE nad 1 seq more code answer inf = 4) := by
    show _ = _
    unfold checkE
    simp_all <;> (try omega)
  subst h_more
  go_enter Try.func8, Try.ntmps8
  go_wp2_with (first | (go_at_call 9; go_in) | fail)
  go_quiet ((go_at_call 19; exact Calls.quiet_of_same (codes_R _)))
  go_wp2_with fail
  go_ret
  exact ⟨ret_i64 HV.out.symm, Below.drewN' ((((Below.refl _ _).alloc (Nat.le_refl _) _).alloc (by simp) _).alloc (by simp; omega) _) _⟩

set_option maxHeartbeats 1000000 in
theorem check_R_7 (nad seq : Int) (more : Bool) (code : Int) (answer : Bool) (A : Option Addr) (n c : Nat) (inf : List UInt8) (w : World) (h : IsB w A n c inf)
    (h_nadlo : ¬ (nad < 0)) (h_nadhi : ¬ (254 < nad)) (h_seqlo : ¬ (seq < 0)) (h_seqhi : ¬ (1 < seq)) (h_codelo : ¬ (code < 0)) (h_codehi : ¬ (3 ≤ code)) (h_more : ¬ (more = true)) (h_answer : answer = true) :
    Calls Try.prog 8 #[.agg #[.int .i64 nad, .int .i64 1, .int .i64 seq, .bool more, .int .i64 code, .bool answer, .slice A n c]] w
      fun e w' => e = .returned (.int .i64 (checkE nad 1 seq more code answer inf)) ∧ Below w.heap.size w w' := by
  have HV : Hid (checkE nad 1 seq more code answer inf = 4) := by
    show _ = _
    unfold checkE
    simp_all <;> (try omega)
  obtain rfl : more = false := by simpa using h_more
  subst h_answer
  go_enter Try.func8, Try.ntmps8
  go_wp2_with (first | (go_at_call 9; go_in) | fail)
  go_quiet ((go_at_call 19; exact Calls.quiet_of_same (codes_R _)))
  go_wp2_with fail
  go_ret
  exact ⟨ret_i64 HV.out.symm, Below.drewN' ((((Below.refl _ _).alloc (Nat.le_refl _) _).alloc (by simp) _).alloc (by simp; omega) _) _⟩

set_option maxHeartbeats 1000000 in
theorem check_R_8 (nad seq : Int) (more : Bool) (code : Int) (answer : Bool) (A : Option Addr) (n c : Nat) (inf : List UInt8) (w : World) (h : IsB w A n c inf)
    (h_nadlo : ¬ (nad < 0)) (h_nadhi : ¬ (254 < nad)) (h_seqlo : ¬ (seq < 0)) (h_seqhi : ¬ (1 < seq)) (h_codelo : ¬ (code < 0)) (h_codehi : ¬ (3 ≤ code)) (h_more : ¬ (more = true)) (h_answer : ¬ (answer = true)) :
    Calls Try.prog 8 #[.agg #[.int .i64 nad, .int .i64 1, .int .i64 seq, .bool more, .int .i64 code, .bool answer, .slice A n c]] w
      fun e w' => e = .returned (.int .i64 (checkE nad 1 seq more code answer inf)) ∧ Below w.heap.size w w' := by
  have HV : Hid (checkE nad 1 seq more code answer inf = infE 1 code inf) := by
    show _ = _
    unfold checkE
    simp_all <;> (try omega)
  obtain rfl : more = false := by simpa using h_more
  obtain rfl : answer = false := by simpa using h_answer
  go_enter Try.func8, Try.ntmps8
  go_wp2_with (first | (go_at_call 9; go_in) | fail)
  go_quiet ((go_at_call 19; exact Calls.quiet_of_same (codes_R _)))
  go_wp2_with fail
  refine (inf_R _ _ _ _ _ _ _ _ _ inf _ (Rd.drewN (((h.alloc _).alloc _).alloc _) _)).mono ?_
  rintro e w1 ⟨rfl, hb⟩
  go_wp2_with fail
  go_ret
  exact ⟨ret_i64 HV.out.symm, (Below.drewN' ((((Below.refl _ _).alloc (Nat.le_refl _) _).alloc (by simp) _).alloc (by simp; omega) _) _).trans (hb.mono (by simp; omega))⟩

set_option maxHeartbeats 1000000 in
theorem check_S_0 (nad seq : Int) (more : Bool) (code : Int) (answer : Bool) (A : Option Addr) (n c : Nat) (inf : List UInt8) (w : World) (h : IsB w A n c inf)
    (h_nadlo : nad < 0) :
    Calls Try.prog 8 #[.agg #[.int .i64 nad, .int .i64 2, .int .i64 seq, .bool more, .int .i64 code, .bool answer, .slice A n c]] w
      fun e w' => e = .returned (.int .i64 (checkE nad 2 seq more code answer inf)) ∧ Below w.heap.size w w' := by
  have HV : Hid (checkE nad 2 seq more code answer inf = 2) := by
    show _ = _
    unfold checkE
    simp_all <;> (try omega)
  go_enter Try.func8, Try.ntmps8
  go_wp2_with (first | (go_at_call 9; go_in) | fail)
  go_ret
  exact ⟨ret_i64 HV.out.symm, (((Below.refl _ _).alloc (Nat.le_refl _) _).alloc (by simp) _).alloc (by simp; omega) _⟩

set_option maxHeartbeats 1000000 in
theorem check_S_1 (nad seq : Int) (more : Bool) (code : Int) (answer : Bool) (A : Option Addr) (n c : Nat) (inf : List UInt8) (w : World) (h : IsB w A n c inf)
    (h_nadlo : ¬ (nad < 0)) (h_nadhi : 254 < nad) :
    Calls Try.prog 8 #[.agg #[.int .i64 nad, .int .i64 2, .int .i64 seq, .bool more, .int .i64 code, .bool answer, .slice A n c]] w
      fun e w' => e = .returned (.int .i64 (checkE nad 2 seq more code answer inf)) ∧ Below w.heap.size w w' := by
  have HV : Hid (checkE nad 2 seq more code answer inf = 2) := by
    show _ = _
    unfold checkE
    simp_all <;> (try omega)
  go_enter Try.func8, Try.ntmps8
  go_wp2_with (first | (go_at_call 9; go_in) | fail)
  go_ret
  exact ⟨ret_i64 HV.out.symm, (((Below.refl _ _).alloc (Nat.le_refl _) _).alloc (by simp) _).alloc (by simp; omega) _⟩

set_option maxHeartbeats 1000000 in
theorem check_S_2 (nad seq : Int) (more : Bool) (code : Int) (answer : Bool) (A : Option Addr) (n c : Nat) (inf : List UInt8) (w : World) (h : IsB w A n c inf)
    (h_nadlo : ¬ (nad < 0)) (h_nadhi : ¬ (254 < nad)) (h_codelo : code < 0) :
    Calls Try.prog 8 #[.agg #[.int .i64 nad, .int .i64 2, .int .i64 seq, .bool more, .int .i64 code, .bool answer, .slice A n c]] w
      fun e w' => e = .returned (.int .i64 (checkE nad 2 seq more code answer inf)) ∧ Below w.heap.size w w' := by
  have HV : Hid (checkE nad 2 seq more code answer inf = 2) := by
    show _ = _
    unfold checkE
    simp_all <;> (try omega)
  go_enter Try.func8, Try.ntmps8
  go_wp2_with (first | (go_at_call 9; go_in) | fail)
  go_quiet (fail)
  go_wp2_with fail
  go_ret
  exact ⟨ret_i64 HV.out.symm, Below.drewN' ((((Below.refl _ _).alloc (Nat.le_refl _) _).alloc (by simp) _).alloc (by simp; omega) _) _⟩

set_option maxHeartbeats 1000000 in
theorem check_S_3 (nad seq : Int) (more : Bool) (code : Int) (answer : Bool) (A : Option Addr) (n c : Nat) (inf : List UInt8) (w : World) (h : IsB w A n c inf)
    (h_nadlo : ¬ (nad < 0)) (h_nadhi : ¬ (254 < nad)) (h_codelo : ¬ (code < 0)) (h_codehi : 4 ≤ code) :
    Calls Try.prog 8 #[.agg #[.int .i64 nad, .int .i64 2, .int .i64 seq, .bool more, .int .i64 code, .bool answer, .slice A n c]] w
      fun e w' => e = .returned (.int .i64 (checkE nad 2 seq more code answer inf)) ∧ Below w.heap.size w w' := by
  have HV : Hid (checkE nad 2 seq more code answer inf = 2) := by
    show _ = _
    unfold checkE
    simp_all <;> (try omega)
  go_enter Try.func8, Try.ntmps8
  go_wp2_with (first | (go_at_call 9; go_in) | fail)
  go_quiet ((go_at_call 19; exact Calls.quiet_of_same (codes_S _)))
  go_wp2_with fail
  go_ret
  exact ⟨ret_i64 HV.out.symm, Below.drewN' ((((Below.refl _ _).alloc (Nat.le_refl _) _).alloc (by simp) _).alloc (by simp; omega) _) _⟩

set_option maxHeartbeats 1000000 in
theorem check_S_4 (nad seq : Int) (more : Bool) (code : Int) (answer : Bool) (A : Option Addr) (n c : Nat) (inf : List UInt8) (w : World) (h : IsB w A n c inf)
    (h_nadlo : ¬ (nad < 0)) (h_nadhi : ¬ (254 < nad)) (h_codelo : ¬ (code < 0)) (h_codehi : ¬ (4 ≤ code)) (h_seq0 : ¬ (seq = 0)) :
    Calls Try.prog 8 #[.agg #[.int .i64 nad, .int .i64 2, .int .i64 seq, .bool more, .int .i64 code, .bool answer, .slice A n c]] w
      fun e w' => e = .returned (.int .i64 (checkE nad 2 seq more code answer inf)) ∧ Below w.heap.size w w' := by
  have HV : Hid (checkE nad 2 seq more code answer inf = 4) := by
    show _ = _
    unfold checkE
    simp_all <;> (try omega)
  have b_seq0 : (seq != 0) = true := by simp; omega
  go_enter Try.func8, Try.ntmps8
  go_wp2_with (first | (go_at_call 9; go_in) | fail)
  go_quiet ((go_at_call 19; exact Calls.quiet_of_same (codes_S _)))
  go_wp2_with fail
  go_ret
  exact ⟨ret_i64 HV.out.symm, Below.drewN' ((((Below.refl _ _).alloc (Nat.le_refl _) _).alloc (by simp) _).alloc (by simp; omega) _) _⟩

set_option maxHeartbeats 1000000 in
theorem check_S_5 (nad seq : Int) (more : Bool) (code : Int) (answer : Bool) (A : Option Addr) (n c : Nat) (inf : List UInt8) (w : World) (h : IsB w A n c inf)
    (h_nadlo : ¬ (nad < 0)) (h_nadhi : ¬ (254 < nad)) (h_codelo : ¬ (code < 0)) (h_codehi : ¬ (4 ≤ code)) (h_seq0 : seq = 0) (h_more : more = true) :
    Calls Try.prog 8 #[.agg #[.int .i64 nad, .int .i64 2, .int .i64 seq, .bool more, .int .i64 code, .bool answer, .slice A n c]] w
      fun e w' => e = .returned (.int .i64 (checkE nad 2 seq more code answer inf)) ∧ Below w.heap.size w w' := by
  have HV : Hid (checkE nad 2 seq more code answer inf = 4) := by
    show _ = _
    unfold checkE
    simp_all <;> (try omega)
  subst h_seq0
  subst h_more
  go_enter Try.func8, Try.ntmps8
  go_wp2_with (first | (go_at_call 9; go_in) | fail)
  go_quiet ((go_at_call 19; exact Calls.quiet_of_same (codes_S _)))
  go_wp2_with fail
  go_ret
  exact ⟨ret_i64 HV.out.symm, Below.drewN' ((((Below.refl _ _).alloc (Nat.le_refl _) _).alloc (by simp) _).alloc (by simp; omega) _) _⟩

set_option maxHeartbeats 1000000 in
theorem check_S_6 (nad seq : Int) (more : Bool) (code : Int) (answer : Bool) (A : Option Addr) (n c : Nat) (inf : List UInt8) (w : World) (h : IsB w A n c inf)
    (h_nadlo : ¬ (nad < 0)) (h_nadhi : ¬ (254 < nad)) (h_codelo : ¬ (code < 0)) (h_codehi : ¬ (4 ≤ code)) (h_seq0 : seq = 0) (h_more : ¬ (more = true)) :
    Calls Try.prog 8 #[.agg #[.int .i64 nad, .int .i64 2, .int .i64 seq, .bool more, .int .i64 code, .bool answer, .slice A n c]] w
      fun e w' => e = .returned (.int .i64 (checkE nad 2 seq more code answer inf)) ∧ Below w.heap.size w w' := by
  have HV : Hid (checkE nad 2 seq more code answer inf = infE 2 code inf) := by
    show _ = _
    unfold checkE
    simp_all <;> (try omega)
  have hlo : 0 ≤ code := by omega
  have hhi : code ≤ 3 := by omega
  subst h_seq0
  obtain rfl : more = false := by simpa using h_more
  go_enter Try.func8, Try.ntmps8
  go_wp2_with (first | (go_at_call 9; go_in) | fail)
  go_quiet ((go_at_call 19; exact Calls.quiet_of_same (codes_S _)))
  go_wp2_with fail
  refine (inf_S _ _ _ _ _ _ _ _ _ inf _ (Rd.drewN (((h.alloc _).alloc _).alloc _) _) hlo hhi).mono ?_
  rintro e w1 ⟨rfl, hb⟩
  go_wp2_with fail
  go_ret
  exact ⟨ret_i64 HV.out.symm, (Below.drewN' ((((Below.refl _ _).alloc (Nat.le_refl _) _).alloc (by simp) _).alloc (by simp; omega) _) _).trans (hb.mono (by simp; omega))⟩

/-- block.Check, whatever the block. -/
theorem check_any (nad kind seq : Int) (more : Bool) (code : Int) (answer : Bool) (A : Option Addr) (n c : Nat) (inf : List UInt8) (w : World) (h : IsB w A n c inf) :
    Calls Try.prog 8 #[.agg #[.int .i64 nad, .int .i64 kind, .int .i64 seq, .bool more, .int .i64 code, .bool answer, .slice A n c]] w
      fun e w' => e = .returned (.int .i64 (checkE nad kind seq more code answer inf)) ∧ Below w.heap.size w w' := by
  by_cases hk : kind < 0 ∨ 2 < kind
  · exact check_N nad seq kind more code answer A n c inf w hk
  have h012 : kind = 0 ∨ kind = 1 ∨ kind = 2 := by omega
  clear hk
  rcases h012 with rfl | rfl | rfl
  · by_cases h_nadlo : nad < 0
    · exact check_I_0 nad seq more code answer A n c inf w h h_nadlo
    by_cases h_nadhi : 254 < nad
    · exact check_I_1 nad seq more code answer A n c inf w h h_nadlo h_nadhi
    by_cases h_seqlo : seq < 0
    · exact check_I_2 nad seq more code answer A n c inf w h h_nadlo h_nadhi h_seqlo
    by_cases h_seqhi : 1 < seq
    · exact check_I_3 nad seq more code answer A n c inf w h h_nadlo h_nadhi h_seqlo h_seqhi
    by_cases h_code0 : code = 0
    rotate_left
    · exact check_I_4 nad seq more code answer A n c inf w h h_nadlo h_nadhi h_seqlo h_seqhi h_code0
    by_cases h_answer : answer = true
    · exact check_I_5 nad seq more code answer A n c inf w h h_nadlo h_nadhi h_seqlo h_seqhi h_code0 h_answer
    exact check_I_6 nad seq more code answer A n c inf w h h_nadlo h_nadhi h_seqlo h_seqhi h_code0 h_answer
  · by_cases h_nadlo : nad < 0
    · exact check_R_0 nad seq more code answer A n c inf w h h_nadlo
    by_cases h_nadhi : 254 < nad
    · exact check_R_1 nad seq more code answer A n c inf w h h_nadlo h_nadhi
    by_cases h_seqlo : seq < 0
    · exact check_R_2 nad seq more code answer A n c inf w h h_nadlo h_nadhi h_seqlo
    by_cases h_seqhi : 1 < seq
    · exact check_R_3 nad seq more code answer A n c inf w h h_nadlo h_nadhi h_seqlo h_seqhi
    by_cases h_codelo : code < 0
    · exact check_R_4 nad seq more code answer A n c inf w h h_nadlo h_nadhi h_seqlo h_seqhi h_codelo
    by_cases h_codehi : 3 ≤ code
    · exact check_R_5 nad seq more code answer A n c inf w h h_nadlo h_nadhi h_seqlo h_seqhi h_codelo h_codehi
    by_cases h_more : more = true
    · exact check_R_6 nad seq more code answer A n c inf w h h_nadlo h_nadhi h_seqlo h_seqhi h_codelo h_codehi h_more
    by_cases h_answer : answer = true
    · exact check_R_7 nad seq more code answer A n c inf w h h_nadlo h_nadhi h_seqlo h_seqhi h_codelo h_codehi h_more h_answer
    exact check_R_8 nad seq more code answer A n c inf w h h_nadlo h_nadhi h_seqlo h_seqhi h_codelo h_codehi h_more h_answer
  · by_cases h_nadlo : nad < 0
    · exact check_S_0 nad seq more code answer A n c inf w h h_nadlo
    by_cases h_nadhi : 254 < nad
    · exact check_S_1 nad seq more code answer A n c inf w h h_nadlo h_nadhi
    by_cases h_codelo : code < 0
    · exact check_S_2 nad seq more code answer A n c inf w h h_nadlo h_nadhi h_codelo
    by_cases h_codehi : 4 ≤ code
    · exact check_S_3 nad seq more code answer A n c inf w h h_nadlo h_nadhi h_codelo h_codehi
    by_cases h_seq0 : seq = 0
    rotate_left
    · exact check_S_4 nad seq more code answer A n c inf w h h_nadlo h_nadhi h_codelo h_codehi h_seq0
    by_cases h_more : more = true
    · exact check_S_5 nad seq more code answer A n c inf w h h_nadlo h_nadhi h_codelo h_codehi h_seq0 h_more
    exact check_S_6 nad seq more code answer A n c inf w h h_nadlo h_nadhi h_codelo h_codehi h_seq0 h_more
end Go.Proofs.Ytomdjcodgkoapaa

/- smartcardref06.inf, Check: the walks, path by path (printed by wip/gen/rcheck.py). -/
namespace Go.Proofs.Ytomdjcodgkoapaa
open Go.RowKit
set_option linter.unusedVariables false

set_option maxHeartbeats 1000000 in
theorem rinf_I (nad seq : Int) (more : Bool) (code : Int) (answer : Bool) (A : Option Addr) (n c : Nat) (inf : List UInt8) (w : World) (h : IsB w A n c inf) :
    Calls Try.prog 24 #[.agg #[.int .i64 nad, .int .i64 0, .int .i64 seq, .bool more, .int .i64 code, .bool answer, .slice A n c]] w
      fun e w' => e = .returned (.int .i64 (infE 0 code inf)) ∧ Below w.heap.size w w' := by
  have hl := IsB.len h
  by_cases h1 : 254 < n
  · have HV : Hid (infE 0 code inf = 3) := by show _ = _; unfold infE; rw [if_pos rfl, if_pos (by omega)]
    clear hl
    go_enter Try.func24, Try.ntmps24
    go_wp2
    go_ret
    exact ⟨ret_i64 HV.out.symm, (Below.refl _ _).alloc (Nat.le_refl _) _⟩
  · have HV : Hid (infE 0 code inf = 0) := by show _ = _; unfold infE; rw [if_pos rfl, if_neg (by omega)]
    clear hl
    go_enter Try.func24, Try.ntmps24
    go_wp2
    go_ret
    exact ⟨ret_i64 HV.out.symm, (Below.refl _ _).alloc (Nat.le_refl _) _⟩

set_option maxHeartbeats 1000000 in
theorem rinf_R (nad seq : Int) (more : Bool) (code : Int) (answer : Bool) (A : Option Addr) (n c : Nat) (inf : List UInt8) (w : World) (h : IsB w A n c inf) :
    Calls Try.prog 24 #[.agg #[.int .i64 nad, .int .i64 1, .int .i64 seq, .bool more, .int .i64 code, .bool answer, .slice A n c]] w
      fun e w' => e = .returned (.int .i64 (infE 1 code inf)) ∧ Below w.heap.size w w' := by
  have hl := IsB.len h
  by_cases h1 : n = 0
  · subst h1
    have HV : Hid (infE 1 code inf = 0) := by show _ = _; unfold infE; rw [if_neg (by omega), if_pos (by omega), if_pos (by omega)]
    clear hl
    go_enter Try.func24, Try.ntmps24
    go_wp2
    go_ret
    exact ⟨ret_i64 HV.out.symm, (Below.refl _ _).alloc (Nat.le_refl _) _⟩
  · have HV : Hid (infE 1 code inf = 4) := by show _ = _; unfold infE; rw [if_neg (by omega), if_pos (by omega), if_neg (by omega)]
    have h1' : ((n : Int) != 0) = true := by simp; omega
    clear hl
    go_enter Try.func24, Try.ntmps24
    go_wp2
    go_ret
    exact ⟨ret_i64 HV.out.symm, (Below.refl _ _).alloc (Nat.le_refl _) _⟩

set_option maxHeartbeats 1000000 in
theorem rinf_S (nad seq : Int) (more : Bool) (code : Int) (answer : Bool) (A : Option Addr) (n c : Nat) (inf : List UInt8) (w : World) (h : IsB w A n c inf) (h0 : 0 ≤ code) (h3 : code ≤ 3) :
    Calls Try.prog 24 #[.agg #[.int .i64 nad, .int .i64 2, .int .i64 seq, .bool more, .int .i64 code, .bool answer, .slice A n c]] w
      fun e w' => e = .returned (.int .i64 (infE 2 code inf)) ∧ Below w.heap.size w w' := by
  have hl := IsB.len h
  have hc4 : code = 0 ∨ code = 2 ∨ code = 1 ∨ code = 3 := by omega
  clear h0 h3
  rcases hc4 with rfl | rfl | hc13
  · by_cases h1 : n = 0
    · subst h1
      have HV : Hid (infE 2 0 inf = 0) := by show _ = _; unfold infE; rw [if_neg (by omega), if_pos (by omega), if_pos (by omega)]
      clear hl
      go_enter Try.func24, Try.ntmps24
      go_wp2
      go_ret
      exact ⟨ret_i64 HV.out.symm, (Below.refl _ _).alloc (Nat.le_refl _) _⟩
    · have HV : Hid (infE 2 0 inf = 4) := by show _ = _; unfold infE; rw [if_neg (by omega), if_pos (by omega), if_neg (by omega)]
      have h1' : ((n : Int) != 0) = true := by simp; omega
      clear hl h1
      go_enter Try.func24, Try.ntmps24
      go_wp2
      go_ret
      exact ⟨ret_i64 HV.out.symm, (Below.refl _ _).alloc (Nat.le_refl _) _⟩
  · by_cases h1 : n = 0
    · subst h1
      have HV : Hid (infE 2 2 inf = 0) := by show _ = _; unfold infE; rw [if_neg (by omega), if_pos (by omega), if_pos (by omega)]
      clear hl
      go_enter Try.func24, Try.ntmps24
      go_wp2
      go_ret
      exact ⟨ret_i64 HV.out.symm, (Below.refl _ _).alloc (Nat.le_refl _) _⟩
    · have HV : Hid (infE 2 2 inf = 4) := by show _ = _; unfold infE; rw [if_neg (by omega), if_pos (by omega), if_neg (by omega)]
      have h1' : ((n : Int) != 0) = true := by simp; omega
      clear hl h1
      go_enter Try.func24, Try.ntmps24
      go_wp2
      go_ret
      exact ⟨ret_i64 HV.out.symm, (Below.refl _ _).alloc (Nat.le_refl _) _⟩
  by_cases h1 : n = 1
  rotate_left
  · have h1' : ((n : Int) != 1) = true := by simp; omega
    rcases hc13 with rfl | rfl
    · have HV : Hid (infE 2 1 inf = 4) := by show _ = _; unfold infE; rw [if_neg (by omega), if_neg (by omega), if_neg (by omega)]
      clear hl h1
      go_enter Try.func24, Try.ntmps24
      go_wp2
      go_ret
      exact ⟨ret_i64 HV.out.symm, (Below.refl _ _).alloc (Nat.le_refl _) _⟩
    · have HV : Hid (infE 2 3 inf = 4) := by show _ = _; unfold infE; rw [if_neg (by omega), if_neg (by omega), if_neg (by omega)]
      clear hl h1
      go_enter Try.func24, Try.ntmps24
      go_wp2
      go_ret
      exact ⟨ret_i64 HV.out.symm, (Below.refl _ _).alloc (Nat.le_refl _) _⟩
  subst h1
  obtain ⟨x, b, off, hx, rfl, hcx, hx8⟩ := IsB.at_ h (show 0 < 1 by omega)
  have hgx := getD_of_get hx
  obtain ⟨a, ha⟩ : ∃ a, a = x.toNat := ⟨_, rfl⟩
  rw [← ha] at hcx hx8
  have hV : infE 2 code inf = if 1 ≤ a ∧ (code = 1 → a ≤ 254) then 0 else 4 := by
    unfold infE
    rw [if_neg (by omega), if_neg (by omega), hgx, ← ha]
    by_cases hq : 1 ≤ a ∧ (code = 1 → a ≤ 254)
    · rw [if_pos hq, if_pos ⟨hl, hq.1, hq.2⟩]
    · rw [if_neg hq, if_neg (fun h => hq ⟨h.2.1, h.2.2⟩)]
  rw [Nat.add_zero] at hcx
  have hb := World.block_lt_of_cell? w _ hcx
  have hc2 : (w.alloc (.cells #[.int .i64 nad, .int .i64 2, .int .i64 seq, .bool more, .int .i64 code, .bool answer, .slice (some ⟨b, off, none⟩) 1 c] 24)).cell? ⟨b, off, none⟩ = some (.int .u8 (a : Int)) := by
    rw [World.cell?_alloc_lt _ _ _ hb]; exact hcx
  clear hl hgx ha hx
  by_cases ha0 : a = 0
  · have HV := Lib.hid (hV.trans (if_neg (by omega)))
    subst ha0
    clear hV
    rcases hc13 with rfl | rfl
    · go_enter Try.func24, Try.ntmps24
      go_wp2
      go_ret
      exact ⟨ret_i64 HV.out.symm, (Below.refl _ _).alloc (Nat.le_refl _) _⟩
    · go_enter Try.func24, Try.ntmps24
      go_wp2
      go_ret
      exact ⟨ret_i64 HV.out.symm, (Below.refl _ _).alloc (Nat.le_refl _) _⟩
  have hb0 : ((a : Int) == 0) = false := by simp; omega
  rcases hc13 with rfl | rfl
  · by_cases ha5 : a = 255
    · subst ha5
      have HV := Lib.hid (hV.trans (if_neg (by omega)))
      clear hV ha0
      go_enter Try.func24, Try.ntmps24
      go_wp2
      go_ret
      exact ⟨ret_i64 HV.out.symm, (Below.refl _ _).alloc (Nat.le_refl _) _⟩
    · have hb5 : ((a : Int) == 255) = false := by simp; omega
      have HV := Lib.hid (hV.trans (if_pos ⟨by omega, fun _ => by omega⟩))
      clear hV ha0 ha5
      go_enter Try.func24, Try.ntmps24
      go_wp2
      go_ret
      exact ⟨ret_i64 HV.out.symm, (Below.refl _ _).alloc (Nat.le_refl _) _⟩
  · have HV := Lib.hid (hV.trans (if_pos ⟨by omega, fun h => absurd h (by omega)⟩))
    clear hV ha0
    go_enter Try.func24, Try.ntmps24
    go_wp2
    go_ret
    exact ⟨ret_i64 HV.out.symm, (Below.refl _ _).alloc (Nat.le_refl _) _⟩

set_option maxHeartbeats 1000000 in
theorem rcheck_I_0 (nad seq : Int) (more : Bool) (code : Int) (answer : Bool) (A : Option Addr) (n c : Nat) (inf : List UInt8) (w : World) (h : IsB w A n c inf)
    (h_nadlo : nad < 0) :
    Calls Try.prog 13 #[.agg #[.int .i64 nad, .int .i64 0, .int .i64 seq, .bool more, .int .i64 code, .bool answer, .slice A n c]] w
      fun e w' => e = .returned (.int .i64 (checkE nad 0 seq more code answer inf)) ∧ Below w.heap.size w w' := by
  have HV : Hid (checkE nad 0 seq more code answer inf = 2) := by
    show _ = _
    unfold checkE
    simp_all <;> (try omega)
  go_enter Try.func13, Try.ntmps13
  go_wp2_with fail
  go_ret
  exact ⟨ret_i64 HV.out.symm, (Below.refl _ _).alloc (Nat.le_refl _) _⟩

set_option maxHeartbeats 1000000 in
theorem rcheck_I_1 (nad seq : Int) (more : Bool) (code : Int) (answer : Bool) (A : Option Addr) (n c : Nat) (inf : List UInt8) (w : World) (h : IsB w A n c inf)
    (h_nadlo : ¬ (nad < 0)) (h_nadhi : 254 < nad) :
    Calls Try.prog 13 #[.agg #[.int .i64 nad, .int .i64 0, .int .i64 seq, .bool more, .int .i64 code, .bool answer, .slice A n c]] w
      fun e w' => e = .returned (.int .i64 (checkE nad 0 seq more code answer inf)) ∧ Below w.heap.size w w' := by
  have HV : Hid (checkE nad 0 seq more code answer inf = 2) := by
    show _ = _
    unfold checkE
    simp_all <;> (try omega)
  go_enter Try.func13, Try.ntmps13
  go_wp2_with fail
  go_ret
  exact ⟨ret_i64 HV.out.symm, (Below.refl _ _).alloc (Nat.le_refl _) _⟩

set_option maxHeartbeats 1000000 in
theorem rcheck_I_2 (nad seq : Int) (more : Bool) (code : Int) (answer : Bool) (A : Option Addr) (n c : Nat) (inf : List UInt8) (w : World) (h : IsB w A n c inf)
    (h_nadlo : ¬ (nad < 0)) (h_nadhi : ¬ (254 < nad)) (h_seqlo : seq < 0) :
    Calls Try.prog 13 #[.agg #[.int .i64 nad, .int .i64 0, .int .i64 seq, .bool more, .int .i64 code, .bool answer, .slice A n c]] w
      fun e w' => e = .returned (.int .i64 (checkE nad 0 seq more code answer inf)) ∧ Below w.heap.size w w' := by
  have HV : Hid (checkE nad 0 seq more code answer inf = 2) := by
    show _ = _
    unfold checkE
    simp_all <;> (try omega)
  have b_seq0 : (seq != 0) = true := by simp; omega
  have b_seq1 : (seq != 1) = true := by simp; omega
  go_enter Try.func13, Try.ntmps13
  go_wp2_with fail
  go_ret
  exact ⟨ret_i64 HV.out.symm, (Below.refl _ _).alloc (Nat.le_refl _) _⟩

set_option maxHeartbeats 1000000 in
theorem rcheck_I_3 (nad seq : Int) (more : Bool) (code : Int) (answer : Bool) (A : Option Addr) (n c : Nat) (inf : List UInt8) (w : World) (h : IsB w A n c inf)
    (h_nadlo : ¬ (nad < 0)) (h_nadhi : ¬ (254 < nad)) (h_seqlo : ¬ (seq < 0)) (h_seqhi : 1 < seq) :
    Calls Try.prog 13 #[.agg #[.int .i64 nad, .int .i64 0, .int .i64 seq, .bool more, .int .i64 code, .bool answer, .slice A n c]] w
      fun e w' => e = .returned (.int .i64 (checkE nad 0 seq more code answer inf)) ∧ Below w.heap.size w w' := by
  have HV : Hid (checkE nad 0 seq more code answer inf = 2) := by
    show _ = _
    unfold checkE
    simp_all <;> (try omega)
  have b_seq0 : (seq != 0) = true := by simp; omega
  have b_seq1 : (seq != 1) = true := by simp; omega
  go_enter Try.func13, Try.ntmps13
  go_wp2_with fail
  go_ret
  exact ⟨ret_i64 HV.out.symm, (Below.refl _ _).alloc (Nat.le_refl _) _⟩

set_option maxHeartbeats 1000000 in
theorem rcheck_I_4 (nad seq : Int) (more : Bool) (code : Int) (answer : Bool) (A : Option Addr) (n c : Nat) (inf : List UInt8) (w : World) (h : IsB w A n c inf)
    (h_nadlo : ¬ (nad < 0)) (h_nadhi : ¬ (254 < nad)) (h_seqlo : ¬ (seq < 0)) (h_seqhi : ¬ (1 < seq)) (h_code0 : ¬ (code = 0)) :
    Calls Try.prog 13 #[.agg #[.int .i64 nad, .int .i64 0, .int .i64 seq, .bool more, .int .i64 code, .bool answer, .slice A n c]] w
      fun e w' => e = .returned (.int .i64 (checkE nad 0 seq more code answer inf)) ∧ Below w.heap.size w w' := by
  have HV : Hid (checkE nad 0 seq more code answer inf = 4) := by
    show _ = _
    unfold checkE
    simp_all <;> (try omega)
  have b_code0 : (code != 0) = true := by simp; omega
  have h01 : seq = 0 ∨ seq = 1 := by omega
  clear h_seqlo h_seqhi
  rcases h01 with rfl | rfl
  all_goals
    go_enter Try.func13, Try.ntmps13
    go_wp2_with fail
    go_ret
    exact ⟨ret_i64 HV.out.symm, (Below.refl _ _).alloc (Nat.le_refl _) _⟩

set_option maxHeartbeats 1000000 in
theorem rcheck_I_5 (nad seq : Int) (more : Bool) (code : Int) (answer : Bool) (A : Option Addr) (n c : Nat) (inf : List UInt8) (w : World) (h : IsB w A n c inf)
    (h_nadlo : ¬ (nad < 0)) (h_nadhi : ¬ (254 < nad)) (h_seqlo : ¬ (seq < 0)) (h_seqhi : ¬ (1 < seq)) (h_code0 : code = 0) (h_answer : answer = true) :
    Calls Try.prog 13 #[.agg #[.int .i64 nad, .int .i64 0, .int .i64 seq, .bool more, .int .i64 code, .bool answer, .slice A n c]] w
      fun e w' => e = .returned (.int .i64 (checkE nad 0 seq more code answer inf)) ∧ Below w.heap.size w w' := by
  have HV : Hid (checkE nad 0 seq more code answer inf = 4) := by
    show _ = _
    unfold checkE
    simp_all <;> (try omega)
  subst h_code0
  subst h_answer
  have h01 : seq = 0 ∨ seq = 1 := by omega
  clear h_seqlo h_seqhi
  rcases h01 with rfl | rfl
  all_goals
    go_enter Try.func13, Try.ntmps13
    go_wp2_with fail
    go_ret
    exact ⟨ret_i64 HV.out.symm, (Below.refl _ _).alloc (Nat.le_refl _) _⟩

set_option maxHeartbeats 1000000 in
theorem rcheck_I_6 (nad seq : Int) (more : Bool) (code : Int) (answer : Bool) (A : Option Addr) (n c : Nat) (inf : List UInt8) (w : World) (h : IsB w A n c inf)
    (h_nadlo : ¬ (nad < 0)) (h_nadhi : ¬ (254 < nad)) (h_seqlo : ¬ (seq < 0)) (h_seqhi : ¬ (1 < seq)) (h_code0 : code = 0) (h_answer : ¬ (answer = true)) :
    Calls Try.prog 13 #[.agg #[.int .i64 nad, .int .i64 0, .int .i64 seq, .bool more, .int .i64 code, .bool answer, .slice A n c]] w
      fun e w' => e = .returned (.int .i64 (checkE nad 0 seq more code answer inf)) ∧ Below w.heap.size w w' := by
  have HV : Hid (checkE nad 0 seq more code answer inf = infE 0 code inf) := by
    show _ = _
    unfold checkE
    simp_all <;> (try omega)
  subst h_code0
  obtain rfl : answer = false := by simpa using h_answer
  have h01 : seq = 0 ∨ seq = 1 := by omega
  clear h_seqlo h_seqhi
  rcases h01 with rfl | rfl
  all_goals
    go_enter Try.func13, Try.ntmps13
    go_wp2_with fail
    refine (rinf_I _ _ _ _ _ _ _ _ inf _ (h.alloc _)).mono ?_
    rintro e w1 ⟨rfl, hb⟩
    go_wp2_with fail
    go_ret
    exact ⟨ret_i64 HV.out.symm, ((Below.refl _ _).alloc (Nat.le_refl _) _).trans (hb.mono (by simp))⟩

set_option maxHeartbeats 1000000 in
theorem rcheck_R_0 (nad seq : Int) (more : Bool) (code : Int) (answer : Bool) (A : Option Addr) (n c : Nat) (inf : List UInt8) (w : World) (h : IsB w A n c inf)
    (h_nadlo : nad < 0) :
    Calls Try.prog 13 #[.agg #[.int .i64 nad, .int .i64 1, .int .i64 seq, .bool more, .int .i64 code, .bool answer, .slice A n c]] w
      fun e w' => e = .returned (.int .i64 (checkE nad 1 seq more code answer inf)) ∧ Below w.heap.size w w' := by
  have HV : Hid (checkE nad 1 seq more code answer inf = 2) := by
    show _ = _
    unfold checkE
    simp_all <;> (try omega)
  go_enter Try.func13, Try.ntmps13
  go_wp2_with fail
  go_ret
  exact ⟨ret_i64 HV.out.symm, (Below.refl _ _).alloc (Nat.le_refl _) _⟩

set_option maxHeartbeats 1000000 in
theorem rcheck_R_1 (nad seq : Int) (more : Bool) (code : Int) (answer : Bool) (A : Option Addr) (n c : Nat) (inf : List UInt8) (w : World) (h : IsB w A n c inf)
    (h_nadlo : ¬ (nad < 0)) (h_nadhi : 254 < nad) :
    Calls Try.prog 13 #[.agg #[.int .i64 nad, .int .i64 1, .int .i64 seq, .bool more, .int .i64 code, .bool answer, .slice A n c]] w
      fun e w' => e = .returned (.int .i64 (checkE nad 1 seq more code answer inf)) ∧ Below w.heap.size w w' := by
  have HV : Hid (checkE nad 1 seq more code answer inf = 2) := by
    show _ = _
    unfold checkE
    simp_all <;> (try omega)
  go_enter Try.func13, Try.ntmps13
  go_wp2_with fail
  go_ret
  exact ⟨ret_i64 HV.out.symm, (Below.refl _ _).alloc (Nat.le_refl _) _⟩

set_option maxHeartbeats 1000000 in
theorem rcheck_R_2 (nad seq : Int) (more : Bool) (code : Int) (answer : Bool) (A : Option Addr) (n c : Nat) (inf : List UInt8) (w : World) (h : IsB w A n c inf)
    (h_nadlo : ¬ (nad < 0)) (h_nadhi : ¬ (254 < nad)) (h_seqlo : seq < 0) :
    Calls Try.prog 13 #[.agg #[.int .i64 nad, .int .i64 1, .int .i64 seq, .bool more, .int .i64 code, .bool answer, .slice A n c]] w
      fun e w' => e = .returned (.int .i64 (checkE nad 1 seq more code answer inf)) ∧ Below w.heap.size w w' := by
  have HV : Hid (checkE nad 1 seq more code answer inf = 2) := by
    show _ = _
    unfold checkE
    simp_all <;> (try omega)
  have b_seq0 : (seq != 0) = true := by simp; omega
  have b_seq1 : (seq != 1) = true := by simp; omega
  go_enter Try.func13, Try.ntmps13
  go_wp2_with fail
  go_ret
  exact ⟨ret_i64 HV.out.symm, (Below.refl _ _).alloc (Nat.le_refl _) _⟩

set_option maxHeartbeats 1000000 in
theorem rcheck_R_3 (nad seq : Int) (more : Bool) (code : Int) (answer : Bool) (A : Option Addr) (n c : Nat) (inf : List UInt8) (w : World) (h : IsB w A n c inf)
    (h_nadlo : ¬ (nad < 0)) (h_nadhi : ¬ (254 < nad)) (h_seqlo : ¬ (seq < 0)) (h_seqhi : 1 < seq) :
    Calls Try.prog 13 #[.agg #[.int .i64 nad, .int .i64 1, .int .i64 seq, .bool more, .int .i64 code, .bool answer, .slice A n c]] w
      fun e w' => e = .returned (.int .i64 (checkE nad 1 seq more code answer inf)) ∧ Below w.heap.size w w' := by
  have HV : Hid (checkE nad 1 seq more code answer inf = 2) := by
    show _ = _
    unfold checkE
    simp_all <;> (try omega)
  have b_seq0 : (seq != 0) = true := by simp; omega
  have b_seq1 : (seq != 1) = true := by simp; omega
  go_enter Try.func13, Try.ntmps13
  go_wp2_with fail
  go_ret
  exact ⟨ret_i64 HV.out.symm, (Below.refl _ _).alloc (Nat.le_refl _) _⟩

set_option maxHeartbeats 1000000 in
theorem rcheck_R_4 (nad seq : Int) (more : Bool) (code : Int) (answer : Bool) (A : Option Addr) (n c : Nat) (inf : List UInt8) (w : World) (h : IsB w A n c inf)
    (h_nadlo : ¬ (nad < 0)) (h_nadhi : ¬ (254 < nad)) (h_seqlo : ¬ (seq < 0)) (h_seqhi : ¬ (1 < seq)) (h_codelo : code < 0) :
    Calls Try.prog 13 #[.agg #[.int .i64 nad, .int .i64 1, .int .i64 seq, .bool more, .int .i64 code, .bool answer, .slice A n c]] w
      fun e w' => e = .returned (.int .i64 (checkE nad 1 seq more code answer inf)) ∧ Below w.heap.size w w' := by
  have HV : Hid (checkE nad 1 seq more code answer inf = 2) := by
    show _ = _
    unfold checkE
    simp_all <;> (try omega)
  have h01 : seq = 0 ∨ seq = 1 := by omega
  clear h_seqlo h_seqhi
  rcases h01 with rfl | rfl
  all_goals
    go_enter Try.func13, Try.ntmps13
    go_wp2_with fail
    go_ret
    exact ⟨ret_i64 HV.out.symm, (Below.refl _ _).alloc (Nat.le_refl _) _⟩

set_option maxHeartbeats 1000000 in
theorem rcheck_R_5 (nad seq : Int) (more : Bool) (code : Int) (answer : Bool) (A : Option Addr) (n c : Nat) (inf : List UInt8) (w : World) (h : IsB w A n c inf)
    (h_nadlo : ¬ (nad < 0)) (h_nadhi : ¬ (254 < nad)) (h_seqlo : ¬ (seq < 0)) (h_seqhi : ¬ (1 < seq)) (h_codelo : ¬ (code < 0)) (h_codehi : 3 ≤ code) :
    Calls Try.prog 13 #[.agg #[.int .i64 nad, .int .i64 1, .int .i64 seq, .bool more, .int .i64 code, .bool answer, .slice A n c]] w
      fun e w' => e = .returned (.int .i64 (checkE nad 1 seq more code answer inf)) ∧ Below w.heap.size w w' := by
  have HV : Hid (checkE nad 1 seq more code answer inf = 2) := by
    show _ = _
    unfold checkE
    simp_all <;> (try omega)
  have h01 : seq = 0 ∨ seq = 1 := by omega
  clear h_seqlo h_seqhi
  rcases h01 with rfl | rfl
  all_goals
    go_enter Try.func13, Try.ntmps13
    go_wp2_with fail
    go_ret
    exact ⟨ret_i64 HV.out.symm, (Below.refl _ _).alloc (Nat.le_refl _) _⟩

set_option maxHeartbeats 1000000 in
theorem rcheck_R_6 (nad seq : Int) (more : Bool) (code : Int) (answer : Bool) (A : Option Addr) (n c : Nat) (inf : List UInt8) (w : World) (h : IsB w A n c inf)
    (h_nadlo : ¬ (nad < 0)) (h_nadhi : ¬ (254 < nad)) (h_seqlo : ¬ (seq < 0)) (h_seqhi : ¬ (1 < seq)) (h_codelo : ¬ (code < 0)) (h_codehi : ¬ (3 ≤ code)) (h_more : more = true) :
    Calls Try.prog 13 #[.agg #[.int .i64 nad, .int .i64 1, .int .i64 seq, .bool more, .int .i64 code, .bool answer, .slice A n c]] w
      fun e w' => e = .returned (.int .i64 (checkE nad 1 seq more code answer inf)) ∧ Below w.heap.size w w' := by
  have HV : Hid (checkE nad 1 seq more code answer inf = 4) := by
    show _ = _
    unfold checkE
    simp_all <;> (try omega)
  subst h_more
  have h01 : seq = 0 ∨ seq = 1 := by omega
  clear h_seqlo h_seqhi
  rcases h01 with rfl | rfl
  all_goals
    go_enter Try.func13, Try.ntmps13
    go_wp2_with fail
    go_ret
    exact ⟨ret_i64 HV.out.symm, (Below.refl _ _).alloc (Nat.le_refl _) _⟩

set_option maxHeartbeats 1000000 in
theorem rcheck_R_7 (nad seq : Int) (more : Bool) (code : Int) (answer : Bool) (A : Option Addr) (n c : Nat) (inf : List UInt8) (w : World) (h : IsB w A n c inf)
    (h_nadlo : ¬ (nad < 0)) (h_nadhi : ¬ (254 < nad)) (h_seqlo : ¬ (seq < 0)) (h_seqhi : ¬ (1 < seq)) (h_codelo : ¬ (code < 0)) (h_codehi : ¬ (3 ≤ code)) (h_more : ¬ (more = true)) (h_answer : answer = true) :
    Calls Try.prog 13 #[.agg #[.int .i64 nad, .int .i64 1, .int .i64 seq, .bool more, .int .i64 code, .bool answer, .slice A n c]] w
      fun e w' => e = .returned (.int .i64 (checkE nad 1 seq more code answer inf)) ∧ Below w.heap.size w w' := by
  have HV : Hid (checkE nad 1 seq more code answer inf = 4) := by
    show _ = _
    unfold checkE
    simp_all <;> (try omega)
  obtain rfl : more = false := by simpa using h_more
  subst h_answer
  have h01 : seq = 0 ∨ seq = 1 := by omega
  clear h_seqlo h_seqhi
  rcases h01 with rfl | rfl
  all_goals
    go_enter Try.func13, Try.ntmps13
    go_wp2_with fail
    go_ret
    exact ⟨ret_i64 HV.out.symm, (Below.refl _ _).alloc (Nat.le_refl _) _⟩

set_option maxHeartbeats 1000000 in
theorem rcheck_R_8 (nad seq : Int) (more : Bool) (code : Int) (answer : Bool) (A : Option Addr) (n c : Nat) (inf : List UInt8) (w : World) (h : IsB w A n c inf)
    (h_nadlo : ¬ (nad < 0)) (h_nadhi : ¬ (254 < nad)) (h_seqlo : ¬ (seq < 0)) (h_seqhi : ¬ (1 < seq)) (h_codelo : ¬ (code < 0)) (h_codehi : ¬ (3 ≤ code)) (h_more : ¬ (more = true)) (h_answer : ¬ (answer = true)) :
    Calls Try.prog 13 #[.agg #[.int .i64 nad, .int .i64 1, .int .i64 seq, .bool more, .int .i64 code, .bool answer, .slice A n c]] w
      fun e w' => e = .returned (.int .i64 (checkE nad 1 seq more code answer inf)) ∧ Below w.heap.size w w' := by
  have HV : Hid (checkE nad 1 seq more code answer inf = infE 1 code inf) := by
    show _ = _
    unfold checkE
    simp_all <;> (try omega)
  obtain rfl : more = false := by simpa using h_more
  obtain rfl : answer = false := by simpa using h_answer
  have h01 : seq = 0 ∨ seq = 1 := by omega
  clear h_seqlo h_seqhi
  rcases h01 with rfl | rfl
  all_goals
    go_enter Try.func13, Try.ntmps13
    go_wp2_with fail
    refine (rinf_R _ _ _ _ _ _ _ _ inf _ (h.alloc _)).mono ?_
    rintro e w1 ⟨rfl, hb⟩
    go_wp2_with fail
    go_ret
    exact ⟨ret_i64 HV.out.symm, ((Below.refl _ _).alloc (Nat.le_refl _) _).trans (hb.mono (by simp))⟩

set_option maxHeartbeats 1000000 in
theorem rcheck_S_0 (nad seq : Int) (more : Bool) (code : Int) (answer : Bool) (A : Option Addr) (n c : Nat) (inf : List UInt8) (w : World) (h : IsB w A n c inf)
    (h_nadlo : nad < 0) :
    Calls Try.prog 13 #[.agg #[.int .i64 nad, .int .i64 2, .int .i64 seq, .bool more, .int .i64 code, .bool answer, .slice A n c]] w
      fun e w' => e = .returned (.int .i64 (checkE nad 2 seq more code answer inf)) ∧ Below w.heap.size w w' := by
  have HV : Hid (checkE nad 2 seq more code answer inf = 2) := by
    show _ = _
    unfold checkE
    simp_all <;> (try omega)
  go_enter Try.func13, Try.ntmps13
  go_wp2_with fail
  go_ret
  exact ⟨ret_i64 HV.out.symm, (Below.refl _ _).alloc (Nat.le_refl _) _⟩

set_option maxHeartbeats 1000000 in
theorem rcheck_S_1 (nad seq : Int) (more : Bool) (code : Int) (answer : Bool) (A : Option Addr) (n c : Nat) (inf : List UInt8) (w : World) (h : IsB w A n c inf)
    (h_nadlo : ¬ (nad < 0)) (h_nadhi : 254 < nad) :
    Calls Try.prog 13 #[.agg #[.int .i64 nad, .int .i64 2, .int .i64 seq, .bool more, .int .i64 code, .bool answer, .slice A n c]] w
      fun e w' => e = .returned (.int .i64 (checkE nad 2 seq more code answer inf)) ∧ Below w.heap.size w w' := by
  have HV : Hid (checkE nad 2 seq more code answer inf = 2) := by
    show _ = _
    unfold checkE
    simp_all <;> (try omega)
  go_enter Try.func13, Try.ntmps13
  go_wp2_with fail
  go_ret
  exact ⟨ret_i64 HV.out.symm, (Below.refl _ _).alloc (Nat.le_refl _) _⟩

set_option maxHeartbeats 1000000 in
theorem rcheck_S_2 (nad seq : Int) (more : Bool) (code : Int) (answer : Bool) (A : Option Addr) (n c : Nat) (inf : List UInt8) (w : World) (h : IsB w A n c inf)
    (h_nadlo : ¬ (nad < 0)) (h_nadhi : ¬ (254 < nad)) (h_codelo : code < 0) :
    Calls Try.prog 13 #[.agg #[.int .i64 nad, .int .i64 2, .int .i64 seq, .bool more, .int .i64 code, .bool answer, .slice A n c]] w
      fun e w' => e = .returned (.int .i64 (checkE nad 2 seq more code answer inf)) ∧ Below w.heap.size w w' := by
  have HV : Hid (checkE nad 2 seq more code answer inf = 2) := by
    show _ = _
    unfold checkE
    simp_all <;> (try omega)
  go_enter Try.func13, Try.ntmps13
  go_wp2_with fail
  go_ret
  exact ⟨ret_i64 HV.out.symm, (Below.refl _ _).alloc (Nat.le_refl _) _⟩

set_option maxHeartbeats 1000000 in
theorem rcheck_S_3 (nad seq : Int) (more : Bool) (code : Int) (answer : Bool) (A : Option Addr) (n c : Nat) (inf : List UInt8) (w : World) (h : IsB w A n c inf)
    (h_nadlo : ¬ (nad < 0)) (h_nadhi : ¬ (254 < nad)) (h_codelo : ¬ (code < 0)) (h_codehi : 4 ≤ code) :
    Calls Try.prog 13 #[.agg #[.int .i64 nad, .int .i64 2, .int .i64 seq, .bool more, .int .i64 code, .bool answer, .slice A n c]] w
      fun e w' => e = .returned (.int .i64 (checkE nad 2 seq more code answer inf)) ∧ Below w.heap.size w w' := by
  have HV : Hid (checkE nad 2 seq more code answer inf = 2) := by
    show _ = _
    unfold checkE
    simp_all <;> (try omega)
  go_enter Try.func13, Try.ntmps13
  go_wp2_with fail
  go_ret
  exact ⟨ret_i64 HV.out.symm, (Below.refl _ _).alloc (Nat.le_refl _) _⟩

set_option maxHeartbeats 1000000 in
theorem rcheck_S_4 (nad seq : Int) (more : Bool) (code : Int) (answer : Bool) (A : Option Addr) (n c : Nat) (inf : List UInt8) (w : World) (h : IsB w A n c inf)
    (h_nadlo : ¬ (nad < 0)) (h_nadhi : ¬ (254 < nad)) (h_codelo : ¬ (code < 0)) (h_codehi : ¬ (4 ≤ code)) (h_seq0 : ¬ (seq = 0)) :
    Calls Try.prog 13 #[.agg #[.int .i64 nad, .int .i64 2, .int .i64 seq, .bool more, .int .i64 code, .bool answer, .slice A n c]] w
      fun e w' => e = .returned (.int .i64 (checkE nad 2 seq more code answer inf)) ∧ Below w.heap.size w w' := by
  have HV : Hid (checkE nad 2 seq more code answer inf = 4) := by
    show _ = _
    unfold checkE
    simp_all <;> (try omega)
  have b_seq0 : (seq != 0) = true := by simp; omega
  go_enter Try.func13, Try.ntmps13
  go_wp2_with fail
  go_ret
  exact ⟨ret_i64 HV.out.symm, (Below.refl _ _).alloc (Nat.le_refl _) _⟩

set_option maxHeartbeats 1000000 in
theorem rcheck_S_5 (nad seq : Int) (more : Bool) (code : Int) (answer : Bool) (A : Option Addr) (n c : Nat) (inf : List UInt8) (w : World) (h : IsB w A n c inf)
    (h_nadlo : ¬ (nad < 0)) (h_nadhi : ¬ (254 < nad)) (h_codelo : ¬ (code < 0)) (h_codehi : ¬ (4 ≤ code)) (h_seq0 : seq = 0) (h_more : more = true) :
    Calls Try.prog 13 #[.agg #[.int .i64 nad, .int .i64 2, .int .i64 seq, .bool more, .int .i64 code, .bool answer, .slice A n c]] w
      fun e w' => e = .returned (.int .i64 (checkE nad 2 seq more code answer inf)) ∧ Below w.heap.size w w' := by
  have HV : Hid (checkE nad 2 seq more code answer inf = 4) := by
    show _ = _
    unfold checkE
    simp_all <;> (try omega)
  subst h_seq0
  subst h_more
  go_enter Try.func13, Try.ntmps13
  go_wp2_with fail
  go_ret
  exact ⟨ret_i64 HV.out.symm, (Below.refl _ _).alloc (Nat.le_refl _) _⟩

set_option maxHeartbeats 1000000 in
theorem rcheck_S_6 (nad seq : Int) (more : Bool) (code : Int) (answer : Bool) (A : Option Addr) (n c : Nat) (inf : List UInt8) (w : World) (h : IsB w A n c inf)
    (h_nadlo : ¬ (nad < 0)) (h_nadhi : ¬ (254 < nad)) (h_codelo : ¬ (code < 0)) (h_codehi : ¬ (4 ≤ code)) (h_seq0 : seq = 0) (h_more : ¬ (more = true)) :
    Calls Try.prog 13 #[.agg #[.int .i64 nad, .int .i64 2, .int .i64 seq, .bool more, .int .i64 code, .bool answer, .slice A n c]] w
      fun e w' => e = .returned (.int .i64 (checkE nad 2 seq more code answer inf)) ∧ Below w.heap.size w w' := by
  have HV : Hid (checkE nad 2 seq more code answer inf = infE 2 code inf) := by
    show _ = _
    unfold checkE
    simp_all <;> (try omega)
  have hlo : 0 ≤ code := by omega
  have hhi : code ≤ 3 := by omega
  subst h_seq0
  obtain rfl : more = false := by simpa using h_more
  go_enter Try.func13, Try.ntmps13
  go_wp2_with fail
  refine (rinf_S _ _ _ _ _ _ _ _ inf _ (h.alloc _) hlo hhi).mono ?_
  rintro e w1 ⟨rfl, hb⟩
  go_wp2_with fail
  go_ret
  exact ⟨ret_i64 HV.out.symm, ((Below.refl _ _).alloc (Nat.le_refl _) _).trans (hb.mono (by simp))⟩

set_option maxHeartbeats 1000000 in
theorem rcheck_N (nad seq kind : Int) (more : Bool) (code : Int) (answer : Bool) (A : Option Addr) (n c : Nat) (inf : List UInt8) (w : World) (hk : kind < 0 ∨ 2 < kind) :
    Calls Try.prog 13 #[.agg #[.int .i64 nad, .int .i64 kind, .int .i64 seq, .bool more, .int .i64 code, .bool answer, .slice A n c]] w
      fun e w' => e = .returned (.int .i64 (checkE nad kind seq more code answer inf)) ∧ Below w.heap.size w w' := by
  have HV : Hid (checkE nad kind seq more code answer inf = 1) := by show _ = _; unfold checkE; rw [if_pos hk]
  rcases hk with hk | hk
  · go_enter Try.func13, Try.ntmps13
    go_wp2_with fail
    go_ret
    exact ⟨ret_i64 HV.out.symm, (Below.refl _ _).alloc (Nat.le_refl _) _⟩
  · have hk' : ¬ kind < 0 := by omega
    go_enter Try.func13, Try.ntmps13
    go_wp2_with fail
    go_ret
    exact ⟨ret_i64 HV.out.symm, (Below.refl _ _).alloc (Nat.le_refl _) _⟩

/-- smartcardref06.Check, whatever the block. -/
theorem rcheck_any (nad kind seq : Int) (more : Bool) (code : Int) (answer : Bool) (A : Option Addr) (n c : Nat) (inf : List UInt8) (w : World) (h : IsB w A n c inf) :
    Calls Try.prog 13 #[.agg #[.int .i64 nad, .int .i64 kind, .int .i64 seq, .bool more, .int .i64 code, .bool answer, .slice A n c]] w
      fun e w' => e = .returned (.int .i64 (checkE nad kind seq more code answer inf)) ∧ Below w.heap.size w w' := by
  by_cases hk : kind < 0 ∨ 2 < kind
  · exact rcheck_N nad seq kind more code answer A n c inf w hk
  have h012 : kind = 0 ∨ kind = 1 ∨ kind = 2 := by omega
  clear hk
  rcases h012 with rfl | rfl | rfl
  · by_cases h_nadlo : nad < 0
    · exact rcheck_I_0 nad seq more code answer A n c inf w h h_nadlo
    by_cases h_nadhi : 254 < nad
    · exact rcheck_I_1 nad seq more code answer A n c inf w h h_nadlo h_nadhi
    by_cases h_seqlo : seq < 0
    · exact rcheck_I_2 nad seq more code answer A n c inf w h h_nadlo h_nadhi h_seqlo
    by_cases h_seqhi : 1 < seq
    · exact rcheck_I_3 nad seq more code answer A n c inf w h h_nadlo h_nadhi h_seqlo h_seqhi
    by_cases h_code0 : code = 0
    rotate_left
    · exact rcheck_I_4 nad seq more code answer A n c inf w h h_nadlo h_nadhi h_seqlo h_seqhi h_code0
    by_cases h_answer : answer = true
    · exact rcheck_I_5 nad seq more code answer A n c inf w h h_nadlo h_nadhi h_seqlo h_seqhi h_code0 h_answer
    exact rcheck_I_6 nad seq more code answer A n c inf w h h_nadlo h_nadhi h_seqlo h_seqhi h_code0 h_answer
  · by_cases h_nadlo : nad < 0
    · exact rcheck_R_0 nad seq more code answer A n c inf w h h_nadlo
    by_cases h_nadhi : 254 < nad
    · exact rcheck_R_1 nad seq more code answer A n c inf w h h_nadlo h_nadhi
    by_cases h_seqlo : seq < 0
    · exact rcheck_R_2 nad seq more code answer A n c inf w h h_nadlo h_nadhi h_seqlo
    by_cases h_seqhi : 1 < seq
    · exact rcheck_R_3 nad seq more code answer A n c inf w h h_nadlo h_nadhi h_seqlo h_seqhi
    by_cases h_codelo : code < 0
    · exact rcheck_R_4 nad seq more code answer A n c inf w h h_nadlo h_nadhi h_seqlo h_seqhi h_codelo
    by_cases h_codehi : 3 ≤ code
    · exact rcheck_R_5 nad seq more code answer A n c inf w h h_nadlo h_nadhi h_seqlo h_seqhi h_codelo h_codehi
    by_cases h_more : more = true
    · exact rcheck_R_6 nad seq more code answer A n c inf w h h_nadlo h_nadhi h_seqlo h_seqhi h_codelo h_codehi h_more
    by_cases h_answer : answer = true
    · exact rcheck_R_7 nad seq more code answer A n c inf w h h_nadlo h_nadhi h_seqlo h_seqhi h_codelo h_codehi h_more h_answer
    exact rcheck_R_8 nad seq more code answer A n c inf w h h_nadlo h_nadhi h_seqlo h_seqhi h_codelo h_codehi h_more h_answer
  · by_cases h_nadlo : nad < 0
    · exact rcheck_S_0 nad seq more code answer A n c inf w h h_nadlo
    by_cases h_nadhi : 254 < nad
    · exact rcheck_S_1 nad seq more code answer A n c inf w h h_nadlo h_nadhi
    by_cases h_codelo : code < 0
    · exact rcheck_S_2 nad seq more code answer A n c inf w h h_nadlo h_nadhi h_codelo
    by_cases h_codehi : 4 ≤ code
    · exact rcheck_S_3 nad seq more code answer A n c inf w h h_nadlo h_nadhi h_codelo h_codehi
    by_cases h_seq0 : seq = 0
    rotate_left
    · exact rcheck_S_4 nad seq more code answer A n c inf w h h_nadlo h_nadhi h_codelo h_codehi h_seq0
    by_cases h_more : more = true
    · exact rcheck_S_5 nad seq more code answer A n c inf w h h_nadlo h_nadhi h_codelo h_codehi h_seq0 h_more
    exact rcheck_S_6 nad seq more code answer A n c inf w h h_nadlo h_nadhi h_codelo h_codehi h_seq0 h_more
end Go.Proofs.Ytomdjcodgkoapaa

/- smartcard/block.Same and smartcardref06.Same: the walks (printed by wip/gen/same.py). -/
namespace Go.Proofs.Ytomdjcodgkoapaa
open Go.RowKit
set_option linter.unusedVariables false
def sameBl (nad kind seq : Int) (more : Bool) (code : Int) (answer : Bool) (inf : List UInt8) (nad' kind' seq' : Int) (more' : Bool) (code' : Int) (answer' : Bool) (inf' : List UInt8) : Bool :=
  decide (nad = nad' ∧ kind = kind' ∧ seq = seq' ∧ more = more' ∧ code = code' ∧ answer = answer' ∧ inf = inf')
section
variable (nad kind seq : Int) (more : Bool) (code : Int) (answer : Bool) (A : Option Addr) (n c : Nat) (inf : List UInt8) (nad' kind' seq' : Int) (more' : Bool) (code' : Int) (answer' : Bool) (A' : Option Addr) (n' c' : Nat) (inf' : List UInt8) (w : World)
set_option maxHeartbeats 800000 in
theorem rsame_any (h : IsB w A n c inf) (h' : IsB w A' n' c' inf') : Calls Try.prog 6 #[.agg #[.int .i64 nad, .int .i64 kind, .int .i64 seq, .bool more, .int .i64 code, .bool answer, .slice A n c], .agg #[.int .i64 nad', .int .i64 kind', .int .i64 seq', .bool more', .int .i64 code', .bool answer', .slice A' n' c']] w
    fun e w' => e = .returned (.bool (sameBl nad kind seq more code answer inf nad' kind' seq' more' code' answer' inf')) ∧ Below w.heap.size w w' := by
  have H := Lib.hid (And.intro h h')
  have HB : Hid (Below w.heap.size w ((w.alloc (.cells #[.int .i64 nad, .int .i64 kind, .int .i64 seq, .bool more, .int .i64 code, .bool answer, .slice A n c] 24)).alloc (.cells #[.int .i64 nad', .int .i64 kind', .int .i64 seq', .bool more', .int .i64 code', .bool answer', .slice A' n' c'] 24))) := ((Below.refl _ _).alloc (Nat.le_refl _) _).alloc (by simp) _
  clear h h'
  by_cases e0 : nad = nad'
  case neg =>
    have hs : sameBl nad kind seq more code answer inf nad' kind' seq' more' code' answer' inf' = false := by unfold sameBl; exact decide_eq_false (by simp [e0])
    have ef : (nad == nad') = false := by simpa using e0
    rw [hs]
    clear hs e0
    go_enter Try.func6, Try.ntmps6
    go_wp2_with fail
    go_ret
    exact ⟨rfl, HB.out⟩
  subst e0
  by_cases e1 : kind = kind'
  case neg =>
    have hs : sameBl nad kind seq more code answer inf nad kind' seq' more' code' answer' inf' = false := by unfold sameBl; exact decide_eq_false (by simp [e1])
    have ef : (kind == kind') = false := by simpa using e1
    rw [hs]
    clear hs e1
    go_enter Try.func6, Try.ntmps6
    go_wp2_with fail
    go_ret
    exact ⟨rfl, HB.out⟩
  subst e1
  by_cases e2 : seq = seq'
  case neg =>
    have hs : sameBl nad kind seq more code answer inf nad kind seq' more' code' answer' inf' = false := by unfold sameBl; exact decide_eq_false (by simp [e2])
    have ef : (seq == seq') = false := by simpa using e2
    rw [hs]
    clear hs e2
    go_enter Try.func6, Try.ntmps6
    go_wp2_with fail
    go_ret
    exact ⟨rfl, HB.out⟩
  subst e2
  by_cases e3 : more = more'
  case neg =>
    have hs : sameBl nad kind seq more code answer inf nad kind seq more' code' answer' inf' = false := by unfold sameBl; exact decide_eq_false (by simp [e3])
    have ef : (more == more') = false := by simpa using e3
    rw [hs]
    clear hs e3
    go_enter Try.func6, Try.ntmps6
    go_wp2_with fail
    go_ret
    exact ⟨rfl, HB.out⟩
  subst e3
  by_cases e4 : code = code'
  case neg =>
    have hs : sameBl nad kind seq more code answer inf nad kind seq more code' answer' inf' = false := by unfold sameBl; exact decide_eq_false (by simp [e4])
    have ef : (code == code') = false := by simpa using e4
    rw [hs]
    clear hs e4
    go_enter Try.func6, Try.ntmps6
    go_wp2_with fail
    go_ret
    exact ⟨rfl, HB.out⟩
  subst e4
  by_cases e5 : answer = answer'
  case neg =>
    have hs : sameBl nad kind seq more code answer inf nad kind seq more code answer' inf' = false := by unfold sameBl; exact decide_eq_false (by simp [e5])
    have ef : (answer == answer') = false := by simpa using e5
    rw [hs]
    clear hs e5
    go_enter Try.func6, Try.ntmps6
    go_wp2_with fail
    go_ret
    exact ⟨rfl, HB.out⟩
  subst e5
  have hs : sameBl nad kind seq more code answer inf nad kind seq more code answer inf' = decide (inf = inf') := by unfold sameBl; simp
  rw [hs]
  clear hs
  go_enter Try.func6, Try.ntmps6
  go_wp2_with fail
  refine (same_any A n c inf A' n' c' inf' _ (Rd.alloc (Rd.alloc H.out.1 _) _) (Rd.alloc (Rd.alloc H.out.2 _) _)).mono ?_
  rintro e w3 ⟨rfl, hb⟩
  go_wp2_with fail
  go_ret
  exact ⟨rfl, HB.out.trans (hb.mono (by simp; omega))⟩
end
end Go.Proofs.Ytomdjcodgkoapaa

/- smartcard/block: the methods control and parse of the kinds; smartcardref06.control: the walks. -/
namespace Go.Proofs.Ytomdjcodgkoapaa
open Go.RowKit
set_option linter.unusedVariables false

/-- The control byte. -/
def ctlI (seq : Int) (more : Bool) : Int := 64 * seq + (if more then 32 else 0)
def ctlR (seq code : Int) : Int := 128 + 16 * seq + code
def ctlS (code : Int) (answer : Bool) : Int := 192 + (if answer then 32 else 0) + code

theorem flag_t (n : Int) (w : World) :
    Calls Try.prog 59 #[.bool true, .int .i64 n] w fun e w' => e = .returned (.int .i64 n) ∧ w' = w := by
  go_enter Try.func59, Try.ntmps59
  go_wp2
  go_ret
  exact ⟨rfl, rfl⟩
theorem flag_f (n : Int) (w : World) :
    Calls Try.prog 59 #[.bool false, .int .i64 n] w fun e w' => e = .returned (.int .i64 0) ∧ w' = w := by
  go_enter Try.func59, Try.ntmps59
  go_wp2
  go_ret
  exact ⟨rfl, rfl⟩

set_option maxHeartbeats 1000000 in
theorem control_R (nad kind seq : Int) (more : Bool) (code : Int) (answer : Bool) (v : Value) (w : World) (hs : seq = 0 ∨ seq = 1) (hc : code = 0 ∨ code = 1 ∨ code = 2 ∨ code = 3) :
    Calls Try.prog 78 #[.agg #[], .agg #[.int .i64 nad, .int .i64 kind, .int .i64 seq, .bool more, .int .i64 code, .bool answer, v]] w
      fun e w' => e = .returned (.int .i64 (ctlR seq code)) ∧ Below w.heap.size w w' := by
  rcases hs with rfl | rfl
  all_goals
    rcases hc with rfl | rfl | rfl | rfl
  all_goals
    go_enter Try.func78, Try.ntmps78
    go_wp2
    go_ret
    exact ⟨ret_i64 (by decide +kernel), (((Below.refl _ _).alloc (Nat.le_refl _) _).alloc (by simp) _)⟩

set_option maxHeartbeats 1000000 in
theorem control_I (nad kind seq : Int) (more : Bool) (code : Int) (answer : Bool) (v : Value) (w : World) (hs : seq = 0 ∨ seq = 1) :
    Calls Try.prog 56 #[.agg #[], .agg #[.int .i64 nad, .int .i64 kind, .int .i64 seq, .bool more, .int .i64 code, .bool answer, v]] w
      fun e w' => e = .returned (.int .i64 (ctlI seq more)) ∧ Below w.heap.size w w' := by
  cases more
  · rcases hs with rfl | rfl
    all_goals
      go_enter Try.func56, Try.ntmps56
      go_wp2_with fail
      go_quiet ((go_at_call 59; exact Calls.quiet_of_same (flag_f _ _)))
      go_wp2_with fail
      go_ret
      exact ⟨ret_i64 (by decide +kernel), Below.drewN' (((Below.refl _ _).alloc (Nat.le_refl _) _).alloc (by simp) _) _⟩
  · rcases hs with rfl | rfl
    all_goals
      go_enter Try.func56, Try.ntmps56
      go_wp2_with fail
      go_quiet ((go_at_call 59; exact Calls.quiet_of_same (flag_t _ _)))
      go_wp2_with fail
      go_ret
      exact ⟨ret_i64 (by decide +kernel), Below.drewN' (((Below.refl _ _).alloc (Nat.le_refl _) _).alloc (by simp) _) _⟩

set_option maxHeartbeats 1000000 in
theorem control_S (nad kind seq : Int) (more : Bool) (code : Int) (answer : Bool) (v : Value) (w : World) (hc : code = 0 ∨ code = 1 ∨ code = 2 ∨ code = 3) :
    Calls Try.prog 75 #[.agg #[], .agg #[.int .i64 nad, .int .i64 kind, .int .i64 seq, .bool more, .int .i64 code, .bool answer, v]] w
      fun e w' => e = .returned (.int .i64 (ctlS code answer)) ∧ Below w.heap.size w w' := by
  cases answer
  · rcases hc with rfl | rfl | rfl | rfl
    all_goals
      go_enter Try.func75, Try.ntmps75
      go_wp2_with fail
      go_quiet ((go_at_call 59; exact Calls.quiet_of_same (flag_f _ _)))
      go_wp2_with fail
      go_ret
      exact ⟨ret_i64 (by decide +kernel), Below.drewN' (((Below.refl _ _).alloc (Nat.le_refl _) _).alloc (by simp) _) _⟩
  · rcases hc with rfl | rfl | rfl | rfl
    all_goals
      go_enter Try.func75, Try.ntmps75
      go_wp2_with fail
      go_quiet ((go_at_call 59; exact Calls.quiet_of_same (flag_t _ _)))
      go_wp2_with fail
      go_ret
      exact ⟨ret_i64 (by decide +kernel), Below.drewN' (((Below.refl _ _).alloc (Nat.le_refl _) _).alloc (by simp) _) _⟩

end Go.Proofs.Ytomdjcodgkoapaa

/- smartcard/block: the methods parse of the kinds: the walks. -/
namespace Go.Proofs.Ytomdjcodgkoapaa
open Go.RowKit
set_option linter.unusedVariables false

theorem i64_and (a b : Nat) (ha : a < 4611686018427387904) (hb : b < 4611686018427387904) : bits .and .i64 (a : Int) (b : Int) = ((a &&& b : Nat) : Int) := by
  have hx : a &&& b < 2 ^ 62 := Nat.and_lt_two_pow _ (by omega)
  have e : ∀ c : Nat, c < 4611686018427387904 → (BitVec.ofInt 64 (c : Int)).toNat = c := fun c hc => by
    rw [BitVec.ofInt_natCast, BitVec.toNat_ofNat]; exact Nat.mod_eq_of_lt (by omega)
  show IntKind.i64.wrap ((BitVec.ofInt 64 (a : Int) &&& BitVec.ofInt 64 (b : Int)).toNat : Int) = _
  rw [BitVec.toNat_and, e a ha, e b hb, IntKind.wrap_i64]
  omega
theorem byte_and32 (c : Nat) (h : c < 256) : bits .and .i64 (c : Int) 32 = ((c / 32 % 2 * 32 : Nat) : Int) := by
  have := i64_and c 32 (by omega) (by omega)
  rw [nat_bit 5 c] at this
  exact this
theorem byte_and3 (c : Nat) (h : c < 256) : bits .and .i64 (c : Int) 3 = ((c % 4 : Nat) : Int) := by
  have := i64_and c 3 (by omega) (by omega)
  rw [nat_mask2] at this
  exact this
theorem byte_and1 (c : Nat) (h : c < 256) : bits .and .i64 (c : Int) 1 = ((c % 2 : Nat) : Int) := by
  have := i64_and c 1 (by omega) (by omega)
  rw [nat_mask1] at this
  exact this
theorem byte_and192 (c : Nat) (h : c < 256) : bits .and .i64 (c : Int) 192 = ((c / 64 * 64 : Nat) : Int) := by
  have := i64_and c 192 (by omega) (by omega)
  rw [show c &&& 192 = c / 64 * 64 from by
    have e := nat_midmask 8 6 c (by decide)
    rw [show (2 : Nat) ^ 8 - 2 ^ 6 = 192 by decide] at e
    rw [e, Nat.mod_eq_of_lt (by omega)]] at this
  exact this

set_option maxHeartbeats 1000000 in
theorem parse_I (c : Nat) (hc : c < 128) (w : World) :
    Calls Try.prog 57 #[.agg #[], .int .i64 (c : Int)] w
      fun e w' => e = .returned (.agg #[.int .i64 0, .int .i64 0, .int .i64 (c / 64 : Nat), .bool (decide (c / 32 % 2 = 1)), .int .i64 0, .bool false, .slice none 0 0]) ∧ Below w.heap.size w w' := by
  have h1 := byte_and32 c (by omega)
  rcases Nat.mod_two_eq_zero_or_one (c / 32) with h2 | h2
  · rw [h2] at h1
    have HD : Hid (decide (c / 32 % 2 = 1) = false) := by show _ = _; rw [h2]; rfl
    have hci : (c : Int) < 256 := by omega
    clear h2
    go_enter Try.func57, Try.ntmps57
    go_wp2
    refine bodyPost_ret (v := .agg #[.int .i64 0, .int .i64 0, .int .i64 ((c : Int) / 64), .bool false, .int .i64 0, .bool false, .slice none 0 0]) (by simp [results, Try.results57, go_sem]) rfl ⟨?_, ((Below.refl _ _).alloc (Nat.le_refl _) _).alloc (by simp) _⟩
    rw [HD.out]; rfl
  · rw [h2] at h1
    have HD : Hid (decide (c / 32 % 2 = 1) = true) := by show _ = _; rw [h2]; rfl
    have hci : (c : Int) < 256 := by omega
    clear h2
    go_enter Try.func57, Try.ntmps57
    go_wp2
    refine bodyPost_ret (v := .agg #[.int .i64 0, .int .i64 0, .int .i64 ((c : Int) / 64), .bool true, .int .i64 0, .bool false, .slice none 0 0]) (by simp [results, Try.results57, go_sem]) rfl ⟨?_, ((Below.refl _ _).alloc (Nat.le_refl _) _).alloc (by simp) _⟩
    rw [HD.out]; rfl

set_option maxHeartbeats 1000000 in
theorem parse_R (c : Nat) (hc : c < 256) (w : World) :
    Calls Try.prog 79 #[.agg #[], .int .i64 (c : Int)] w
      fun e w' => e = .returned (.agg #[.int .i64 0, .int .i64 1, .int .i64 (c / 16 % 2 : Nat), .bool false, .int .i64 (c % 4 : Nat), .bool false, .slice none 0 0]) ∧ Below w.heap.size w w' := by
  have h1 : bits .and .i64 ((c : Int) / 16) 1 = ((c / 16 % 2 : Nat) : Int) := byte_and1 (c / 16) (by omega)
  have h3 := byte_and3 c hc
  have hci : (c : Int) < 256 := by omega
  go_enter Try.func79, Try.ntmps79
  go_wp2
  exact bodyPost_ret (v := .agg #[.int .i64 0, .int .i64 1, .int .i64 (c / 16 % 2 : Nat), .bool false, .int .i64 (c % 4 : Nat), .bool false, .slice none 0 0]) (by simp [results, Try.results79, go_sem]) rfl ⟨rfl, ((Below.refl _ _).alloc (Nat.le_refl _) _).alloc (by simp) _⟩

set_option maxHeartbeats 1000000 in
theorem parse_S (c : Nat) (hc : c < 256) (w : World) :
    Calls Try.prog 76 #[.agg #[], .int .i64 (c : Int)] w
      fun e w' => e = .returned (.agg #[.int .i64 0, .int .i64 2, .int .i64 0, .bool false, .int .i64 (c % 4 : Nat), .bool (decide (c / 32 % 2 = 1)), .slice none 0 0]) ∧ Below w.heap.size w w' := by
  have h1 := byte_and32 c hc
  have h3 := byte_and3 c hc
  rcases Nat.mod_two_eq_zero_or_one (c / 32) with h2 | h2
  · rw [h2] at h1
    have HD : Hid (decide (c / 32 % 2 = 1) = false) := by show _ = _; rw [h2]; rfl
    have hci : (c : Int) < 256 := by omega
    clear h2
    go_enter Try.func76, Try.ntmps76
    go_wp2
    refine bodyPost_ret (v := .agg #[.int .i64 0, .int .i64 2, .int .i64 0, .bool false, .int .i64 ((c % 4 : Nat) : Int), .bool false, .slice none 0 0]) (by simp [results, Try.results76, go_sem]) rfl ⟨?_, ((Below.refl _ _).alloc (Nat.le_refl _) _).alloc (by simp) _⟩
    rw [HD.out]
  · rw [h2] at h1
    have HD : Hid (decide (c / 32 % 2 = 1) = true) := by show _ = _; rw [h2]; rfl
    have hci : (c : Int) < 256 := by omega
    clear h2
    go_enter Try.func76, Try.ntmps76
    go_wp2
    refine bodyPost_ret (v := .agg #[.int .i64 0, .int .i64 2, .int .i64 0, .bool false, .int .i64 ((c % 4 : Nat) : Int), .bool true, .slice none 0 0]) (by simp [results, Try.results76, go_sem]) rfl ⟨?_, ((Below.refl _ _).alloc (Nat.le_refl _) _).alloc (by simp) _⟩
    rw [HD.out]

/-! The methods that an interface value of a known kind leads to. -/
theorem m_PI (w : World) : (method 211 44 (.agg #[]) "smartcard/block.parse").run Try.prog w = .ok (57, .agg #[]) w := by kernel_rfl
theorem m_PR (w : World) : (method 211 50 (.agg #[]) "smartcard/block.parse").run Try.prog w = .ok (79, .agg #[]) w := by kernel_rfl
theorem m_PS (w : World) : (method 211 46 (.agg #[]) "smartcard/block.parse").run Try.prog w = .ok (76, .agg #[]) w := by kernel_rfl
theorem m_CI (w : World) : (method 211 44 (.agg #[]) "smartcard/block.control").run Try.prog w = .ok (56, .agg #[]) w := by kernel_rfl
theorem m_CR (w : World) : (method 211 50 (.agg #[]) "smartcard/block.control").run Try.prog w = .ok (78, .agg #[]) w := by kernel_rfl
theorem m_CS (w : World) : (method 211 46 (.agg #[]) "smartcard/block.control").run Try.prog w = .ok (75, .agg #[]) w := by kernel_rfl
end Go.Proofs.Ytomdjcodgkoapaa

/- A region that draws its order, whatever the order: each operation is shown once, from what the operations that it waits for have yielded. No program in sight. -/
namespace Go.Proofs.Ytomdjcodgkoapaa
open Go.RowKit

/-- The value in an operation's slot. -/
def slotAt (a : Act) (d : Option Tmp) : Value := match d with | some d => a.tmps[d]?.getD undef | none => undef
def dstAt (ops : Array Oper) (i : Nat) : Option Tmp := (ops[i]?).bind (·.dst)

/-- Each edge goes back to an earlier operation; each slot is written once, and lies in the frame. -/
def Region.plain (ops : Array Oper) (n : Nat) : Bool :=
  (List.range ops.size).all fun i => match ops[i]? with
    | none => false
    | some o => (o.after.all fun e => !Region.binds .any e || decide (e.on < i)) &&
      (match o.dst with
       | none => true
       | some d => decide (d < n) && (List.range ops.size).all fun j => decide (j = i) || dstAt ops j != some d)

/-- No operation that writes slot k comes up ahead of operation i. -/
def Region.before (ops : Array Oper) (i k : Nat) : Bool :=
  ops.all fun o => o.dst != some k || o.after.any fun e => Region.binds .any e && e.on == i

/-- What the operations that o waits for have yielded. -/
def Waited (ops : Array Oper) (φ : Nat → Value → World → Prop) (a : Act) (w : World) : List Edge → Prop
  | [] => True
  | e :: r => (match Region.binds .any e with | true => φ e.on (slotAt a (dstAt ops e.on)) w | false => True) ∧ Waited ops φ a w r

/-- The value that an operation leaves: none where it has no slot. -/
def ofDst (d : Option Tmp) (v : Value) : Value := match d with | some _ => v | none => undef
/-- One operation, in whatever state it may come up. -/
def StepAt (P : Program) (ops : Array Oper) (Q : Exit → Act → World → Prop) (T : World → World → Prop) (φ : Nat → Value → World → Prop) (a0 : Act) (w0 : World) (i : Nat) (o : Oper) : Prop :=
  ∀ (a : Act) (w : World) (K : Act → World → Prop), T w0 w → (∀ k, Region.before ops i k = true → a.tmps[k]?.getD undef = a0.tmps[k]?.getD undef) → Waited ops φ a w o.after.toList →
    (∀ v w', T w w' → φ i (ofDst o.dst v) w' → K (a.put o.dst v) w') → if Region.wanted o (yielded ops a.tmps) = true then Oper.wp P o a w K Q else K (a.put o.dst undef) w

def StepsAt (P : Program) (ops : Array Oper) (Q : Exit → Act → World → Prop) (T : World → World → Prop) (φ : Nat → Value → World → Prop) (a0 : Act) (w0 : World) : Nat → List Oper → Prop
  | _, [] => True
  | i, o :: r => StepAt P ops Q T φ a0 w0 i o ∧ StepsAt P ops Q T φ a0 w0 (i + 1) r

/-- The frame behind the region. -/
def putsAt (vs : Nat → Value) : Nat → List Oper → Act → Act
  | _, [], a => a
  | i, o :: r, a => putsAt vs (i + 1) r (a.put o.dst (vs i))

def AllAt (φ : Nat → Value → World → Prop) (vs : Nat → Value) (w : World) : Nat → List Oper → Prop
  | _, [] => True
  | i, _ :: r => φ i (vs i) w ∧ AllAt φ vs w (i + 1) r

section
variable {P : Program} {ops : Array Oper} {Q : Exit → Act → World → Prop} {T : World → World → Prop} {φ : Nat → Value → World → Prop} {a0 : Act} {w0 : World}

theorem StepsAt.get : ∀ (l : List Oper) (k : Nat), StepsAt P ops Q T φ a0 w0 k l → ∀ i o, l[i]? = some o → StepAt P ops Q T φ a0 w0 (k + i) o
  | [], _, _, i, o, h => by simp at h
  | x :: l, k, hs, 0, o, h => by simp at h; subst h; exact hs.1
  | x :: l, k, hs, i + 1, o, h => by
    have := StepsAt.get l (k + 1) hs.2 i o (by simpa using h)
    rwa [show k + 1 + i = k + (i + 1) by omega] at this
theorem AllAt.of : ∀ (l : List Oper) (k : Nat) {vs : Nat → Value} {w : World}, (∀ i, i < l.length → φ (k + i) (vs (k + i)) w) → AllAt φ vs w k l
  | [], _, _, _, _ => trivial
  | _ :: l, k, vs, w, h => ⟨by simpa using h 0 (by simp), AllAt.of l (k + 1) (fun i hi => by have := h (i + 1) (by simp; omega); rwa [show k + (i + 1) = k + 1 + i by omega] at this)⟩
theorem Waited.of {a : Act} {w : World} : ∀ (l : List Edge), (∀ e ∈ l, Region.binds .any e = true → φ e.on (slotAt a (dstAt ops e.on)) w) → Waited ops φ a w l
  | [], _ => trivial
  | e :: l, h => ⟨by cases hb : Region.binds .any e with | true => exact h e (by simp) hb | false => trivial, Waited.of l (fun e' he' => h e' (by simp [he']))⟩

theorem plain_spec {n : Nat} (h : Region.plain ops n = true) {i : Nat} {o : Oper} (ho : ops[i]? = some o) :
    (∀ e ∈ o.after, Region.binds .any e = true → e.on < i) ∧ (∀ d, o.dst = some d → d < n ∧ ∀ j, j < ops.size → j ≠ i → dstAt ops j ≠ some d) := by
  have hi : i < ops.size := (Array.getElem?_eq_some_iff.1 ho).1
  unfold Region.plain at h
  rw [List.all_eq_true] at h
  have h1 := h i (List.mem_range.2 hi)
  rw [ho] at h1
  simp only [Bool.and_eq_true] at h1
  refine ⟨fun e he hb => ?_, fun d hd => ?_⟩
  · have := Array.all_eq_true_iff_forall_mem.1 h1.1 e he
    simpa [hb] using this
  · have h2 := h1.2
    rw [hd] at h2
    simp only [Bool.and_eq_true, decide_eq_true_eq, List.all_eq_true] at h2
    refine ⟨h2.1, fun j hj hne => ?_⟩
    have := h2.2 j (List.mem_range.2 hj)
    simpa [hne] using this

/-- What holds while the operations marked in 'listed' have come up. -/
structure RegInv (ops : Array Oper) (T : World → World → Prop) (φ : Nat → Value → World → Prop) (a0 : Act) (w0 : World) (listed : Array Bool) (a : Act) (w : World) : Prop where
  world : T w0 w
  size : listed.size = ops.size
  defers : a.defers = a0.defers
  frame : a.tmps.size = a0.tmps.size
  same : ∀ k, (∀ j, listed.getD j false = true → dstAt ops j ≠ some k) → a.tmps[k]?.getD undef = a0.tmps[k]?.getD undef
  vals : ∀ j, listed.getD j false = true → φ j (slotAt a (dstAt ops j)) w
  closed : ∀ j o, ops[j]? = some o → listed.getD j false = true → ∀ e ∈ o.after, Region.binds .any e = true → listed.getD e.on false = true

theorem put_tmps_size (a : Act) (d : Option Tmp) (v : Value) : (a.put d v).tmps.size = a.tmps.size := by cases d <;> simp [Act.put]
theorem put_defers (a : Act) (d : Option Tmp) (v : Value) : (a.put d v).defers = a.defers := by cases d <;> simp [Act.put]
theorem put_getD_ne (a : Act) (d : Option Tmp) (v : Value) (k : Nat) (h : d ≠ some k) : (a.put d v).tmps[k]?.getD undef = a.tmps[k]?.getD undef := by
  cases d with
  | none => rfl
  | some d => simp only [Act.put]; rw [Array.getElem?_setIfInBounds_ne (fun e => h (by rw [e]))]
theorem put_getD_self (a : Act) (d : Nat) (v : Value) (h : d < a.tmps.size) : (a.put (some d) v).tmps[d]?.getD undef = v := by
  simp [Act.put, h]

theorem listed_set {listed : Array Bool} {i j : Nat} (hi : i < listed.size) : (listed.setIfInBounds i true).getD j false = true ↔ j = i ∨ listed.getD j false = true := by
  by_cases h : i = j
  · subst h; simp [hi]
  · rw [getD_set_ne false h]; simp [Ne.symm h]

theorem RegInv.step (hp : Region.plain ops a0.tmps.size = true) (htr : ∀ x y z : World, T x y → T y z → T x z) (hst : ∀ i v w w', T w w' → φ i v w → φ i v w')
    {listed : Array Bool} {a : Act} {w : World} (inv : RegInv ops T φ a0 w0 listed a w) {i : Nat} {o : Oper} (ho : ops[i]? = some o) (hr : i ∈ Region.ready .any ops listed)
    {v : Value} {w' : World} (hw : T w w') (hv : φ i (ofDst o.dst v) w') : RegInv ops T φ a0 w0 (listed.setIfInBounds i true) (a.put o.dst v) w' := by
  have hi : i < ops.size := (Array.getElem?_eq_some_iff.1 ho).1
  have hil : i < listed.size := by rw [inv.size]; exact hi
  obtain ⟨hun, o', ho', hall⟩ := mem_ready.1 hr
  rw [ho] at ho'; injection ho' with ho'; subst ho'
  obtain ⟨_, hd⟩ := plain_spec hp ho
  have hdi : dstAt ops i = o.dst := by simp [dstAt, ho]
  refine ⟨htr _ _ _ inv.world hw, by simpa using inv.size, by rw [put_defers]; exact inv.defers, by rw [put_tmps_size]; exact inv.frame, ?_, ?_, ?_⟩
  · intro k hk
    rw [put_getD_ne _ _ _ _ (by rw [← hdi]; exact hk i ((listed_set hil).2 (.inl rfl)))]
    exact inv.same k fun j hj => hk j ((listed_set hil).2 (.inr hj))
  · intro j hj
    rcases (listed_set hil).1 hj with rfl | hj2
    · rw [hdi]
      cases hdo : o.dst with
      | none => rw [hdo] at hv; exact hv
      | some d =>
        rw [hdo] at hv
        have := (hd d hdo).1
        rw [show slotAt (a.put (some d) v) (some d) = v from put_getD_self a d v (by rw [inv.frame]; exact this)]
        exact hv
    · have hne : j ≠ i := fun e => by
        subst e
        rcases Nat.lt_or_ge j listed.size with h' | h'
        · rw [Array.getD_eq_getD_getElem?, Array.getElem?_eq_getElem h'] at hun hj2
          simp only [Option.getD_some] at hun hj2
          rw [hun] at hj2; cases hj2
        · omega
      have hjl : j < ops.size := by
        rcases Nat.lt_or_ge j ops.size with h' | h'
        · exact h'
        · rw [← inv.size] at h'; simp [Array.getElem?_eq_none h'] at hj2
      have := hst j _ _ _ hw (inv.vals j hj2)
      have hs : slotAt (a.put o.dst v) (dstAt ops j) = slotAt a (dstAt ops j) := by
        cases hdj : dstAt ops j with
        | none => rfl
        | some k => exact put_getD_ne _ _ _ _ (fun e => (hd k e).2 j hjl hne hdj)
      rw [hs]; exact this
  · intro j oj hoj hj e he hb
    rcases (listed_set hil).1 hj with rfl | hj
    · rw [ho] at hoj; injection hoj with hoj; subst hoj
      exact (listed_set hil).2 (.inr (hall e he hb))
    · exact (listed_set hil).2 (.inr (inv.closed j oj hoj hj e he hb))

theorem RegInv.wpOp (hp : Region.plain ops a0.tmps.size = true) (htr : ∀ x y z : World, T x y → T y z → T x z) (hst : ∀ i v w w', T w w' → φ i v w → φ i v w')
    {listed : Array Bool} {a : Act} {w : World} (inv : RegInv ops T φ a0 w0 listed a w) {i : Nat} {o : Oper} (ho : ops[i]? = some o) (hr : i ∈ Region.ready .any ops listed)
    (hs : StepAt P ops Q T φ a0 w0 i o) :
    Go.wpOp P ops Q i (fun a' w' => RegInv ops T φ a0 w0 (listed.setIfInBounds i true) a' w') a w := by
  have hi : i < ops.size := (Array.getElem?_eq_some_iff.1 ho).1
  obtain ⟨hun, o', ho', hall⟩ := mem_ready.1 hr
  rw [ho] at ho'; injection ho' with ho'; subst ho'
  have hil : i < listed.size := by rw [inv.size]; exact hi
  have hstep := hs a w (fun a' w' => RegInv ops T φ a0 w0 (listed.setIfInBounds i true) a' w') inv.world
    (fun k hk => inv.same k fun j hj hdj => by
      unfold Region.before at hk
      have hjl : j < ops.size := by
        rcases Nat.lt_or_ge j ops.size with h' | h'
        · exact h'
        · rw [← inv.size] at h'; simp [Array.getElem?_eq_none h'] at hj
      have hoj : ops[j]? = some ops[j] := Array.getElem?_eq_getElem hjl
      have hdj' : (ops[j]).dst = some k := by simpa [dstAt, hoj] using hdj
      have h1 := Array.all_eq_true_iff_forall_mem.1 hk ops[j] (Array.getElem_mem hjl)
      simp only [hdj', bne_self_eq_false, Bool.false_or] at h1
      rw [Array.any_eq_true] at h1
      obtain ⟨q, hq, hb⟩ := h1
      simp only [Bool.and_eq_true, beq_iff_eq] at hb
      have h2 := inv.closed j _ hoj hj _ (Array.getElem_mem hq) hb.1
      rw [hb.2] at h2
      rw [Array.getD_eq_getD_getElem?, Array.getElem?_eq_getElem hil] at hun h2
      simp only [Option.getD_some] at hun h2
      rw [hun] at h2; cases h2)
    (Waited.of _ fun e he hb => inv.vals _ (hall e (by simpa using he) hb))
    (fun v w' hw hv => inv.step hp htr hst ho hr hw hv)
  unfold Go.wpOp
  simp only [ho]
  split
  · rename_i hw
    rw [if_pos hw] at hstep
    exact .inl hstep
  · rename_i hw
    rw [if_neg hw] at hstep
    exact hstep

/-- How many have come up. -/
def marked (listed : Array Bool) : Nat := listed.toList.countP (· = true)
theorem marked_set {listed : Array Bool} {i : Nat} (hi : i < listed.size) (h : listed.getD i true = false) : marked (listed.setIfInBounds i true) = marked listed + 1 := by
  have hf : listed[i] = false := by rw [Array.getD_eq_getD_getElem?, Array.getElem?_eq_getElem hi] at h; simpa using h
  unfold marked
  rw [Array.toList_setIfInBounds]
  have hl : listed.toList = listed.toList.take i ++ listed.toList[i]'(by simpa using hi) :: listed.toList.drop (i + 1) := by
    conv => lhs; rw [← List.take_append_drop i listed.toList, List.drop_eq_getElem_cons (by simpa using hi)]
  rw [List.set_eq_take_append_cons_drop, if_pos (by simpa using hi)]
  conv => rhs; rw [hl]
  simp [List.countP_append, hf]
  omega
theorem marked_le (listed : Array Bool) : marked listed ≤ listed.size := by
  unfold marked; rw [← Array.length_toList]; exact List.countP_le_length

theorem RegInv.any (hp : Region.plain ops a0.tmps.size = true) (htr : ∀ x y z : World, T x y → T y z → T x z) (hst : ∀ i v w w', T w w' → φ i v w → φ i v w')
    (hs : StepsAt P ops Q T φ a0 w0 0 ops.toList) (hfin : ∀ listed a w, RegInv ops T φ a0 w0 listed a w → (∀ j, j < ops.size → listed.getD j false = true) → Q .normal a w) :
    ∀ (fuel : Nat) (listed : Array Bool) (a : Act) (w : World), fuel + marked listed = ops.size → RegInv ops T φ a0 w0 listed a w → wpAny P .any ops Q fuel listed a w := by
  have hdone : ∀ (listed : Array Bool) (a : Act) (w : World), RegInv ops T φ a0 w0 listed a w → Region.ready .any ops listed = [] → ∀ j, j < ops.size → listed.getD j false = true := by
    intro listed a w inv hr j
    induction j using Nat.strongRecOn with
    | _ j ih =>
      intro hj
      have hoj : ops[j]? = some ops[j] := Array.getElem?_eq_getElem hj
      have hjl : j < listed.size := by rw [inv.size]; exact hj
      cases hl : listed.getD j false with
      | true => rfl
      | false =>
        have : j ∈ Region.ready .any ops listed := mem_ready.2 ⟨by
          rw [Array.getD_eq_getD_getElem?, Array.getElem?_eq_getElem hjl] at hl ⊢; exact hl, _, hoj, fun e he hb => by
          have hlt := (plain_spec hp hoj).1 e he hb
          exact ih e.on hlt (by omega)⟩
        rw [hr] at this; cases this
  intro fuel
  induction fuel with
  | zero =>
    intro listed a w hm inv
    have hall : ∀ j, j < ops.size → listed.getD j false = true := by
      intro j hj
      have hjl : j < listed.size := by rw [inv.size]; exact hj
      cases hl : listed.getD j false with
      | true => rfl
      | false =>
        have h1 := marked_set (listed := listed) hjl (by rw [Array.getD_eq_getD_getElem?, Array.getElem?_eq_getElem hjl] at hl ⊢; exact hl)
        have h2 := marked_le (listed.setIfInBounds j true)
        rw [Array.size_setIfInBounds, inv.size] at h2
        omega
    refine ⟨?_, hfin listed a w inv hall⟩
    rcases hr : Region.ready .any ops listed with _ | ⟨j, l⟩
    · rfl
    · have hj : j ∈ Region.ready .any ops listed := by rw [hr]; exact List.mem_cons_self
      obtain ⟨hun, o, ho, _⟩ := mem_ready.1 hj
      have hjs : j < ops.size := (Array.getElem?_eq_some_iff.1 ho).1
      have h1 := hall j hjs
      have hjl : j < listed.size := by rw [inv.size]; exact hjs
      rw [Array.getD_eq_getD_getElem?, Array.getElem?_eq_getElem hjl] at hun h1
      simp only [Option.getD_some] at hun h1
      rw [hun] at h1; cases h1
  | succ fuel ih =>
    intro listed a w hm inv
    refine ⟨fun hr => hfin listed a w inv (hdone listed a w inv hr), fun i hi => ?_⟩
    obtain ⟨hun, o, ho, _⟩ := mem_ready.1 hi
    have his : i < ops.size := (Array.getElem?_eq_some_iff.1 ho).1
    have hsi := StepsAt.get ops.toList 0 hs i o (by simpa using ho)
    rw [Nat.zero_add] at hsi
    refine wpOp_mono (fun a' w' inv' => ih _ a' w' ?_ inv') (inv.wpOp hp htr hst ho hi hsi)
    rw [marked_set (by rw [inv.size]; exact his) hun]
    omega

theorem putsAt_getD (vs : Nat → Value) (k : Nat) : ∀ (l : List Oper) (i : Nat) (a : Act), (∀ (j : Nat) (o : Oper), l[j]? = some o → o.dst ≠ some k) → (putsAt vs i l a).tmps[k]?.getD undef = a.tmps[k]?.getD undef
  | [], _, _, _ => rfl
  | o :: l, i, a, h => by
    rw [putsAt, putsAt_getD vs k l (i + 1) _ (fun j o' hj => h (j + 1) o' (by simpa using hj)), put_getD_ne _ _ _ _ (h 0 o rfl)]
theorem putsAt_size (vs : Nat → Value) : ∀ (l : List Oper) (i : Nat) (a : Act), (putsAt vs i l a).tmps.size = a.tmps.size
  | [], _, _ => rfl
  | o :: l, i, a => by rw [putsAt, putsAt_size vs l, put_tmps_size]
theorem putsAt_defers (vs : Nat → Value) : ∀ (l : List Oper) (i : Nat) (a : Act), (putsAt vs i l a).defers = a.defers
  | [], _, _ => rfl
  | o :: l, i, a => by rw [putsAt, putsAt_defers vs l, put_defers]
theorem putsAt_get (vs : Nat → Value) (k : Nat) : ∀ (l : List Oper) (i : Nat) (a : Act) (j : Nat) (o : Oper), l[j]? = some o → o.dst = some k → k < a.tmps.size → (∀ (j' : Nat) (o' : Oper), l[j']? = some o' → o'.dst = some k → j' = j) → (putsAt vs i l a).tmps[k]?.getD undef = vs (i + j)
  | [], _, _, _, _, h, _, _, _ => by simp at h
  | x :: l, i, a, 0, o, h, hd, hk, hu => by
    simp at h; subst h
    rw [putsAt, putsAt_getD vs k l (i + 1) _ (fun j o' hj hd' => by have := hu (j + 1) o' (by simpa using hj) hd'; omega), hd, put_getD_self _ _ _ hk]; rfl
  | x :: l, i, a, j + 1, o, h, hd, hk, hu => by
    rw [putsAt, putsAt_get vs k l (i + 1) _ j o (by simpa using h) hd (by rw [put_tmps_size]; exact hk) (fun j' o' hj' hd' => by have := hu (j' + 1) o' (by simpa using hj') hd'; omega)]
    congr 1; omega

/-- **A region that draws its order.** -/
theorem wp_region_steps {id : Nat} {l : List Oper} (T : World → World → Prop) (φ : Nat → Value → World → Prop) (hm : P.follows .mixedOrders = true) (hp : Region.plain l.toArray a0.tmps.size = true)
    (hrf : ∀ w, T w w) (htr : ∀ x y z : World, T x y → T y z → T x z) (hst : ∀ i v w w', T w w' → φ i v w → φ i v w')
    (hs : StepsAt P l.toArray Q T φ a0 w0.drew 0 l)
    (hfin : ∀ (vs : Nat → Value) w, T w0.drew w → AllAt φ vs w 0 l → Q .normal (putsAt vs 0 l a0) w) : (Code.region id l.toArray true).wp P Q a0 w0 := by
  refine wp_region_any hm (RegInv.any hp htr hst (by simpa using hs) ?_ _ _ _ _ ?_ ?_)
  · intro listed a w inv hall
    have hput : a = putsAt (fun i => slotAt a (dstAt l.toArray i)) 0 l a0 := by
      have hsz : a.tmps.size = (putsAt (fun i => slotAt a (dstAt l.toArray i)) 0 l a0).tmps.size := by rw [putsAt_size, inv.frame]
      have hd : a.defers = (putsAt (fun i => slotAt a (dstAt l.toArray i)) 0 l a0).defers := by rw [putsAt_defers, inv.defers]
      have ht : a.tmps = (putsAt (fun i => slotAt a (dstAt l.toArray i)) 0 l a0).tmps := by
        apply Array.ext hsz
        intro k hk1 hk2
        have hg : a.tmps[k]?.getD undef = (putsAt (fun i => slotAt a (dstAt l.toArray i)) 0 l a0).tmps[k]?.getD undef := by
          by_cases hex : ∃ (j : Nat) (o : Oper), l[j]? = some o ∧ o.dst = some k
          · obtain ⟨j, o, ho, hdo⟩ := hex
            have hoa : l.toArray[j]? = some o := by simpa using ho
            have hsp := (plain_spec hp hoa).2 k hdo
            rw [putsAt_get _ k l 0 a0 j o ho hdo hsp.1 (fun j' o' hj' hd' => by
              by_cases he : j' = j
              · exact he
              · exact absurd (by simp [dstAt, hj', hd'] : dstAt l.toArray j' = some k) (hsp.2 j' (by have := (List.getElem?_eq_some_iff.1 hj').1; simpa using this) he))]
            simp only [Nat.zero_add, dstAt, hoa, Option.bind_some, hdo, slotAt]
          · rw [putsAt_getD _ k l 0 a0 (fun j o ho hdo => hex ⟨j, o, ho, hdo⟩)]
            refine inv.same k fun j hj hdj => ?_
            have hjl : j < l.toArray.size := by
              rcases Nat.lt_or_ge j l.toArray.size with h' | h'
              · exact h'
              · rw [← inv.size] at h'; simp [Array.getElem?_eq_none h'] at hj
            have hoj : l.toArray[j]? = some l.toArray[j] := Array.getElem?_eq_getElem hjl
            exact hex ⟨j, l.toArray[j], by simp, by simpa [dstAt, hoj] using hdj⟩
        rw [Array.getElem?_eq_getElem hk1, Array.getElem?_eq_getElem hk2] at hg
        exact hg
      cases a with
      | mk t d => simp only at ht hd; cases hq : putsAt (fun i => slotAt (Act.mk t d) (dstAt l.toArray i)) 0 l a0 with | mk t' d' => rw [hq] at ht hd; simp only at ht hd; subst ht hd; rfl
    rw [hput]
    exact hfin _ w inv.world (AllAt.of l 0 fun i hi => by rw [Nat.zero_add]; exact inv.vals i (hall i (by simpa using hi)))
  · simp [marked, List.countP_replicate]
  · refine ⟨hrf _, by simp, rfl, rfl, fun _ _ => rfl, fun j hj => ?_, fun j o _ hj => ?_⟩
    · simp [Array.getElem?_replicate] at hj; split at hj <;> simp at hj
    · simp [Array.getElem?_replicate] at hj; split at hj <;> simp at hj

/-- What is known of an operation's value: it stands while the world goes on. -/
def St (T : World → World → Prop) : Type := { p : Value → World → Prop // ∀ v w w', T w w' → p v w → p v w' }
def St.is {T : World → World → Prop} (x : Value) : St T := ⟨fun v _ => v = x, fun _ _ _ _ h => h⟩
def St.pred {T : World → World → Prop} (p : Value → World → Prop) (h : ∀ v w w', T w w' → p v w → p v w') : St T := ⟨p, h⟩

/-- **A region that draws its order, with a list of what is known of each value.** -/
theorem wp_region_list' {id : Nat} {l : List Oper} {T : World → World → Prop} (L : List (St T)) (hm : P.follows .mixedOrders = true) (hp : Region.plain l.toArray a0.tmps.size = true)
    (hrf : ∀ w, T w w) (htr : ∀ x y z : World, T x y → T y z → T x z)
    (hs : StepsAt P l.toArray Q T (fun i v w => (L.getD i (St.is undef)).1 v w) a0 w0.drew 0 l)
    (hfin : ∀ (vs : Nat → Value) w, T w0.drew w → AllAt (fun i v w => (L.getD i (St.is undef)).1 v w) vs w 0 l → Q .normal (putsAt vs 0 l a0) w) : (Code.region id l.toArray true).wp P Q a0 w0 :=
  wp_region_steps T _ hm hp hrf htr (fun i v w w' hT h => (L.getD i (St.is undef)).2 v w w' hT h) hs hfin
theorem eval_tmp (a : Act) (k : Nat) {v : Value} (h : a.tmps[k]?.getD undef = v) : a.eval (.tmp k) = v := by
  rw [← h]; simp [Act.eval]

/-! ### What each operation's proof begins with -/
theorem yielded_of {ops : Array Oper} {a : Act} {g d : Nat} {b : Bool} (hd : dstAt ops g = some d) (h : a.tmps[d]?.getD undef = .bool b) : yielded ops a.tmps g = some b := by
  unfold yielded
  unfold dstAt at hd
  rw [hd]
  cases hq : a.tmps[d]? with
  | none => rw [hq] at h; cases h
  | some v => rw [hq] at h; simp at h; subst h; simp [hq]
/-- An operation without a guard. -/
theorem step_free {ops : Array Oper} {o : Oper} {a : Act} {w : World} {K : Act → World → Prop} (hg : o.guard = none) (h : Oper.wp P o a w K Q) :
    if Region.wanted o (yielded ops a.tmps) = true then Oper.wp P o a w K Q else K (a.put o.dst undef) w := by
  rw [if_pos (by simp [Region.wanted, hg])]; exact h
/-- A guard that says yes. -/
theorem step_yes {ops : Array Oper} {o : Oper} {a : Act} {w : World} {K : Act → World → Prop} {g d : Nat} {b : Bool} (hg : o.guard = some (g, b)) (hd : dstAt ops g = some d) (hv : a.tmps[d]?.getD undef = .bool b) (h : Oper.wp P o a w K Q) :
    if Region.wanted o (yielded ops a.tmps) = true then Oper.wp P o a w K Q else K (a.put o.dst undef) w := by
  rw [if_pos (by simp [Region.wanted, hg, yielded_of hd hv])]; exact h
/-- A guard that says no, or that has not been asked. -/
theorem step_no {ops : Array Oper} {o : Oper} {a : Act} {w : World} {K : Act → World → Prop} {g d : Nat} {b : Bool} (hg : o.guard = some (g, b)) (hd : dstAt ops g = some d) (hv : a.tmps[d]?.getD undef = .bool (!b) ∨ a.tmps[d]?.getD undef = undef) (h : K (a.put o.dst undef) w) :
    if Region.wanted o (yielded ops a.tmps) = true then Oper.wp P o a w K Q else K (a.put o.dst undef) w := by
  rw [if_neg]
  · exact h
  · rcases hv with hv | hv
    · cases b <;> simp [Region.wanted, hg, yielded_of hd hv]
    · have hy : yielded ops a.tmps g = none := by
        unfold yielded
        unfold dstAt at hd
        rw [hd]
        cases hq : a.tmps[d]? with
        | none => simp [hq]
        | some v => rw [hq] at hv; simp at hv; subst hv; simp [hq, undef]
      simp [Region.wanted, hg, hy]
end

/-! ### The relation of worlds: all that was there stands, but for one variable R of n cells, which ends as 'cs' once it is so -/
structure TR (R n : Nat) (cs : List Value) (w w' : World) : Prop where
  grown : w.grownBy w' (some R)
  there : w.there R 0 n → w'.there R 0 n
  fin : w.rangeAt R 0 cs → w'.rangeAt R 0 cs
theorem TR.refl (R n : Nat) (cs : List Value) (w : World) : TR R n cs w w := ⟨World.grownBy.refl w _, id, id⟩
theorem grown_trans {a b c : World} {row : Option Nat} (h : a.grownBy b row) (k : b.grownBy c row) : a.grownBy c row :=
  ⟨k.os.trans h.os, k.tape.trans h.tape, k.output.trans h.output, Nat.le_trans h.size k.size, fun i hi hne => (k.block i (Nat.lt_of_lt_of_le hi h.size) hne).trans (h.block i hi hne)⟩
theorem TR.trans (R n : Nat) (cs : List Value) (x y z : World) (h : TR R n cs x y) (k : TR R n cs y z) : TR R n cs x z :=
  ⟨grown_trans h.grown k.grown, fun q => k.there (h.there q), fun q => k.fin (h.fin q)⟩
theorem TR.of_below {R n : Nat} {cs : List Value} {w w' : World} (hR : R < w.heap.size) (h : Below w.heap.size w w') : TR R n cs w w' :=
  ⟨⟨h.os, h.tape, h.output, h.size, fun k hk _ => h.block k hk⟩,
   fun q j hj => ⟨by rw [h.cell (p := ⟨R, 0 + j, none⟩) hR]; exact (q j hj).1, by rw [h.frozen (p := ⟨R, 0 + j, none⟩) hR]; exact (q j hj).2⟩,
   fun q j v hv => by rw [h.cell (p := ⟨R, 0 + j, none⟩) hR]; exact q j v hv⟩
theorem TR.cell {R n : Nat} {cs : List Value} {w w' : World} (h : TR R n cs w w') {b o : Nat} (hb : b < w.heap.size) (hne : b ≠ R) : w'.cell? ⟨b, o, none⟩ = w.cell? ⟨b, o, none⟩ :=
  World.cell?_of_block (h.grown.block b hb (fun e => hne (by injection e)))
theorem grown_setCells {R : Nat} : ∀ (vs : List Value) (o : Nat) (w : World), w.grownBy (w.setCells R o vs) (some R)
  | [], _, w => World.grownBy.refl w _
  | v :: vs, o, w => by
    have h1 : w.grownBy (w.setCell ⟨R, o, none⟩ v) (some R) := ⟨rfl, rfl, rfl, by simp [World.setCell], fun k _ hne => Below.heap_setCell w ⟨R, o, none⟩ v k (fun e => hne (by rw [e]))⟩
    exact grown_trans h1 (grown_setCells vs (o + 1) (w.setCell ⟨R, o, none⟩ v))
theorem TR.store {R n : Nat} {cs : List Value} {w : World} (ht : w.there R 0 n) (hn : cs.length = n) : TR R n cs w (w.setCells R 0 cs) ∧ (w.setCells R 0 cs).rangeAt R 0 cs := by
  have hr := World.rangeAt_setCells_same w R 0 cs (by rw [hn]; exact ht)
  exact ⟨⟨grown_setCells cs 0 w, fun q => World.there_setCells q R 0 cs, fun _ => hr⟩, hr⟩
theorem TR.below {R n B : Nat} {cs : List Value} {w0 w w' : World} (h : TR R n cs w w') (hb : Below B w0 w) (hB : B ≤ R) (hs : w0.heap.size = B) : Below B w0 w' :=
  hb.grown h.grown (by have := hb.size; omega) (fun k hk => by injection hk with hk; omega)
/-- All that was there stands. -/
def TB (w w' : World) : Prop := Below w.heap.size w w'
theorem TB.refl (w : World) : TB w w := Below.refl _ _
theorem TB.trans (x y z : World) (h : TB x y) (k : TB y z) : TB x z := Below.trans h (Below.mono k h.size)
theorem TB.cell {w w' : World} (h : TB w w') {b o : Nat} (hb : b < w.heap.size) : w'.cell? ⟨b, o, none⟩ = w.cell? ⟨b, o, none⟩ := Below.cell h (p := ⟨b, o, none⟩) hb
theorem TB.alloc (w : World) (o : Obj) : TB w (w.alloc o) := (Below.refl _ _).alloc (Nat.le_refl _) o
end Go.Proofs.Ytomdjcodgkoapaa

/- smartcard/block.parse: the walk, by kind (printed by wip/gen/parse.py). -/
namespace Go.Proofs.Ytomdjcodgkoapaa
open Go.RowKit
set_option linter.unusedVariables false
attribute [local go_sem] m_PI m_PR m_PS m_CI m_CR m_CS
/-- Whether a control byte is one, and the block that it tells. -/
def okC (c : Nat) : Bool := if c < 128 then decide (c % 32 = 0) else if c < 192 then decide (c < 160 ∧ c % 16 < 3) else decide (c % 32 < 4)
def blkC (c : Nat) : List Value :=
  if c < 128 then [.int .i64 0, .int .i64 0, .int .i64 (c / 64 : Nat), .bool (decide (c / 32 % 2 = 1)), .int .i64 0, .bool false, .slice none 0 0]
  else if c < 192 then [.int .i64 0, .int .i64 1, .int .i64 (c / 16 % 2 : Nat), .bool false, .int .i64 (c % 4 : Nat), .bool false, .slice none 0 0]
  else [.int .i64 0, .int .i64 2, .int .i64 0, .bool false, .int .i64 (c % 4 : Nat), .bool (decide (c / 32 % 2 = 1)), .slice none 0 0]

set_option maxHeartbeats 2000000 in
theorem bparse_I_ok (c : Nat) (hc : c < 128) (hok : c % 32 = 0) (w : World) :
    Calls Try.prog 30 #[.int .i64 (c : Int)] w
      fun e w' => e = .returned (.tuple #[.agg (blkC c).toArray, .bool (okC c)]) ∧ Below w.heap.size w w' := by
  have ho : okC c = true := by unfold okC; rw [if_pos hc]; simp; omega
  have hbl : blkC c = [.int .i64 0, .int .i64 0, .int .i64 (c / 64 : Nat), .bool (decide (c / 32 % 2 = 1)), .int .i64 0, .bool false, .slice none 0 0] := by unfold blkC; rw [if_pos hc]
  rw [ho, hbl]
  clear ho hbl
  have h1 := byte_and192 c (by omega)
  have h192 : (bits .and .i64 (c : Int) 192 == 192) = false := by rw [h1, beq_eq_false_iff_ne]; omega
  have h128 : (bits .and .i64 (c : Int) 192 == 128) = false := by rw [h1, beq_eq_false_iff_ne]; omega
  clear h1
  have hq : ctlI ((c / 64 : Nat) : Int) (decide (c / 32 % 2 = 1)) = (64 * (c / 64) + (if c / 32 % 2 = 1 then 32 else 0) : Nat) := by unfold ctlI; split <;> simp_all
  have h01 : ((c / 64 : Nat) : Int) = 0 ∨ ((c / 64 : Nat) : Int) = 1 := by omega
  have heq : (ctlI ((c / 64 : Nat) : Int) (decide (c / 32 % 2 = 1)) == (c : Int)) = true := by
    rw [hq, beq_iff_eq]; split <;> omega
  have hP : ∀ W, Calls Try.prog 57 #[.agg #[], .int .i64 (c : Int)] W fun e w' => e = .returned (.agg #[.int .i64 0, .int .i64 0, .int .i64 (c / 64 : Nat), .bool (decide (c / 32 % 2 = 1)), .int .i64 0, .bool false, .slice none 0 0]) ∧ Below W.heap.size W w' := fun W => parse_I c hc W
  clear hq hok hc
  generalize hs : ((c / 64 : Nat) : Int) = s at *
  generalize hm : decide (c / 32 % 2 = 1) = m at *
  have HK := Lib.hid h01
  clear h01 hs hm
  have HP := Lib.hid hP
  clear hP
  go_enter Try.func30, Try.ntmps30
  go_wp2_with fail
  refine (HP.out _).mono ?_
  rintro e w1 ⟨rfl, hb⟩
  obtain ⟨hc1, hf1⟩ := bcell hb
  have hz : w.heap.size < w1.heap.size := by have := hb.size; simp at this; omega
  have hne : w.heap.size ≠ w1.heap.size := by omega
  go_wp2_with fail
  have hw1 : Below w.heap.size w w1 := ((Below.refl _ _).alloc (Nat.le_refl _) _).trans (hb.mono (by simp))
  have hth : (w1.alloc (.cells #[.int .i64 0, .int .i64 0, .int .i64 s, .bool m, .int .i64 0, .bool false, .slice none 0 0] 24)).drew.there w.heap.size 0 7 := by
    refine there_of_cells (cs := #[.int .i64 0, .int .i64 0, .int .i64 0, .bool false, .int .i64 0, .bool false, .slice none 0 0]) (t := 24) ?_ rfl
    show (w1.alloc _).heap[w.heap.size]? = _
    rw [Below.heap_alloc _ _ _ hz, hb.block _ (by simp)]
    exact heap_alloc_new w _
  refine wp_region_list' (T := TR w.heap.size 7 [.int .i64 0, .int .i64 0, .int .i64 s, .bool m, .int .i64 0, .bool false, .slice none 0 0]) [St.is (.agg #[.int .i64 0, .int .i64 0, .int .i64 s, .bool m, .int .i64 0, .bool false, .slice none 0 0]), St.is (.iface 44 (.agg #[])), St.is (.agg #[.int .i64 0, .int .i64 0, .int .i64 s, .bool m, .int .i64 0, .bool false, .slice none 0 0]), St.is (.int .i64 (ctlI s m)), St.is (.int .i64 (c : Int)), St.is (.bool true), St.is (.bool true), St.is (.iface 44 (.agg #[])), St.is (.int .i64 0), St.is (.bool true), St.is (.bool true), St.is undef, St.is undef, St.is undef, St.is undef, St.is undef, St.is (Go.Value.bool true), St.is (Go.Value.bool true), St.pred (fun v' w' => w'.rangeAt w.heap.size 0 [.int .i64 0, .int .i64 0, .int .i64 s, .bool m, .int .i64 0, .bool false, .slice none 0 0]) (fun _ _ _ h q => h.fin q), St.is (Go.Value.bool true)] (by kernel_rfl) (by kernel_rfl) (TR.refl _ _ _) (TR.trans _ _ _) ⟨?s0, ?s1, ?s2, ?s3, ?s4, ?s5, ?s6, ?s7, ?s8, ?s9, ?s10, ?s11, ?s12, ?s13, ?s14, ?s15, ?s16, ?s17, ?s18, ?s19, trivial⟩ ?hfin
  case s0 =>
    intro a w' K hT hf hw hK
    refine step_free rfl ?_
    have h5 : a.tmps[5]?.getD undef = .pointer (some ⟨w1.heap.size, 0, none⟩) := hf 5 (by kernel_rfl)
    clear hf hw
    have hcell : ∀ j, w'.cell? ⟨w1.heap.size, j, none⟩ = (w1.alloc (.cells #[.int .i64 0, .int .i64 0, .int .i64 s, .bool m, .int .i64 0, .bool false, .slice none 0 0] 24)).cell? ⟨w1.heap.size, j, none⟩ := fun j => hT.cell (by simp) (Ne.symm hne)
    go_simp
    exact hK _ _ (TR.refl _ _ _ _) rfl
  case s1 =>
    intro a w' K hT hf hw hK
    refine step_free rfl ?_
    have h4 : a.tmps[4]?.getD undef = .iface 44 (.agg #[]) := hf 4 (by kernel_rfl)
    clear hf hw
    go_simp
    exact hK _ _ (TR.refl _ _ _ _) rfl
  case s2 =>
    intro a w' K hT hf hw hK
    refine step_free rfl ?_
    have h5 : a.tmps[5]?.getD undef = .pointer (some ⟨w1.heap.size, 0, none⟩) := hf 5 (by kernel_rfl)
    clear hf hw
    have hcell : ∀ j, w'.cell? ⟨w1.heap.size, j, none⟩ = (w1.alloc (.cells #[.int .i64 0, .int .i64 0, .int .i64 s, .bool m, .int .i64 0, .bool false, .slice none 0 0] 24)).cell? ⟨w1.heap.size, j, none⟩ := fun j => hT.cell (by simp) (Ne.symm hne)
    go_simp
    exact hK _ _ (TR.refl _ _ _ _) rfl
  case s3 =>
    intro a w' K hT hf hw hK
    refine step_free rfl ?_
    have h22 : a.tmps[22]?.getD undef = .iface 44 (.agg #[]) := hw.1
    have h23 : a.tmps[23]?.getD undef = .agg #[.int .i64 0, .int .i64 0, .int .i64 s, .bool m, .int .i64 0, .bool false, .slice none 0 0] := hw.2.1
    clear hf hw
    have hR : w.heap.size < w'.heap.size := by have := hT.grown.size; simp at this; omega
    go_simp
    refine (control_I _ _ _ _ _ _ _ _ HK.out).mono ?_
    rintro e w2 ⟨rfl, hb2⟩
    exact hK _ _ (TR.of_below hR hb2) rfl
  case s4 =>
    intro a w' K hT hf hw hK
    refine step_free rfl ?_
    have h0 : a.tmps[0]?.getD undef = .int .i64 (c : Int) := hf 0 (by kernel_rfl)
    clear hf hw
    go_simp
    exact hK _ _ (TR.refl _ _ _ _) rfl
  case s5 =>
    intro a w' K hT hf hw hK
    refine step_free rfl ?_
    have h24 : a.tmps[24]?.getD undef = .int .i64 (ctlI s m) := hw.1
    have h25 : a.tmps[25]?.getD undef = .int .i64 (c : Int) := hw.2.1
    clear hf hw
    go_simp
    exact hK _ _ (TR.refl _ _ _ _) rfl
  case s6 =>
    intro a w' K hT hf hw hK
    refine step_free rfl ?_
    have h26 : a.tmps[26]?.getD undef = .bool true := hw.1
    clear hf hw
    go_simp
    exact hK _ _ (TR.refl _ _ _ _) rfl
  case s7 =>
    intro a w' K hT hf hw hK
    have hg : a.tmps[27]?.getD undef = .bool true := hw.1
    refine step_yes rfl rfl hg ?_
    clear hg
    have h4 : a.tmps[4]?.getD undef = .iface 44 (.agg #[]) := hf 4 (by kernel_rfl)
    clear hf hw
    go_simp
    exact hK _ _ (TR.refl _ _ _ _) rfl
  case s8 =>
    intro a w' K hT hf hw hK
    have hg : a.tmps[27]?.getD undef = .bool true := hw.2.1
    refine step_yes rfl rfl hg ?_
    clear hg
    have h28 : a.tmps[28]?.getD undef = .iface 44 (.agg #[]) := hw.1
    clear hf hw
    go_simp
    refine (codes_I _).mono ?_
    rintro e w2 ⟨rfl, rfl⟩
    exact hK _ _ (TR.refl _ _ _ _) rfl
  case s9 =>
    intro a w' K hT hf hw hK
    have hg : a.tmps[27]?.getD undef = .bool true := hw.2.1
    refine step_yes rfl rfl hg ?_
    clear hg
    have h29 : a.tmps[29]?.getD undef = .int .i64 0 := hw.1
    clear hf hw
    go_simp
    exact hK _ _ (TR.refl _ _ _ _) rfl
  case s10 =>
    intro a w' K hT hf hw hK
    have hg : a.tmps[27]?.getD undef = .bool true := hw.2.2.1
    refine step_yes rfl rfl hg ?_
    clear hg
    have h30 : a.tmps[30]?.getD undef = .bool true := hw.1
    clear hf hw
    go_simp
    exact hK _ _ (TR.refl _ _ _ _) rfl
  case s11 =>
    intro a w' K hT hf hw hK
    have hg : a.tmps[31]?.getD undef = .bool true := hw.1
    refine step_no rfl rfl (.inl hg) ?_
    exact hK _ _ (TR.refl _ _ _ _) rfl
  case s12 =>
    intro a w' K hT hf hw hK
    have hg : a.tmps[31]?.getD undef = .bool true := hw.2.1
    refine step_no rfl rfl (.inl hg) ?_
    exact hK _ _ (TR.refl _ _ _ _) rfl
  case s13 =>
    intro a w' K hT hf hw hK
    have hg : a.tmps[31]?.getD undef = .bool true := hw.1
    refine step_no rfl rfl (.inl hg) ?_
    exact hK _ _ (TR.refl _ _ _ _) rfl
  case s14 =>
    intro a w' K hT hf hw hK
    have hg : a.tmps[31]?.getD undef = .bool true := hw.2.1
    refine step_no rfl rfl (.inl hg) ?_
    exact hK _ _ (TR.refl _ _ _ _) rfl
  case s15 =>
    intro a w' K hT hf hw hK
    have hg : a.tmps[31]?.getD undef = .bool true := hw.2.2.1
    refine step_no rfl rfl (.inl hg) ?_
    exact hK _ _ (TR.refl _ _ _ _) rfl
  case s16 =>
    intro a w' K hT hf hw hK
    have hg : a.tmps[27]?.getD undef = .bool true := hw.2.2.1
    refine step_yes rfl rfl hg ?_
    clear hg
    have h31 : a.tmps[31]?.getD undef = .bool true := hw.1
    have h36 : a.tmps[36]?.getD undef = undef := hw.2.1
    clear hf hw
    go_simp
    exact hK _ _ (TR.refl _ _ _ _) rfl
  case s17 =>
    intro a w' K hT hf hw hK
    refine step_free rfl ?_
    have h27 : a.tmps[27]?.getD undef = .bool true := hw.1
    have h37 : a.tmps[37]?.getD undef = Go.Value.bool true := hw.2.1
    clear hf hw
    go_simp
    exact hK _ _ (TR.refl _ _ _ _) rfl
  case s18 =>
    intro a w' K hT hf hw hK
    refine step_free rfl ?_
    have h2 : a.tmps[2]?.getD undef = .pointer (some ⟨w.heap.size, 0, none⟩) := hf 2 (by kernel_rfl)
    have h21 : a.tmps[21]?.getD undef = .agg #[.int .i64 0, .int .i64 0, .int .i64 s, .bool m, .int .i64 0, .bool false, .slice none 0 0] := hw.1
    exact wp_store_mid 24 _ _ rfl w.heap.size 0 #[.int .i64 0, .int .i64 0, .int .i64 s, .bool m, .int .i64 0, .bool false, .slice none 0 0] (eval_tmp a 2 h2) (eval_tmp a 21 h21) (hT.there hth) (by kernel_rfl) (by simp [Value.oneCell']) (hK _ _ (TR.store (hT.there hth) rfl).1 (TR.store (hT.there hth) rfl).2)
  case s19 =>
    intro a w' K hT hf hw hK
    refine step_free rfl ?_
    have h38 : a.tmps[38]?.getD undef = Go.Value.bool true := hw.1
    clear hf hw
    go_simp
    exact hK _ _ (TR.refl _ _ _ _) rfl
  case hfin =>
    rintro vs w' hT ⟨f0, f1, f2, f3, f4, f5, f6, f7, f8, f9, f10, f11, f12, f13, f14, f15, f16, f17, f18, f19, -⟩
    have e0 : vs 0 = .agg #[.int .i64 0, .int .i64 0, .int .i64 s, .bool m, .int .i64 0, .bool false, .slice none 0 0] := f0
    have e1 : vs 1 = .iface 44 (.agg #[]) := f1
    have e2 : vs 2 = .agg #[.int .i64 0, .int .i64 0, .int .i64 s, .bool m, .int .i64 0, .bool false, .slice none 0 0] := f2
    have e3 : vs 3 = .int .i64 (ctlI s m) := f3
    have e4 : vs 4 = .int .i64 (c : Int) := f4
    have e5 : vs 5 = .bool true := f5
    have e6 : vs 6 = .bool true := f6
    have e7 : vs 7 = .iface 44 (.agg #[]) := f7
    have e8 : vs 8 = .int .i64 0 := f8
    have e9 : vs 9 = .bool true := f9
    have e10 : vs 10 = .bool true := f10
    have e11 : vs 11 = undef := f11
    have e12 : vs 12 = undef := f12
    have e13 : vs 13 = undef := f13
    have e14 : vs 14 = undef := f14
    have e15 : vs 15 = undef := f15
    have e16 : vs 16 = Go.Value.bool true := f16
    have e17 : vs 17 = Go.Value.bool true := f17
    have e19 : vs 19 = Go.Value.bool true := f19
    simp only [putsAt, Act.put, e0, e1, e2, e3, e4, e5, e6, e7, e8, e9, e10, e11, e12, e13, e14, e15, e16, e17, e19]
    simp only [List.setIfInBounds_toArray, List.set_cons_succ, List.set_cons_zero]
    clear e0 e1 e2 e3 e4 e5 e6 e7 e8 e9 e10 e11 e12 e13 e14 e15 e16 e17 e19 f0 f1 f2 f3 f4 f5 f6 f7 f8 f9 f10 f11 f12 f13 f14 f15 f16 f17 f19
    have hr : w'.rangeAt w.heap.size 0 [.int .i64 0, .int .i64 0, .int .i64 s, .bool m, .int .i64 0, .bool false, .slice none 0 0] := f18
    clear f18
    go_wp2_with fail
    refine bodyPost_ret (results_cell_tmp rfl _ _ w.heap.size 0 [.int .i64 0, .int .i64 0, .int .i64 s, .bool m, .int .i64 0, .bool false, .slice none 0 0] _ rfl hr Try.underlying24 rfl (by kernel_rfl)) rfl ⟨rfl, ?_⟩
    exact hT.below (hw1.alloc hw1.size _).drew (Nat.le_refl _) rfl

set_option maxHeartbeats 2000000 in
theorem bparse_I_no (c : Nat) (hc : c < 128) (hok : ¬ c % 32 = 0) (w : World) :
    Calls Try.prog 30 #[.int .i64 (c : Int)] w
      fun e w' => e = .returned (.tuple #[.agg (blkC c).toArray, .bool (okC c)]) ∧ Below w.heap.size w w' := by
  have ho : okC c = false := by unfold okC; rw [if_pos hc]; simp; omega
  have hbl : blkC c = [.int .i64 0, .int .i64 0, .int .i64 (c / 64 : Nat), .bool (decide (c / 32 % 2 = 1)), .int .i64 0, .bool false, .slice none 0 0] := by unfold blkC; rw [if_pos hc]
  rw [ho, hbl]
  clear ho hbl
  have h1 := byte_and192 c (by omega)
  have h192 : (bits .and .i64 (c : Int) 192 == 192) = false := by rw [h1, beq_eq_false_iff_ne]; omega
  have h128 : (bits .and .i64 (c : Int) 192 == 128) = false := by rw [h1, beq_eq_false_iff_ne]; omega
  clear h1
  have hq : ctlI ((c / 64 : Nat) : Int) (decide (c / 32 % 2 = 1)) = (64 * (c / 64) + (if c / 32 % 2 = 1 then 32 else 0) : Nat) := by unfold ctlI; split <;> simp_all
  have h01 : ((c / 64 : Nat) : Int) = 0 ∨ ((c / 64 : Nat) : Int) = 1 := by omega
  have heq : (ctlI ((c / 64 : Nat) : Int) (decide (c / 32 % 2 = 1)) == (c : Int)) = false := by
    rw [hq, beq_eq_false_iff_ne]; split <;> omega
  have hP : ∀ W, Calls Try.prog 57 #[.agg #[], .int .i64 (c : Int)] W fun e w' => e = .returned (.agg #[.int .i64 0, .int .i64 0, .int .i64 (c / 64 : Nat), .bool (decide (c / 32 % 2 = 1)), .int .i64 0, .bool false, .slice none 0 0]) ∧ Below W.heap.size W w' := fun W => parse_I c hc W
  clear hq hok hc
  generalize hs : ((c / 64 : Nat) : Int) = s at *
  generalize hm : decide (c / 32 % 2 = 1) = m at *
  have HK := Lib.hid h01
  clear h01 hs hm
  have HP := Lib.hid hP
  clear hP
  go_enter Try.func30, Try.ntmps30
  go_wp2_with fail
  refine (HP.out _).mono ?_
  rintro e w1 ⟨rfl, hb⟩
  obtain ⟨hc1, hf1⟩ := bcell hb
  have hz : w.heap.size < w1.heap.size := by have := hb.size; simp at this; omega
  have hne : w.heap.size ≠ w1.heap.size := by omega
  go_wp2_with fail
  have hw1 : Below w.heap.size w w1 := ((Below.refl _ _).alloc (Nat.le_refl _) _).trans (hb.mono (by simp))
  have hth : (w1.alloc (.cells #[.int .i64 0, .int .i64 0, .int .i64 s, .bool m, .int .i64 0, .bool false, .slice none 0 0] 24)).drew.there w.heap.size 0 7 := by
    refine there_of_cells (cs := #[.int .i64 0, .int .i64 0, .int .i64 0, .bool false, .int .i64 0, .bool false, .slice none 0 0]) (t := 24) ?_ rfl
    show (w1.alloc _).heap[w.heap.size]? = _
    rw [Below.heap_alloc _ _ _ hz, hb.block _ (by simp)]
    exact heap_alloc_new w _
  refine wp_region_list' (T := TR w.heap.size 7 [.int .i64 0, .int .i64 0, .int .i64 s, .bool m, .int .i64 0, .bool false, .slice none 0 0]) [St.is (.agg #[.int .i64 0, .int .i64 0, .int .i64 s, .bool m, .int .i64 0, .bool false, .slice none 0 0]), St.is (.iface 44 (.agg #[])), St.is (.agg #[.int .i64 0, .int .i64 0, .int .i64 s, .bool m, .int .i64 0, .bool false, .slice none 0 0]), St.is (.int .i64 (ctlI s m)), St.is (.int .i64 (c : Int)), St.is (.bool false), St.is (.bool false), St.is undef, St.is undef, St.is undef, St.is undef, St.is undef, St.is undef, St.is undef, St.is undef, St.is undef, St.is undef, St.is (Go.Value.bool false), St.pred (fun v' w' => w'.rangeAt w.heap.size 0 [.int .i64 0, .int .i64 0, .int .i64 s, .bool m, .int .i64 0, .bool false, .slice none 0 0]) (fun _ _ _ h q => h.fin q), St.is (Go.Value.bool false)] (by kernel_rfl) (by kernel_rfl) (TR.refl _ _ _) (TR.trans _ _ _) ⟨?s0, ?s1, ?s2, ?s3, ?s4, ?s5, ?s6, ?s7, ?s8, ?s9, ?s10, ?s11, ?s12, ?s13, ?s14, ?s15, ?s16, ?s17, ?s18, ?s19, trivial⟩ ?hfin
  case s0 =>
    intro a w' K hT hf hw hK
    refine step_free rfl ?_
    have h5 : a.tmps[5]?.getD undef = .pointer (some ⟨w1.heap.size, 0, none⟩) := hf 5 (by kernel_rfl)
    clear hf hw
    have hcell : ∀ j, w'.cell? ⟨w1.heap.size, j, none⟩ = (w1.alloc (.cells #[.int .i64 0, .int .i64 0, .int .i64 s, .bool m, .int .i64 0, .bool false, .slice none 0 0] 24)).cell? ⟨w1.heap.size, j, none⟩ := fun j => hT.cell (by simp) (Ne.symm hne)
    go_simp
    exact hK _ _ (TR.refl _ _ _ _) rfl
  case s1 =>
    intro a w' K hT hf hw hK
    refine step_free rfl ?_
    have h4 : a.tmps[4]?.getD undef = .iface 44 (.agg #[]) := hf 4 (by kernel_rfl)
    clear hf hw
    go_simp
    exact hK _ _ (TR.refl _ _ _ _) rfl
  case s2 =>
    intro a w' K hT hf hw hK
    refine step_free rfl ?_
    have h5 : a.tmps[5]?.getD undef = .pointer (some ⟨w1.heap.size, 0, none⟩) := hf 5 (by kernel_rfl)
    clear hf hw
    have hcell : ∀ j, w'.cell? ⟨w1.heap.size, j, none⟩ = (w1.alloc (.cells #[.int .i64 0, .int .i64 0, .int .i64 s, .bool m, .int .i64 0, .bool false, .slice none 0 0] 24)).cell? ⟨w1.heap.size, j, none⟩ := fun j => hT.cell (by simp) (Ne.symm hne)
    go_simp
    exact hK _ _ (TR.refl _ _ _ _) rfl
  case s3 =>
    intro a w' K hT hf hw hK
    refine step_free rfl ?_
    have h22 : a.tmps[22]?.getD undef = .iface 44 (.agg #[]) := hw.1
    have h23 : a.tmps[23]?.getD undef = .agg #[.int .i64 0, .int .i64 0, .int .i64 s, .bool m, .int .i64 0, .bool false, .slice none 0 0] := hw.2.1
    clear hf hw
    have hR : w.heap.size < w'.heap.size := by have := hT.grown.size; simp at this; omega
    go_simp
    refine (control_I _ _ _ _ _ _ _ _ HK.out).mono ?_
    rintro e w2 ⟨rfl, hb2⟩
    exact hK _ _ (TR.of_below hR hb2) rfl
  case s4 =>
    intro a w' K hT hf hw hK
    refine step_free rfl ?_
    have h0 : a.tmps[0]?.getD undef = .int .i64 (c : Int) := hf 0 (by kernel_rfl)
    clear hf hw
    go_simp
    exact hK _ _ (TR.refl _ _ _ _) rfl
  case s5 =>
    intro a w' K hT hf hw hK
    refine step_free rfl ?_
    have h24 : a.tmps[24]?.getD undef = .int .i64 (ctlI s m) := hw.1
    have h25 : a.tmps[25]?.getD undef = .int .i64 (c : Int) := hw.2.1
    clear hf hw
    go_simp
    exact hK _ _ (TR.refl _ _ _ _) rfl
  case s6 =>
    intro a w' K hT hf hw hK
    refine step_free rfl ?_
    have h26 : a.tmps[26]?.getD undef = .bool false := hw.1
    clear hf hw
    go_simp
    exact hK _ _ (TR.refl _ _ _ _) rfl
  case s7 =>
    intro a w' K hT hf hw hK
    have hg : a.tmps[27]?.getD undef = .bool false := hw.1
    refine step_no rfl rfl (.inl hg) ?_
    exact hK _ _ (TR.refl _ _ _ _) rfl
  case s8 =>
    intro a w' K hT hf hw hK
    have hg : a.tmps[27]?.getD undef = .bool false := hw.2.1
    refine step_no rfl rfl (.inl hg) ?_
    exact hK _ _ (TR.refl _ _ _ _) rfl
  case s9 =>
    intro a w' K hT hf hw hK
    have hg : a.tmps[27]?.getD undef = .bool false := hw.2.1
    refine step_no rfl rfl (.inl hg) ?_
    exact hK _ _ (TR.refl _ _ _ _) rfl
  case s10 =>
    intro a w' K hT hf hw hK
    have hg : a.tmps[27]?.getD undef = .bool false := hw.2.2.1
    refine step_no rfl rfl (.inl hg) ?_
    exact hK _ _ (TR.refl _ _ _ _) rfl
  case s11 =>
    intro a w' K hT hf hw hK
    have hg : a.tmps[31]?.getD undef = undef := hw.1
    refine step_no rfl rfl (.inr hg) ?_
    exact hK _ _ (TR.refl _ _ _ _) rfl
  case s12 =>
    intro a w' K hT hf hw hK
    have hg : a.tmps[31]?.getD undef = undef := hw.2.1
    refine step_no rfl rfl (.inr hg) ?_
    exact hK _ _ (TR.refl _ _ _ _) rfl
  case s13 =>
    intro a w' K hT hf hw hK
    have hg : a.tmps[31]?.getD undef = undef := hw.1
    refine step_no rfl rfl (.inr hg) ?_
    exact hK _ _ (TR.refl _ _ _ _) rfl
  case s14 =>
    intro a w' K hT hf hw hK
    have hg : a.tmps[31]?.getD undef = undef := hw.2.1
    refine step_no rfl rfl (.inr hg) ?_
    exact hK _ _ (TR.refl _ _ _ _) rfl
  case s15 =>
    intro a w' K hT hf hw hK
    have hg : a.tmps[31]?.getD undef = undef := hw.2.2.1
    refine step_no rfl rfl (.inr hg) ?_
    exact hK _ _ (TR.refl _ _ _ _) rfl
  case s16 =>
    intro a w' K hT hf hw hK
    have hg : a.tmps[27]?.getD undef = .bool false := hw.2.2.1
    refine step_no rfl rfl (.inl hg) ?_
    exact hK _ _ (TR.refl _ _ _ _) rfl
  case s17 =>
    intro a w' K hT hf hw hK
    refine step_free rfl ?_
    have h27 : a.tmps[27]?.getD undef = .bool false := hw.1
    have h37 : a.tmps[37]?.getD undef = undef := hw.2.1
    clear hf hw
    go_simp
    exact hK _ _ (TR.refl _ _ _ _) rfl
  case s18 =>
    intro a w' K hT hf hw hK
    refine step_free rfl ?_
    have h2 : a.tmps[2]?.getD undef = .pointer (some ⟨w.heap.size, 0, none⟩) := hf 2 (by kernel_rfl)
    have h21 : a.tmps[21]?.getD undef = .agg #[.int .i64 0, .int .i64 0, .int .i64 s, .bool m, .int .i64 0, .bool false, .slice none 0 0] := hw.1
    exact wp_store_mid 24 _ _ rfl w.heap.size 0 #[.int .i64 0, .int .i64 0, .int .i64 s, .bool m, .int .i64 0, .bool false, .slice none 0 0] (eval_tmp a 2 h2) (eval_tmp a 21 h21) (hT.there hth) (by kernel_rfl) (by simp [Value.oneCell']) (hK _ _ (TR.store (hT.there hth) rfl).1 (TR.store (hT.there hth) rfl).2)
  case s19 =>
    intro a w' K hT hf hw hK
    refine step_free rfl ?_
    have h38 : a.tmps[38]?.getD undef = Go.Value.bool false := hw.1
    clear hf hw
    go_simp
    exact hK _ _ (TR.refl _ _ _ _) rfl
  case hfin =>
    rintro vs w' hT ⟨f0, f1, f2, f3, f4, f5, f6, f7, f8, f9, f10, f11, f12, f13, f14, f15, f16, f17, f18, f19, -⟩
    have e0 : vs 0 = .agg #[.int .i64 0, .int .i64 0, .int .i64 s, .bool m, .int .i64 0, .bool false, .slice none 0 0] := f0
    have e1 : vs 1 = .iface 44 (.agg #[]) := f1
    have e2 : vs 2 = .agg #[.int .i64 0, .int .i64 0, .int .i64 s, .bool m, .int .i64 0, .bool false, .slice none 0 0] := f2
    have e3 : vs 3 = .int .i64 (ctlI s m) := f3
    have e4 : vs 4 = .int .i64 (c : Int) := f4
    have e5 : vs 5 = .bool false := f5
    have e6 : vs 6 = .bool false := f6
    have e7 : vs 7 = undef := f7
    have e8 : vs 8 = undef := f8
    have e9 : vs 9 = undef := f9
    have e10 : vs 10 = undef := f10
    have e11 : vs 11 = undef := f11
    have e12 : vs 12 = undef := f12
    have e13 : vs 13 = undef := f13
    have e14 : vs 14 = undef := f14
    have e15 : vs 15 = undef := f15
    have e16 : vs 16 = undef := f16
    have e17 : vs 17 = Go.Value.bool false := f17
    have e19 : vs 19 = Go.Value.bool false := f19
    simp only [putsAt, Act.put, e0, e1, e2, e3, e4, e5, e6, e7, e8, e9, e10, e11, e12, e13, e14, e15, e16, e17, e19]
    simp only [List.setIfInBounds_toArray, List.set_cons_succ, List.set_cons_zero]
    clear e0 e1 e2 e3 e4 e5 e6 e7 e8 e9 e10 e11 e12 e13 e14 e15 e16 e17 e19 f0 f1 f2 f3 f4 f5 f6 f7 f8 f9 f10 f11 f12 f13 f14 f15 f16 f17 f19
    have hr : w'.rangeAt w.heap.size 0 [.int .i64 0, .int .i64 0, .int .i64 s, .bool m, .int .i64 0, .bool false, .slice none 0 0] := f18
    clear f18
    go_wp2_with fail
    refine bodyPost_ret (results_cell_tmp rfl _ _ w.heap.size 0 [.int .i64 0, .int .i64 0, .int .i64 s, .bool m, .int .i64 0, .bool false, .slice none 0 0] _ rfl hr Try.underlying24 rfl (by kernel_rfl)) rfl ⟨rfl, ?_⟩
    exact hT.below (hw1.alloc hw1.size _).drew (Nat.le_refl _) rfl

set_option maxHeartbeats 2000000 in
theorem bparse_R_ok (c : Nat) (h0 : 128 ≤ c) (hc : c < 192) (hok : c < 160 ∧ c % 16 < 3) (w : World) :
    Calls Try.prog 30 #[.int .i64 (c : Int)] w
      fun e w' => e = .returned (.tuple #[.agg (blkC c).toArray, .bool (okC c)]) ∧ Below w.heap.size w w' := by
  have ho : okC c = true := by unfold okC; rw [if_neg (by omega), if_pos hc]; simp; omega
  have hbl : blkC c = [.int .i64 0, .int .i64 1, .int .i64 (c / 16 % 2 : Nat), .bool false, .int .i64 (c % 4 : Nat), .bool false, .slice none 0 0] := by unfold blkC; rw [if_neg (by omega), if_pos hc]
  rw [ho, hbl]
  clear ho hbl
  have h1 := byte_and192 c (by omega)
  rw [show c / 64 * 64 = 128 by omega] at h1
  have hq : ctlR ((c / 16 % 2 : Nat) : Int) ((c % 4 : Nat) : Int) = (128 + 16 * (c / 16 % 2) + c % 4 : Nat) := by unfold ctlR; omega
  have h01 : ((c / 16 % 2 : Nat) : Int) = 0 ∨ ((c / 16 % 2 : Nat) : Int) = 1 := by omega
  have h4 : ((c % 4 : Nat) : Int) = 0 ∨ ((c % 4 : Nat) : Int) = 1 ∨ ((c % 4 : Nat) : Int) = 2 ∨ ((c % 4 : Nat) : Int) = 3 := by omega
  have heq : (ctlR ((c / 16 % 2 : Nat) : Int) ((c % 4 : Nat) : Int) == (c : Int)) = true := by
    rw [hq, beq_iff_eq]; omega
  have hlt : ((c % 4 : Nat) : Int) < 3 := by omega
  have hP : ∀ W, Calls Try.prog 79 #[.agg #[], .int .i64 (c : Int)] W fun e w' => e = .returned (.agg #[.int .i64 0, .int .i64 1, .int .i64 (c / 16 % 2 : Nat), .bool false, .int .i64 (c % 4 : Nat), .bool false, .slice none 0 0]) ∧ Below W.heap.size W w' := fun W => parse_R c (by omega) W
  clear hq hok h0 hc
  generalize hs : ((c / 16 % 2 : Nat) : Int) = s at *
  generalize hk : ((c % 4 : Nat) : Int) = k at *
  have HK := Lib.hid (And.intro h01 h4)
  clear h01 h4 hs hk
  have HP := Lib.hid hP
  clear hP
  go_enter Try.func30, Try.ntmps30
  go_wp2_with fail
  refine (HP.out _).mono ?_
  rintro e w1 ⟨rfl, hb⟩
  obtain ⟨hc1, hf1⟩ := bcell hb
  have hz : w.heap.size < w1.heap.size := by have := hb.size; simp at this; omega
  have hne : w.heap.size ≠ w1.heap.size := by omega
  go_wp2_with fail
  have hw1 : Below w.heap.size w w1 := ((Below.refl _ _).alloc (Nat.le_refl _) _).trans (hb.mono (by simp))
  have hth : (w1.alloc (.cells #[.int .i64 0, .int .i64 1, .int .i64 s, .bool false, .int .i64 k, .bool false, .slice none 0 0] 24)).drew.there w.heap.size 0 7 := by
    refine there_of_cells (cs := #[.int .i64 0, .int .i64 0, .int .i64 0, .bool false, .int .i64 0, .bool false, .slice none 0 0]) (t := 24) ?_ rfl
    show (w1.alloc _).heap[w.heap.size]? = _
    rw [Below.heap_alloc _ _ _ hz, hb.block _ (by simp)]
    exact heap_alloc_new w _
  refine wp_region_list' (T := TR w.heap.size 7 [.int .i64 0, .int .i64 1, .int .i64 s, .bool false, .int .i64 k, .bool false, .slice none 0 0]) [St.is (.agg #[.int .i64 0, .int .i64 1, .int .i64 s, .bool false, .int .i64 k, .bool false, .slice none 0 0]), St.is (.iface 50 (.agg #[])), St.is (.agg #[.int .i64 0, .int .i64 1, .int .i64 s, .bool false, .int .i64 k, .bool false, .slice none 0 0]), St.is (.int .i64 (ctlR s k)), St.is (.int .i64 (c : Int)), St.is (.bool true), St.is (.bool true), St.is (.iface 50 (.agg #[])), St.is (.int .i64 3), St.is (.bool false), St.is (.bool false), St.is (.pointer (some ⟨w1.heap.size, 4, none⟩)), St.is (.int .i64 k), St.is (.iface 50 (.agg #[])), St.is (.int .i64 3), St.is (.bool true), St.is (.bool true), St.is (.bool true), St.pred (fun v' w' => w'.rangeAt w.heap.size 0 [.int .i64 0, .int .i64 1, .int .i64 s, .bool false, .int .i64 k, .bool false, .slice none 0 0]) (fun _ _ _ h q => h.fin q), St.is (.bool true)] (by kernel_rfl) (by kernel_rfl) (TR.refl _ _ _) (TR.trans _ _ _) ⟨?s0, ?s1, ?s2, ?s3, ?s4, ?s5, ?s6, ?s7, ?s8, ?s9, ?s10, ?s11, ?s12, ?s13, ?s14, ?s15, ?s16, ?s17, ?s18, ?s19, trivial⟩ ?hfin
  case s0 =>
    intro a w' K hT hf hw hK
    refine step_free rfl ?_
    have h5 : a.tmps[5]?.getD undef = .pointer (some ⟨w1.heap.size, 0, none⟩) := hf 5 (by kernel_rfl)
    clear hf hw
    have hcell : ∀ j, w'.cell? ⟨w1.heap.size, j, none⟩ = (w1.alloc (.cells #[.int .i64 0, .int .i64 1, .int .i64 s, .bool false, .int .i64 k, .bool false, .slice none 0 0] 24)).cell? ⟨w1.heap.size, j, none⟩ := fun j => hT.cell (by simp) (Ne.symm hne)
    go_simp
    exact hK _ _ (TR.refl _ _ _ _) rfl
  case s1 =>
    intro a w' K hT hf hw hK
    refine step_free rfl ?_
    have h4 : a.tmps[4]?.getD undef = .iface 50 (.agg #[]) := hf 4 (by kernel_rfl)
    clear hf hw
    go_simp
    exact hK _ _ (TR.refl _ _ _ _) rfl
  case s2 =>
    intro a w' K hT hf hw hK
    refine step_free rfl ?_
    have h5 : a.tmps[5]?.getD undef = .pointer (some ⟨w1.heap.size, 0, none⟩) := hf 5 (by kernel_rfl)
    clear hf hw
    have hcell : ∀ j, w'.cell? ⟨w1.heap.size, j, none⟩ = (w1.alloc (.cells #[.int .i64 0, .int .i64 1, .int .i64 s, .bool false, .int .i64 k, .bool false, .slice none 0 0] 24)).cell? ⟨w1.heap.size, j, none⟩ := fun j => hT.cell (by simp) (Ne.symm hne)
    go_simp
    exact hK _ _ (TR.refl _ _ _ _) rfl
  case s3 =>
    intro a w' K hT hf hw hK
    refine step_free rfl ?_
    have h22 : a.tmps[22]?.getD undef = .iface 50 (.agg #[]) := hw.1
    have h23 : a.tmps[23]?.getD undef = .agg #[.int .i64 0, .int .i64 1, .int .i64 s, .bool false, .int .i64 k, .bool false, .slice none 0 0] := hw.2.1
    clear hf hw
    have hR : w.heap.size < w'.heap.size := by have := hT.grown.size; simp at this; omega
    go_simp
    refine (control_R _ _ _ _ _ _ _ _ HK.out.1 HK.out.2).mono ?_
    rintro e w2 ⟨rfl, hb2⟩
    exact hK _ _ (TR.of_below hR hb2) rfl
  case s4 =>
    intro a w' K hT hf hw hK
    refine step_free rfl ?_
    have h0 : a.tmps[0]?.getD undef = .int .i64 (c : Int) := hf 0 (by kernel_rfl)
    clear hf hw
    go_simp
    exact hK _ _ (TR.refl _ _ _ _) rfl
  case s5 =>
    intro a w' K hT hf hw hK
    refine step_free rfl ?_
    have h24 : a.tmps[24]?.getD undef = .int .i64 (ctlR s k) := hw.1
    have h25 : a.tmps[25]?.getD undef = .int .i64 (c : Int) := hw.2.1
    clear hf hw
    go_simp
    exact hK _ _ (TR.refl _ _ _ _) rfl
  case s6 =>
    intro a w' K hT hf hw hK
    refine step_free rfl ?_
    have h26 : a.tmps[26]?.getD undef = .bool true := hw.1
    clear hf hw
    go_simp
    exact hK _ _ (TR.refl _ _ _ _) rfl
  case s7 =>
    intro a w' K hT hf hw hK
    have hg : a.tmps[27]?.getD undef = .bool true := hw.1
    refine step_yes rfl rfl hg ?_
    clear hg
    have h4 : a.tmps[4]?.getD undef = .iface 50 (.agg #[]) := hf 4 (by kernel_rfl)
    clear hf hw
    go_simp
    exact hK _ _ (TR.refl _ _ _ _) rfl
  case s8 =>
    intro a w' K hT hf hw hK
    have hg : a.tmps[27]?.getD undef = .bool true := hw.2.1
    refine step_yes rfl rfl hg ?_
    clear hg
    have h28 : a.tmps[28]?.getD undef = .iface 50 (.agg #[]) := hw.1
    clear hf hw
    go_simp
    refine (codes_R _).mono ?_
    rintro e w2 ⟨rfl, rfl⟩
    exact hK _ _ (TR.refl _ _ _ _) rfl
  case s9 =>
    intro a w' K hT hf hw hK
    have hg : a.tmps[27]?.getD undef = .bool true := hw.2.1
    refine step_yes rfl rfl hg ?_
    clear hg
    have h29 : a.tmps[29]?.getD undef = .int .i64 3 := hw.1
    clear hf hw
    go_simp
    exact hK _ _ (TR.refl _ _ _ _) rfl
  case s10 =>
    intro a w' K hT hf hw hK
    have hg : a.tmps[27]?.getD undef = .bool true := hw.2.2.1
    refine step_yes rfl rfl hg ?_
    clear hg
    have h30 : a.tmps[30]?.getD undef = .bool false := hw.1
    clear hf hw
    go_simp
    exact hK _ _ (TR.refl _ _ _ _) rfl
  case s11 =>
    intro a w' K hT hf hw hK
    have hg : a.tmps[31]?.getD undef = .bool false := hw.1
    refine step_yes rfl rfl hg ?_
    clear hg
    have h5 : a.tmps[5]?.getD undef = .pointer (some ⟨w1.heap.size, 0, none⟩) := hf 5 (by kernel_rfl)
    clear hf hw
    go_simp
    exact hK _ _ (TR.refl _ _ _ _) rfl
  case s12 =>
    intro a w' K hT hf hw hK
    have hg : a.tmps[31]?.getD undef = .bool false := hw.2.1
    refine step_yes rfl rfl hg ?_
    clear hg
    have h32 : a.tmps[32]?.getD undef = .pointer (some ⟨w1.heap.size, 4, none⟩) := hw.1
    clear hf hw
    have hcell : ∀ j, w'.cell? ⟨w1.heap.size, j, none⟩ = (w1.alloc (.cells #[.int .i64 0, .int .i64 1, .int .i64 s, .bool false, .int .i64 k, .bool false, .slice none 0 0] 24)).cell? ⟨w1.heap.size, j, none⟩ := fun j => hT.cell (by simp) (Ne.symm hne)
    go_simp
    exact hK _ _ (TR.refl _ _ _ _) rfl
  case s13 =>
    intro a w' K hT hf hw hK
    have hg : a.tmps[31]?.getD undef = .bool false := hw.1
    refine step_yes rfl rfl hg ?_
    clear hg
    have h4 : a.tmps[4]?.getD undef = .iface 50 (.agg #[]) := hf 4 (by kernel_rfl)
    clear hf hw
    go_simp
    exact hK _ _ (TR.refl _ _ _ _) rfl
  case s14 =>
    intro a w' K hT hf hw hK
    have hg : a.tmps[31]?.getD undef = .bool false := hw.2.1
    refine step_yes rfl rfl hg ?_
    clear hg
    have h34 : a.tmps[34]?.getD undef = .iface 50 (.agg #[]) := hw.1
    clear hf hw
    go_simp
    refine (codes_R _).mono ?_
    rintro e w2 ⟨rfl, rfl⟩
    exact hK _ _ (TR.refl _ _ _ _) rfl
  case s15 =>
    intro a w' K hT hf hw hK
    have hg : a.tmps[31]?.getD undef = .bool false := hw.2.2.1
    refine step_yes rfl rfl hg ?_
    clear hg
    have h33 : a.tmps[33]?.getD undef = .int .i64 k := hw.1
    have h35 : a.tmps[35]?.getD undef = .int .i64 3 := hw.2.1
    clear hf hw
    go_simp
    exact hK _ _ (TR.refl _ _ _ _) rfl
  case s16 =>
    intro a w' K hT hf hw hK
    have hg : a.tmps[27]?.getD undef = .bool true := hw.2.2.1
    refine step_yes rfl rfl hg ?_
    clear hg
    have h31 : a.tmps[31]?.getD undef = .bool false := hw.1
    have h36 : a.tmps[36]?.getD undef = .bool true := hw.2.1
    clear hf hw
    go_simp
    exact hK _ _ (TR.refl _ _ _ _) rfl
  case s17 =>
    intro a w' K hT hf hw hK
    refine step_free rfl ?_
    have h27 : a.tmps[27]?.getD undef = .bool true := hw.1
    have h37 : a.tmps[37]?.getD undef = .bool true := hw.2.1
    clear hf hw
    go_simp
    exact hK _ _ (TR.refl _ _ _ _) rfl
  case s18 =>
    intro a w' K hT hf hw hK
    refine step_free rfl ?_
    have h2 : a.tmps[2]?.getD undef = .pointer (some ⟨w.heap.size, 0, none⟩) := hf 2 (by kernel_rfl)
    have h21 : a.tmps[21]?.getD undef = .agg #[.int .i64 0, .int .i64 1, .int .i64 s, .bool false, .int .i64 k, .bool false, .slice none 0 0] := hw.1
    exact wp_store_mid 24 _ _ rfl w.heap.size 0 #[.int .i64 0, .int .i64 1, .int .i64 s, .bool false, .int .i64 k, .bool false, .slice none 0 0] (eval_tmp a 2 h2) (eval_tmp a 21 h21) (hT.there hth) (by kernel_rfl) (by simp [Value.oneCell']) (hK _ _ (TR.store (hT.there hth) rfl).1 (TR.store (hT.there hth) rfl).2)
  case s19 =>
    intro a w' K hT hf hw hK
    refine step_free rfl ?_
    have h38 : a.tmps[38]?.getD undef = .bool true := hw.1
    clear hf hw
    go_simp
    exact hK _ _ (TR.refl _ _ _ _) rfl
  case hfin =>
    rintro vs w' hT ⟨f0, f1, f2, f3, f4, f5, f6, f7, f8, f9, f10, f11, f12, f13, f14, f15, f16, f17, f18, f19, -⟩
    have e0 : vs 0 = .agg #[.int .i64 0, .int .i64 1, .int .i64 s, .bool false, .int .i64 k, .bool false, .slice none 0 0] := f0
    have e1 : vs 1 = .iface 50 (.agg #[]) := f1
    have e2 : vs 2 = .agg #[.int .i64 0, .int .i64 1, .int .i64 s, .bool false, .int .i64 k, .bool false, .slice none 0 0] := f2
    have e3 : vs 3 = .int .i64 (ctlR s k) := f3
    have e4 : vs 4 = .int .i64 (c : Int) := f4
    have e5 : vs 5 = .bool true := f5
    have e6 : vs 6 = .bool true := f6
    have e7 : vs 7 = .iface 50 (.agg #[]) := f7
    have e8 : vs 8 = .int .i64 3 := f8
    have e9 : vs 9 = .bool false := f9
    have e10 : vs 10 = .bool false := f10
    have e11 : vs 11 = .pointer (some ⟨w1.heap.size, 4, none⟩) := f11
    have e12 : vs 12 = .int .i64 k := f12
    have e13 : vs 13 = .iface 50 (.agg #[]) := f13
    have e14 : vs 14 = .int .i64 3 := f14
    have e15 : vs 15 = .bool true := f15
    have e16 : vs 16 = .bool true := f16
    have e17 : vs 17 = .bool true := f17
    have e19 : vs 19 = .bool true := f19
    simp only [putsAt, Act.put, e0, e1, e2, e3, e4, e5, e6, e7, e8, e9, e10, e11, e12, e13, e14, e15, e16, e17, e19]
    simp only [List.setIfInBounds_toArray, List.set_cons_succ, List.set_cons_zero]
    clear e0 e1 e2 e3 e4 e5 e6 e7 e8 e9 e10 e11 e12 e13 e14 e15 e16 e17 e19 f0 f1 f2 f3 f4 f5 f6 f7 f8 f9 f10 f11 f12 f13 f14 f15 f16 f17 f19
    have hr : w'.rangeAt w.heap.size 0 [.int .i64 0, .int .i64 1, .int .i64 s, .bool false, .int .i64 k, .bool false, .slice none 0 0] := f18
    clear f18
    go_wp2_with fail
    refine bodyPost_ret (results_cell_tmp rfl _ _ w.heap.size 0 [.int .i64 0, .int .i64 1, .int .i64 s, .bool false, .int .i64 k, .bool false, .slice none 0 0] _ rfl hr Try.underlying24 rfl (by kernel_rfl)) rfl ⟨rfl, ?_⟩
    exact hT.below (hw1.alloc hw1.size _).drew (Nat.le_refl _) rfl

set_option maxHeartbeats 2000000 in
theorem bparse_R_no (c : Nat) (h0 : 128 ≤ c) (hc : c < 192) (hok : ¬ (c < 160 ∧ c % 16 < 4)) (w : World) :
    Calls Try.prog 30 #[.int .i64 (c : Int)] w
      fun e w' => e = .returned (.tuple #[.agg (blkC c).toArray, .bool (okC c)]) ∧ Below w.heap.size w w' := by
  have ho : okC c = false := by unfold okC; rw [if_neg (by omega), if_pos hc]; simp; omega
  have hbl : blkC c = [.int .i64 0, .int .i64 1, .int .i64 (c / 16 % 2 : Nat), .bool false, .int .i64 (c % 4 : Nat), .bool false, .slice none 0 0] := by unfold blkC; rw [if_neg (by omega), if_pos hc]
  rw [ho, hbl]
  clear ho hbl
  have h1 := byte_and192 c (by omega)
  rw [show c / 64 * 64 = 128 by omega] at h1
  have hq : ctlR ((c / 16 % 2 : Nat) : Int) ((c % 4 : Nat) : Int) = (128 + 16 * (c / 16 % 2) + c % 4 : Nat) := by unfold ctlR; omega
  have h01 : ((c / 16 % 2 : Nat) : Int) = 0 ∨ ((c / 16 % 2 : Nat) : Int) = 1 := by omega
  have h4 : ((c % 4 : Nat) : Int) = 0 ∨ ((c % 4 : Nat) : Int) = 1 ∨ ((c % 4 : Nat) : Int) = 2 ∨ ((c % 4 : Nat) : Int) = 3 := by omega
  have heq : (ctlR ((c / 16 % 2 : Nat) : Int) ((c % 4 : Nat) : Int) == (c : Int)) = false := by
    rw [hq, beq_eq_false_iff_ne]; omega
  have hP : ∀ W, Calls Try.prog 79 #[.agg #[], .int .i64 (c : Int)] W fun e w' => e = .returned (.agg #[.int .i64 0, .int .i64 1, .int .i64 (c / 16 % 2 : Nat), .bool false, .int .i64 (c % 4 : Nat), .bool false, .slice none 0 0]) ∧ Below W.heap.size W w' := fun W => parse_R c (by omega) W
  clear hq hok h0 hc
  generalize hs : ((c / 16 % 2 : Nat) : Int) = s at *
  generalize hk : ((c % 4 : Nat) : Int) = k at *
  have HK := Lib.hid (And.intro h01 h4)
  clear h01 h4 hs hk
  have HP := Lib.hid hP
  clear hP
  go_enter Try.func30, Try.ntmps30
  go_wp2_with fail
  refine (HP.out _).mono ?_
  rintro e w1 ⟨rfl, hb⟩
  obtain ⟨hc1, hf1⟩ := bcell hb
  have hz : w.heap.size < w1.heap.size := by have := hb.size; simp at this; omega
  have hne : w.heap.size ≠ w1.heap.size := by omega
  go_wp2_with fail
  have hw1 : Below w.heap.size w w1 := ((Below.refl _ _).alloc (Nat.le_refl _) _).trans (hb.mono (by simp))
  have hth : (w1.alloc (.cells #[.int .i64 0, .int .i64 1, .int .i64 s, .bool false, .int .i64 k, .bool false, .slice none 0 0] 24)).drew.there w.heap.size 0 7 := by
    refine there_of_cells (cs := #[.int .i64 0, .int .i64 0, .int .i64 0, .bool false, .int .i64 0, .bool false, .slice none 0 0]) (t := 24) ?_ rfl
    show (w1.alloc _).heap[w.heap.size]? = _
    rw [Below.heap_alloc _ _ _ hz, hb.block _ (by simp)]
    exact heap_alloc_new w _
  refine wp_region_list' (T := TR w.heap.size 7 [.int .i64 0, .int .i64 1, .int .i64 s, .bool false, .int .i64 k, .bool false, .slice none 0 0]) [St.is (.agg #[.int .i64 0, .int .i64 1, .int .i64 s, .bool false, .int .i64 k, .bool false, .slice none 0 0]), St.is (.iface 50 (.agg #[])), St.is (.agg #[.int .i64 0, .int .i64 1, .int .i64 s, .bool false, .int .i64 k, .bool false, .slice none 0 0]), St.is (.int .i64 (ctlR s k)), St.is (.int .i64 (c : Int)), St.is (.bool false), St.is (.bool false), St.is undef, St.is undef, St.is undef, St.is undef, St.is undef, St.is undef, St.is undef, St.is undef, St.is undef, St.is undef, St.is (Go.Value.bool false), St.pred (fun v' w' => w'.rangeAt w.heap.size 0 [.int .i64 0, .int .i64 1, .int .i64 s, .bool false, .int .i64 k, .bool false, .slice none 0 0]) (fun _ _ _ h q => h.fin q), St.is (Go.Value.bool false)] (by kernel_rfl) (by kernel_rfl) (TR.refl _ _ _) (TR.trans _ _ _) ⟨?s0, ?s1, ?s2, ?s3, ?s4, ?s5, ?s6, ?s7, ?s8, ?s9, ?s10, ?s11, ?s12, ?s13, ?s14, ?s15, ?s16, ?s17, ?s18, ?s19, trivial⟩ ?hfin
  case s0 =>
    intro a w' K hT hf hw hK
    refine step_free rfl ?_
    have h5 : a.tmps[5]?.getD undef = .pointer (some ⟨w1.heap.size, 0, none⟩) := hf 5 (by kernel_rfl)
    clear hf hw
    have hcell : ∀ j, w'.cell? ⟨w1.heap.size, j, none⟩ = (w1.alloc (.cells #[.int .i64 0, .int .i64 1, .int .i64 s, .bool false, .int .i64 k, .bool false, .slice none 0 0] 24)).cell? ⟨w1.heap.size, j, none⟩ := fun j => hT.cell (by simp) (Ne.symm hne)
    go_simp
    exact hK _ _ (TR.refl _ _ _ _) rfl
  case s1 =>
    intro a w' K hT hf hw hK
    refine step_free rfl ?_
    have h4 : a.tmps[4]?.getD undef = .iface 50 (.agg #[]) := hf 4 (by kernel_rfl)
    clear hf hw
    go_simp
    exact hK _ _ (TR.refl _ _ _ _) rfl
  case s2 =>
    intro a w' K hT hf hw hK
    refine step_free rfl ?_
    have h5 : a.tmps[5]?.getD undef = .pointer (some ⟨w1.heap.size, 0, none⟩) := hf 5 (by kernel_rfl)
    clear hf hw
    have hcell : ∀ j, w'.cell? ⟨w1.heap.size, j, none⟩ = (w1.alloc (.cells #[.int .i64 0, .int .i64 1, .int .i64 s, .bool false, .int .i64 k, .bool false, .slice none 0 0] 24)).cell? ⟨w1.heap.size, j, none⟩ := fun j => hT.cell (by simp) (Ne.symm hne)
    go_simp
    exact hK _ _ (TR.refl _ _ _ _) rfl
  case s3 =>
    intro a w' K hT hf hw hK
    refine step_free rfl ?_
    have h22 : a.tmps[22]?.getD undef = .iface 50 (.agg #[]) := hw.1
    have h23 : a.tmps[23]?.getD undef = .agg #[.int .i64 0, .int .i64 1, .int .i64 s, .bool false, .int .i64 k, .bool false, .slice none 0 0] := hw.2.1
    clear hf hw
    have hR : w.heap.size < w'.heap.size := by have := hT.grown.size; simp at this; omega
    go_simp
    refine (control_R _ _ _ _ _ _ _ _ HK.out.1 HK.out.2).mono ?_
    rintro e w2 ⟨rfl, hb2⟩
    exact hK _ _ (TR.of_below hR hb2) rfl
  case s4 =>
    intro a w' K hT hf hw hK
    refine step_free rfl ?_
    have h0 : a.tmps[0]?.getD undef = .int .i64 (c : Int) := hf 0 (by kernel_rfl)
    clear hf hw
    go_simp
    exact hK _ _ (TR.refl _ _ _ _) rfl
  case s5 =>
    intro a w' K hT hf hw hK
    refine step_free rfl ?_
    have h24 : a.tmps[24]?.getD undef = .int .i64 (ctlR s k) := hw.1
    have h25 : a.tmps[25]?.getD undef = .int .i64 (c : Int) := hw.2.1
    clear hf hw
    go_simp
    exact hK _ _ (TR.refl _ _ _ _) rfl
  case s6 =>
    intro a w' K hT hf hw hK
    refine step_free rfl ?_
    have h26 : a.tmps[26]?.getD undef = .bool false := hw.1
    clear hf hw
    go_simp
    exact hK _ _ (TR.refl _ _ _ _) rfl
  case s7 =>
    intro a w' K hT hf hw hK
    have hg : a.tmps[27]?.getD undef = .bool false := hw.1
    refine step_no rfl rfl (.inl hg) ?_
    exact hK _ _ (TR.refl _ _ _ _) rfl
  case s8 =>
    intro a w' K hT hf hw hK
    have hg : a.tmps[27]?.getD undef = .bool false := hw.2.1
    refine step_no rfl rfl (.inl hg) ?_
    exact hK _ _ (TR.refl _ _ _ _) rfl
  case s9 =>
    intro a w' K hT hf hw hK
    have hg : a.tmps[27]?.getD undef = .bool false := hw.2.1
    refine step_no rfl rfl (.inl hg) ?_
    exact hK _ _ (TR.refl _ _ _ _) rfl
  case s10 =>
    intro a w' K hT hf hw hK
    have hg : a.tmps[27]?.getD undef = .bool false := hw.2.2.1
    refine step_no rfl rfl (.inl hg) ?_
    exact hK _ _ (TR.refl _ _ _ _) rfl
  case s11 =>
    intro a w' K hT hf hw hK
    have hg : a.tmps[31]?.getD undef = undef := hw.1
    refine step_no rfl rfl (.inr hg) ?_
    exact hK _ _ (TR.refl _ _ _ _) rfl
  case s12 =>
    intro a w' K hT hf hw hK
    have hg : a.tmps[31]?.getD undef = undef := hw.2.1
    refine step_no rfl rfl (.inr hg) ?_
    exact hK _ _ (TR.refl _ _ _ _) rfl
  case s13 =>
    intro a w' K hT hf hw hK
    have hg : a.tmps[31]?.getD undef = undef := hw.1
    refine step_no rfl rfl (.inr hg) ?_
    exact hK _ _ (TR.refl _ _ _ _) rfl
  case s14 =>
    intro a w' K hT hf hw hK
    have hg : a.tmps[31]?.getD undef = undef := hw.2.1
    refine step_no rfl rfl (.inr hg) ?_
    exact hK _ _ (TR.refl _ _ _ _) rfl
  case s15 =>
    intro a w' K hT hf hw hK
    have hg : a.tmps[31]?.getD undef = undef := hw.2.2.1
    refine step_no rfl rfl (.inr hg) ?_
    exact hK _ _ (TR.refl _ _ _ _) rfl
  case s16 =>
    intro a w' K hT hf hw hK
    have hg : a.tmps[27]?.getD undef = .bool false := hw.2.2.1
    refine step_no rfl rfl (.inl hg) ?_
    exact hK _ _ (TR.refl _ _ _ _) rfl
  case s17 =>
    intro a w' K hT hf hw hK
    refine step_free rfl ?_
    have h27 : a.tmps[27]?.getD undef = .bool false := hw.1
    have h37 : a.tmps[37]?.getD undef = undef := hw.2.1
    clear hf hw
    go_simp
    exact hK _ _ (TR.refl _ _ _ _) rfl
  case s18 =>
    intro a w' K hT hf hw hK
    refine step_free rfl ?_
    have h2 : a.tmps[2]?.getD undef = .pointer (some ⟨w.heap.size, 0, none⟩) := hf 2 (by kernel_rfl)
    have h21 : a.tmps[21]?.getD undef = .agg #[.int .i64 0, .int .i64 1, .int .i64 s, .bool false, .int .i64 k, .bool false, .slice none 0 0] := hw.1
    exact wp_store_mid 24 _ _ rfl w.heap.size 0 #[.int .i64 0, .int .i64 1, .int .i64 s, .bool false, .int .i64 k, .bool false, .slice none 0 0] (eval_tmp a 2 h2) (eval_tmp a 21 h21) (hT.there hth) (by kernel_rfl) (by simp [Value.oneCell']) (hK _ _ (TR.store (hT.there hth) rfl).1 (TR.store (hT.there hth) rfl).2)
  case s19 =>
    intro a w' K hT hf hw hK
    refine step_free rfl ?_
    have h38 : a.tmps[38]?.getD undef = Go.Value.bool false := hw.1
    clear hf hw
    go_simp
    exact hK _ _ (TR.refl _ _ _ _) rfl
  case hfin =>
    rintro vs w' hT ⟨f0, f1, f2, f3, f4, f5, f6, f7, f8, f9, f10, f11, f12, f13, f14, f15, f16, f17, f18, f19, -⟩
    have e0 : vs 0 = .agg #[.int .i64 0, .int .i64 1, .int .i64 s, .bool false, .int .i64 k, .bool false, .slice none 0 0] := f0
    have e1 : vs 1 = .iface 50 (.agg #[]) := f1
    have e2 : vs 2 = .agg #[.int .i64 0, .int .i64 1, .int .i64 s, .bool false, .int .i64 k, .bool false, .slice none 0 0] := f2
    have e3 : vs 3 = .int .i64 (ctlR s k) := f3
    have e4 : vs 4 = .int .i64 (c : Int) := f4
    have e5 : vs 5 = .bool false := f5
    have e6 : vs 6 = .bool false := f6
    have e7 : vs 7 = undef := f7
    have e8 : vs 8 = undef := f8
    have e9 : vs 9 = undef := f9
    have e10 : vs 10 = undef := f10
    have e11 : vs 11 = undef := f11
    have e12 : vs 12 = undef := f12
    have e13 : vs 13 = undef := f13
    have e14 : vs 14 = undef := f14
    have e15 : vs 15 = undef := f15
    have e16 : vs 16 = undef := f16
    have e17 : vs 17 = Go.Value.bool false := f17
    have e19 : vs 19 = Go.Value.bool false := f19
    simp only [putsAt, Act.put, e0, e1, e2, e3, e4, e5, e6, e7, e8, e9, e10, e11, e12, e13, e14, e15, e16, e17, e19]
    simp only [List.setIfInBounds_toArray, List.set_cons_succ, List.set_cons_zero]
    clear e0 e1 e2 e3 e4 e5 e6 e7 e8 e9 e10 e11 e12 e13 e14 e15 e16 e17 e19 f0 f1 f2 f3 f4 f5 f6 f7 f8 f9 f10 f11 f12 f13 f14 f15 f16 f17 f19
    have hr : w'.rangeAt w.heap.size 0 [.int .i64 0, .int .i64 1, .int .i64 s, .bool false, .int .i64 k, .bool false, .slice none 0 0] := f18
    clear f18
    go_wp2_with fail
    refine bodyPost_ret (results_cell_tmp rfl _ _ w.heap.size 0 [.int .i64 0, .int .i64 1, .int .i64 s, .bool false, .int .i64 k, .bool false, .slice none 0 0] _ rfl hr Try.underlying24 rfl (by kernel_rfl)) rfl ⟨rfl, ?_⟩
    exact hT.below (hw1.alloc hw1.size _).drew (Nat.le_refl _) rfl

set_option maxHeartbeats 2000000 in
theorem bparse_R_co (c : Nat) (h0 : 128 ≤ c) (hc : c < 192) (hok : c < 160 ∧ c % 16 = 3) (w : World) :
    Calls Try.prog 30 #[.int .i64 (c : Int)] w
      fun e w' => e = .returned (.tuple #[.agg (blkC c).toArray, .bool (okC c)]) ∧ Below w.heap.size w w' := by
  have ho : okC c = false := by unfold okC; rw [if_neg (by omega), if_pos hc]; simp; omega
  have hbl : blkC c = [.int .i64 0, .int .i64 1, .int .i64 (c / 16 % 2 : Nat), .bool false, .int .i64 (c % 4 : Nat), .bool false, .slice none 0 0] := by unfold blkC; rw [if_neg (by omega), if_pos hc]
  rw [ho, hbl]
  clear ho hbl
  have h1 := byte_and192 c (by omega)
  rw [show c / 64 * 64 = 128 by omega] at h1
  have hq : ctlR ((c / 16 % 2 : Nat) : Int) ((c % 4 : Nat) : Int) = (128 + 16 * (c / 16 % 2) + c % 4 : Nat) := by unfold ctlR; omega
  have h01 : ((c / 16 % 2 : Nat) : Int) = 0 ∨ ((c / 16 % 2 : Nat) : Int) = 1 := by omega
  have h4 : ((c % 4 : Nat) : Int) = 0 ∨ ((c % 4 : Nat) : Int) = 1 ∨ ((c % 4 : Nat) : Int) = 2 ∨ ((c % 4 : Nat) : Int) = 3 := by omega
  have heq : (ctlR ((c / 16 % 2 : Nat) : Int) ((c % 4 : Nat) : Int) == (c : Int)) = true := by
    rw [hq, beq_iff_eq]; omega
  have hlt : decide (((c % 4 : Nat) : Int) < 3) = false := by simp; omega
  have hP : ∀ W, Calls Try.prog 79 #[.agg #[], .int .i64 (c : Int)] W fun e w' => e = .returned (.agg #[.int .i64 0, .int .i64 1, .int .i64 (c / 16 % 2 : Nat), .bool false, .int .i64 (c % 4 : Nat), .bool false, .slice none 0 0]) ∧ Below W.heap.size W w' := fun W => parse_R c (by omega) W
  clear hq hok h0 hc
  generalize hs : ((c / 16 % 2 : Nat) : Int) = s at *
  generalize hk : ((c % 4 : Nat) : Int) = k at *
  have HK := Lib.hid (And.intro h01 h4)
  clear h01 h4 hs hk
  have HP := Lib.hid hP
  clear hP
  go_enter Try.func30, Try.ntmps30
  go_wp2_with fail
  refine (HP.out _).mono ?_
  rintro e w1 ⟨rfl, hb⟩
  obtain ⟨hc1, hf1⟩ := bcell hb
  have hz : w.heap.size < w1.heap.size := by have := hb.size; simp at this; omega
  have hne : w.heap.size ≠ w1.heap.size := by omega
  go_wp2_with fail
  have hw1 : Below w.heap.size w w1 := ((Below.refl _ _).alloc (Nat.le_refl _) _).trans (hb.mono (by simp))
  have hth : (w1.alloc (.cells #[.int .i64 0, .int .i64 1, .int .i64 s, .bool false, .int .i64 k, .bool false, .slice none 0 0] 24)).drew.there w.heap.size 0 7 := by
    refine there_of_cells (cs := #[.int .i64 0, .int .i64 0, .int .i64 0, .bool false, .int .i64 0, .bool false, .slice none 0 0]) (t := 24) ?_ rfl
    show (w1.alloc _).heap[w.heap.size]? = _
    rw [Below.heap_alloc _ _ _ hz, hb.block _ (by simp)]
    exact heap_alloc_new w _
  refine wp_region_list' (T := TR w.heap.size 7 [.int .i64 0, .int .i64 1, .int .i64 s, .bool false, .int .i64 k, .bool false, .slice none 0 0]) [St.is (.agg #[.int .i64 0, .int .i64 1, .int .i64 s, .bool false, .int .i64 k, .bool false, .slice none 0 0]), St.is (.iface 50 (.agg #[])), St.is (.agg #[.int .i64 0, .int .i64 1, .int .i64 s, .bool false, .int .i64 k, .bool false, .slice none 0 0]), St.is (.int .i64 (ctlR s k)), St.is (.int .i64 (c : Int)), St.is (.bool true), St.is (.bool true), St.is (.iface 50 (.agg #[])), St.is (.int .i64 3), St.is (.bool false), St.is (.bool false), St.is (.pointer (some ⟨w1.heap.size, 4, none⟩)), St.is (.int .i64 k), St.is (.iface 50 (.agg #[])), St.is (.int .i64 3), St.is (.bool false), St.is (.bool false), St.is (.bool false), St.pred (fun v' w' => w'.rangeAt w.heap.size 0 [.int .i64 0, .int .i64 1, .int .i64 s, .bool false, .int .i64 k, .bool false, .slice none 0 0]) (fun _ _ _ h q => h.fin q), St.is (.bool false)] (by kernel_rfl) (by kernel_rfl) (TR.refl _ _ _) (TR.trans _ _ _) ⟨?s0, ?s1, ?s2, ?s3, ?s4, ?s5, ?s6, ?s7, ?s8, ?s9, ?s10, ?s11, ?s12, ?s13, ?s14, ?s15, ?s16, ?s17, ?s18, ?s19, trivial⟩ ?hfin
  case s0 =>
    intro a w' K hT hf hw hK
    refine step_free rfl ?_
    have h5 : a.tmps[5]?.getD undef = .pointer (some ⟨w1.heap.size, 0, none⟩) := hf 5 (by kernel_rfl)
    clear hf hw
    have hcell : ∀ j, w'.cell? ⟨w1.heap.size, j, none⟩ = (w1.alloc (.cells #[.int .i64 0, .int .i64 1, .int .i64 s, .bool false, .int .i64 k, .bool false, .slice none 0 0] 24)).cell? ⟨w1.heap.size, j, none⟩ := fun j => hT.cell (by simp) (Ne.symm hne)
    go_simp
    exact hK _ _ (TR.refl _ _ _ _) rfl
  case s1 =>
    intro a w' K hT hf hw hK
    refine step_free rfl ?_
    have h4 : a.tmps[4]?.getD undef = .iface 50 (.agg #[]) := hf 4 (by kernel_rfl)
    clear hf hw
    go_simp
    exact hK _ _ (TR.refl _ _ _ _) rfl
  case s2 =>
    intro a w' K hT hf hw hK
    refine step_free rfl ?_
    have h5 : a.tmps[5]?.getD undef = .pointer (some ⟨w1.heap.size, 0, none⟩) := hf 5 (by kernel_rfl)
    clear hf hw
    have hcell : ∀ j, w'.cell? ⟨w1.heap.size, j, none⟩ = (w1.alloc (.cells #[.int .i64 0, .int .i64 1, .int .i64 s, .bool false, .int .i64 k, .bool false, .slice none 0 0] 24)).cell? ⟨w1.heap.size, j, none⟩ := fun j => hT.cell (by simp) (Ne.symm hne)
    go_simp
    exact hK _ _ (TR.refl _ _ _ _) rfl
  case s3 =>
    intro a w' K hT hf hw hK
    refine step_free rfl ?_
    have h22 : a.tmps[22]?.getD undef = .iface 50 (.agg #[]) := hw.1
    have h23 : a.tmps[23]?.getD undef = .agg #[.int .i64 0, .int .i64 1, .int .i64 s, .bool false, .int .i64 k, .bool false, .slice none 0 0] := hw.2.1
    clear hf hw
    have hR : w.heap.size < w'.heap.size := by have := hT.grown.size; simp at this; omega
    go_simp
    refine (control_R _ _ _ _ _ _ _ _ HK.out.1 HK.out.2).mono ?_
    rintro e w2 ⟨rfl, hb2⟩
    exact hK _ _ (TR.of_below hR hb2) rfl
  case s4 =>
    intro a w' K hT hf hw hK
    refine step_free rfl ?_
    have h0 : a.tmps[0]?.getD undef = .int .i64 (c : Int) := hf 0 (by kernel_rfl)
    clear hf hw
    go_simp
    exact hK _ _ (TR.refl _ _ _ _) rfl
  case s5 =>
    intro a w' K hT hf hw hK
    refine step_free rfl ?_
    have h24 : a.tmps[24]?.getD undef = .int .i64 (ctlR s k) := hw.1
    have h25 : a.tmps[25]?.getD undef = .int .i64 (c : Int) := hw.2.1
    clear hf hw
    go_simp
    exact hK _ _ (TR.refl _ _ _ _) rfl
  case s6 =>
    intro a w' K hT hf hw hK
    refine step_free rfl ?_
    have h26 : a.tmps[26]?.getD undef = .bool true := hw.1
    clear hf hw
    go_simp
    exact hK _ _ (TR.refl _ _ _ _) rfl
  case s7 =>
    intro a w' K hT hf hw hK
    have hg : a.tmps[27]?.getD undef = .bool true := hw.1
    refine step_yes rfl rfl hg ?_
    clear hg
    have h4 : a.tmps[4]?.getD undef = .iface 50 (.agg #[]) := hf 4 (by kernel_rfl)
    clear hf hw
    go_simp
    exact hK _ _ (TR.refl _ _ _ _) rfl
  case s8 =>
    intro a w' K hT hf hw hK
    have hg : a.tmps[27]?.getD undef = .bool true := hw.2.1
    refine step_yes rfl rfl hg ?_
    clear hg
    have h28 : a.tmps[28]?.getD undef = .iface 50 (.agg #[]) := hw.1
    clear hf hw
    go_simp
    refine (codes_R _).mono ?_
    rintro e w2 ⟨rfl, rfl⟩
    exact hK _ _ (TR.refl _ _ _ _) rfl
  case s9 =>
    intro a w' K hT hf hw hK
    have hg : a.tmps[27]?.getD undef = .bool true := hw.2.1
    refine step_yes rfl rfl hg ?_
    clear hg
    have h29 : a.tmps[29]?.getD undef = .int .i64 3 := hw.1
    clear hf hw
    go_simp
    exact hK _ _ (TR.refl _ _ _ _) rfl
  case s10 =>
    intro a w' K hT hf hw hK
    have hg : a.tmps[27]?.getD undef = .bool true := hw.2.2.1
    refine step_yes rfl rfl hg ?_
    clear hg
    have h30 : a.tmps[30]?.getD undef = .bool false := hw.1
    clear hf hw
    go_simp
    exact hK _ _ (TR.refl _ _ _ _) rfl
  case s11 =>
    intro a w' K hT hf hw hK
    have hg : a.tmps[31]?.getD undef = .bool false := hw.1
    refine step_yes rfl rfl hg ?_
    clear hg
    have h5 : a.tmps[5]?.getD undef = .pointer (some ⟨w1.heap.size, 0, none⟩) := hf 5 (by kernel_rfl)
    clear hf hw
    go_simp
    exact hK _ _ (TR.refl _ _ _ _) rfl
  case s12 =>
    intro a w' K hT hf hw hK
    have hg : a.tmps[31]?.getD undef = .bool false := hw.2.1
    refine step_yes rfl rfl hg ?_
    clear hg
    have h32 : a.tmps[32]?.getD undef = .pointer (some ⟨w1.heap.size, 4, none⟩) := hw.1
    clear hf hw
    have hcell : ∀ j, w'.cell? ⟨w1.heap.size, j, none⟩ = (w1.alloc (.cells #[.int .i64 0, .int .i64 1, .int .i64 s, .bool false, .int .i64 k, .bool false, .slice none 0 0] 24)).cell? ⟨w1.heap.size, j, none⟩ := fun j => hT.cell (by simp) (Ne.symm hne)
    go_simp
    exact hK _ _ (TR.refl _ _ _ _) rfl
  case s13 =>
    intro a w' K hT hf hw hK
    have hg : a.tmps[31]?.getD undef = .bool false := hw.1
    refine step_yes rfl rfl hg ?_
    clear hg
    have h4 : a.tmps[4]?.getD undef = .iface 50 (.agg #[]) := hf 4 (by kernel_rfl)
    clear hf hw
    go_simp
    exact hK _ _ (TR.refl _ _ _ _) rfl
  case s14 =>
    intro a w' K hT hf hw hK
    have hg : a.tmps[31]?.getD undef = .bool false := hw.2.1
    refine step_yes rfl rfl hg ?_
    clear hg
    have h34 : a.tmps[34]?.getD undef = .iface 50 (.agg #[]) := hw.1
    clear hf hw
    go_simp
    refine (codes_R _).mono ?_
    rintro e w2 ⟨rfl, rfl⟩
    exact hK _ _ (TR.refl _ _ _ _) rfl
  case s15 =>
    intro a w' K hT hf hw hK
    have hg : a.tmps[31]?.getD undef = .bool false := hw.2.2.1
    refine step_yes rfl rfl hg ?_
    clear hg
    have h33 : a.tmps[33]?.getD undef = .int .i64 k := hw.1
    have h35 : a.tmps[35]?.getD undef = .int .i64 3 := hw.2.1
    clear hf hw
    go_simp
    exact hK _ _ (TR.refl _ _ _ _) rfl
  case s16 =>
    intro a w' K hT hf hw hK
    have hg : a.tmps[27]?.getD undef = .bool true := hw.2.2.1
    refine step_yes rfl rfl hg ?_
    clear hg
    have h31 : a.tmps[31]?.getD undef = .bool false := hw.1
    have h36 : a.tmps[36]?.getD undef = .bool false := hw.2.1
    clear hf hw
    go_simp
    exact hK _ _ (TR.refl _ _ _ _) rfl
  case s17 =>
    intro a w' K hT hf hw hK
    refine step_free rfl ?_
    have h27 : a.tmps[27]?.getD undef = .bool true := hw.1
    have h37 : a.tmps[37]?.getD undef = .bool false := hw.2.1
    clear hf hw
    go_simp
    exact hK _ _ (TR.refl _ _ _ _) rfl
  case s18 =>
    intro a w' K hT hf hw hK
    refine step_free rfl ?_
    have h2 : a.tmps[2]?.getD undef = .pointer (some ⟨w.heap.size, 0, none⟩) := hf 2 (by kernel_rfl)
    have h21 : a.tmps[21]?.getD undef = .agg #[.int .i64 0, .int .i64 1, .int .i64 s, .bool false, .int .i64 k, .bool false, .slice none 0 0] := hw.1
    exact wp_store_mid 24 _ _ rfl w.heap.size 0 #[.int .i64 0, .int .i64 1, .int .i64 s, .bool false, .int .i64 k, .bool false, .slice none 0 0] (eval_tmp a 2 h2) (eval_tmp a 21 h21) (hT.there hth) (by kernel_rfl) (by simp [Value.oneCell']) (hK _ _ (TR.store (hT.there hth) rfl).1 (TR.store (hT.there hth) rfl).2)
  case s19 =>
    intro a w' K hT hf hw hK
    refine step_free rfl ?_
    have h38 : a.tmps[38]?.getD undef = .bool false := hw.1
    clear hf hw
    go_simp
    exact hK _ _ (TR.refl _ _ _ _) rfl
  case hfin =>
    rintro vs w' hT ⟨f0, f1, f2, f3, f4, f5, f6, f7, f8, f9, f10, f11, f12, f13, f14, f15, f16, f17, f18, f19, -⟩
    have e0 : vs 0 = .agg #[.int .i64 0, .int .i64 1, .int .i64 s, .bool false, .int .i64 k, .bool false, .slice none 0 0] := f0
    have e1 : vs 1 = .iface 50 (.agg #[]) := f1
    have e2 : vs 2 = .agg #[.int .i64 0, .int .i64 1, .int .i64 s, .bool false, .int .i64 k, .bool false, .slice none 0 0] := f2
    have e3 : vs 3 = .int .i64 (ctlR s k) := f3
    have e4 : vs 4 = .int .i64 (c : Int) := f4
    have e5 : vs 5 = .bool true := f5
    have e6 : vs 6 = .bool true := f6
    have e7 : vs 7 = .iface 50 (.agg #[]) := f7
    have e8 : vs 8 = .int .i64 3 := f8
    have e9 : vs 9 = .bool false := f9
    have e10 : vs 10 = .bool false := f10
    have e11 : vs 11 = .pointer (some ⟨w1.heap.size, 4, none⟩) := f11
    have e12 : vs 12 = .int .i64 k := f12
    have e13 : vs 13 = .iface 50 (.agg #[]) := f13
    have e14 : vs 14 = .int .i64 3 := f14
    have e15 : vs 15 = .bool false := f15
    have e16 : vs 16 = .bool false := f16
    have e17 : vs 17 = .bool false := f17
    have e19 : vs 19 = .bool false := f19
    simp only [putsAt, Act.put, e0, e1, e2, e3, e4, e5, e6, e7, e8, e9, e10, e11, e12, e13, e14, e15, e16, e17, e19]
    simp only [List.setIfInBounds_toArray, List.set_cons_succ, List.set_cons_zero]
    clear e0 e1 e2 e3 e4 e5 e6 e7 e8 e9 e10 e11 e12 e13 e14 e15 e16 e17 e19 f0 f1 f2 f3 f4 f5 f6 f7 f8 f9 f10 f11 f12 f13 f14 f15 f16 f17 f19
    have hr : w'.rangeAt w.heap.size 0 [.int .i64 0, .int .i64 1, .int .i64 s, .bool false, .int .i64 k, .bool false, .slice none 0 0] := f18
    clear f18
    go_wp2_with fail
    refine bodyPost_ret (results_cell_tmp rfl _ _ w.heap.size 0 [.int .i64 0, .int .i64 1, .int .i64 s, .bool false, .int .i64 k, .bool false, .slice none 0 0] _ rfl hr Try.underlying24 rfl (by kernel_rfl)) rfl ⟨rfl, ?_⟩
    exact hT.below (hw1.alloc hw1.size _).drew (Nat.le_refl _) rfl

set_option maxHeartbeats 2000000 in
theorem bparse_S_ok (c : Nat) (h0 : 192 ≤ c) (hc : c < 256) (hok : c % 32 < 4) (w : World) :
    Calls Try.prog 30 #[.int .i64 (c : Int)] w
      fun e w' => e = .returned (.tuple #[.agg (blkC c).toArray, .bool (okC c)]) ∧ Below w.heap.size w w' := by
  have ho : okC c = true := by unfold okC; rw [if_neg (by omega), if_neg (by omega)]; simp; omega
  have hbl : blkC c = [.int .i64 0, .int .i64 2, .int .i64 0, .bool false, .int .i64 (c % 4 : Nat), .bool (decide (c / 32 % 2 = 1)), .slice none 0 0] := by unfold blkC; rw [if_neg (by omega), if_neg (by omega)]
  rw [ho, hbl]
  clear ho hbl
  have h1 := byte_and192 c hc
  rw [show c / 64 * 64 = 192 by omega] at h1
  have hq : ctlS ((c % 4 : Nat) : Int) (decide (c / 32 % 2 = 1)) = (192 + (if c / 32 % 2 = 1 then 32 else 0) + c % 4 : Nat) := by unfold ctlS; split <;> simp_all <;> omega
  have h4 : ((c % 4 : Nat) : Int) = 0 ∨ ((c % 4 : Nat) : Int) = 1 ∨ ((c % 4 : Nat) : Int) = 2 ∨ ((c % 4 : Nat) : Int) = 3 := by omega
  have heq : (ctlS ((c % 4 : Nat) : Int) (decide (c / 32 % 2 = 1)) == (c : Int)) = true := by
    rw [hq, beq_iff_eq]; split <;> omega
  have hlt : ((c % 4 : Nat) : Int) < 4 := by omega
  have hP : ∀ W, Calls Try.prog 76 #[.agg #[], .int .i64 (c : Int)] W fun e w' => e = .returned (.agg #[.int .i64 0, .int .i64 2, .int .i64 0, .bool false, .int .i64 (c % 4 : Nat), .bool (decide (c / 32 % 2 = 1)), .slice none 0 0]) ∧ Below W.heap.size W w' := fun W => parse_S c hc W
  clear hq hok h0 hc
  generalize hk : ((c % 4 : Nat) : Int) = k at *
  generalize hm : decide (c / 32 % 2 = 1) = m at *
  have HK := Lib.hid h4
  clear h4 hk hm
  have HP := Lib.hid hP
  clear hP
  go_enter Try.func30, Try.ntmps30
  go_wp2_with fail
  refine (HP.out _).mono ?_
  rintro e w1 ⟨rfl, hb⟩
  obtain ⟨hc1, hf1⟩ := bcell hb
  have hz : w.heap.size < w1.heap.size := by have := hb.size; simp at this; omega
  have hne : w.heap.size ≠ w1.heap.size := by omega
  go_wp2_with fail
  have hw1 : Below w.heap.size w w1 := ((Below.refl _ _).alloc (Nat.le_refl _) _).trans (hb.mono (by simp))
  have hth : (w1.alloc (.cells #[.int .i64 0, .int .i64 2, .int .i64 0, .bool false, .int .i64 k, .bool m, .slice none 0 0] 24)).drew.there w.heap.size 0 7 := by
    refine there_of_cells (cs := #[.int .i64 0, .int .i64 0, .int .i64 0, .bool false, .int .i64 0, .bool false, .slice none 0 0]) (t := 24) ?_ rfl
    show (w1.alloc _).heap[w.heap.size]? = _
    rw [Below.heap_alloc _ _ _ hz, hb.block _ (by simp)]
    exact heap_alloc_new w _
  refine wp_region_list' (T := TR w.heap.size 7 [.int .i64 0, .int .i64 2, .int .i64 0, .bool false, .int .i64 k, .bool m, .slice none 0 0]) [St.is (.agg #[.int .i64 0, .int .i64 2, .int .i64 0, .bool false, .int .i64 k, .bool m, .slice none 0 0]), St.is (.iface 46 (.agg #[])), St.is (.agg #[.int .i64 0, .int .i64 2, .int .i64 0, .bool false, .int .i64 k, .bool m, .slice none 0 0]), St.is (.int .i64 (ctlS k m)), St.is (.int .i64 (c : Int)), St.is (.bool true), St.is (.bool true), St.is (.iface 46 (.agg #[])), St.is (.int .i64 4), St.is (.bool false), St.is (.bool false), St.is (.pointer (some ⟨w1.heap.size, 4, none⟩)), St.is (.int .i64 k), St.is (.iface 46 (.agg #[])), St.is (.int .i64 4), St.is (.bool true), St.is (.bool true), St.is (.bool true), St.pred (fun v' w' => w'.rangeAt w.heap.size 0 [.int .i64 0, .int .i64 2, .int .i64 0, .bool false, .int .i64 k, .bool m, .slice none 0 0]) (fun _ _ _ h q => h.fin q), St.is (.bool true)] (by kernel_rfl) (by kernel_rfl) (TR.refl _ _ _) (TR.trans _ _ _) ⟨?s0, ?s1, ?s2, ?s3, ?s4, ?s5, ?s6, ?s7, ?s8, ?s9, ?s10, ?s11, ?s12, ?s13, ?s14, ?s15, ?s16, ?s17, ?s18, ?s19, trivial⟩ ?hfin
  case s0 =>
    intro a w' K hT hf hw hK
    refine step_free rfl ?_
    have h5 : a.tmps[5]?.getD undef = .pointer (some ⟨w1.heap.size, 0, none⟩) := hf 5 (by kernel_rfl)
    clear hf hw
    have hcell : ∀ j, w'.cell? ⟨w1.heap.size, j, none⟩ = (w1.alloc (.cells #[.int .i64 0, .int .i64 2, .int .i64 0, .bool false, .int .i64 k, .bool m, .slice none 0 0] 24)).cell? ⟨w1.heap.size, j, none⟩ := fun j => hT.cell (by simp) (Ne.symm hne)
    go_simp
    exact hK _ _ (TR.refl _ _ _ _) rfl
  case s1 =>
    intro a w' K hT hf hw hK
    refine step_free rfl ?_
    have h4 : a.tmps[4]?.getD undef = .iface 46 (.agg #[]) := hf 4 (by kernel_rfl)
    clear hf hw
    go_simp
    exact hK _ _ (TR.refl _ _ _ _) rfl
  case s2 =>
    intro a w' K hT hf hw hK
    refine step_free rfl ?_
    have h5 : a.tmps[5]?.getD undef = .pointer (some ⟨w1.heap.size, 0, none⟩) := hf 5 (by kernel_rfl)
    clear hf hw
    have hcell : ∀ j, w'.cell? ⟨w1.heap.size, j, none⟩ = (w1.alloc (.cells #[.int .i64 0, .int .i64 2, .int .i64 0, .bool false, .int .i64 k, .bool m, .slice none 0 0] 24)).cell? ⟨w1.heap.size, j, none⟩ := fun j => hT.cell (by simp) (Ne.symm hne)
    go_simp
    exact hK _ _ (TR.refl _ _ _ _) rfl
  case s3 =>
    intro a w' K hT hf hw hK
    refine step_free rfl ?_
    have h22 : a.tmps[22]?.getD undef = .iface 46 (.agg #[]) := hw.1
    have h23 : a.tmps[23]?.getD undef = .agg #[.int .i64 0, .int .i64 2, .int .i64 0, .bool false, .int .i64 k, .bool m, .slice none 0 0] := hw.2.1
    clear hf hw
    have hR : w.heap.size < w'.heap.size := by have := hT.grown.size; simp at this; omega
    go_simp
    refine (control_S _ _ _ _ _ _ _ _ HK.out).mono ?_
    rintro e w2 ⟨rfl, hb2⟩
    exact hK _ _ (TR.of_below hR hb2) rfl
  case s4 =>
    intro a w' K hT hf hw hK
    refine step_free rfl ?_
    have h0 : a.tmps[0]?.getD undef = .int .i64 (c : Int) := hf 0 (by kernel_rfl)
    clear hf hw
    go_simp
    exact hK _ _ (TR.refl _ _ _ _) rfl
  case s5 =>
    intro a w' K hT hf hw hK
    refine step_free rfl ?_
    have h24 : a.tmps[24]?.getD undef = .int .i64 (ctlS k m) := hw.1
    have h25 : a.tmps[25]?.getD undef = .int .i64 (c : Int) := hw.2.1
    clear hf hw
    go_simp
    exact hK _ _ (TR.refl _ _ _ _) rfl
  case s6 =>
    intro a w' K hT hf hw hK
    refine step_free rfl ?_
    have h26 : a.tmps[26]?.getD undef = .bool true := hw.1
    clear hf hw
    go_simp
    exact hK _ _ (TR.refl _ _ _ _) rfl
  case s7 =>
    intro a w' K hT hf hw hK
    have hg : a.tmps[27]?.getD undef = .bool true := hw.1
    refine step_yes rfl rfl hg ?_
    clear hg
    have h4 : a.tmps[4]?.getD undef = .iface 46 (.agg #[]) := hf 4 (by kernel_rfl)
    clear hf hw
    go_simp
    exact hK _ _ (TR.refl _ _ _ _) rfl
  case s8 =>
    intro a w' K hT hf hw hK
    have hg : a.tmps[27]?.getD undef = .bool true := hw.2.1
    refine step_yes rfl rfl hg ?_
    clear hg
    have h28 : a.tmps[28]?.getD undef = .iface 46 (.agg #[]) := hw.1
    clear hf hw
    go_simp
    refine (codes_S _).mono ?_
    rintro e w2 ⟨rfl, rfl⟩
    exact hK _ _ (TR.refl _ _ _ _) rfl
  case s9 =>
    intro a w' K hT hf hw hK
    have hg : a.tmps[27]?.getD undef = .bool true := hw.2.1
    refine step_yes rfl rfl hg ?_
    clear hg
    have h29 : a.tmps[29]?.getD undef = .int .i64 4 := hw.1
    clear hf hw
    go_simp
    exact hK _ _ (TR.refl _ _ _ _) rfl
  case s10 =>
    intro a w' K hT hf hw hK
    have hg : a.tmps[27]?.getD undef = .bool true := hw.2.2.1
    refine step_yes rfl rfl hg ?_
    clear hg
    have h30 : a.tmps[30]?.getD undef = .bool false := hw.1
    clear hf hw
    go_simp
    exact hK _ _ (TR.refl _ _ _ _) rfl
  case s11 =>
    intro a w' K hT hf hw hK
    have hg : a.tmps[31]?.getD undef = .bool false := hw.1
    refine step_yes rfl rfl hg ?_
    clear hg
    have h5 : a.tmps[5]?.getD undef = .pointer (some ⟨w1.heap.size, 0, none⟩) := hf 5 (by kernel_rfl)
    clear hf hw
    go_simp
    exact hK _ _ (TR.refl _ _ _ _) rfl
  case s12 =>
    intro a w' K hT hf hw hK
    have hg : a.tmps[31]?.getD undef = .bool false := hw.2.1
    refine step_yes rfl rfl hg ?_
    clear hg
    have h32 : a.tmps[32]?.getD undef = .pointer (some ⟨w1.heap.size, 4, none⟩) := hw.1
    clear hf hw
    have hcell : ∀ j, w'.cell? ⟨w1.heap.size, j, none⟩ = (w1.alloc (.cells #[.int .i64 0, .int .i64 2, .int .i64 0, .bool false, .int .i64 k, .bool m, .slice none 0 0] 24)).cell? ⟨w1.heap.size, j, none⟩ := fun j => hT.cell (by simp) (Ne.symm hne)
    go_simp
    exact hK _ _ (TR.refl _ _ _ _) rfl
  case s13 =>
    intro a w' K hT hf hw hK
    have hg : a.tmps[31]?.getD undef = .bool false := hw.1
    refine step_yes rfl rfl hg ?_
    clear hg
    have h4 : a.tmps[4]?.getD undef = .iface 46 (.agg #[]) := hf 4 (by kernel_rfl)
    clear hf hw
    go_simp
    exact hK _ _ (TR.refl _ _ _ _) rfl
  case s14 =>
    intro a w' K hT hf hw hK
    have hg : a.tmps[31]?.getD undef = .bool false := hw.2.1
    refine step_yes rfl rfl hg ?_
    clear hg
    have h34 : a.tmps[34]?.getD undef = .iface 46 (.agg #[]) := hw.1
    clear hf hw
    go_simp
    refine (codes_S _).mono ?_
    rintro e w2 ⟨rfl, rfl⟩
    exact hK _ _ (TR.refl _ _ _ _) rfl
  case s15 =>
    intro a w' K hT hf hw hK
    have hg : a.tmps[31]?.getD undef = .bool false := hw.2.2.1
    refine step_yes rfl rfl hg ?_
    clear hg
    have h33 : a.tmps[33]?.getD undef = .int .i64 k := hw.1
    have h35 : a.tmps[35]?.getD undef = .int .i64 4 := hw.2.1
    clear hf hw
    go_simp
    exact hK _ _ (TR.refl _ _ _ _) rfl
  case s16 =>
    intro a w' K hT hf hw hK
    have hg : a.tmps[27]?.getD undef = .bool true := hw.2.2.1
    refine step_yes rfl rfl hg ?_
    clear hg
    have h31 : a.tmps[31]?.getD undef = .bool false := hw.1
    have h36 : a.tmps[36]?.getD undef = .bool true := hw.2.1
    clear hf hw
    go_simp
    exact hK _ _ (TR.refl _ _ _ _) rfl
  case s17 =>
    intro a w' K hT hf hw hK
    refine step_free rfl ?_
    have h27 : a.tmps[27]?.getD undef = .bool true := hw.1
    have h37 : a.tmps[37]?.getD undef = .bool true := hw.2.1
    clear hf hw
    go_simp
    exact hK _ _ (TR.refl _ _ _ _) rfl
  case s18 =>
    intro a w' K hT hf hw hK
    refine step_free rfl ?_
    have h2 : a.tmps[2]?.getD undef = .pointer (some ⟨w.heap.size, 0, none⟩) := hf 2 (by kernel_rfl)
    have h21 : a.tmps[21]?.getD undef = .agg #[.int .i64 0, .int .i64 2, .int .i64 0, .bool false, .int .i64 k, .bool m, .slice none 0 0] := hw.1
    exact wp_store_mid 24 _ _ rfl w.heap.size 0 #[.int .i64 0, .int .i64 2, .int .i64 0, .bool false, .int .i64 k, .bool m, .slice none 0 0] (eval_tmp a 2 h2) (eval_tmp a 21 h21) (hT.there hth) (by kernel_rfl) (by simp [Value.oneCell']) (hK _ _ (TR.store (hT.there hth) rfl).1 (TR.store (hT.there hth) rfl).2)
  case s19 =>
    intro a w' K hT hf hw hK
    refine step_free rfl ?_
    have h38 : a.tmps[38]?.getD undef = .bool true := hw.1
    clear hf hw
    go_simp
    exact hK _ _ (TR.refl _ _ _ _) rfl
  case hfin =>
    rintro vs w' hT ⟨f0, f1, f2, f3, f4, f5, f6, f7, f8, f9, f10, f11, f12, f13, f14, f15, f16, f17, f18, f19, -⟩
    have e0 : vs 0 = .agg #[.int .i64 0, .int .i64 2, .int .i64 0, .bool false, .int .i64 k, .bool m, .slice none 0 0] := f0
    have e1 : vs 1 = .iface 46 (.agg #[]) := f1
    have e2 : vs 2 = .agg #[.int .i64 0, .int .i64 2, .int .i64 0, .bool false, .int .i64 k, .bool m, .slice none 0 0] := f2
    have e3 : vs 3 = .int .i64 (ctlS k m) := f3
    have e4 : vs 4 = .int .i64 (c : Int) := f4
    have e5 : vs 5 = .bool true := f5
    have e6 : vs 6 = .bool true := f6
    have e7 : vs 7 = .iface 46 (.agg #[]) := f7
    have e8 : vs 8 = .int .i64 4 := f8
    have e9 : vs 9 = .bool false := f9
    have e10 : vs 10 = .bool false := f10
    have e11 : vs 11 = .pointer (some ⟨w1.heap.size, 4, none⟩) := f11
    have e12 : vs 12 = .int .i64 k := f12
    have e13 : vs 13 = .iface 46 (.agg #[]) := f13
    have e14 : vs 14 = .int .i64 4 := f14
    have e15 : vs 15 = .bool true := f15
    have e16 : vs 16 = .bool true := f16
    have e17 : vs 17 = .bool true := f17
    have e19 : vs 19 = .bool true := f19
    simp only [putsAt, Act.put, e0, e1, e2, e3, e4, e5, e6, e7, e8, e9, e10, e11, e12, e13, e14, e15, e16, e17, e19]
    simp only [List.setIfInBounds_toArray, List.set_cons_succ, List.set_cons_zero]
    clear e0 e1 e2 e3 e4 e5 e6 e7 e8 e9 e10 e11 e12 e13 e14 e15 e16 e17 e19 f0 f1 f2 f3 f4 f5 f6 f7 f8 f9 f10 f11 f12 f13 f14 f15 f16 f17 f19
    have hr : w'.rangeAt w.heap.size 0 [.int .i64 0, .int .i64 2, .int .i64 0, .bool false, .int .i64 k, .bool m, .slice none 0 0] := f18
    clear f18
    go_wp2_with fail
    refine bodyPost_ret (results_cell_tmp rfl _ _ w.heap.size 0 [.int .i64 0, .int .i64 2, .int .i64 0, .bool false, .int .i64 k, .bool m, .slice none 0 0] _ rfl hr Try.underlying24 rfl (by kernel_rfl)) rfl ⟨rfl, ?_⟩
    exact hT.below (hw1.alloc hw1.size _).drew (Nat.le_refl _) rfl

set_option maxHeartbeats 2000000 in
theorem bparse_S_no (c : Nat) (h0 : 192 ≤ c) (hc : c < 256) (hok : ¬ c % 32 < 4) (w : World) :
    Calls Try.prog 30 #[.int .i64 (c : Int)] w
      fun e w' => e = .returned (.tuple #[.agg (blkC c).toArray, .bool (okC c)]) ∧ Below w.heap.size w w' := by
  have ho : okC c = false := by unfold okC; rw [if_neg (by omega), if_neg (by omega)]; simp; omega
  have hbl : blkC c = [.int .i64 0, .int .i64 2, .int .i64 0, .bool false, .int .i64 (c % 4 : Nat), .bool (decide (c / 32 % 2 = 1)), .slice none 0 0] := by unfold blkC; rw [if_neg (by omega), if_neg (by omega)]
  rw [ho, hbl]
  clear ho hbl
  have h1 := byte_and192 c hc
  rw [show c / 64 * 64 = 192 by omega] at h1
  have hq : ctlS ((c % 4 : Nat) : Int) (decide (c / 32 % 2 = 1)) = (192 + (if c / 32 % 2 = 1 then 32 else 0) + c % 4 : Nat) := by unfold ctlS; split <;> simp_all <;> omega
  have h4 : ((c % 4 : Nat) : Int) = 0 ∨ ((c % 4 : Nat) : Int) = 1 ∨ ((c % 4 : Nat) : Int) = 2 ∨ ((c % 4 : Nat) : Int) = 3 := by omega
  have heq : (ctlS ((c % 4 : Nat) : Int) (decide (c / 32 % 2 = 1)) == (c : Int)) = false := by
    rw [hq, beq_eq_false_iff_ne]; split <;> omega
  have hP : ∀ W, Calls Try.prog 76 #[.agg #[], .int .i64 (c : Int)] W fun e w' => e = .returned (.agg #[.int .i64 0, .int .i64 2, .int .i64 0, .bool false, .int .i64 (c % 4 : Nat), .bool (decide (c / 32 % 2 = 1)), .slice none 0 0]) ∧ Below W.heap.size W w' := fun W => parse_S c hc W
  clear hq hok h0 hc
  generalize hk : ((c % 4 : Nat) : Int) = k at *
  generalize hm : decide (c / 32 % 2 = 1) = m at *
  have HK := Lib.hid h4
  clear h4 hk hm
  have HP := Lib.hid hP
  clear hP
  go_enter Try.func30, Try.ntmps30
  go_wp2_with fail
  refine (HP.out _).mono ?_
  rintro e w1 ⟨rfl, hb⟩
  obtain ⟨hc1, hf1⟩ := bcell hb
  have hz : w.heap.size < w1.heap.size := by have := hb.size; simp at this; omega
  have hne : w.heap.size ≠ w1.heap.size := by omega
  go_wp2_with fail
  have hw1 : Below w.heap.size w w1 := ((Below.refl _ _).alloc (Nat.le_refl _) _).trans (hb.mono (by simp))
  have hth : (w1.alloc (.cells #[.int .i64 0, .int .i64 2, .int .i64 0, .bool false, .int .i64 k, .bool m, .slice none 0 0] 24)).drew.there w.heap.size 0 7 := by
    refine there_of_cells (cs := #[.int .i64 0, .int .i64 0, .int .i64 0, .bool false, .int .i64 0, .bool false, .slice none 0 0]) (t := 24) ?_ rfl
    show (w1.alloc _).heap[w.heap.size]? = _
    rw [Below.heap_alloc _ _ _ hz, hb.block _ (by simp)]
    exact heap_alloc_new w _
  refine wp_region_list' (T := TR w.heap.size 7 [.int .i64 0, .int .i64 2, .int .i64 0, .bool false, .int .i64 k, .bool m, .slice none 0 0]) [St.is (.agg #[.int .i64 0, .int .i64 2, .int .i64 0, .bool false, .int .i64 k, .bool m, .slice none 0 0]), St.is (.iface 46 (.agg #[])), St.is (.agg #[.int .i64 0, .int .i64 2, .int .i64 0, .bool false, .int .i64 k, .bool m, .slice none 0 0]), St.is (.int .i64 (ctlS k m)), St.is (.int .i64 (c : Int)), St.is (.bool false), St.is (.bool false), St.is undef, St.is undef, St.is undef, St.is undef, St.is undef, St.is undef, St.is undef, St.is undef, St.is undef, St.is undef, St.is (Go.Value.bool false), St.pred (fun v' w' => w'.rangeAt w.heap.size 0 [.int .i64 0, .int .i64 2, .int .i64 0, .bool false, .int .i64 k, .bool m, .slice none 0 0]) (fun _ _ _ h q => h.fin q), St.is (Go.Value.bool false)] (by kernel_rfl) (by kernel_rfl) (TR.refl _ _ _) (TR.trans _ _ _) ⟨?s0, ?s1, ?s2, ?s3, ?s4, ?s5, ?s6, ?s7, ?s8, ?s9, ?s10, ?s11, ?s12, ?s13, ?s14, ?s15, ?s16, ?s17, ?s18, ?s19, trivial⟩ ?hfin
  case s0 =>
    intro a w' K hT hf hw hK
    refine step_free rfl ?_
    have h5 : a.tmps[5]?.getD undef = .pointer (some ⟨w1.heap.size, 0, none⟩) := hf 5 (by kernel_rfl)
    clear hf hw
    have hcell : ∀ j, w'.cell? ⟨w1.heap.size, j, none⟩ = (w1.alloc (.cells #[.int .i64 0, .int .i64 2, .int .i64 0, .bool false, .int .i64 k, .bool m, .slice none 0 0] 24)).cell? ⟨w1.heap.size, j, none⟩ := fun j => hT.cell (by simp) (Ne.symm hne)
    go_simp
    exact hK _ _ (TR.refl _ _ _ _) rfl
  case s1 =>
    intro a w' K hT hf hw hK
    refine step_free rfl ?_
    have h4 : a.tmps[4]?.getD undef = .iface 46 (.agg #[]) := hf 4 (by kernel_rfl)
    clear hf hw
    go_simp
    exact hK _ _ (TR.refl _ _ _ _) rfl
  case s2 =>
    intro a w' K hT hf hw hK
    refine step_free rfl ?_
    have h5 : a.tmps[5]?.getD undef = .pointer (some ⟨w1.heap.size, 0, none⟩) := hf 5 (by kernel_rfl)
    clear hf hw
    have hcell : ∀ j, w'.cell? ⟨w1.heap.size, j, none⟩ = (w1.alloc (.cells #[.int .i64 0, .int .i64 2, .int .i64 0, .bool false, .int .i64 k, .bool m, .slice none 0 0] 24)).cell? ⟨w1.heap.size, j, none⟩ := fun j => hT.cell (by simp) (Ne.symm hne)
    go_simp
    exact hK _ _ (TR.refl _ _ _ _) rfl
  case s3 =>
    intro a w' K hT hf hw hK
    refine step_free rfl ?_
    have h22 : a.tmps[22]?.getD undef = .iface 46 (.agg #[]) := hw.1
    have h23 : a.tmps[23]?.getD undef = .agg #[.int .i64 0, .int .i64 2, .int .i64 0, .bool false, .int .i64 k, .bool m, .slice none 0 0] := hw.2.1
    clear hf hw
    have hR : w.heap.size < w'.heap.size := by have := hT.grown.size; simp at this; omega
    go_simp
    refine (control_S _ _ _ _ _ _ _ _ HK.out).mono ?_
    rintro e w2 ⟨rfl, hb2⟩
    exact hK _ _ (TR.of_below hR hb2) rfl
  case s4 =>
    intro a w' K hT hf hw hK
    refine step_free rfl ?_
    have h0 : a.tmps[0]?.getD undef = .int .i64 (c : Int) := hf 0 (by kernel_rfl)
    clear hf hw
    go_simp
    exact hK _ _ (TR.refl _ _ _ _) rfl
  case s5 =>
    intro a w' K hT hf hw hK
    refine step_free rfl ?_
    have h24 : a.tmps[24]?.getD undef = .int .i64 (ctlS k m) := hw.1
    have h25 : a.tmps[25]?.getD undef = .int .i64 (c : Int) := hw.2.1
    clear hf hw
    go_simp
    exact hK _ _ (TR.refl _ _ _ _) rfl
  case s6 =>
    intro a w' K hT hf hw hK
    refine step_free rfl ?_
    have h26 : a.tmps[26]?.getD undef = .bool false := hw.1
    clear hf hw
    go_simp
    exact hK _ _ (TR.refl _ _ _ _) rfl
  case s7 =>
    intro a w' K hT hf hw hK
    have hg : a.tmps[27]?.getD undef = .bool false := hw.1
    refine step_no rfl rfl (.inl hg) ?_
    exact hK _ _ (TR.refl _ _ _ _) rfl
  case s8 =>
    intro a w' K hT hf hw hK
    have hg : a.tmps[27]?.getD undef = .bool false := hw.2.1
    refine step_no rfl rfl (.inl hg) ?_
    exact hK _ _ (TR.refl _ _ _ _) rfl
  case s9 =>
    intro a w' K hT hf hw hK
    have hg : a.tmps[27]?.getD undef = .bool false := hw.2.1
    refine step_no rfl rfl (.inl hg) ?_
    exact hK _ _ (TR.refl _ _ _ _) rfl
  case s10 =>
    intro a w' K hT hf hw hK
    have hg : a.tmps[27]?.getD undef = .bool false := hw.2.2.1
    refine step_no rfl rfl (.inl hg) ?_
    exact hK _ _ (TR.refl _ _ _ _) rfl
  case s11 =>
    intro a w' K hT hf hw hK
    have hg : a.tmps[31]?.getD undef = undef := hw.1
    refine step_no rfl rfl (.inr hg) ?_
    exact hK _ _ (TR.refl _ _ _ _) rfl
  case s12 =>
    intro a w' K hT hf hw hK
    have hg : a.tmps[31]?.getD undef = undef := hw.2.1
    refine step_no rfl rfl (.inr hg) ?_
    exact hK _ _ (TR.refl _ _ _ _) rfl
  case s13 =>
    intro a w' K hT hf hw hK
    have hg : a.tmps[31]?.getD undef = undef := hw.1
    refine step_no rfl rfl (.inr hg) ?_
    exact hK _ _ (TR.refl _ _ _ _) rfl
  case s14 =>
    intro a w' K hT hf hw hK
    have hg : a.tmps[31]?.getD undef = undef := hw.2.1
    refine step_no rfl rfl (.inr hg) ?_
    exact hK _ _ (TR.refl _ _ _ _) rfl
  case s15 =>
    intro a w' K hT hf hw hK
    have hg : a.tmps[31]?.getD undef = undef := hw.2.2.1
    refine step_no rfl rfl (.inr hg) ?_
    exact hK _ _ (TR.refl _ _ _ _) rfl
  case s16 =>
    intro a w' K hT hf hw hK
    have hg : a.tmps[27]?.getD undef = .bool false := hw.2.2.1
    refine step_no rfl rfl (.inl hg) ?_
    exact hK _ _ (TR.refl _ _ _ _) rfl
  case s17 =>
    intro a w' K hT hf hw hK
    refine step_free rfl ?_
    have h27 : a.tmps[27]?.getD undef = .bool false := hw.1
    have h37 : a.tmps[37]?.getD undef = undef := hw.2.1
    clear hf hw
    go_simp
    exact hK _ _ (TR.refl _ _ _ _) rfl
  case s18 =>
    intro a w' K hT hf hw hK
    refine step_free rfl ?_
    have h2 : a.tmps[2]?.getD undef = .pointer (some ⟨w.heap.size, 0, none⟩) := hf 2 (by kernel_rfl)
    have h21 : a.tmps[21]?.getD undef = .agg #[.int .i64 0, .int .i64 2, .int .i64 0, .bool false, .int .i64 k, .bool m, .slice none 0 0] := hw.1
    exact wp_store_mid 24 _ _ rfl w.heap.size 0 #[.int .i64 0, .int .i64 2, .int .i64 0, .bool false, .int .i64 k, .bool m, .slice none 0 0] (eval_tmp a 2 h2) (eval_tmp a 21 h21) (hT.there hth) (by kernel_rfl) (by simp [Value.oneCell']) (hK _ _ (TR.store (hT.there hth) rfl).1 (TR.store (hT.there hth) rfl).2)
  case s19 =>
    intro a w' K hT hf hw hK
    refine step_free rfl ?_
    have h38 : a.tmps[38]?.getD undef = Go.Value.bool false := hw.1
    clear hf hw
    go_simp
    exact hK _ _ (TR.refl _ _ _ _) rfl
  case hfin =>
    rintro vs w' hT ⟨f0, f1, f2, f3, f4, f5, f6, f7, f8, f9, f10, f11, f12, f13, f14, f15, f16, f17, f18, f19, -⟩
    have e0 : vs 0 = .agg #[.int .i64 0, .int .i64 2, .int .i64 0, .bool false, .int .i64 k, .bool m, .slice none 0 0] := f0
    have e1 : vs 1 = .iface 46 (.agg #[]) := f1
    have e2 : vs 2 = .agg #[.int .i64 0, .int .i64 2, .int .i64 0, .bool false, .int .i64 k, .bool m, .slice none 0 0] := f2
    have e3 : vs 3 = .int .i64 (ctlS k m) := f3
    have e4 : vs 4 = .int .i64 (c : Int) := f4
    have e5 : vs 5 = .bool false := f5
    have e6 : vs 6 = .bool false := f6
    have e7 : vs 7 = undef := f7
    have e8 : vs 8 = undef := f8
    have e9 : vs 9 = undef := f9
    have e10 : vs 10 = undef := f10
    have e11 : vs 11 = undef := f11
    have e12 : vs 12 = undef := f12
    have e13 : vs 13 = undef := f13
    have e14 : vs 14 = undef := f14
    have e15 : vs 15 = undef := f15
    have e16 : vs 16 = undef := f16
    have e17 : vs 17 = Go.Value.bool false := f17
    have e19 : vs 19 = Go.Value.bool false := f19
    simp only [putsAt, Act.put, e0, e1, e2, e3, e4, e5, e6, e7, e8, e9, e10, e11, e12, e13, e14, e15, e16, e17, e19]
    simp only [List.setIfInBounds_toArray, List.set_cons_succ, List.set_cons_zero]
    clear e0 e1 e2 e3 e4 e5 e6 e7 e8 e9 e10 e11 e12 e13 e14 e15 e16 e17 e19 f0 f1 f2 f3 f4 f5 f6 f7 f8 f9 f10 f11 f12 f13 f14 f15 f16 f17 f19
    have hr : w'.rangeAt w.heap.size 0 [.int .i64 0, .int .i64 2, .int .i64 0, .bool false, .int .i64 k, .bool m, .slice none 0 0] := f18
    clear f18
    go_wp2_with fail
    refine bodyPost_ret (results_cell_tmp rfl _ _ w.heap.size 0 [.int .i64 0, .int .i64 2, .int .i64 0, .bool false, .int .i64 k, .bool m, .slice none 0 0] _ rfl hr Try.underlying24 rfl (by kernel_rfl)) rfl ⟨rfl, ?_⟩
    exact hT.below (hw1.alloc hw1.size _).drew (Nat.le_refl _) rfl

/-- block.parse of any byte. -/
theorem bparse_any (c : Nat) (hc : c < 256) (w : World) :
    Calls Try.prog 30 #[.int .i64 (c : Int)] w
      fun e w' => e = .returned (.tuple #[.agg (blkC c).toArray, .bool (okC c)]) ∧ Below w.heap.size w w' := by
  by_cases h1 : c < 128
  · by_cases h2 : c % 32 = 0
    · exact bparse_I_ok c h1 h2 w
    · exact bparse_I_no c h1 h2 w
  · by_cases h3 : c < 192
    · by_cases h4 : c < 160 ∧ c % 16 < 4
      · by_cases h5 : c % 16 < 3
        · exact bparse_R_ok c (by omega) h3 ⟨h4.1, h5⟩ w
        · exact bparse_R_co c (by omega) h3 (by omega) w
      · exact bparse_R_no c (by omega) h3 h4 w
    · by_cases h5 : c % 32 < 4
      · exact bparse_S_ok c (by omega) hc h5 w
      · exact bparse_S_no c (by omega) hc h5 w
end Go.Proofs.Ytomdjcodgkoapaa

/- smartcard/block.Encode: the walk (printed by wip/gen/encode.py). -/
namespace Go.Proofs.Ytomdjcodgkoapaa
open Go.RowKit
set_option linter.unusedVariables false
attribute [local go_sem] m_PI m_PR m_PS m_CI m_CR m_CS
/-- The control byte of a block. -/
def ctlN (kind seq : Int) (more : Bool) (code : Int) (answer : Bool) : Int := if kind = 0 then ctlI seq more else if kind = 1 then ctlR seq code else ctlS code answer
/-- The three bytes ahead of the information field. -/
def headB (nad kind seq : Int) (more : Bool) (code : Int) (answer : Bool) (n : Nat) : List UInt8 := [UInt8.ofNat nad.toNat, UInt8.ofNat (ctlN kind seq more code answer).toNat, UInt8.ofNat n]
def encB (k nad kind seq : Int) (more : Bool) (code : Int) (answer : Bool) (inf : List UInt8) : List UInt8 :=
  headB nad kind seq more code answer inf.length ++ inf ++ sumB k (headB nad kind seq more code answer inf.length ++ inf)
theorem u8_ofNat (a : Nat) (h : a < 256) : u8 (UInt8.ofNat a) = .int .u8 (a : Int) := by
  unfold u8; rw [UInt8.toNat_ofNat']; rw [Nat.mod_eq_of_lt (by omega)]
theorem u8_ofInt (a : Int) (h0 : 0 ≤ a) (h : a < 256) : u8 (UInt8.ofNat a.toNat) = .int .u8 (a % 256) := by
  rw [u8_ofNat _ (by omega)]; congr 1; omega
theorem u8_ofNat' (a : Nat) (h : a < 256) : u8 (UInt8.ofNat a) = .int .u8 ((a : Int) % 256) := by
  rw [u8_ofNat a h]; congr 1; omega

theorem flat2 {α : Type} (a b : List α) : [a, b].flatten = a ++ b := by simp
theorem kindOf_0 (w : World) : Calls Try.prog 9 #[.int .i64 0] w fun e w' => e = .returned (.iface 44 (.agg #[])) ∧ w = w' := by
  go_enter Try.func9, Try.ntmps9
  go_wp2
  go_ret
  exact ⟨rfl, rfl⟩
set_option maxRecDepth 8000 in
set_option maxHeartbeats 2000000 in
theorem encode_I (nad seq : Int) (more : Bool) (A : Option Addr) (n c : Nat) (inf : List UInt8) (k : Int) (hk : k = 0 ∨ k = 1) (w : World) (h : IsB w A n c inf)
    (hok : checkE nad 0 seq more 0 false inf = 0) (hn0 : 0 ≤ nad) (hn1 : nad ≤ 254) (hv : (seq = 0 ∨ seq = 1)) (hlen : n ≤ 254) :
    Calls Try.prog 17 #[.agg #[.int .i64 nad, .int .i64 0, .int .i64 seq, .bool more, .int .i64 0, .bool false, .slice A n c], .int .i64 k] w
      fun e w' => ∃ A' n' c', e = .returned (.tuple #[.slice A' n' c', .int .i64 0]) ∧ Own w' w.heap.size 5 A' n' c' ((encB k nad 0 seq more 0 false inf).map u8) ∧ Below w.heap.size w w' := by
  have hp := sizeN_pos k hk
  have hl := IsB.len h
  have hctl : 0 ≤ ctlI seq more ∧ ctlI seq more < 256 := by unfold ctlI; rcases hv with rfl | rfl <;> cases more <;> simp
  have HV : Hid (((seq = 0 ∨ seq = 1)) ∧ u8 (UInt8.ofNat nad.toNat) = .int .u8 (nad % 256) ∧ u8 (UInt8.ofNat (ctlI seq more).toNat) = .int .u8 ((ctlI seq more) % 256) ∧ u8 (UInt8.ofNat n) = .int .u8 ((n : Int) % 256)) := ⟨hv, u8_ofInt _ hn0 (by omega), u8_ofInt _ hctl.1 hctl.2, u8_ofNat' _ (by omega)⟩
  have HV0 : Hid (IsB w A n c inf ∧ inf.length ≤ 254 ∧ (k = 0 ∨ k = 1)) := ⟨h, by omega, hk⟩
  have HL : Hid (encB k nad 0 seq more 0 false inf = [UInt8.ofNat nad.toNat, UInt8.ofNat (ctlI seq more).toNat, UInt8.ofNat n] ++ inf ++ sumB k ([UInt8.ofNat nad.toNat, UInt8.ofNat (ctlI seq more).toNat, UInt8.ofNat n] ++ inf)) := by
    show _ = _
    unfold encB headB
    rw [hl]
    rfl
  have hC : ∀ W, IsB W A n c inf → Calls Try.prog 8 #[.agg #[.int .i64 nad, .int .i64 0, .int .i64 seq, .bool more, .int .i64 0, .bool false, .slice A n c]] W fun e w' => e = .returned (.int .i64 0) ∧ Below W.heap.size W w' := fun W hW => by
    have := check_any nad 0 seq more 0 false A n c inf W hW
    rwa [hok] at this
  have HC := Lib.hid hC
  have hc0 := hctl.1
  have hc1 := hctl.2
  clear hC hok hl hctl hv
  go_enter Try.func17, Try.ntmps17
  go_wp2_with fail
  refine (size_any k _).mono ?_
  rintro e w1 ⟨rfl, rfl⟩
  rw [sizeI_eq]
  generalize sizeN k = s at *
  have h0 : ((s : Int) == 0) = false := by simp; omega
  go_wp2_with fail
  refine (HC.out _ (h.alloc _)).mono ?_
  rintro e w1 ⟨rfl, hb⟩
  have hbw : Below w.heap.size w w1 := ((Below.refl _ _).alloc (Nat.le_refl _) _).trans (hb.mono (by simp))
  go_wp2_with fail
  refine wp_region_list' (T := TB) [St.is (.pointer (some ⟨w.heap.size, 0, none⟩)), St.is (.int .i64 nad), St.is (.int .u8 (nad % 256)), St.is (.pointer (some ⟨w.heap.size, 1, none⟩)), St.is (.int .i64 0), St.is (.iface 44 (.agg #[])), St.is (.agg #[.int .i64 nad, .int .i64 0, .int .i64 seq, .bool more, .int .i64 0, .bool false, .slice A n c]), St.is (.int .i64 (ctlI seq more)), St.is (.int .u8 ((ctlI seq more) % 256)), St.is (.pointer (some ⟨w.heap.size, 6, none⟩)), St.is (.slice A n c), St.is (.int .i64 (n : Int)), St.is (.int .u8 ((n : Int) % 256)), St.pred (fun v' w' => ∃ g, v' = .slice (some ⟨g, 0, none⟩) 3 3 ∧ IsB w' (some ⟨g, 0, none⟩) 3 3 [UInt8.ofNat nad.toNat, UInt8.ofNat (ctlI seq more).toNat, UInt8.ofNat n]) (fun _ _ _ h q => q.imp fun _ q => ⟨q.1, Rd.below q.2 h⟩), St.pred (fun v' w' => ∃ g, v' = .slice (some ⟨g, 0, none⟩) 3 3 ∧ IsB w' (some ⟨g, 0, none⟩) 3 3 [UInt8.ofNat nad.toNat, UInt8.ofNat (ctlI seq more).toNat, UInt8.ofNat n]) (fun _ _ _ h q => q.imp fun _ q => ⟨q.1, Rd.below q.2 h⟩)] (by kernel_rfl) (by kernel_rfl) (TB.refl) (TB.trans) ⟨?s0, ?s1, ?s2, ?s3, ?s4, ?s5, ?s6, ?s7, ?s8, ?s9, ?s10, ?s11, ?s12, ?s13, ?s14, trivial⟩ ?hfin
  case s0 =>
    intro a w' K hT hf hw hK
    refine step_free ?_ ?_
    · rfl
    have h2 : a.tmps[2]?.getD undef = .pointer (some ⟨w.heap.size, 0, none⟩) := hf 2 (by kernel_rfl)
    clear hf hw
    go_simp
    exact hK _ _ (TB.refl _) rfl
  case s1 =>
    intro a w' K hT hf hw hK
    refine step_free ?_ ?_
    · rfl
    have h16 : a.tmps[16]?.getD undef = .pointer (some ⟨w.heap.size, 0, none⟩) := hw.1
    clear hf hw
    have hcell : ∀ j, w'.cell? ⟨w.heap.size, j, none⟩ = (w.alloc (.cells #[.int .i64 nad, .int .i64 0, .int .i64 seq, .bool more, .int .i64 0, .bool false, .slice A n c] 24)).cell? ⟨w.heap.size, j, none⟩ := fun j => (hT.cell (by have := hb.size; simp at this ⊢; omega)).trans (hb.cell (p := ⟨w.heap.size, j, none⟩) (by simp))
    go_simp
    exact hK _ _ (TB.refl _) rfl
  case s2 =>
    intro a w' K hT hf hw hK
    refine step_free ?_ ?_
    · rfl
    have h17 : a.tmps[17]?.getD undef = .int .i64 nad := hw.1
    clear hf hw
    go_simp
    exact hK _ _ (TB.refl _) rfl
  case s3 =>
    intro a w' K hT hf hw hK
    refine step_free ?_ ?_
    · rfl
    have h2 : a.tmps[2]?.getD undef = .pointer (some ⟨w.heap.size, 0, none⟩) := hf 2 (by kernel_rfl)
    clear hf hw
    go_simp
    exact hK _ _ (TB.refl _) rfl
  case s4 =>
    intro a w' K hT hf hw hK
    refine step_free ?_ ?_
    · rfl
    have h19 : a.tmps[19]?.getD undef = .pointer (some ⟨w.heap.size, 1, none⟩) := hw.1
    clear hf hw
    have hcell : ∀ j, w'.cell? ⟨w.heap.size, j, none⟩ = (w.alloc (.cells #[.int .i64 nad, .int .i64 0, .int .i64 seq, .bool more, .int .i64 0, .bool false, .slice A n c] 24)).cell? ⟨w.heap.size, j, none⟩ := fun j => (hT.cell (by have := hb.size; simp at this ⊢; omega)).trans (hb.cell (p := ⟨w.heap.size, j, none⟩) (by simp))
    go_simp
    exact hK _ _ (TB.refl _) rfl
  case s5 =>
    intro a w' K hT hf hw hK
    refine step_free ?_ ?_
    · rfl
    have h20 : a.tmps[20]?.getD undef = .int .i64 0 := hw.1
    clear hf hw
    go_simp
    refine (kindOf_0 _).mono ?_
    rintro e w2 ⟨rfl, rfl⟩
    exact hK _ _ (TB.refl _) rfl
  case s6 =>
    intro a w' K hT hf hw hK
    refine step_free ?_ ?_
    · rfl
    have h2 : a.tmps[2]?.getD undef = .pointer (some ⟨w.heap.size, 0, none⟩) := hf 2 (by kernel_rfl)
    clear hf hw
    have hcell : ∀ j, w'.cell? ⟨w.heap.size, j, none⟩ = (w.alloc (.cells #[.int .i64 nad, .int .i64 0, .int .i64 seq, .bool more, .int .i64 0, .bool false, .slice A n c] 24)).cell? ⟨w.heap.size, j, none⟩ := fun j => (hT.cell (by have := hb.size; simp at this ⊢; omega)).trans (hb.cell (p := ⟨w.heap.size, j, none⟩) (by simp))
    go_simp
    exact hK _ _ (TB.refl _) rfl
  case s7 =>
    intro a w' K hT hf hw hK
    refine step_free ?_ ?_
    · rfl
    have h21 : a.tmps[21]?.getD undef = .iface 44 (.agg #[]) := hw.1
    have h22 : a.tmps[22]?.getD undef = .agg #[.int .i64 nad, .int .i64 0, .int .i64 seq, .bool more, .int .i64 0, .bool false, .slice A n c] := hw.2.1
    clear hf hw
    go_simp
    refine (control_I _ _ _ _ _ _ _ _ HV.out.1).mono ?_
    rintro e w2 ⟨rfl, hb2⟩
    exact hK _ _ hb2 rfl
  case s8 =>
    intro a w' K hT hf hw hK
    refine step_free ?_ ?_
    · rfl
    have h23 : a.tmps[23]?.getD undef = .int .i64 (ctlI seq more) := hw.1
    clear hf hw
    go_simp
    exact hK _ _ (TB.refl _) rfl
  case s9 =>
    intro a w' K hT hf hw hK
    refine step_free ?_ ?_
    · rfl
    have h2 : a.tmps[2]?.getD undef = .pointer (some ⟨w.heap.size, 0, none⟩) := hf 2 (by kernel_rfl)
    clear hf hw
    go_simp
    exact hK _ _ (TB.refl _) rfl
  case s10 =>
    intro a w' K hT hf hw hK
    refine step_free ?_ ?_
    · rfl
    have h25 : a.tmps[25]?.getD undef = .pointer (some ⟨w.heap.size, 6, none⟩) := hw.1
    clear hf hw
    have hcell : ∀ j, w'.cell? ⟨w.heap.size, j, none⟩ = (w.alloc (.cells #[.int .i64 nad, .int .i64 0, .int .i64 seq, .bool more, .int .i64 0, .bool false, .slice A n c] 24)).cell? ⟨w.heap.size, j, none⟩ := fun j => (hT.cell (by have := hb.size; simp at this ⊢; omega)).trans (hb.cell (p := ⟨w.heap.size, j, none⟩) (by simp))
    go_simp
    exact hK _ _ (TB.refl _) rfl
  case s11 =>
    intro a w' K hT hf hw hK
    refine step_free ?_ ?_
    · rfl
    have h26 : a.tmps[26]?.getD undef = .slice A n c := hw.1
    clear hf hw
    go_simp
    exact hK _ _ (TB.refl _) rfl
  case s12 =>
    intro a w' K hT hf hw hK
    refine step_free ?_ ?_
    · rfl
    have h27 : a.tmps[27]?.getD undef = .int .i64 (n : Int) := hw.1
    clear hf hw
    go_simp
    exact hK _ _ (TB.refl _) rfl
  case s13 =>
    intro a w' K hT hf hw hK
    refine step_free ?_ ?_
    · rfl
    have h18 : a.tmps[18]?.getD undef = .int .u8 (nad % 256) := hw.1
    have h24 : a.tmps[24]?.getD undef = .int .u8 ((ctlI seq more) % 256) := hw.2.1
    have h28 : a.tmps[28]?.getD undef = .int .u8 ((n : Int) % 256) := hw.2.2.1
    clear hf hw
    go_simp
    refine hK _ _ (TB.alloc _ _) ⟨w'.heap.size, rfl, ?_⟩
    have ho := own_lit (w := w') (B := 0) (e := 5) [u8 (UInt8.ofNat nad.toNat), u8 (UInt8.ofNat (ctlI seq more).toNat), u8 (UInt8.ofNat n)] (Nat.zero_le _) (by simp)
    have hr := ho.rd
    rw [HV.out.2.1, HV.out.2.2.1, HV.out.2.2.2] at hr
    show Rd _ _ _ _ [u8 (UInt8.ofNat nad.toNat), u8 (UInt8.ofNat (ctlI seq more).toNat), u8 (UInt8.ofNat n)]
    rw [HV.out.2.1, HV.out.2.2.1, HV.out.2.2.2]
    exact hr
  case s14 =>
    intro a w' K hT hf hw hK
    refine step_free ?_ ?_
    · rfl
    have h29 := hw.1
    clear hf hw
    obtain ⟨g, h29, hg⟩ := h29
    have h29 : a.tmps[29]?.getD undef = .slice (some ⟨g, 0, none⟩) 3 3 := h29
    have HG := Lib.hid hg
    go_simp
    refine hK _ _ (TB.refl _) ?_
    exact ⟨g, rfl, hg⟩
  case hfin =>
    rintro vs w' hT ⟨f0, f1, f2, f3, f4, f5, f6, f7, f8, f9, f10, f11, f12, f13, f14, -⟩
    have e0 : vs 0 = .pointer (some ⟨w.heap.size, 0, none⟩) := f0
    have e1 : vs 1 = .int .i64 nad := f1
    have e2 : vs 2 = .int .u8 (nad % 256) := f2
    have e3 : vs 3 = .pointer (some ⟨w.heap.size, 1, none⟩) := f3
    have e4 : vs 4 = .int .i64 0 := f4
    have e5 : vs 5 = .iface 44 (.agg #[]) := f5
    have e6 : vs 6 = .agg #[.int .i64 nad, .int .i64 0, .int .i64 seq, .bool more, .int .i64 0, .bool false, .slice A n c] := f6
    have e7 : vs 7 = .int .i64 (ctlI seq more) := f7
    have e8 : vs 8 = .int .u8 ((ctlI seq more) % 256) := f8
    have e9 : vs 9 = .pointer (some ⟨w.heap.size, 6, none⟩) := f9
    have e10 : vs 10 = .slice A n c := f10
    have e11 : vs 11 = .int .i64 (n : Int) := f11
    have e12 : vs 12 = .int .u8 ((n : Int) % 256) := f12
    simp only [putsAt, Act.put, e0, e1, e2, e3, e4, e5, e6, e7, e8, e9, e10, e11, e12]
    simp only [List.setIfInBounds_toArray, List.set_cons_succ, List.set_cons_zero]
    clear e0 e1 e2 e3 e4 e5 e6 e7 e8 e9 e10 e11 e12 f0 f1 f2 f3 f4 f5 f6 f7 f8 f9 f10 f11 f12
    obtain ⟨g1, e13, -⟩ := f13
    obtain ⟨g, e14, hg⟩ := f14
    rw [e13, e14]
    clear e13 e14
    have hbT : Below w.heap.size w w' := hbw.drew.trans (Below.mono hT hbw.size)
    have HJ := Lib.hid (IsBB.lit2 (e := 22) hg (Rd.below HV0.out.1 hbT))
    have hcell : ∀ j, w'.cell? ⟨w.heap.size, j, none⟩ = (w.alloc (.cells #[.int .i64 nad, .int .i64 0, .int .i64 seq, .bool more, .int .i64 0, .bool false, .slice A n c] 24)).cell? ⟨w.heap.size, j, none⟩ := fun j => (TB.cell hT (by have := hb.size; simp at this ⊢; omega)).trans (hb.cell (p := ⟨w.heap.size, j, none⟩) (by simp))
    have HB := Lib.hid hbT
    clear hg hbT
    go_wp2_with fail
    refine (join_any _ _ _ [[UInt8.ofNat nad.toNat, UInt8.ofNat (ctlI seq more).toNat, UInt8.ofNat n], inf] _ HJ.out (by simp; have := HV0.out.2; omega)).mono ?_
    rintro e w2 ⟨A2, n2, c2, rfl, ho2, hb2⟩
    have hb3 : Below w.heap.size w w2 := (HB.out.alloc HB.out.size _).trans (hb2.mono (by have := HB.out.size; simp; omega))
    have HO := Lib.hid (And.intro ho2 hb3)
    clear ho2 hb2 hb3
    go_wp2_with fail
    refine (append_ok k HV0.out.2.2 A2 n2 c2 ([UInt8.ofNat nad.toNat, UInt8.ofNat (ctlI seq more).toNat, UInt8.ofNat n] ++ inf) _ (by have := HO.out.1.rd; rw [flat2] at this; exact this) (by simp; have := HV0.out.2.1; omega)).mono ?_
    rintro e w3 ⟨A3, n3, c3, rfl, ho3, hb4⟩
    have HO3 := Lib.hid (And.intro ho3 hb4)
    clear ho3 hb4
    go_wp2_with fail
    go_ret2
    refine ⟨A3, n3, c3, rfl, ?_, HO.out.2.trans (HO3.out.2.mono HO.out.2.size)⟩
    have h1 := HO3.out.1.base (B' := w.heap.size) HO.out.2.size
    rw [HL.out]
    exact h1

end Go.Proofs.Ytomdjcodgkoapaa

/- smartcard/block.Decode: the walk (printed by wip/gen/decode.py). -/
namespace Go.Proofs.Ytomdjcodgkoapaa
open Go.RowKit
set_option linter.unusedVariables false

/-! ### What a control byte tells -/
def kindC (c : Nat) : Int := if c < 128 then 0 else if c < 192 then 1 else 2
def seqC (c : Nat) : Int := if c < 128 then (c / 64 : Nat) else if c < 192 then (c / 16 % 2 : Nat) else 0
def moreC (c : Nat) : Bool := if c < 128 then decide (c / 32 % 2 = 1) else false
def codeC (c : Nat) : Int := if c < 128 then 0 else (c % 4 : Nat)
def ansC (c : Nat) : Bool := if c < 192 then false else decide (c / 32 % 2 = 1)
theorem blkC_eq (c : Nat) : blkC c = [.int .i64 0, .int .i64 (kindC c), .int .i64 (seqC c), .bool (moreC c), .int .i64 (codeC c), .bool (ansC c), .slice none 0 0] := by
  unfold blkC kindC seqC moreC codeC ansC
  by_cases h1 : c < 128
  · have h2 : c < 192 := by omega
    simp [h1, h2]
  · by_cases h2 : c < 192 <;> simp [h1, h2]
/-- Cell 6 of block g holds a slice that reads as inf and does not lie in g. -/
def Six (g : Nat) (inf : List UInt8) (w : World) : Prop := ∃ A n c, w.cell? ⟨g, 6, none⟩ = some (.slice A n c) ∧ IsB w A n c inf ∧ ∀ b off, A = some ⟨b, off, none⟩ → g < b
/-- The relation of worlds while a decoded block g is completed: its cell 0 and its cell 6 are set once. -/
structure TG (g : Nat) (v0 : Value) (inf : List UInt8) (w w' : World) : Prop where
  grown : w.grownBy w' (some g)
  there : w.there g 0 7 → w'.there g 0 7
  mid : ∀ j, 1 ≤ j → j ≤ 5 → w'.cell? ⟨g, j, none⟩ = w.cell? ⟨g, j, none⟩
  zero : w.cell? ⟨g, 0, none⟩ = some v0 → w'.cell? ⟨g, 0, none⟩ = some v0
  six : Six g inf w → Six g inf w'
section
variable {g : Nat} {v0 : Value} {inf : List UInt8}
theorem TG.refl (w : World) : TG g v0 inf w w := ⟨World.grownBy.refl w _, id, fun _ _ _ => rfl, id, id⟩
theorem TG.trans (x y z : World) (h : TG g v0 inf x y) (k : TG g v0 inf y z) : TG g v0 inf x z :=
  ⟨grown_trans h.grown k.grown, fun q => k.there (h.there q), fun j a b => (k.mid j a b).trans (h.mid j a b), fun q => k.zero (h.zero q), fun q => k.six (h.six q)⟩
theorem TG.of_below {w w' : World} (hg : g < w.heap.size) (h : Below w.heap.size w w') : TG g v0 inf w w' := by
  have hc : ∀ j, w'.cell? ⟨g, j, none⟩ = w.cell? ⟨g, j, none⟩ := fun j => h.cell (p := ⟨g, j, none⟩) hg
  exact ⟨⟨h.os, h.tape, h.output, h.size, fun k hk _ => h.block k hk⟩,
   fun q j hj => ⟨by rw [hc]; exact (q j hj).1, by rw [h.frozen (p := ⟨g, 0 + j, none⟩) hg]; exact (q j hj).2⟩,
   fun j _ _ => hc j, fun q => by rw [hc]; exact q, fun ⟨A, n, c, q, r, s⟩ => ⟨A, n, c, by rw [hc]; exact q, Rd.below r h, s⟩⟩
theorem grown_keepB {w w' : World} (h : w.grownBy w' (some g)) {A : Option Addr} {n c : Nat} {xs : List UInt8} (hr : IsB w A n c xs) (hne : ∀ b off, A = some ⟨b, off, none⟩ → b ≠ g) : IsB w' A n c xs :=
  Rd.mk (Rd.len hr) (Rd.cap hr) (Rd.max hr) fun k v hv => by
    obtain ⟨b, off, rfl, hc⟩ := Rd.at_ hr k v hv
    refine ⟨b, off, rfl, ?_⟩
    rw [World.cell?_of_block (a := ⟨b, off + k, none⟩) (h.block b (World.block_lt_of_cell? w _ hc) (fun e => hne b off rfl (by injection e)))]
    exact hc
theorem there_setCell {w : World} {p : Addr} {v : Value} (h : w.there g 0 7) : (w.setCell p v).there g 0 7 := by
  intro j hj
  obtain ⟨h1, h2⟩ := h j hj
  refine ⟨?_, by rw [World.frozen?_setCell]; exact h2⟩
  obtain ⟨u, hu⟩ := Option.isSome_iff_exists.1 h1
  by_cases he : p = ⟨g, 0 + j, none⟩
  · subst he; rw [World.cell?_setCell_same _ _ _ hu]; rfl
  · rw [World.cell?_setCell_other _ _ _ _ he]; exact h1
theorem grown_setCell (w : World) (g j : Nat) (v : Value) : w.grownBy (w.setCell ⟨g, j, none⟩ v) (some g) :=
  ⟨rfl, rfl, rfl, by simp, fun k _ hne => Below.heap_setCell w ⟨g, j, none⟩ v k (fun e => hne (by rw [e]))⟩
theorem TG.set0 {w : World} (h : w.there g 0 7) : TG g v0 inf w (w.setCell ⟨g, 0, none⟩ v0) ∧ (w.setCell ⟨g, 0, none⟩ v0).cell? ⟨g, 0, none⟩ = some v0 := by
  obtain ⟨u, hu⟩ := Option.isSome_iff_exists.1 (h 0 (by omega)).1
  have h0 := World.cell?_setCell_same w ⟨g, 0, none⟩ v0 hu
  refine ⟨⟨grown_setCell w g 0 v0, there_setCell, fun j a b => World.cell?_setCell_other _ _ _ _ (by simp <;> omega), fun _ => h0, ?_⟩, h0⟩
  rintro ⟨A, n, c, q, r, s⟩
  exact ⟨A, n, c, by rw [World.cell?_setCell_other _ _ _ _ (by simp)]; exact q, grown_keepB (grown_setCell w g 0 v0) r (fun b off e => by have := s b off e; omega), s⟩
theorem TG.set6 {w : World} {A : Option Addr} {n c : Nat} (h : w.there g 0 7) (hr : IsB w A n c inf) (hne : ∀ b off, A = some ⟨b, off, none⟩ → g < b) :
    TG g v0 inf w (w.setCell ⟨g, 6, none⟩ (.slice A n c)) ∧ Six g inf (w.setCell ⟨g, 6, none⟩ (.slice A n c)) := by
  obtain ⟨u, hu⟩ := Option.isSome_iff_exists.1 (h 6 (by omega)).1
  have h6 := World.cell?_setCell_same w ⟨g, 6, none⟩ (.slice A n c) hu
  have hs : Six g inf (w.setCell ⟨g, 6, none⟩ (.slice A n c)) := ⟨A, n, c, h6, grown_keepB (grown_setCell w g 6 _) hr (fun b off e => by have := hne b off e; omega), hne⟩
  exact ⟨⟨grown_setCell w g 6 _, there_setCell, fun j a b => World.cell?_setCell_other _ _ _ _ (by simp <;> omega), fun q => by rw [World.cell?_setCell_other _ _ _ _ (by simp)]; exact q, fun _ => hs⟩, hs⟩
end

theorem there_below {w w' : World} {R n : Nat} (h : w.there R 0 n) (hR : R < w.heap.size) (hb : Below w.heap.size w w') : w'.there R 0 n := fun j hj =>
  ⟨by rw [hb.cell (p := ⟨R, 0 + j, none⟩) hR]; exact (h j hj).1, by rw [hb.frozen (p := ⟨R, 0 + j, none⟩) hR]; exact (h j hj).2⟩
theorem there_zero (w : World) (e : TypeId) : (w.alloc (.cells #[.int .i64 0, .int .i64 0, .int .i64 0, .bool false, .int .i64 0, .bool false, .slice none 0 0] e)).there w.heap.size 0 7 := there_of_cells (heap_alloc_new w _) rfl

set_option maxRecDepth 8000 in
set_option maxHeartbeats 2000000 in
theorem decode_ok (A : Option Addr) (q s c : Nat) (k : Int) (hk : k = 0 ∨ k = 1) (hs : sizeN k = s) (xs : List UInt8) (b0 b1 b2 : UInt8) (inf : List UInt8) (w : World) (h : IsB w A (q + 3 + s) c xs) (hx : xs.length ≤ 900000)
    (heq : sumB k (xs.take (q + 3)) = xs.drop (q + 3)) (hbody : xs.take (q + 3) = b0 :: b1 :: b2 :: inf) (hok : okC b1.toNat = true) (hb2 : b2.toNat = inf.length) (her : checkE b0.toNat (kindC b1.toNat) (seqC b1.toNat) (moreC b1.toNat) (codeC b1.toNat) (ansC b1.toNat) inf = 0) :
    Calls Try.prog 18 #[.slice A (q + 3 + s) c, .int .i64 k] w fun e w' => ∃ A6 n6 c6, e = .returned (.tuple #[.agg #[.int .i64 (b0.toNat : Int), .int .i64 (kindC b1.toNat), .int .i64 (seqC b1.toNat), .bool (moreC b1.toNat), .int .i64 (codeC b1.toNat), .bool (ansC b1.toNat), .slice A6 n6 c6], .int .i64 0]) ∧ IsB w' A6 n6 c6 inf ∧ Below w.heap.size w w' := by
  have hp := sizeN_pos k hk
  have h63 := h.len63
  have hq : inf.length = q := by have := congrArg List.length hbody; have := IsB.len h; simp at *; omega
  have HR := Lib.hid (fun W hW => remove_ok k hk A (q + 3) s c hs xs W hW hx heq)
  have hP := fun W => bparse_any b1.toNat (UInt8.toNat_lt b1) W
  rw [blkC_eq, hok] at hP
  generalize kindC b1.toNat = kd at *
  generalize seqC b1.toNat = sq at *
  generalize moreC b1.toNat = mo at *
  generalize codeC b1.toNat = co at *
  generalize ansC b1.toNat = an at *
  have HP := Lib.hid hP
  have HQ := Lib.hid (And.intro hq (And.intro hbody hx))
  clear heq hP hq hx
  go_enter Try.func18, Try.ntmps18
  go_wp2_with fail
  refine (size_any k _).mono ?_
  rintro e w1 ⟨rfl, rfl⟩
  rw [sizeI_eq, hs]
  rw [hs] at hp
  have h0 : ((s : Int) == 0) = false := by simp; omega
  clear hs
  go_wp2_with fail
  refine (HR.out _ (h.alloc _)).mono ?_
  rintro e w1 ⟨A1, n1, c1, rfl, ho, hb⟩
  have ho1 := ho.rd
  rw [HQ.out.2.1] at ho1
  have hn1 : n1 = q + 3 := by have := IsB.len ho1; have := HQ.out.1; simp at *; omega
  subst hn1
  obtain ⟨b, off, rfl, hcell⟩ := IsB.cells ho1 (by omega)
  have hx0 : w1.cell? ⟨b, off, none⟩ = some (.int .u8 (b0.toNat : Int)) := hcell 0 b0 rfl
  have hx1 : w1.cell? ⟨b, off + 1, none⟩ = some (.int .u8 (b1.toNat : Int)) := hcell 1 b1 rfl
  have hx2 : w1.cell? ⟨b, off + 2, none⟩ = some (.int .u8 (b2.toNat : Int)) := hcell 2 b2 rfl
  have hb0 : (b0.toNat : Int) < 256 := by have := UInt8.toNat_lt b0; omega
  have hb1 : (b1.toNat : Int) < 256 := by have := UInt8.toNat_lt b1; omega
  have hb2l : (b2.toNat : Int) < 256 := by have := UInt8.toNat_lt b2; omega
  have hcap := ho1.cap
  have hmax := ho1.len63.2
  have hbw1 : Below w.heap.size w w1 := ((Below.refl _ _).alloc (Nat.le_refl _) _).trans (hb.mono (by simp))
  have hz1 : w.heap.size < w1.heap.size := by have := hb.size; simp at this; omega
  have H1 := Lib.hid (And.intro ho1 (And.intro hbw1 (there_below (there_zero w 24) (by simp) hb)))
  have hblt := World.block_lt_of_cell? _ _ hx0
  have hblk : Hid (b ≠ w.heap.size) := by
    have h1 := (ho.lt b rfl).1
    simp at h1
    show b ≠ _
    omega
  clear ho ho1 hb hbw1 hcell
  go_wp2_with fail
  refine (HP.out _).mono ?_
  rintro e w2 ⟨rfl, hb⟩
  have hz2 : w1.heap.size ≤ w2.heap.size := hb.size
  have hbw2 := H1.out.2.1.trans (hb.mono H1.out.2.1.size)
  have H2 := Lib.hid (And.intro (Rd.below H1.out.1 hb) (And.intro hbw2 (there_below H1.out.2.2 hz1 hb)))
  have hy0 : w2.cell? ⟨b, off, none⟩ = some (.int .u8 (b0.toNat : Int)) := (hb.cell (p := ⟨b, off, none⟩) hblt).trans hx0
  have hy2 : w2.cell? ⟨b, off + 2, none⟩ = some (.int .u8 (b2.toNat : Int)) := (hb.cell (p := ⟨b, off + 2, none⟩) hblt).trans hx2
  have hblt2 : b < w2.heap.size := by omega
  have hy0' : (w2.alloc (.cells #[.int .i64 0, .int .i64 kd, .int .i64 sq, .bool mo, .int .i64 co, .bool an, .slice none 0 0] 24)).cell? ⟨b, off, none⟩ = some (.int .u8 (b0.toNat : Int)) := by rw [World.cell?_alloc_lt _ _ _ hblt2]; exact hy0
  have hy2' : (w2.alloc (.cells #[.int .i64 0, .int .i64 kd, .int .i64 sq, .bool mo, .int .i64 co, .bool an, .slice none 0 0] 24)).cell? ⟨b, off + 2, none⟩ = some (.int .u8 (b2.toNat : Int)) := by rw [World.cell?_alloc_lt _ _ _ hblt2]; exact hy2
  have hz : w.heap.size < w2.heap.size := by omega
  have HTH := Lib.hid (there_below H2.out.2.2 hz ((Below.refl _ _).alloc (Nat.le_refl _) (.cells #[.int .i64 0, .int .i64 kd, .int .i64 sq, .bool mo, .int .i64 co, .bool an, .slice none 0 0] 24)))
  clear hbw2 hb
  have hb2' : (b2.toNat : Int) = (q : Int) := by have := HQ.out.1; omega
  have hb2n : b2.toNat = q := by omega
  have hth : ((w2.alloc (.cells #[.int .i64 0, .int .i64 kd, .int .i64 sq, .bool mo, .int .i64 co, .bool an, .slice none 0 0] 24)).drew).there w2.heap.size 0 7 := there_of_cells (cs := #[.int .i64 0, .int .i64 kd, .int .i64 sq, .bool mo, .int .i64 co, .bool an, .slice none 0 0]) (t := 24) (heap_alloc_new w2 _) rfl
  have hbk := hblk.out
  have hbg : b ≠ w2.heap.size := by omega
  have HC : Hid (∀ (A : Option Addr) (n c : Nat) (W : World), IsB W A n c inf → Calls Try.prog 8 #[.agg #[.int .i64 (b0.toNat : Int), .int .i64 kd, .int .i64 sq, .bool mo, .int .i64 co, .bool an, .slice A n c]] W
      fun e w' => e = .returned (.int .i64 0) ∧ Below W.heap.size W w') := fun A n c W hW => by
    have := check_any b0.toNat kd sq mo co an A n c inf W hW
    rwa [her] at this
  clear her
  rw [hb2n] at *
  go_wp2_with fail
  refine wp_region_list' (T := TG w2.heap.size (.int .i64 (b0.toNat : Int)) inf) [St.is (.slice (some ⟨b, off, none⟩) (q + 3) c1), St.is (.pointer (some ⟨b, off, none⟩)), St.is (.int .u8 (b0.toNat : Int)), St.is (.int .i64 (b0.toNat : Int)), St.is (.slice (some ⟨b, off, none⟩) (q + 3) c1), St.pred (fun v' w' => ∃ A' c', v' = .slice A' q c' ∧ IsB w' A' q c' inf ∧ ∀ b off, A' = some ⟨b, off, none⟩ → b ≠ w2.heap.size) (fun _ _ _ h ⟨A, c, e, r, s⟩ => ⟨A, c, e, grown_keepB h.grown r s, s⟩), St.pred (fun v' w' => ∃ A' n' c', v' = .slice A' n' c' ∧ IsB w' A' n' c' inf ∧ ∀ b off, A' = some ⟨b, off, none⟩ → w2.heap.size < b) (fun _ _ _ h ⟨A, n, c, e, r, s⟩ => ⟨A, n, c, e, grown_keepB h.grown r (fun b off e => by have := s b off e; omega), s⟩), St.is (.pointer (some ⟨w2.heap.size, 0, none⟩)), St.pred (fun v' w' => w'.cell? ⟨w2.heap.size, 0, none⟩ = some (.int .i64 (b0.toNat : Int))) (fun _ _ _ h q => h.zero q), St.is (.pointer (some ⟨w2.heap.size, 6, none⟩)), St.pred (fun v' w' => Six w2.heap.size inf w') (fun _ _ _ h q => h.six q)] (by kernel_rfl) (by kernel_rfl) (TG.refl) (TG.trans) ⟨?s0, ?s1, ?s2, ?s3, ?s4, ?s5, ?s6, ?s7, ?s8, ?s9, ?s10, trivial⟩ ?hfin
  case s0 =>
    intro a w' K hT hf hw hK
    refine step_free ?_ ?_
    · rfl
    have h7 : a.tmps[7]?.getD undef = .slice (some ⟨b, off, none⟩) (q + 3) c1 := hf 7 (by kernel_rfl)
    clear hf hw
    go_simp
    exact hK _ _ (TG.refl _) rfl
  case s1 =>
    intro a w' K hT hf hw hK
    refine step_free ?_ ?_
    · rfl
    have h54 : a.tmps[54]?.getD undef = .slice (some ⟨b, off, none⟩) (q + 3) c1 := hw.1
    clear hf hw
    have hq0 : (0 : Int) < (q : Int) + 3 := by omega
    go_simp
    exact hK _ _ (TG.refl _) rfl
  case s2 =>
    intro a w' K hT hf hw hK
    refine step_free ?_ ?_
    · rfl
    have h55 : a.tmps[55]?.getD undef = .pointer (some ⟨b, off, none⟩) := hw.1
    clear hf hw
    have hcc : w'.cell? ⟨b, off, none⟩ = some (.int .u8 (b0.toNat : Int)) := (World.cell?_of_block (a := ⟨b, off, none⟩) (hT.grown.block b (by simp; omega) (fun e => by injection e with e; omega))).trans hy0'
    go_simp
    exact hK _ _ (TG.refl _) rfl
  case s3 =>
    intro a w' K hT hf hw hK
    refine step_free ?_ ?_
    · rfl
    have h56 : a.tmps[56]?.getD undef = .int .u8 (b0.toNat : Int) := hw.1
    clear hf hw
    have hwr : IntKind.i64.wrap (b0.toNat : Int) = (b0.toNat : Int) := IntWalk.i64_in _ (by omega)
    go_simp
    exact hK _ _ (TG.refl _) rfl
  case s4 =>
    intro a w' K hT hf hw hK
    refine step_free ?_ ?_
    · rfl
    have h7 : a.tmps[7]?.getD undef = .slice (some ⟨b, off, none⟩) (q + 3) c1 := hf 7 (by kernel_rfl)
    clear hf hw
    go_simp
    exact hK _ _ (TG.refl _) rfl
  case s5 =>
    intro a w' K hT hf hw hK
    refine step_free ?_ ?_
    · rfl
    have h58 : a.tmps[58]?.getD undef = .slice (some ⟨b, off, none⟩) (q + 3) c1 := hw.1
    clear hf hw
    have hrr : IsB w' (some ⟨b, off, none⟩) (q + 3) c1 (b0 :: b1 :: b2 :: inf) := grown_keepB hT.grown (Rd.drew (Rd.alloc H2.out.1 _)) (fun b' off' e => by injection e with e; injection e with e1 e2; omega)
    have hcut := IsB.cut hrr (k := 3) (by omega)
    rw [show q + 3 - 3 = q by omega] at hcut
    have hcut : IsB w' (if c1 = 3 then some ⟨b, off, none⟩ else some ⟨b, off + 3, none⟩) q (c1 - 3) inf := hcut
    have hcutg : ∀ b' off', (if c1 = 3 then some (⟨b, off, none⟩ : Addr) else some ⟨b, off + 3, none⟩) = some ⟨b', off', none⟩ → b' ≠ w2.heap.size := by intro b' off' e; split at e <;> (injection e with e; injection e with e1 e2; omega)
    have HCC := Lib.hid (And.intro hcut hcutg)
    clear hcut hcutg hrr
    go_simp
    refine hK _ _ (TG.refl _) ?_
    exact ⟨_, _, rfl, HCC.out.1, HCC.out.2⟩
  case s6 =>
    intro a w' K hT hf hw hK
    refine step_free ?_ ?_
    · rfl
    have h59 := hw.1
    clear hf hw
    obtain ⟨A5, c5, h59, h5r, h5g⟩ := h59
    have h59 : a.tmps[59]?.getD undef = .slice A5 q c5 := h59
    have hgl : w2.heap.size < w'.heap.size := by have := hT.grown.size; simp at this; omega
    go_simp
    refine (clone_any A5 q c5 inf _ h5r (by have := HQ.out.1; have := HQ.out.2; simp at *; omega)).mono ?_
    rintro e w3 ⟨A3, n3, c3, rfl, ho3, hb3⟩
    refine hK _ _ (TG.of_below hgl hb3) ?_
    refine ⟨A3, n3, c3, rfl, ho3.rd, fun b off e => ?_⟩
    subst e
    have := (ho3.lt b rfl).1
    omega
  case s7 =>
    intro a w' K hT hf hw hK
    refine step_free ?_ ?_
    · rfl
    have h9 : a.tmps[9]?.getD undef = .pointer (some ⟨w2.heap.size, 0, none⟩) := hf 9 (by kernel_rfl)
    clear hf hw
    go_simp
    exact hK _ _ (TG.refl _) rfl
  case s8 =>
    intro a w' K hT hf hw hK
    refine step_free ?_ ?_
    · rfl
    have h61 : a.tmps[61]?.getD undef = .pointer (some ⟨w2.heap.size, 0, none⟩) := hw.1
    have h57 : a.tmps[57]?.getD undef = .int .i64 (b0.toNat : Int) := hw.2.1
    clear hf hw
    obtain ⟨u0, hu0⟩ := Option.isSome_iff_exists.1 (hT.there hth 0 (by omega)).1
    have hf0 := (hT.there hth 0 (by omega)).2
    simp only [Nat.zero_add] at hu0 hf0
    go_simp
    exact hK undef _ (TG.set0 (hT.there hth)).1 (TG.set0 (v0 := .int .i64 (b0.toNat : Int)) (inf := inf) (hT.there hth)).2
  case s9 =>
    intro a w' K hT hf hw hK
    refine step_free ?_ ?_
    · rfl
    have h9 : a.tmps[9]?.getD undef = .pointer (some ⟨w2.heap.size, 0, none⟩) := hf 9 (by kernel_rfl)
    clear hf hw
    go_simp
    exact hK _ _ (TG.refl _) rfl
  case s10 =>
    intro a w' K hT hf hw hK
    refine step_free ?_ ?_
    · rfl
    have h62 : a.tmps[62]?.getD undef = .pointer (some ⟨w2.heap.size, 6, none⟩) := hw.1
    have h60 := hw.2.1
    clear hf hw
    obtain ⟨A6, n6, c6, h60, h6r, h6g⟩ := h60
    have h60 : a.tmps[60]?.getD undef = .slice A6 n6 c6 := h60
    obtain ⟨u0, hu0⟩ := Option.isSome_iff_exists.1 (hT.there hth 6 (by omega)).1
    have hf0 := (hT.there hth 6 (by omega)).2
    simp only [Nat.zero_add] at hu0 hf0
    go_simp
    exact hK undef _ (TG.set6 (hT.there hth) h6r h6g).1 (TG.set6 (v0 := .int .i64 (b0.toNat : Int)) (hT.there hth) h6r h6g).2
  case hfin =>
    rintro vs w' hT ⟨f0, f1, f2, f3, f4, f5, f6, f7, f8, f9, f10, -⟩
    have e0 : vs 0 = .slice (some ⟨b, off, none⟩) (q + 3) c1 := f0
    have e1 : vs 1 = .pointer (some ⟨b, off, none⟩) := f1
    have e2 : vs 2 = .int .u8 (b0.toNat : Int) := f2
    have e3 : vs 3 = .int .i64 (b0.toNat : Int) := f3
    have e4 : vs 4 = .slice (some ⟨b, off, none⟩) (q + 3) c1 := f4
    have e7 : vs 7 = .pointer (some ⟨w2.heap.size, 0, none⟩) := f7
    have e9 : vs 9 = .pointer (some ⟨w2.heap.size, 6, none⟩) := f9
    simp only [putsAt, Act.put, e0, e1, e2, e3, e4, e7, e9]
    simp only [List.setIfInBounds_toArray, List.set_cons_succ, List.set_cons_zero]
    clear e0 e1 e2 e3 e4 e7 e9 f0 f1 f2 f3 f4 f7 f9
    have hz0 : w'.cell? ⟨w2.heap.size, 0, none⟩ = some (.int .i64 (b0.toNat : Int)) := f8
    obtain ⟨A6, n6, c6, hz6, hr6, hs6⟩ : Six w2.heap.size inf w' := f10
    have hmid : ∀ j v, 1 ≤ j → j ≤ 5 → [.int .i64 0, .int .i64 kd, .int .i64 sq, .bool mo, .int .i64 co, .bool an, .slice none 0 0][j]? = some v → w'.cell? ⟨w2.heap.size, j, none⟩ = some v := fun j v h1 h5 hv => (hT.mid j h1 h5).trans ((cell_new w2 _ _ j).trans hv)
    have hz1 := hmid 1 _ (by omega) (by omega) rfl
    have hz2 := hmid 2 _ (by omega) (by omega) rfl
    have hz3 := hmid 3 _ (by omega) (by omega) rfl
    have hz4 := hmid 4 _ (by omega) (by omega) rfl
    have hz5 := hmid 5 _ (by omega) (by omega) rfl
    have hsz : w2.heap.size < w'.heap.size := by have := hT.grown.size; simp at this; omega
    have hbw' : Below w.heap.size w w' := (H2.out.2.1.alloc H2.out.2.1.size _).drew.grown hT.grown (by have := H2.out.2.1.size; simp; omega) (fun k hk => by injection hk with hk; omega)
    have hthR : w'.there w.heap.size 0 7 := fun j hj => ⟨by rw [World.cell?_of_block (a := ⟨w.heap.size, 0 + j, none⟩) (hT.grown.block w.heap.size (by simp; omega) (fun e => by injection e with e; omega))]; exact (HTH.out j hj).1, by rw [World.frozen?_of_block (a := ⟨w.heap.size, 0 + j, none⟩) (hT.grown.block w.heap.size (by simp; omega) (fun e => by injection e with e; omega))]; exact (HTH.out j hj).2⟩
    have HW := Lib.hid (And.intro hbw' (And.intro hthR (And.intro hr6 hs6)))
    clear f8 hmid hbw' hthR hr6 hs6 f5 f6 hT
    go_wp2_with fail
    refine (HC.out _ _ _ _ HW.out.2.2.1).mono ?_
    rintro e w5 ⟨rfl, hb5⟩
    have hzR : w.heap.size < w'.heap.size := by omega
    have HTH5 := Lib.hid (there_below HW.out.2.1 hzR hb5)
    have HB5 := Lib.hid (HW.out.1.trans (hb5.mono HW.out.1.size))
    have h5c : ∀ j v, w'.cell? ⟨w2.heap.size, j, none⟩ = some v → w5.cell? ⟨w2.heap.size, j, none⟩ = some v := fun j v hv => (hb5.cell (p := ⟨w2.heap.size, j, none⟩) hsz).trans hv
    have hv0 := h5c 0 _ hz0
    have hv1 := h5c 1 _ hz1
    have hv2 := h5c 2 _ hz2
    have hv3 := h5c 3 _ hz3
    have hv4 := h5c 4 _ hz4
    have hv5 := h5c 5 _ hz5
    have hv6 := h5c 6 _ hz6
    have H6 := Lib.hid (Rd.below HW.out.2.2.1 hb5)
    clear h5c hb5
    go_wp2_with (refine wpList_store_mid rfl 24 _ _ rfl w.heap.size 0 #[.int .i64 (b0.toNat : Int), .int .i64 kd, .int .i64 sq, .bool mo, .int .i64 co, .bool an, .slice A6 n6 c6] rfl rfl HTH5.out (by kernel_rfl) (by simp [Value.oneCell']) ?_)
    refine bodyPost_ret (results_cell_tmp rfl _ _ w.heap.size 0 [.int .i64 (b0.toNat : Int), .int .i64 kd, .int .i64 sq, .bool mo, .int .i64 co, .bool an, .slice A6 n6 c6] _ rfl (World.rangeAt_setCells_same w5 w.heap.size 0 [.int .i64 (b0.toNat : Int), .int .i64 kd, .int .i64 sq, .bool mo, .int .i64 co, .bool an, .slice A6 n6 c6] HTH5.out) Try.underlying24 rfl (by kernel_rfl)) rfl ⟨A6, n6, c6, rfl, ?_, ?_⟩
    · exact grown_keepB (grown_setCells _ 0 w5) H6.out (fun b off e => by have := HW.out.2.2.2 b off e; omega)
    · exact below_setCells (Nat.le_refl _) _ _ _ HB5.out
end Go.Proofs.Ytomdjcodgkoapaa

/- smartcard/smartcardlaw06.awake: the walk. -/
namespace Go.Proofs.Ytomdjcodgkoapaa
open Go.RowKit
set_option linter.unusedVariables false

theorem isB_lit {w : World} {e : TypeId} (xs : List UInt8) (vs : List Value) (hv : xs.map u8 = vs) (hm : xs.length ≤ 1000) : IsB (w.alloc (.cells vs.toArray e)) (some ⟨w.heap.size, 0, none⟩) xs.length xs.length xs := by
  subst hv
  have h := (own_lit (w := w) (B := w.heap.size) (e := e) (xs.map u8) (Nat.le_refl _) (by simpa using hm)).rd
  simpa using h

theorem aw1 : encB 0 0 0 1 false 0 false [160, 176] = [0, 64, 2, 160, 176, 82] := by decide +kernel
set_option maxHeartbeats 800000 in
theorem awake_any (w : World) :
    Calls Try.prog 7 #[] w fun e w' => e = .returned (.bool true) ∧ Below w.heap.size w w' := by
  go_enter Try.func7, Try.ntmps7
  go_wp2_with fail
  have hi : IsB (w.alloc (.cells #[.int .u8 160, .int .u8 176] 5)) (some ⟨w.heap.size, 0, none⟩) 2 2 [160, 176] := isB_lit [160, 176] _ rfl (by decide)
  refine (encode_I 0 1 false _ 2 2 [160, 176] 0 (.inl rfl) _ hi (by decide +kernel) (by decide) (by decide) (.inr rfl) (by decide)).mono ?_
  rintro e w1 ⟨A1, n1, c1, rfl, ho, hb⟩
  rw [aw1] at ho
  have hB1 : Below w.heap.size w w1 := ((Below.refl _ _).alloc (Nat.le_refl _) _).trans (hb.mono (by simp))
  have H1 := Lib.hid (And.intro ho.rd hB1)
  clear ho hb hi hB1
  go_wp2_with fail
  have hj : IsB (w1.alloc (.cells #[.int .u8 0, .int .u8 130, .int .u8 0, .int .u8 130] 5)) (some ⟨w1.heap.size, 0, none⟩) (0 + 3 + 1) 4 [0, 130, 0, 130] := isB_lit [0, 130, 0, 130] _ rfl (by decide)
  refine (decode_ok _ 0 1 4 0 (.inl rfl) rfl [0, 130, 0, 130] 0 130 0 [] _ hj (by decide) (by decide +kernel) rfl (by decide +kernel) rfl (by decide +kernel)).mono ?_
  rintro e w2 ⟨A2, n2, c2, rfl, hi2, hb⟩
  rw [show kindC (130 : UInt8).toNat = 1 by decide +kernel, show seqC (130 : UInt8).toNat = 0 by decide +kernel, show moreC (130 : UInt8).toNat = false by decide +kernel, show codeC (130 : UInt8).toNat = 2 by decide +kernel, show ansC (130 : UInt8).toNat = false by decide +kernel, show (((0 : UInt8).toNat : Nat) : Int) = 0 by decide +kernel]
  have hb' : Below w1.heap.size w1 w2 := ((Below.refl _ _).alloc (Nat.le_refl _) _).trans (hb.mono (by simp))
  have H2 := Lib.hid (And.intro (Rd.below H1.out.1 hb') (H1.out.2.trans (hb'.mono H1.out.2.size)))
  clear hi2 hb hb' hj
  go_wp2_with fail
  have hk : IsB ((w2.alloc (.cells #[.int .i64 0, .int .i64 1, .int .i64 0, .bool false, .int .i64 2, .bool false, .slice A2 n2 c2] 24)).alloc (.cells #[.int .u8 0, .int .u8 64, .int .u8 2, .int .u8 160, .int .u8 176, .int .u8 82] 5)) (some ⟨w2.heap.size + 1, 0, none⟩) 6 6 [0, 64, 2, 160, 176, 82] := by
    have := isB_lit (w := w2.alloc (.cells #[.int .i64 0, .int .i64 1, .int .i64 0, .bool false, .int .i64 2, .bool false, .slice A2 n2 c2] 24)) (e := 5) [0, 64, 2, 160, 176, 82] _ rfl (by decide)
    rwa [show (w2.alloc (.cells #[.int .i64 0, .int .i64 1, .int .i64 0, .bool false, .int .i64 2, .bool false, .slice A2 n2 c2] 24)).heap.size = w2.heap.size + 1 by simp] at this
  refine (same_any _ _ _ _ _ _ _ _ _ ((Rd.alloc (Rd.alloc H2.out.1 _) _)) hk).mono ?_
  rintro e w3 ⟨rfl, hb⟩
  have hb3 : Below (w2.heap.size + 1) (w2.alloc (.cells #[.int .i64 0, .int .i64 1, .int .i64 0, .bool false, .int .i64 2, .bool false, .slice A2 n2 c2] 24)) w3 := ((Below.refl _ _).alloc (by simp) _).trans (hb.mono (by simp))
  have hx : ∀ j v, [Value.int .i64 0, .int .i64 1, .int .i64 0, .bool false, .int .i64 2, .bool false, .slice A2 n2 c2][j]? = some v → w3.cell? ⟨w2.heap.size, j, none⟩ = some v := fun j v hv =>
    (hb3.cell (p := ⟨w2.heap.size, j, none⟩) (by simp)).trans ((cell_new w2 _ _ j).trans hv)
  have hx1 := hx 1 _ rfl
  have hx4 := hx 4 _ rfl
  have hB3 : Below w.heap.size w w3 := (H2.out.2.alloc H2.out.2.size _).trans (hb3.mono (by have := H2.out.2.size; omega))
  rw [show decide ([0, 64, 2, 160, 176, 82] = ([0, 64, 2, 160, 176, 82] : List UInt8)) = true by decide +kernel]
  have HB3 := Lib.hid hB3
  clear hx hb3 hb hk hB3
  go_wp2_with fail
  go_ret
  exact ⟨rfl, HB3.out⟩
end Go.Proofs.Ytomdjcodgkoapaa

/- What the walks of chapter 06 give, as entries of the engine. -/
namespace Go.Proofs.Ytomdjcodgkoapaa.En
open Go Go.RowKit
set_option linter.unusedVariables false
theorem aggD_inv {E : Env} {g : G} {w : World} {dead : List Pos} {cs : List V} {u : Value} (h : RepD E g w dead (.agg (cs.map fun x => .v x .no)) u) : ∃ us, u = .agg us ∧ RepV g w (.agg cs) (.agg us) := by
  generalize hd : D.agg (cs.map fun x => .v x .no) = d at h
  cases h with
  | agg ds us hn hr =>
    injection hd with hd
    subst hd
    refine ⟨us, rfl, .agg _ us (by simpa using hn) fun j y hy => ?_⟩
    have := hr j (.v y .no) (by simp [hy])
    cases this with | v _ _ _ hv _ => exact hv
  | _ => cases hd
theorem pure_of_below {g : G} {w w' : World} (hb : Below w.heap.size w w') {y : V} {u : Value} (hu : ∀ g' w', RepV g' w' y u) : ∃ us' g', Ending.returned u = .returned (retV us') ∧ (∀ E' : Env, RepDs E' g' w' [] [.v y .no] us') ∧ PureTr g w g' w' := by
  refine ⟨[u], { g with Γ := fun b => if b < w.heap.size then g.Γ b else .imm }, rfl, fun E' => ⟨rfl, fun k z hk => ?_⟩, ⟨⟨hb.os, hb.tape, hb.output, hb.size, hb.block⟩, fun b hlt => if_pos hlt, fun b hge => by
    show Perm.still (if b < w.heap.size then g.Γ b else .imm) = true
    rw [if_neg (by omega)]; rfl, rfl, rfl⟩⟩
  rcases k with _ | k
  · simp at hk; subst hk; exact .v _ _ _ (hu _ _) trivial
  · simp at hk
theorem below_of_pure {g : G} {w : World} {g' : G} {w' : World} (h : PureTr g w g' w') : Below w.heap.size w w' := ⟨h.grows.os, h.grows.tape, h.grows.output, h.grows.size, h.grows.old⟩
/-- A block, as the walks have it. -/
theorem blk_inv {E : Env} {g : G} {w : World} {x0 x1 x2 : Int} {x3 : Bool} {x4 : Int} {x5 : Bool} {x6 : List UInt8} {u : Value} (h : RepD E g w [] (.agg [.v (.int .i64 x0) .no, .v (.int .i64 x1) .no, .v (.int .i64 x2) .no, .v (.bool x3) .no, .v (.int .i64 x4) .no, .v (.bool x5) .no, .v (.bytes x6) .no]) u) :
    ∃ A n c, u = .agg #[.int .i64 x0, .int .i64 x1, .int .i64 x2, .bool x3, .int .i64 x4, .bool x5, .slice A n c] ∧ IsB w A n c x6 ∧ RepV g w (.bytes x6) (.slice A n c) := by
  obtain ⟨us, rfl, hv⟩ := aggD_inv (cs := [.int .i64 x0, .int .i64 x1, .int .i64 x2, .bool x3, .int .i64 x4, .bool x5, .bytes x6]) h
  cases hv with
  | agg cs us hn hr3 =>
  obtain ⟨us⟩ := us
  match us, hn with
  | [u0, u1, u2, u3, u4, u5, u6], _ =>
  have r0 := hr3 0 _ rfl
  have r1 := hr3 1 _ rfl
  have r2 := hr3 2 _ rfl
  have r3 := hr3 3 _ rfl
  have r4 := hr3 4 _ rfl
  have r5 := hr3 5 _ rfl
  have r6 := hr3 6 _ rfl
  simp at r0 r1 r2 r3 r4 r5 r6
  cases r0; cases r1; cases r2; cases r3; cases r4; cases r5
  obtain ⟨A, n, c, rfl, hB⟩ := isB_of_rep r6
  exact ⟨A, n, c, rfl, hB, r6⟩
def s_rCheck (N : Nat) (x0 x1 x2 : Int) (x3 : Bool) (x4 : Int) (x5 : Bool) (x6 : List UInt8) : Option Int := some (checkE x0 x1 x2 x3 x4 x5 x6)
theorem checkE_range (x0 x1 x2 : Int) (x3 : Bool) (x4 : Int) (x5 : Bool) (x6 : List UInt8) : 0 ≤ checkE x0 x1 x2 x3 x4 x5 x6 ∧ checkE x0 x1 x2 x3 x4 x5 x6 ≤ 4 := by
  unfold checkE infE
  repeat' split
  all_goals omega
theorem p_rCheck (N : Nat) (x0 x1 x2 : Int) (x3 : Bool) (x4 : Int) (x5 : Bool) (x6 : List UInt8) (r0 : Int) (h : s_rCheck N x0 x1 x2 x3 x4 x5 x6 = some r0) :
    PureRet Try.prog T 13 [.agg [.v (.int .i64 x0) .no, .v (.int .i64 x1) .no, .v (.int .i64 x2) .no, .v (.bool x3) .no, .v (.int .i64 x4) .no, .v (.bool x5) .no, .v (.bytes x6) .no]] [.v (.int .i64 r0) .no] := by
  injection h with h
  subst h
  intro E g w us hsz hus
  obtain ⟨hl, hr⟩ := hus
  match us, hl with
  | [u], _ =>
  have hu := hr 0 _ rfl
  simp only [List.getD_cons_zero] at hu
  obtain ⟨A, n, c, rfl, hB, _⟩ := blk_inv hu
  refine (rcheck_any x0 x1 x2 x3 x4 x5 A n c x6 w hB).mono ?_
  rintro e w' ⟨rfl, hb⟩
  have := checkE_range x0 x1 x2 x3 x4 x5 x6
  exact pure_of_below hb fun g' w' => .int _ _ (by show (-9223372036854775808 : Int) ≤ _ ∧ _ ≤ (9223372036854775807 : Int); omega)
def s_rSame6 (N : Nat) (x0 x1 x2 : Int) (x3 : Bool) (x4 : Int) (x5 : Bool) (x6 : List UInt8) (x7 x8 x9 : Int) (x10 : Bool) (x11 : Int) (x12 : Bool) (x13 : List UInt8) : Option Bool := some (sameBl x0 x1 x2 x3 x4 x5 x6 x7 x8 x9 x10 x11 x12 x13)
theorem p_rSame6 (N : Nat) (x0 x1 x2 : Int) (x3 : Bool) (x4 : Int) (x5 : Bool) (x6 : List UInt8) (x7 x8 x9 : Int) (x10 : Bool) (x11 : Int) (x12 : Bool) (x13 : List UInt8) (r0 : Bool) (h : s_rSame6 N x0 x1 x2 x3 x4 x5 x6 x7 x8 x9 x10 x11 x12 x13 = some r0) :
    PureRet Try.prog T 6 [.agg [.v (.int .i64 x0) .no, .v (.int .i64 x1) .no, .v (.int .i64 x2) .no, .v (.bool x3) .no, .v (.int .i64 x4) .no, .v (.bool x5) .no, .v (.bytes x6) .no], .agg [.v (.int .i64 x7) .no, .v (.int .i64 x8) .no, .v (.int .i64 x9) .no, .v (.bool x10) .no, .v (.int .i64 x11) .no, .v (.bool x12) .no, .v (.bytes x13) .no]] [.v (.bool r0) .no] := by
  injection h with h
  subst h
  intro E g w us hsz hus
  obtain ⟨hl, hr⟩ := hus
  match us, hl with
  | [u, v], _ =>
  have hu := hr 0 _ rfl
  have hv := hr 1 _ rfl
  simp only [List.getD_cons_zero, List.getD_cons_succ] at hu hv
  obtain ⟨A, n, c, rfl, hB, _⟩ := blk_inv hu
  obtain ⟨A', n', c', rfl, hB', _⟩ := blk_inv hv
  refine (rsame_any x0 x1 x2 x3 x4 x5 A n c x6 x7 x8 x9 x10 x11 x12 A' n' c' x13 w hB hB').mono ?_
  rintro e w' ⟨rfl, hb⟩
  exact pure_of_below hb fun g' w' => .bool _
def s_bawake (N : Nat) : Option Bool := some true
theorem p_bawake (N : Nat) (r0 : Bool) (h : s_bawake N = some r0) : PureRet Try.prog T 7 [] [.v (.bool r0) .no] := by
  injection h with h
  subst h
  intro E g w us hsz hus
  obtain ⟨hl, hr⟩ := hus
  match us, hl with
  | [], _ =>
  refine (awake_any w).mono ?_
  rintro e w' ⟨rfl, hb⟩
  exact pure_of_below hb fun g' w' => .bool _
end Go.Proofs.Ytomdjcodgkoapaa.En
