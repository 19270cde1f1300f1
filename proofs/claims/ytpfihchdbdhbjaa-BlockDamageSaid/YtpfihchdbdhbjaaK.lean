/- smartcard/block: kindOf, codes, flag, infField, Check: the walks. -/
import Derived.Test.YtpfihchdbdhbjaaB
namespace Go.Proofs.Ytpfihchdbdhbjaa
open Go.RowKit

/-- The error of an information field. -/
def infE (kind code : Int) (inf : List UInt8) : Int :=
  if kind = 0 then (if 254 < inf.length then 3 else 0)
  else if kind = 1 ∨ code = 0 ∨ code = 2 then (if inf.length = 0 then 0 else 4)
  else if inf.length = 1 ∧ 1 ≤ (inf.getD 0 0).toNat ∧ (code = 1 → (inf.getD 0 0).toNat ≤ 254) then 0 else 4
/-- The error of a block. -/
def checkE (nad kind seq : Int) (more : Bool) (code : Int) (answer : Bool) (inf : List UInt8) : Int :=
  if kind < 0 ∨ 2 < kind then 1
  else if nad < 0 ∨ 254 < nad then 2
  else if kind ≠ 2 ∧ (seq < 0 ∨ 1 < seq) then 2
  else if kind ≠ 0 ∧ (code < 0 ∨ (if kind = 1 then 3 else 4) ≤ code) then 2
  else if (kind = 2 ∧ seq ≠ 0) ∨ (kind = 0 ∧ code ≠ 0) ∨ (kind ≠ 0 ∧ more = true) ∨ (kind ≠ 2 ∧ answer = true) then 4
  else infE kind code inf

theorem ta_II (w : World) : (Instr.typeAssert (.iface 44 (.agg #[])) 41 44 true).run Try.prog w = .ok (.tuple #[.agg #[], .bool true]) w := by kernel_rfl
theorem ta_IR (w : World) : (Instr.typeAssert (.iface 44 (.agg #[])) 41 63 true).run Try.prog w = .ok (.tuple #[.agg #[], .bool false]) w := by kernel_rfl
theorem ta_IS (w : World) : (Instr.typeAssert (.iface 44 (.agg #[])) 41 46 true).run Try.prog w = .ok (.tuple #[.agg #[], .bool false]) w := by kernel_rfl
theorem ta_RI (w : World) : (Instr.typeAssert (.iface 63 (.agg #[])) 41 44 true).run Try.prog w = .ok (.tuple #[.agg #[], .bool false]) w := by kernel_rfl
theorem ta_RR (w : World) : (Instr.typeAssert (.iface 63 (.agg #[])) 41 63 true).run Try.prog w = .ok (.tuple #[.agg #[], .bool true]) w := by kernel_rfl
theorem ta_RS (w : World) : (Instr.typeAssert (.iface 63 (.agg #[])) 41 46 true).run Try.prog w = .ok (.tuple #[.agg #[], .bool false]) w := by kernel_rfl
theorem ta_SI (w : World) : (Instr.typeAssert (.iface 46 (.agg #[])) 41 44 true).run Try.prog w = .ok (.tuple #[.agg #[], .bool false]) w := by kernel_rfl
theorem ta_SR (w : World) : (Instr.typeAssert (.iface 46 (.agg #[])) 41 63 true).run Try.prog w = .ok (.tuple #[.agg #[], .bool false]) w := by kernel_rfl
theorem ta_SS (w : World) : (Instr.typeAssert (.iface 46 (.agg #[])) 41 46 true).run Try.prog w = .ok (.tuple #[.agg #[], .bool true]) w := by kernel_rfl
theorem ta_NI (w : World) : (Instr.typeAssert (.nilIface) 41 44 true).run Try.prog w = .ok (.tuple #[.agg #[], .bool false]) w := by kernel_rfl
theorem ta_NR (w : World) : (Instr.typeAssert (.nilIface) 41 63 true).run Try.prog w = .ok (.tuple #[.agg #[], .bool false]) w := by kernel_rfl
theorem ta_NS (w : World) : (Instr.typeAssert (.nilIface) 41 46 true).run Try.prog w = .ok (.tuple #[.agg #[], .bool false]) w := by kernel_rfl
attribute [local go_sem] ta_II ta_IR ta_IS ta_RI ta_RR ta_RS ta_SI ta_SR ta_SS ta_NI ta_NR ta_NS

theorem codes_R (w : World) : Calls Try.prog 23 #[.iface 63 (.agg #[])] w fun e w' => e = .returned (.int .i64 3) ∧ w' = w := by
  go_enter Try.func23, Try.ntmps23
  go_wp2
  go_ret
  exact ⟨rfl, rfl⟩
theorem codes_S (w : World) : Calls Try.prog 23 #[.iface 46 (.agg #[])] w fun e w' => e = .returned (.int .i64 4) ∧ w' = w := by
  go_enter Try.func23, Try.ntmps23
  go_wp2
  go_ret
  exact ⟨rfl, rfl⟩
theorem codes_I (w : World) : Calls Try.prog 23 #[.iface 44 (.agg #[])] w fun e w' => e = .returned (.int .i64 0) ∧ w' = w := by
  go_enter Try.func23, Try.ntmps23
  go_wp2
  go_ret
  exact ⟨rfl, rfl⟩

set_option maxHeartbeats 400000 in
theorem inf_I (nad kind seq : Int) (more : Bool) (code : Int) (answer : Bool) (A : Option Addr) (n c : Nat) (inf : List UInt8) (w : World) (h : IsB w A n c inf) :
    Calls Try.prog 24 #[.iface 44 (.agg #[]), .agg #[.int .i64 nad, .int .i64 kind, .int .i64 seq, .bool more, .int .i64 code, .bool answer, .slice A n c]] w
      fun e w' => e = .returned (.int .i64 (infE 0 code inf)) ∧ Below w.heap.size w w' := by
  have hl := IsB.len h
  by_cases h1 : 254 < n
  · have HV : Hid (infE 0 code inf = 3) := by show _ = _; unfold infE; rw [if_pos rfl, if_pos (by omega)]
    clear hl
    go_enter Try.func24, Try.ntmps24
    go_wp2
    go_ret
    exact ⟨ret_i64 HV.out.symm, (Below.refl _ _).alloc (Nat.le_refl _) _⟩
  · have HV : Hid (infE 0 code inf = 0) := by show _ = _; unfold infE; rw [if_pos rfl, if_neg (by omega)]
    clear hl
    go_enter Try.func24, Try.ntmps24
    go_wp2
    go_ret
    exact ⟨ret_i64 HV.out.symm, (Below.refl _ _).alloc (Nat.le_refl _) _⟩

set_option maxHeartbeats 400000 in
theorem inf_R (nad kind seq : Int) (more : Bool) (code : Int) (answer : Bool) (A : Option Addr) (n c : Nat) (inf : List UInt8) (w : World) (h : IsB w A n c inf) :
    Calls Try.prog 24 #[.iface 63 (.agg #[]), .agg #[.int .i64 nad, .int .i64 kind, .int .i64 seq, .bool more, .int .i64 code, .bool answer, .slice A n c]] w
      fun e w' => e = .returned (.int .i64 (infE 1 code inf)) ∧ Below w.heap.size w w' := by
  have hl := IsB.len h
  by_cases h1 : n = 0
  · subst h1
    have HV : Hid (infE 1 code inf = 0) := by show _ = _; unfold infE; rw [if_neg (by omega), if_pos (by omega), if_pos (by omega)]
    clear hl
    go_enter Try.func24, Try.ntmps24
    go_wp2
    go_ret
    exact ⟨ret_i64 HV.out.symm, (Below.refl _ _).alloc (Nat.le_refl _) _⟩
  · have HV : Hid (infE 1 code inf = 4) := by show _ = _; unfold infE; rw [if_neg (by omega), if_pos (by omega), if_neg (by omega)]
    have h1' : ((n : Int) == 0) = false := by simp; omega
    clear hl
    go_enter Try.func24, Try.ntmps24
    go_wp2
    go_ret
    exact ⟨ret_i64 HV.out.symm, (Below.refl _ _).alloc (Nat.le_refl _) _⟩

theorem getD_of_get {xs : List UInt8} {k : Nat} {x : UInt8} (h : Hid (xs[k]? = some x)) : xs.getD k 0 = x := by
  rw [List.getD_eq_getElem?_getD, h.out]; rfl

set_option maxHeartbeats 1000000 in
theorem inf_S (nad kind seq : Int) (more : Bool) (code : Int) (answer : Bool) (A : Option Addr) (n c : Nat) (inf : List UInt8) (w : World) (h : IsB w A n c inf) (h0 : 0 ≤ code) (h3 : code ≤ 3) :
    Calls Try.prog 24 #[.iface 46 (.agg #[]), .agg #[.int .i64 nad, .int .i64 kind, .int .i64 seq, .bool more, .int .i64 code, .bool answer, .slice A n c]] w
      fun e w' => e = .returned (.int .i64 (infE 2 code inf)) ∧ Below w.heap.size w w' := by
  have hl := IsB.len h
  by_cases hc : code = 0 ∨ code = 2
  · have hc1 : (code == 1) = false := by simp; omega
    have hc3 : (code == 3) = false := by simp; omega
    by_cases h1 : n = 0
    · subst h1
      have HV : Hid (infE 2 code inf = 0) := by show _ = _; unfold infE; rw [if_neg (by omega), if_pos (by omega), if_pos (by omega)]
      clear hl hc h0 h3
      go_enter Try.func24, Try.ntmps24
      go_wp2
      go_ret
      exact ⟨ret_i64 HV.out.symm, (Below.refl _ _).alloc (Nat.le_refl _) _⟩
    · have HV : Hid (infE 2 code inf = 4) := by show _ = _; unfold infE; rw [if_neg (by omega), if_pos (by omega), if_neg (by omega)]
      have h1' : ((n : Int) == 0) = false := by simp; omega
      clear hl hc h0 h3 h1
      go_enter Try.func24, Try.ntmps24
      go_wp2
      go_ret
      exact ⟨ret_i64 HV.out.symm, (Below.refl _ _).alloc (Nat.le_refl _) _⟩
  · by_cases h1 : n = 1
    · subst h1
      obtain ⟨x, b, off, hx, rfl, hcx, hx8⟩ := IsB.at_ h (show 0 < 1 by omega)
      have hgx := getD_of_get hx
      obtain ⟨a, ha⟩ : ∃ a, a = x.toNat := ⟨_, rfl⟩
      rw [← ha] at hcx hx8
      have hV : infE 2 code inf = if 1 ≤ a ∧ (code = 1 → a ≤ 254) then 0 else 4 := by
        unfold infE
        rw [if_neg (by omega), if_neg (by omega), hgx, ← ha]
        by_cases hq : 1 ≤ a ∧ (code = 1 → a ≤ 254)
        · rw [if_pos hq, if_pos ⟨hl, hq.1, hq.2⟩]
        · rw [if_neg hq, if_neg (fun h => hq ⟨h.2.1, h.2.2⟩)]
      rw [Nat.add_zero] at hcx
      have hb := World.block_lt_of_cell? w _ hcx
      have hc2 : (w.alloc (.cells #[.int .i64 nad, .int .i64 kind, .int .i64 seq, .bool more, .int .i64 code, .bool answer, .slice (some ⟨b, off, none⟩) 1 c] 24)).cell? ⟨b, off, none⟩ = some (.int .u8 (a : Int)) := by
        rw [World.cell?_alloc_lt _ _ _ hb]; exact hcx
      clear hl hgx ha hx
      by_cases hc1 : code = 1
      · subst hc1
        by_cases hq : 1 ≤ a ∧ a ≤ 254
        · have HV := Lib.hid (hV.trans (if_pos ⟨hq.1, fun _ => hq.2⟩))
          have hi1 : (1 : Int) ≤ a := by omega
          have hi2 : (a : Int) ≤ 254 := by omega
          clear hV hq hc h0 h3
          go_enter Try.func24, Try.ntmps24
          go_wp2
          go_ret
          exact ⟨ret_i64 HV.out.symm, (Below.refl _ _).alloc (Nat.le_refl _) _⟩
        · have HV := Lib.hid (hV.trans (if_neg (by omega)))
          by_cases hi1 : (1 : Int) ≤ a
          · have hi2 : ¬ (a : Int) ≤ 254 := by omega
            clear hV hq hc h0 h3
            go_enter Try.func24, Try.ntmps24
            go_wp2
            go_ret
            exact ⟨ret_i64 HV.out.symm, (Below.refl _ _).alloc (Nat.le_refl _) _⟩
          · clear hV hq hc h0 h3
            go_enter Try.func24, Try.ntmps24
            go_wp2
            go_ret
            exact ⟨ret_i64 HV.out.symm, (Below.refl _ _).alloc (Nat.le_refl _) _⟩
      · obtain rfl : code = 3 := by omega
        by_cases hq : 1 ≤ a
        · have HV := Lib.hid (hV.trans (if_pos ⟨hq, fun h => absurd h (by omega)⟩))
          have hi1 : (1 : Int) ≤ a := by omega
          have hi2 : (a : Int) ≤ 255 := by omega
          clear hV hq hc h0 h3 hc1
          go_enter Try.func24, Try.ntmps24
          go_wp2
          go_ret
          exact ⟨ret_i64 HV.out.symm, (Below.refl _ _).alloc (Nat.le_refl _) _⟩
        · have HV := Lib.hid (hV.trans (if_neg (by omega)))
          have hi1 : ¬ (1 : Int) ≤ a := by omega
          clear hV hq hc h0 h3 hc1
          go_enter Try.func24, Try.ntmps24
          go_wp2
          go_ret
          exact ⟨ret_i64 HV.out.symm, (Below.refl _ _).alloc (Nat.le_refl _) _⟩
    · have HV : Hid (infE 2 code inf = 4) := by show _ = _; unfold infE; rw [if_neg (by omega), if_neg (by omega), if_neg (by omega)]
      have h1' : ((n : Int) == 1) = false := by simp; omega
      clear hl h1
      by_cases hc1 : code = 1
      · subst hc1
        clear hc h0 h3
        go_enter Try.func24, Try.ntmps24
        go_wp2
        go_ret
        exact ⟨ret_i64 HV.out.symm, (Below.refl _ _).alloc (Nat.le_refl _) _⟩
      · obtain rfl : code = 3 := by omega
        clear hc h0 h3 hc1
        go_enter Try.func24, Try.ntmps24
        go_wp2
        go_ret
        exact ⟨ret_i64 HV.out.symm, (Below.refl _ _).alloc (Nat.le_refl _) _⟩
end Go.Proofs.Ytpfihchdbdhbjaa
