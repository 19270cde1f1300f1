/- smartcardref06.inf, Check: the walks, path by path (printed by wip/gen/rcheck.py). -/
import Derived.Test.YtpfihchdbdhbjaaH
namespace Go.Proofs.Ytpfihchdbdhbjaa
open Go.RowKit
set_option linter.unusedVariables false

set_option maxHeartbeats 1000000 in
theorem rinf_I (nad seq : Int) (more : Bool) (code : Int) (answer : Bool) (A : Option Addr) (n c : Nat) (inf : List UInt8) (w : World) (h : IsB w A n c inf) :
    Calls Try.prog 25 #[.agg #[.int .i64 nad, .int .i64 0, .int .i64 seq, .bool more, .int .i64 code, .bool answer, .slice A n c]] w
      fun e w' => e = .returned (.int .i64 (infE 0 code inf)) ∧ Below w.heap.size w w' := by
  have hl := IsB.len h
  by_cases h1 : 254 < n
  · have HV : Hid (infE 0 code inf = 3) := by show _ = _; unfold infE; rw [if_pos rfl, if_pos (by omega)]
    clear hl
    go_enter Try.func25, Try.ntmps25
    go_wp2
    go_ret
    exact ⟨ret_i64 HV.out.symm, (Below.refl _ _).alloc (Nat.le_refl _) _⟩
  · have HV : Hid (infE 0 code inf = 0) := by show _ = _; unfold infE; rw [if_pos rfl, if_neg (by omega)]
    clear hl
    go_enter Try.func25, Try.ntmps25
    go_wp2
    go_ret
    exact ⟨ret_i64 HV.out.symm, (Below.refl _ _).alloc (Nat.le_refl _) _⟩

set_option maxHeartbeats 1000000 in
theorem rinf_R (nad seq : Int) (more : Bool) (code : Int) (answer : Bool) (A : Option Addr) (n c : Nat) (inf : List UInt8) (w : World) (h : IsB w A n c inf) :
    Calls Try.prog 25 #[.agg #[.int .i64 nad, .int .i64 1, .int .i64 seq, .bool more, .int .i64 code, .bool answer, .slice A n c]] w
      fun e w' => e = .returned (.int .i64 (infE 1 code inf)) ∧ Below w.heap.size w w' := by
  have hl := IsB.len h
  by_cases h1 : n = 0
  · subst h1
    have HV : Hid (infE 1 code inf = 0) := by show _ = _; unfold infE; rw [if_neg (by omega), if_pos (by omega), if_pos (by omega)]
    clear hl
    go_enter Try.func25, Try.ntmps25
    go_wp2
    go_ret
    exact ⟨ret_i64 HV.out.symm, (Below.refl _ _).alloc (Nat.le_refl _) _⟩
  · have HV : Hid (infE 1 code inf = 4) := by show _ = _; unfold infE; rw [if_neg (by omega), if_pos (by omega), if_neg (by omega)]
    have h1' : ((n : Int) != 0) = true := by simp; omega
    clear hl
    go_enter Try.func25, Try.ntmps25
    go_wp2
    go_ret
    exact ⟨ret_i64 HV.out.symm, (Below.refl _ _).alloc (Nat.le_refl _) _⟩

set_option maxHeartbeats 1000000 in
theorem rinf_S (nad seq : Int) (more : Bool) (code : Int) (answer : Bool) (A : Option Addr) (n c : Nat) (inf : List UInt8) (w : World) (h : IsB w A n c inf) (h0 : 0 ≤ code) (h3 : code ≤ 3) :
    Calls Try.prog 25 #[.agg #[.int .i64 nad, .int .i64 2, .int .i64 seq, .bool more, .int .i64 code, .bool answer, .slice A n c]] w
      fun e w' => e = .returned (.int .i64 (infE 2 code inf)) ∧ Below w.heap.size w w' := by
  have hl := IsB.len h
  have hc4 : code = 0 ∨ code = 2 ∨ code = 1 ∨ code = 3 := by omega
  clear h0 h3
  rcases hc4 with rfl | rfl | hc13
  · by_cases h1 : n = 0
    · subst h1
      have HV : Hid (infE 2 0 inf = 0) := by show _ = _; unfold infE; rw [if_neg (by omega), if_pos (by omega), if_pos (by omega)]
      clear hl
      go_enter Try.func25, Try.ntmps25
      go_wp2
      go_ret
      exact ⟨ret_i64 HV.out.symm, (Below.refl _ _).alloc (Nat.le_refl _) _⟩
    · have HV : Hid (infE 2 0 inf = 4) := by show _ = _; unfold infE; rw [if_neg (by omega), if_pos (by omega), if_neg (by omega)]
      have h1' : ((n : Int) != 0) = true := by simp; omega
      clear hl h1
      go_enter Try.func25, Try.ntmps25
      go_wp2
      go_ret
      exact ⟨ret_i64 HV.out.symm, (Below.refl _ _).alloc (Nat.le_refl _) _⟩
  · by_cases h1 : n = 0
    · subst h1
      have HV : Hid (infE 2 2 inf = 0) := by show _ = _; unfold infE; rw [if_neg (by omega), if_pos (by omega), if_pos (by omega)]
      clear hl
      go_enter Try.func25, Try.ntmps25
      go_wp2
      go_ret
      exact ⟨ret_i64 HV.out.symm, (Below.refl _ _).alloc (Nat.le_refl _) _⟩
    · have HV : Hid (infE 2 2 inf = 4) := by show _ = _; unfold infE; rw [if_neg (by omega), if_pos (by omega), if_neg (by omega)]
      have h1' : ((n : Int) != 0) = true := by simp; omega
      clear hl h1
      go_enter Try.func25, Try.ntmps25
      go_wp2
      go_ret
      exact ⟨ret_i64 HV.out.symm, (Below.refl _ _).alloc (Nat.le_refl _) _⟩
  by_cases h1 : n = 1
  rotate_left
  · have h1' : ((n : Int) != 1) = true := by simp; omega
    rcases hc13 with rfl | rfl
    · have HV : Hid (infE 2 1 inf = 4) := by show _ = _; unfold infE; rw [if_neg (by omega), if_neg (by omega), if_neg (by omega)]
      clear hl h1
      go_enter Try.func25, Try.ntmps25
      go_wp2
      go_ret
      exact ⟨ret_i64 HV.out.symm, (Below.refl _ _).alloc (Nat.le_refl _) _⟩
    · have HV : Hid (infE 2 3 inf = 4) := by show _ = _; unfold infE; rw [if_neg (by omega), if_neg (by omega), if_neg (by omega)]
      clear hl h1
      go_enter Try.func25, Try.ntmps25
      go_wp2
      go_ret
      exact ⟨ret_i64 HV.out.symm, (Below.refl _ _).alloc (Nat.le_refl _) _⟩
  subst h1
  obtain ⟨x, b, off, hx, rfl, hcx, hx8⟩ := IsB.at_ h (show 0 < 1 by omega)
  have hgx := getD_of_get hx
  obtain ⟨a, ha⟩ : ∃ a, a = x.toNat := ⟨_, rfl⟩
  rw [← ha] at hcx hx8
  have hV : infE 2 code inf = if 1 ≤ a ∧ (code = 1 → a ≤ 254) then 0 else 4 := by
    unfold infE
    rw [if_neg (by omega), if_neg (by omega), hgx, ← ha]
    by_cases hq : 1 ≤ a ∧ (code = 1 → a ≤ 254)
    · rw [if_pos hq, if_pos ⟨hl, hq.1, hq.2⟩]
    · rw [if_neg hq, if_neg (fun h => hq ⟨h.2.1, h.2.2⟩)]
  rw [Nat.add_zero] at hcx
  have hb := World.block_lt_of_cell? w _ hcx
  have hc2 : (w.alloc (.cells #[.int .i64 nad, .int .i64 2, .int .i64 seq, .bool more, .int .i64 code, .bool answer, .slice (some ⟨b, off, none⟩) 1 c] 24)).cell? ⟨b, off, none⟩ = some (.int .u8 (a : Int)) := by
    rw [World.cell?_alloc_lt _ _ _ hb]; exact hcx
  clear hl hgx ha hx
  by_cases ha0 : a = 0
  · have HV := Lib.hid (hV.trans (if_neg (by omega)))
    subst ha0
    clear hV
    rcases hc13 with rfl | rfl
    · go_enter Try.func25, Try.ntmps25
      go_wp2
      go_ret
      exact ⟨ret_i64 HV.out.symm, (Below.refl _ _).alloc (Nat.le_refl _) _⟩
    · go_enter Try.func25, Try.ntmps25
      go_wp2
      go_ret
      exact ⟨ret_i64 HV.out.symm, (Below.refl _ _).alloc (Nat.le_refl _) _⟩
  have hb0 : ((a : Int) == 0) = false := by simp; omega
  rcases hc13 with rfl | rfl
  · by_cases ha5 : a = 255
    · subst ha5
      have HV := Lib.hid (hV.trans (if_neg (by omega)))
      clear hV ha0
      go_enter Try.func25, Try.ntmps25
      go_wp2
      go_ret
      exact ⟨ret_i64 HV.out.symm, (Below.refl _ _).alloc (Nat.le_refl _) _⟩
    · have hb5 : ((a : Int) == 255) = false := by simp; omega
      have HV := Lib.hid (hV.trans (if_pos ⟨by omega, fun _ => by omega⟩))
      clear hV ha0 ha5
      go_enter Try.func25, Try.ntmps25
      go_wp2
      go_ret
      exact ⟨ret_i64 HV.out.symm, (Below.refl _ _).alloc (Nat.le_refl _) _⟩
  · have HV := Lib.hid (hV.trans (if_pos ⟨by omega, fun h => absurd h (by omega)⟩))
    clear hV ha0
    go_enter Try.func25, Try.ntmps25
    go_wp2
    go_ret
    exact ⟨ret_i64 HV.out.symm, (Below.refl _ _).alloc (Nat.le_refl _) _⟩

set_option maxHeartbeats 1000000 in
theorem rcheck_I_0 (nad seq : Int) (more : Bool) (code : Int) (answer : Bool) (A : Option Addr) (n c : Nat) (inf : List UInt8) (w : World) (h : IsB w A n c inf)
    (h_nadlo : nad < 0) :
    Calls Try.prog 11 #[.agg #[.int .i64 nad, .int .i64 0, .int .i64 seq, .bool more, .int .i64 code, .bool answer, .slice A n c]] w
      fun e w' => e = .returned (.int .i64 (checkE nad 0 seq more code answer inf)) ∧ Below w.heap.size w w' := by
  have HV : Hid (checkE nad 0 seq more code answer inf = 2) := by
    show _ = _
    unfold checkE
    simp_all <;> (try omega)
  go_enter Try.func11, Try.ntmps11
  go_wp2_with fail
  go_ret
  exact ⟨ret_i64 HV.out.symm, (Below.refl _ _).alloc (Nat.le_refl _) _⟩

set_option maxHeartbeats 1000000 in
theorem rcheck_I_1 (nad seq : Int) (more : Bool) (code : Int) (answer : Bool) (A : Option Addr) (n c : Nat) (inf : List UInt8) (w : World) (h : IsB w A n c inf)
    (h_nadlo : ¬ (nad < 0)) (h_nadhi : 254 < nad) :
    Calls Try.prog 11 #[.agg #[.int .i64 nad, .int .i64 0, .int .i64 seq, .bool more, .int .i64 code, .bool answer, .slice A n c]] w
      fun e w' => e = .returned (.int .i64 (checkE nad 0 seq more code answer inf)) ∧ Below w.heap.size w w' := by
  have HV : Hid (checkE nad 0 seq more code answer inf = 2) := by
    show _ = _
    unfold checkE
    simp_all <;> (try omega)
  go_enter Try.func11, Try.ntmps11
  go_wp2_with fail
  go_ret
  exact ⟨ret_i64 HV.out.symm, (Below.refl _ _).alloc (Nat.le_refl _) _⟩

set_option maxHeartbeats 1000000 in
theorem rcheck_I_2 (nad seq : Int) (more : Bool) (code : Int) (answer : Bool) (A : Option Addr) (n c : Nat) (inf : List UInt8) (w : World) (h : IsB w A n c inf)
    (h_nadlo : ¬ (nad < 0)) (h_nadhi : ¬ (254 < nad)) (h_seqlo : seq < 0) :
    Calls Try.prog 11 #[.agg #[.int .i64 nad, .int .i64 0, .int .i64 seq, .bool more, .int .i64 code, .bool answer, .slice A n c]] w
      fun e w' => e = .returned (.int .i64 (checkE nad 0 seq more code answer inf)) ∧ Below w.heap.size w w' := by
  have HV : Hid (checkE nad 0 seq more code answer inf = 2) := by
    show _ = _
    unfold checkE
    simp_all <;> (try omega)
  have b_seq0 : (seq != 0) = true := by simp; omega
  have b_seq1 : (seq != 1) = true := by simp; omega
  go_enter Try.func11, Try.ntmps11
  go_wp2_with fail
  go_ret
  exact ⟨ret_i64 HV.out.symm, (Below.refl _ _).alloc (Nat.le_refl _) _⟩

set_option maxHeartbeats 1000000 in
theorem rcheck_I_3 (nad seq : Int) (more : Bool) (code : Int) (answer : Bool) (A : Option Addr) (n c : Nat) (inf : List UInt8) (w : World) (h : IsB w A n c inf)
    (h_nadlo : ¬ (nad < 0)) (h_nadhi : ¬ (254 < nad)) (h_seqlo : ¬ (seq < 0)) (h_seqhi : 1 < seq) :
    Calls Try.prog 11 #[.agg #[.int .i64 nad, .int .i64 0, .int .i64 seq, .bool more, .int .i64 code, .bool answer, .slice A n c]] w
      fun e w' => e = .returned (.int .i64 (checkE nad 0 seq more code answer inf)) ∧ Below w.heap.size w w' := by
  have HV : Hid (checkE nad 0 seq more code answer inf = 2) := by
    show _ = _
    unfold checkE
    simp_all <;> (try omega)
  have b_seq0 : (seq != 0) = true := by simp; omega
  have b_seq1 : (seq != 1) = true := by simp; omega
  go_enter Try.func11, Try.ntmps11
  go_wp2_with fail
  go_ret
  exact ⟨ret_i64 HV.out.symm, (Below.refl _ _).alloc (Nat.le_refl _) _⟩

set_option maxHeartbeats 1000000 in
theorem rcheck_I_4 (nad seq : Int) (more : Bool) (code : Int) (answer : Bool) (A : Option Addr) (n c : Nat) (inf : List UInt8) (w : World) (h : IsB w A n c inf)
    (h_nadlo : ¬ (nad < 0)) (h_nadhi : ¬ (254 < nad)) (h_seqlo : ¬ (seq < 0)) (h_seqhi : ¬ (1 < seq)) (h_code0 : ¬ (code = 0)) :
    Calls Try.prog 11 #[.agg #[.int .i64 nad, .int .i64 0, .int .i64 seq, .bool more, .int .i64 code, .bool answer, .slice A n c]] w
      fun e w' => e = .returned (.int .i64 (checkE nad 0 seq more code answer inf)) ∧ Below w.heap.size w w' := by
  have HV : Hid (checkE nad 0 seq more code answer inf = 4) := by
    show _ = _
    unfold checkE
    simp_all <;> (try omega)
  have b_code0 : (code != 0) = true := by simp; omega
  have h01 : seq = 0 ∨ seq = 1 := by omega
  clear h_seqlo h_seqhi
  rcases h01 with rfl | rfl
  all_goals
    go_enter Try.func11, Try.ntmps11
    go_wp2_with fail
    go_ret
    exact ⟨ret_i64 HV.out.symm, (Below.refl _ _).alloc (Nat.le_refl _) _⟩

set_option maxHeartbeats 1000000 in
theorem rcheck_I_5 (nad seq : Int) (more : Bool) (code : Int) (answer : Bool) (A : Option Addr) (n c : Nat) (inf : List UInt8) (w : World) (h : IsB w A n c inf)
    (h_nadlo : ¬ (nad < 0)) (h_nadhi : ¬ (254 < nad)) (h_seqlo : ¬ (seq < 0)) (h_seqhi : ¬ (1 < seq)) (h_code0 : code = 0) (h_answer : answer = true) :
    Calls Try.prog 11 #[.agg #[.int .i64 nad, .int .i64 0, .int .i64 seq, .bool more, .int .i64 code, .bool answer, .slice A n c]] w
      fun e w' => e = .returned (.int .i64 (checkE nad 0 seq more code answer inf)) ∧ Below w.heap.size w w' := by
  have HV : Hid (checkE nad 0 seq more code answer inf = 4) := by
    show _ = _
    unfold checkE
    simp_all <;> (try omega)
  subst h_code0
  subst h_answer
  have h01 : seq = 0 ∨ seq = 1 := by omega
  clear h_seqlo h_seqhi
  rcases h01 with rfl | rfl
  all_goals
    go_enter Try.func11, Try.ntmps11
    go_wp2_with fail
    go_ret
    exact ⟨ret_i64 HV.out.symm, (Below.refl _ _).alloc (Nat.le_refl _) _⟩

set_option maxHeartbeats 1000000 in
theorem rcheck_I_6 (nad seq : Int) (more : Bool) (code : Int) (answer : Bool) (A : Option Addr) (n c : Nat) (inf : List UInt8) (w : World) (h : IsB w A n c inf)
    (h_nadlo : ¬ (nad < 0)) (h_nadhi : ¬ (254 < nad)) (h_seqlo : ¬ (seq < 0)) (h_seqhi : ¬ (1 < seq)) (h_code0 : code = 0) (h_answer : ¬ (answer = true)) :
    Calls Try.prog 11 #[.agg #[.int .i64 nad, .int .i64 0, .int .i64 seq, .bool more, .int .i64 code, .bool answer, .slice A n c]] w
      fun e w' => e = .returned (.int .i64 (checkE nad 0 seq more code answer inf)) ∧ Below w.heap.size w w' := by
  have HV : Hid (checkE nad 0 seq more code answer inf = infE 0 code inf) := by
    show _ = _
    unfold checkE
    simp_all <;> (try omega)
  subst h_code0
  obtain rfl : answer = false := by simpa using h_answer
  have h01 : seq = 0 ∨ seq = 1 := by omega
  clear h_seqlo h_seqhi
  rcases h01 with rfl | rfl
  all_goals
    go_enter Try.func11, Try.ntmps11
    go_wp2_with fail
    refine (rinf_I _ _ _ _ _ _ _ _ inf _ (h.alloc _)).mono ?_
    rintro e w1 ⟨rfl, hb⟩
    go_wp2_with fail
    go_ret
    exact ⟨ret_i64 HV.out.symm, ((Below.refl _ _).alloc (Nat.le_refl _) _).trans (hb.mono (by simp))⟩

set_option maxHeartbeats 1000000 in
theorem rcheck_R_0 (nad seq : Int) (more : Bool) (code : Int) (answer : Bool) (A : Option Addr) (n c : Nat) (inf : List UInt8) (w : World) (h : IsB w A n c inf)
    (h_nadlo : nad < 0) :
    Calls Try.prog 11 #[.agg #[.int .i64 nad, .int .i64 1, .int .i64 seq, .bool more, .int .i64 code, .bool answer, .slice A n c]] w
      fun e w' => e = .returned (.int .i64 (checkE nad 1 seq more code answer inf)) ∧ Below w.heap.size w w' := by
  have HV : Hid (checkE nad 1 seq more code answer inf = 2) := by
    show _ = _
    unfold checkE
    simp_all <;> (try omega)
  go_enter Try.func11, Try.ntmps11
  go_wp2_with fail
  go_ret
  exact ⟨ret_i64 HV.out.symm, (Below.refl _ _).alloc (Nat.le_refl _) _⟩

set_option maxHeartbeats 1000000 in
theorem rcheck_R_1 (nad seq : Int) (more : Bool) (code : Int) (answer : Bool) (A : Option Addr) (n c : Nat) (inf : List UInt8) (w : World) (h : IsB w A n c inf)
    (h_nadlo : ¬ (nad < 0)) (h_nadhi : 254 < nad) :
    Calls Try.prog 11 #[.agg #[.int .i64 nad, .int .i64 1, .int .i64 seq, .bool more, .int .i64 code, .bool answer, .slice A n c]] w
      fun e w' => e = .returned (.int .i64 (checkE nad 1 seq more code answer inf)) ∧ Below w.heap.size w w' := by
  have HV : Hid (checkE nad 1 seq more code answer inf = 2) := by
    show _ = _
    unfold checkE
    simp_all <;> (try omega)
  go_enter Try.func11, Try.ntmps11
  go_wp2_with fail
  go_ret
  exact ⟨ret_i64 HV.out.symm, (Below.refl _ _).alloc (Nat.le_refl _) _⟩

set_option maxHeartbeats 1000000 in
theorem rcheck_R_2 (nad seq : Int) (more : Bool) (code : Int) (answer : Bool) (A : Option Addr) (n c : Nat) (inf : List UInt8) (w : World) (h : IsB w A n c inf)
    (h_nadlo : ¬ (nad < 0)) (h_nadhi : ¬ (254 < nad)) (h_seqlo : seq < 0) :
    Calls Try.prog 11 #[.agg #[.int .i64 nad, .int .i64 1, .int .i64 seq, .bool more, .int .i64 code, .bool answer, .slice A n c]] w
      fun e w' => e = .returned (.int .i64 (checkE nad 1 seq more code answer inf)) ∧ Below w.heap.size w w' := by
  have HV : Hid (checkE nad 1 seq more code answer inf = 2) := by
    show _ = _
    unfold checkE
    simp_all <;> (try omega)
  have b_seq0 : (seq != 0) = true := by simp; omega
  have b_seq1 : (seq != 1) = true := by simp; omega
  go_enter Try.func11, Try.ntmps11
  go_wp2_with fail
  go_ret
  exact ⟨ret_i64 HV.out.symm, (Below.refl _ _).alloc (Nat.le_refl _) _⟩

set_option maxHeartbeats 1000000 in
theorem rcheck_R_3 (nad seq : Int) (more : Bool) (code : Int) (answer : Bool) (A : Option Addr) (n c : Nat) (inf : List UInt8) (w : World) (h : IsB w A n c inf)
    (h_nadlo : ¬ (nad < 0)) (h_nadhi : ¬ (254 < nad)) (h_seqlo : ¬ (seq < 0)) (h_seqhi : 1 < seq) :
    Calls Try.prog 11 #[.agg #[.int .i64 nad, .int .i64 1, .int .i64 seq, .bool more, .int .i64 code, .bool answer, .slice A n c]] w
      fun e w' => e = .returned (.int .i64 (checkE nad 1 seq more code answer inf)) ∧ Below w.heap.size w w' := by
  have HV : Hid (checkE nad 1 seq more code answer inf = 2) := by
    show _ = _
    unfold checkE
    simp_all <;> (try omega)
  have b_seq0 : (seq != 0) = true := by simp; omega
  have b_seq1 : (seq != 1) = true := by simp; omega
  go_enter Try.func11, Try.ntmps11
  go_wp2_with fail
  go_ret
  exact ⟨ret_i64 HV.out.symm, (Below.refl _ _).alloc (Nat.le_refl _) _⟩

set_option maxHeartbeats 1000000 in
theorem rcheck_R_4 (nad seq : Int) (more : Bool) (code : Int) (answer : Bool) (A : Option Addr) (n c : Nat) (inf : List UInt8) (w : World) (h : IsB w A n c inf)
    (h_nadlo : ¬ (nad < 0)) (h_nadhi : ¬ (254 < nad)) (h_seqlo : ¬ (seq < 0)) (h_seqhi : ¬ (1 < seq)) (h_codelo : code < 0) :
    Calls Try.prog 11 #[.agg #[.int .i64 nad, .int .i64 1, .int .i64 seq, .bool more, .int .i64 code, .bool answer, .slice A n c]] w
      fun e w' => e = .returned (.int .i64 (checkE nad 1 seq more code answer inf)) ∧ Below w.heap.size w w' := by
  have HV : Hid (checkE nad 1 seq more code answer inf = 2) := by
    show _ = _
    unfold checkE
    simp_all <;> (try omega)
  have h01 : seq = 0 ∨ seq = 1 := by omega
  clear h_seqlo h_seqhi
  rcases h01 with rfl | rfl
  all_goals
    go_enter Try.func11, Try.ntmps11
    go_wp2_with fail
    go_ret
    exact ⟨ret_i64 HV.out.symm, (Below.refl _ _).alloc (Nat.le_refl _) _⟩

set_option maxHeartbeats 1000000 in
theorem rcheck_R_5 (nad seq : Int) (more : Bool) (code : Int) (answer : Bool) (A : Option Addr) (n c : Nat) (inf : List UInt8) (w : World) (h : IsB w A n c inf)
    (h_nadlo : ¬ (nad < 0)) (h_nadhi : ¬ (254 < nad)) (h_seqlo : ¬ (seq < 0)) (h_seqhi : ¬ (1 < seq)) (h_codelo : ¬ (code < 0)) (h_codehi : 3 ≤ code) :
    Calls Try.prog 11 #[.agg #[.int .i64 nad, .int .i64 1, .int .i64 seq, .bool more, .int .i64 code, .bool answer, .slice A n c]] w
      fun e w' => e = .returned (.int .i64 (checkE nad 1 seq more code answer inf)) ∧ Below w.heap.size w w' := by
  have HV : Hid (checkE nad 1 seq more code answer inf = 2) := by
    show _ = _
    unfold checkE
    simp_all <;> (try omega)
  have h01 : seq = 0 ∨ seq = 1 := by omega
  clear h_seqlo h_seqhi
  rcases h01 with rfl | rfl
  all_goals
    go_enter Try.func11, Try.ntmps11
    go_wp2_with fail
    go_ret
    exact ⟨ret_i64 HV.out.symm, (Below.refl _ _).alloc (Nat.le_refl _) _⟩

set_option maxHeartbeats 1000000 in
theorem rcheck_R_6 (nad seq : Int) (more : Bool) (code : Int) (answer : Bool) (A : Option Addr) (n c : Nat) (inf : List UInt8) (w : World) (h : IsB w A n c inf)
    (h_nadlo : ¬ (nad < 0)) (h_nadhi : ¬ (254 < nad)) (h_seqlo : ¬ (seq < 0)) (h_seqhi : ¬ (1 < seq)) (h_codelo : ¬ (code < 0)) (h_codehi : ¬ (3 ≤ code)) (h_more : more = true) :
    Calls Try.prog 11 #[.agg #[.int .i64 nad, .int .i64 1, .int .i64 seq, .bool more, .int .i64 code, .bool answer, .slice A n c]] w
      fun e w' => e = .returned (.int .i64 (checkE nad 1 seq more code answer inf)) ∧ Below w.heap.size w w' := by
  have HV : Hid (checkE nad 1 seq more code answer inf = 4) := by
    show _ = _
    unfold checkE
    simp_all <;> (try omega)
  subst h_more
  have h01 : seq = 0 ∨ seq = 1 := by omega
  clear h_seqlo h_seqhi
  rcases h01 with rfl | rfl
  all_goals
    go_enter Try.func11, Try.ntmps11
    go_wp2_with fail
    go_ret
    exact ⟨ret_i64 HV.out.symm, (Below.refl _ _).alloc (Nat.le_refl _) _⟩

set_option maxHeartbeats 1000000 in
theorem rcheck_R_7 (nad seq : Int) (more : Bool) (code : Int) (answer : Bool) (A : Option Addr) (n c : Nat) (inf : List UInt8) (w : World) (h : IsB w A n c inf)
    (h_nadlo : ¬ (nad < 0)) (h_nadhi : ¬ (254 < nad)) (h_seqlo : ¬ (seq < 0)) (h_seqhi : ¬ (1 < seq)) (h_codelo : ¬ (code < 0)) (h_codehi : ¬ (3 ≤ code)) (h_more : ¬ (more = true)) (h_answer : answer = true) :
    Calls Try.prog 11 #[.agg #[.int .i64 nad, .int .i64 1, .int .i64 seq, .bool more, .int .i64 code, .bool answer, .slice A n c]] w
      fun e w' => e = .returned (.int .i64 (checkE nad 1 seq more code answer inf)) ∧ Below w.heap.size w w' := by
  have HV : Hid (checkE nad 1 seq more code answer inf = 4) := by
    show _ = _
    unfold checkE
    simp_all <;> (try omega)
  obtain rfl : more = false := by simpa using h_more
  subst h_answer
  have h01 : seq = 0 ∨ seq = 1 := by omega
  clear h_seqlo h_seqhi
  rcases h01 with rfl | rfl
  all_goals
    go_enter Try.func11, Try.ntmps11
    go_wp2_with fail
    go_ret
    exact ⟨ret_i64 HV.out.symm, (Below.refl _ _).alloc (Nat.le_refl _) _⟩

set_option maxHeartbeats 1000000 in
theorem rcheck_R_8 (nad seq : Int) (more : Bool) (code : Int) (answer : Bool) (A : Option Addr) (n c : Nat) (inf : List UInt8) (w : World) (h : IsB w A n c inf)
    (h_nadlo : ¬ (nad < 0)) (h_nadhi : ¬ (254 < nad)) (h_seqlo : ¬ (seq < 0)) (h_seqhi : ¬ (1 < seq)) (h_codelo : ¬ (code < 0)) (h_codehi : ¬ (3 ≤ code)) (h_more : ¬ (more = true)) (h_answer : ¬ (answer = true)) :
    Calls Try.prog 11 #[.agg #[.int .i64 nad, .int .i64 1, .int .i64 seq, .bool more, .int .i64 code, .bool answer, .slice A n c]] w
      fun e w' => e = .returned (.int .i64 (checkE nad 1 seq more code answer inf)) ∧ Below w.heap.size w w' := by
  have HV : Hid (checkE nad 1 seq more code answer inf = infE 1 code inf) := by
    show _ = _
    unfold checkE
    simp_all <;> (try omega)
  obtain rfl : more = false := by simpa using h_more
  obtain rfl : answer = false := by simpa using h_answer
  have h01 : seq = 0 ∨ seq = 1 := by omega
  clear h_seqlo h_seqhi
  rcases h01 with rfl | rfl
  all_goals
    go_enter Try.func11, Try.ntmps11
    go_wp2_with fail
    refine (rinf_R _ _ _ _ _ _ _ _ inf _ (h.alloc _)).mono ?_
    rintro e w1 ⟨rfl, hb⟩
    go_wp2_with fail
    go_ret
    exact ⟨ret_i64 HV.out.symm, ((Below.refl _ _).alloc (Nat.le_refl _) _).trans (hb.mono (by simp))⟩

set_option maxHeartbeats 1000000 in
theorem rcheck_S_0 (nad seq : Int) (more : Bool) (code : Int) (answer : Bool) (A : Option Addr) (n c : Nat) (inf : List UInt8) (w : World) (h : IsB w A n c inf)
    (h_nadlo : nad < 0) :
    Calls Try.prog 11 #[.agg #[.int .i64 nad, .int .i64 2, .int .i64 seq, .bool more, .int .i64 code, .bool answer, .slice A n c]] w
      fun e w' => e = .returned (.int .i64 (checkE nad 2 seq more code answer inf)) ∧ Below w.heap.size w w' := by
  have HV : Hid (checkE nad 2 seq more code answer inf = 2) := by
    show _ = _
    unfold checkE
    simp_all <;> (try omega)
  go_enter Try.func11, Try.ntmps11
  go_wp2_with fail
  go_ret
  exact ⟨ret_i64 HV.out.symm, (Below.refl _ _).alloc (Nat.le_refl _) _⟩

set_option maxHeartbeats 1000000 in
theorem rcheck_S_1 (nad seq : Int) (more : Bool) (code : Int) (answer : Bool) (A : Option Addr) (n c : Nat) (inf : List UInt8) (w : World) (h : IsB w A n c inf)
    (h_nadlo : ¬ (nad < 0)) (h_nadhi : 254 < nad) :
    Calls Try.prog 11 #[.agg #[.int .i64 nad, .int .i64 2, .int .i64 seq, .bool more, .int .i64 code, .bool answer, .slice A n c]] w
      fun e w' => e = .returned (.int .i64 (checkE nad 2 seq more code answer inf)) ∧ Below w.heap.size w w' := by
  have HV : Hid (checkE nad 2 seq more code answer inf = 2) := by
    show _ = _
    unfold checkE
    simp_all <;> (try omega)
  go_enter Try.func11, Try.ntmps11
  go_wp2_with fail
  go_ret
  exact ⟨ret_i64 HV.out.symm, (Below.refl _ _).alloc (Nat.le_refl _) _⟩

set_option maxHeartbeats 1000000 in
theorem rcheck_S_2 (nad seq : Int) (more : Bool) (code : Int) (answer : Bool) (A : Option Addr) (n c : Nat) (inf : List UInt8) (w : World) (h : IsB w A n c inf)
    (h_nadlo : ¬ (nad < 0)) (h_nadhi : ¬ (254 < nad)) (h_codelo : code < 0) :
    Calls Try.prog 11 #[.agg #[.int .i64 nad, .int .i64 2, .int .i64 seq, .bool more, .int .i64 code, .bool answer, .slice A n c]] w
      fun e w' => e = .returned (.int .i64 (checkE nad 2 seq more code answer inf)) ∧ Below w.heap.size w w' := by
  have HV : Hid (checkE nad 2 seq more code answer inf = 2) := by
    show _ = _
    unfold checkE
    simp_all <;> (try omega)
  go_enter Try.func11, Try.ntmps11
  go_wp2_with fail
  go_ret
  exact ⟨ret_i64 HV.out.symm, (Below.refl _ _).alloc (Nat.le_refl _) _⟩

set_option maxHeartbeats 1000000 in
theorem rcheck_S_3 (nad seq : Int) (more : Bool) (code : Int) (answer : Bool) (A : Option Addr) (n c : Nat) (inf : List UInt8) (w : World) (h : IsB w A n c inf)
    (h_nadlo : ¬ (nad < 0)) (h_nadhi : ¬ (254 < nad)) (h_codelo : ¬ (code < 0)) (h_codehi : 4 ≤ code) :
    Calls Try.prog 11 #[.agg #[.int .i64 nad, .int .i64 2, .int .i64 seq, .bool more, .int .i64 code, .bool answer, .slice A n c]] w
      fun e w' => e = .returned (.int .i64 (checkE nad 2 seq more code answer inf)) ∧ Below w.heap.size w w' := by
  have HV : Hid (checkE nad 2 seq more code answer inf = 2) := by
    show _ = _
    unfold checkE
    simp_all <;> (try omega)
  go_enter Try.func11, Try.ntmps11
  go_wp2_with fail
  go_ret
  exact ⟨ret_i64 HV.out.symm, (Below.refl _ _).alloc (Nat.le_refl _) _⟩

set_option maxHeartbeats 1000000 in
theorem rcheck_S_4 (nad seq : Int) (more : Bool) (code : Int) (answer : Bool) (A : Option Addr) (n c : Nat) (inf : List UInt8) (w : World) (h : IsB w A n c inf)
    (h_nadlo : ¬ (nad < 0)) (h_nadhi : ¬ (254 < nad)) (h_codelo : ¬ (code < 0)) (h_codehi : ¬ (4 ≤ code)) (h_seq0 : ¬ (seq = 0)) :
    Calls Try.prog 11 #[.agg #[.int .i64 nad, .int .i64 2, .int .i64 seq, .bool more, .int .i64 code, .bool answer, .slice A n c]] w
      fun e w' => e = .returned (.int .i64 (checkE nad 2 seq more code answer inf)) ∧ Below w.heap.size w w' := by
  have HV : Hid (checkE nad 2 seq more code answer inf = 4) := by
    show _ = _
    unfold checkE
    simp_all <;> (try omega)
  have b_seq0 : (seq != 0) = true := by simp; omega
  go_enter Try.func11, Try.ntmps11
  go_wp2_with fail
  go_ret
  exact ⟨ret_i64 HV.out.symm, (Below.refl _ _).alloc (Nat.le_refl _) _⟩

set_option maxHeartbeats 1000000 in
theorem rcheck_S_5 (nad seq : Int) (more : Bool) (code : Int) (answer : Bool) (A : Option Addr) (n c : Nat) (inf : List UInt8) (w : World) (h : IsB w A n c inf)
    (h_nadlo : ¬ (nad < 0)) (h_nadhi : ¬ (254 < nad)) (h_codelo : ¬ (code < 0)) (h_codehi : ¬ (4 ≤ code)) (h_seq0 : seq = 0) (h_more : more = true) :
    Calls Try.prog 11 #[.agg #[.int .i64 nad, .int .i64 2, .int .i64 seq, .bool more, .int .i64 code, .bool answer, .slice A n c]] w
      fun e w' => e = .returned (.int .i64 (checkE nad 2 seq more code answer inf)) ∧ Below w.heap.size w w' := by
  have HV : Hid (checkE nad 2 seq more code answer inf = 4) := by
    show _ = _
    unfold checkE
    simp_all <;> (try omega)
  subst h_seq0
  subst h_more
  go_enter Try.func11, Try.ntmps11
  go_wp2_with fail
  go_ret
  exact ⟨ret_i64 HV.out.symm, (Below.refl _ _).alloc (Nat.le_refl _) _⟩

set_option maxHeartbeats 1000000 in
theorem rcheck_S_6 (nad seq : Int) (more : Bool) (code : Int) (answer : Bool) (A : Option Addr) (n c : Nat) (inf : List UInt8) (w : World) (h : IsB w A n c inf)
    (h_nadlo : ¬ (nad < 0)) (h_nadhi : ¬ (254 < nad)) (h_codelo : ¬ (code < 0)) (h_codehi : ¬ (4 ≤ code)) (h_seq0 : seq = 0) (h_more : ¬ (more = true)) :
    Calls Try.prog 11 #[.agg #[.int .i64 nad, .int .i64 2, .int .i64 seq, .bool more, .int .i64 code, .bool answer, .slice A n c]] w
      fun e w' => e = .returned (.int .i64 (checkE nad 2 seq more code answer inf)) ∧ Below w.heap.size w w' := by
  have HV : Hid (checkE nad 2 seq more code answer inf = infE 2 code inf) := by
    show _ = _
    unfold checkE
    simp_all <;> (try omega)
  have hlo : 0 ≤ code := by omega
  have hhi : code ≤ 3 := by omega
  subst h_seq0
  obtain rfl : more = false := by simpa using h_more
  go_enter Try.func11, Try.ntmps11
  go_wp2_with fail
  refine (rinf_S _ _ _ _ _ _ _ _ inf _ (h.alloc _) hlo hhi).mono ?_
  rintro e w1 ⟨rfl, hb⟩
  go_wp2_with fail
  go_ret
  exact ⟨ret_i64 HV.out.symm, ((Below.refl _ _).alloc (Nat.le_refl _) _).trans (hb.mono (by simp))⟩

set_option maxHeartbeats 1000000 in
theorem rcheck_N (nad seq kind : Int) (more : Bool) (code : Int) (answer : Bool) (A : Option Addr) (n c : Nat) (inf : List UInt8) (w : World) (hk : kind < 0 ∨ 2 < kind) :
    Calls Try.prog 11 #[.agg #[.int .i64 nad, .int .i64 kind, .int .i64 seq, .bool more, .int .i64 code, .bool answer, .slice A n c]] w
      fun e w' => e = .returned (.int .i64 (checkE nad kind seq more code answer inf)) ∧ Below w.heap.size w w' := by
  have HV : Hid (checkE nad kind seq more code answer inf = 1) := by show _ = _; unfold checkE; rw [if_pos hk]
  rcases hk with hk | hk
  · go_enter Try.func11, Try.ntmps11
    go_wp2_with fail
    go_ret
    exact ⟨ret_i64 HV.out.symm, (Below.refl _ _).alloc (Nat.le_refl _) _⟩
  · have hk' : ¬ kind < 0 := by omega
    go_enter Try.func11, Try.ntmps11
    go_wp2_with fail
    go_ret
    exact ⟨ret_i64 HV.out.symm, (Below.refl _ _).alloc (Nat.le_refl _) _⟩

/-- smartcardref06.Check, whatever the block. -/
theorem rcheck_any (nad kind seq : Int) (more : Bool) (code : Int) (answer : Bool) (A : Option Addr) (n c : Nat) (inf : List UInt8) (w : World) (h : IsB w A n c inf) :
    Calls Try.prog 11 #[.agg #[.int .i64 nad, .int .i64 kind, .int .i64 seq, .bool more, .int .i64 code, .bool answer, .slice A n c]] w
      fun e w' => e = .returned (.int .i64 (checkE nad kind seq more code answer inf)) ∧ Below w.heap.size w w' := by
  by_cases hk : kind < 0 ∨ 2 < kind
  · exact rcheck_N nad seq kind more code answer A n c inf w hk
  have h012 : kind = 0 ∨ kind = 1 ∨ kind = 2 := by omega
  clear hk
  rcases h012 with rfl | rfl | rfl
  · by_cases h_nadlo : nad < 0
    · exact rcheck_I_0 nad seq more code answer A n c inf w h h_nadlo
    by_cases h_nadhi : 254 < nad
    · exact rcheck_I_1 nad seq more code answer A n c inf w h h_nadlo h_nadhi
    by_cases h_seqlo : seq < 0
    · exact rcheck_I_2 nad seq more code answer A n c inf w h h_nadlo h_nadhi h_seqlo
    by_cases h_seqhi : 1 < seq
    · exact rcheck_I_3 nad seq more code answer A n c inf w h h_nadlo h_nadhi h_seqlo h_seqhi
    by_cases h_code0 : code = 0
    rotate_left
    · exact rcheck_I_4 nad seq more code answer A n c inf w h h_nadlo h_nadhi h_seqlo h_seqhi h_code0
    by_cases h_answer : answer = true
    · exact rcheck_I_5 nad seq more code answer A n c inf w h h_nadlo h_nadhi h_seqlo h_seqhi h_code0 h_answer
    exact rcheck_I_6 nad seq more code answer A n c inf w h h_nadlo h_nadhi h_seqlo h_seqhi h_code0 h_answer
  · by_cases h_nadlo : nad < 0
    · exact rcheck_R_0 nad seq more code answer A n c inf w h h_nadlo
    by_cases h_nadhi : 254 < nad
    · exact rcheck_R_1 nad seq more code answer A n c inf w h h_nadlo h_nadhi
    by_cases h_seqlo : seq < 0
    · exact rcheck_R_2 nad seq more code answer A n c inf w h h_nadlo h_nadhi h_seqlo
    by_cases h_seqhi : 1 < seq
    · exact rcheck_R_3 nad seq more code answer A n c inf w h h_nadlo h_nadhi h_seqlo h_seqhi
    by_cases h_codelo : code < 0
    · exact rcheck_R_4 nad seq more code answer A n c inf w h h_nadlo h_nadhi h_seqlo h_seqhi h_codelo
    by_cases h_codehi : 3 ≤ code
    · exact rcheck_R_5 nad seq more code answer A n c inf w h h_nadlo h_nadhi h_seqlo h_seqhi h_codelo h_codehi
    by_cases h_more : more = true
    · exact rcheck_R_6 nad seq more code answer A n c inf w h h_nadlo h_nadhi h_seqlo h_seqhi h_codelo h_codehi h_more
    by_cases h_answer : answer = true
    · exact rcheck_R_7 nad seq more code answer A n c inf w h h_nadlo h_nadhi h_seqlo h_seqhi h_codelo h_codehi h_more h_answer
    exact rcheck_R_8 nad seq more code answer A n c inf w h h_nadlo h_nadhi h_seqlo h_seqhi h_codelo h_codehi h_more h_answer
  · by_cases h_nadlo : nad < 0
    · exact rcheck_S_0 nad seq more code answer A n c inf w h h_nadlo
    by_cases h_nadhi : 254 < nad
    · exact rcheck_S_1 nad seq more code answer A n c inf w h h_nadlo h_nadhi
    by_cases h_codelo : code < 0
    · exact rcheck_S_2 nad seq more code answer A n c inf w h h_nadlo h_nadhi h_codelo
    by_cases h_codehi : 4 ≤ code
    · exact rcheck_S_3 nad seq more code answer A n c inf w h h_nadlo h_nadhi h_codelo h_codehi
    by_cases h_seq0 : seq = 0
    rotate_left
    · exact rcheck_S_4 nad seq more code answer A n c inf w h h_nadlo h_nadhi h_codelo h_codehi h_seq0
    by_cases h_more : more = true
    · exact rcheck_S_5 nad seq more code answer A n c inf w h h_nadlo h_nadhi h_codelo h_codehi h_seq0 h_more
    exact rcheck_S_6 nad seq more code answer A n c inf w h h_nadlo h_nadhi h_codelo h_codehi h_seq0 h_more
end Go.Proofs.Ytpfihchdbdhbjaa
